/-
  Part 8 of the proof: what the machine does and what the functions answer.
  Conditions: those that each lemma names.
-/
import Derived.Test.YtkkdjpnkhhlnpaaGreatSGzA2G
set_option linter.unusedSimpArgs false
set_option linter.unusedVariables false
set_option maxRecDepth 100000
namespace Gv
open Go Go.Proofs
def kE:DF:=⟨.seq (af [((some 2),.op (.alloc [(.emp 1),(.emp 1),(.emp 1),(.val (.int .i64 0))])),((some 3),.op (.aV (.val (.val (.complex .f64 0 0))))),ax 4 0]) <|
  .seq (af [aa 9 0,aB 10 98 [9],aa 8 10,bA 11 0 8,bA 12 1 8,bA 13 2 8,((some 5),.op (.alloc [(.emp 1),(.emp 1)])),(none,.op (.store 2 (.tmp 5) (.tmp 11))),aa 6 12,aa 7 13]) <|
  .seq (.seq (af [aa 14 7,aq 15 .neq 14 0]) <|
  .cond (.tmp 15) (.seq (af [((some 16),.op (.build [(.emp 1),(.emp 1),(.emp 1),(.val (.int .i64 0))] [])),aa 17 6,aa 18 7,(none,.op (.store 4 (.tmp 2) (.tmp 16))),aa 3 17,aa 4 18]) <|
  .ret) (.skip)) <|
  .seq (af [aG 19 2 5,aB 20 99 [19],bA 21 0 20,bA 22 1 20,bA 23 2 20,(none,.op (.store 4 (.tmp 2) (.tmp 21))),aa 3 22,aa 4 23]) <|
  .ret,
  [.cell 2 (some 4),.tmp 3,.tmp 4],24⟩
theorem oq:aC Tryz.prog 52 []=some kE:=by kernel_rfl
def jU:DF:=⟨.seq (af [((some 2),.op (.alloc [(.emp 1),(.emp 1)])),((some 3),.op (.aV (.val (.val (.complex .f64 0 0))))),ax 4 0]) <|
  .seq (af [aa 9 0,aB 10 140 [9],aa 8 10,bA 11 0 8,bA 12 1 8,bA 13 2 8,aa 5 11,aa 6 12,aa 7 13]) <|
  .seq (.seq (af [aa 14 7,aq 15 .neq 14 0]) <|
  .cond (.tmp 15) (.seq (af [((some 16),.op (.build [(.emp 1),(.emp 1)] [])),aa 17 6,aa 18 7,(none,.op (.store 2 (.tmp 2) (.tmp 16))),aa 3 17,aa 4 18]) <|
  .ret) (.skip)) <|
  .seq (af [aa 19 5,aa 20 6,aB 21 141 [19,20],bA 22 0 21,bA 23 1 21,bA 24 2 21,(none,.op (.store 2 (.tmp 2) (.tmp 22))),aa 3 23,aa 4 24]) <|
  .ret,
  [.cell 2 (some 2),.tmp 3,.tmp 4],25⟩
theorem nR:aC Tryz.prog 98 []=some jU:=by kernel_rfl
def nL:DC :=
  .seq (.seq (.region [] [⟨none,[aa 16 6,aa 17 0,aH 18 17,aF 19 .lss 16 18,aa 20 19]⟩,⟨(some (20,true)),[aa 21 7,aq 22 .lss 21 2]⟩,⟨none,[bf 23 20 22]⟩]) <|
  .cond (.tmp 23) (.skip) (.exit 0)) <|
  .block 1 (.seq (af [aa 25 0,aa 26 6,aB 27 198 [25,26],aa 24 27,bA 28 0 24,bA 29 1 24,aa 8 28,aa 9 29]) <|
  .seq (.seq (af [aa 30 8,aq 31 .lss 30 0]) <|
  .cond (.tmp 31) (.seq (af [aa 32 0,aa 33 6,aB 34 199 [32,33],((some 2),.op (.aV (.val (.emp 1)))),aa 3 34,ax 4 4]) <|
  .ret) (.skip)) <|
  .seq (.seq (af [aa 35 9]) <|
  .cond (.tmp 35) (.seq (af [aa 36 8,aa 6 36]) <|
  .exit 1) (.skip)) <|
  .seq (.region [] [⟨none,[aa 38 0,aa 39 6,aB 40 200 [38,39],aa 37 40,bA 41 0 37,bA 42 1 37,bA 43 2 37,((some 10),.op (.alloc [(.val (.int .i64 0)),(.val (.string ⟨#[]⟩)),(.val (.complex .f64 0 0))])),(none,.op (.store 3 (.tmp 10) (.tmp 41))),aa 11 42,aa 12 43]⟩]) <|
  .seq (.seq (af [aa 44 12,aq 45 .neq 44 0]) <|
  .cond (.tmp 45) (.seq (af [al 46 2 10,ak 47 46,aa 48 12,((some 2),.op (.aV (.val (.emp 1)))),aa 3 47,aa 4 48]) <|
  .ret) (.skip)) <|
  .seq (.seq (af [al 49 0 10,ak 50 49,aq 51 .eql 50 9]) <|
  .cond (.tmp 51) (af [aa 52 7,aq 53 .add 52 1,aa 7 53]) (.skip)) <|
  .region [] [⟨none,[aa 54 5,aG 55 3 10,((some 56),.op (.ba 1 3 [(.val (.int .i64 0)),(.val (.string ⟨#[]⟩)),(.val (.complex .f64 0 0))] [(0,(.tmp 55))])),((some 57),.op (.app 3 40 (.tmp 54) (.tmp 56))),aa 58 11,aa 5 57,aa 6 58]⟩])
def jf:DF:=⟨.seq (af [((some 2),.op (.aV (.val (.emp 1)))),((some 3),.op (.aV (.val (.val (.complex .f64 0 0))))),ax 4 0]) <|
  .seq (.seq (af [aa 13 0,aH 14 13,aq 15 .gtr 14 4000]) <|
  .cond (.tmp 15) (.seq (af [((some 2),.op (.aV (.val (.emp 1)))),((some 3),.op (.aV (.val (.val (.complex .f64 0 0))))),ax 4 5]) <|
  .ret) (.skip)) <|
  .seq (af [((some 5),.op (.aV (.val (.emp 1))))]) <|
  .seq (af [ax 6 0,ax 7 0]) <|
  .seq (.block 0 (.loop nL)) <|
  .seq (af [aa 59 5,aa 60 0,aa 61 0,aH 62 61,aB 63 199 [60,62],aa 2 59,aa 3 63,ax 4 0]) <|
  .ret,
  [.tmp 2,.tmp 3,.tmp 4],64⟩
theorem mQ:aC Tryz.prog 140 []=some jf:=by kernel_rfl
def kP:DF:=⟨.seq (af [ax 4 0,aM 5 false]) <|
  .seq (.block 0 (.seq (.region [] [⟨none,[aa 7 0,aa 8 1,aI 9 1 7 8,ak 10 9,((some 11),.op (.arith .eql (.tmp 10) (.val (.val (.int .u8 32))))),aa 12 11]⟩,⟨(some (12,false)),[aa 13 0,aa 14 1,aI 15 1 13 14,ak 16 15,((some 17),.op (.arith .eql (.tmp 16) (.val (.val (.int .u8 9)))))]⟩,⟨none,[aT 18 12 17,aa 19 18]⟩,⟨(some (19,false)),[aa 20 0,aa 21 1,aI 22 1 20 21,ak 23 22,((some 24),.op (.arith .eql (.tmp 23) (.val (.val (.int .u8 10)))))]⟩,⟨none,[aT 25 19 24,aa 26 25]⟩,⟨(some (26,false)),[aa 27 0,aa 28 1,aI 29 1 27 28,ak 30 29,((some 31),.op (.arith .eql (.tmp 30) (.val (.val (.int .u8 13)))))]⟩,⟨none,[aT 32 26 31,aa 6 32]⟩]) <|
  .cond (.tmp 6) (.seq (af [aa 33 1,aq 34 .add 33 1,aa 4 34,aM 5 true]) <|
  .ret) (.seq (.region [] [⟨none,[aa 36 0,aa 37 1,bS 38 239 [(.tmp 36),(.tmp 37),(.val (.val (.string ⟨#[47,42]⟩)))],aa 35 38]⟩]) <|
  .cond (.tmp 35) (.seq (.region [] [⟨none,[aa 39 0,aa 40 1,aq 41 .add 40 2,bS 42 240 [(.tmp 39),(.tmp 41),(.val (.val (.string ⟨#[42,47]⟩)))],aa 4 42,aM 5 true]⟩]) <|
  .ret) (.seq (.region [] [⟨none,[aa 44 0,aa 45 1,bS 46 239 [(.tmp 44),(.tmp 45),(.val (.val (.string ⟨#[47,47]⟩)))],aa 43 46]⟩]) <|
  .cond (.tmp 43) (.seq (af [aa 47 0,aa 48 1,aB 49 241 [47,48],aa 4 49,aM 5 true]) <|
  .ret) (.seq (.region [] [⟨none,[aa 51 0,aa 52 1,bS 53 239 [(.tmp 51),(.tmp 52),(.val (.val (.string ⟨#[37,123]⟩)))],aa 50 53]⟩]) <|
  .cond (.tmp 50) (.seq (.region [] [⟨none,[aa 54 0,aa 55 1,aq 56 .add 55 2,bS 57 240 [(.tmp 54),(.tmp 56),(.val (.val (.string ⟨#[37,125]⟩)))],aa 4 57,aM 5 true]⟩]) <|
  .ret) (.seq (af [aa 59 0,aa 60 1,aI 61 1 59 60,ak 62 61,((some 63),.op (.arith .eql (.tmp 62) (.val (.val (.int .u8 60))))),aa 58 63]) <|
  .cond (.tmp 58) (.seq (.region [] [⟨none,[aa 64 0,aa 65 0,aa 66 1,aB 67 241 [65,66],((some 68),.op (.slice 1 (.tmp 64) none (some (.tmp 67)))),aa 69 1,aq 70 .add 69 1,bS 71 240 [(.tmp 68),(.tmp 70),(.val (.val (.string ⟨#[62]⟩)))],aa 4 71,aM 5 true]⟩]) <|
  .ret) (.seq (af [aa 73 0,aa 74 1,aI 75 1 73 74,ak 76 75,((some 77),.op (.arith .eql (.tmp 76) (.val (.val (.int .u8 123))))),aa 72 77]) <|
  .cond (.tmp 72) (.seq (af [aa 78 0,aa 79 1,aB 80 242 [78,79],aa 4 80,aM 5 true]) <|
  .ret) (.skip)))))))) <|
  .seq (af [aa 81 1,aa 4 81,aM 5 false]) <|
  .ret,
  [.tmp 4,.tmp 5],82⟩
theorem oK:aC Tryz.prog 198 []=some kP:=by kernel_rfl
def lB:DF:=⟨.seq (af [aM 6 false]) <|
  .seq (.region [] [⟨none,[aa 7 1,aa 8 2,((some 9),.op (.eA (.tmp 8))),aF 10 .add 7 9,aa 11 0,aH 12 11,aF 13 .leq 10 12,aa 14 13]⟩,⟨(some (14,true)),[aa 15 0,aa 16 1,aa 17 1,aa 18 2,((some 19),.op (.eA (.tmp 18))),aF 20 .add 17 19,((some 21),.op (.slice 1 (.tmp 15) (some (.tmp 16)) (some (.tmp 20)))),((some 22),.op (.old (.convert 96 9 (.tmp 21)) 9)),aa 23 2,((some 24),.op (.fT .eql (.tmp 22) (.tmp 23)))]⟩,⟨none,[bf 25 14 24,aa 6 25]⟩]) <|
  .ret,
  [.tmp 6],26⟩
theorem py:aC Tryz.prog 239 []=some lB:=by kernel_rfl
def pJ:DC :=
  .seq (.seq (af [aa 7 1,aa 8 0,aH 9 8,aF 10 .lss 7 9]) <|
  .cond (.tmp 10) (.skip) (.exit 0)) <|
  .block 1 (.seq (.seq (af [aa 11 0,aa 12 1,aa 13 2,aB 14 239 [11,12,13]]) <|
  .cond (.tmp 14) (.seq (af [aa 15 1,aa 16 2,((some 17),.op (.eA (.tmp 16))),aF 18 .add 15 17,aa 6 18]) <|
  .ret) (.skip)) <|
  af [aa 19 1,aq 20 .add 19 1,aa 1 20])
def kL:DF:=⟨.seq (af [ax 6 0]) <|
  .seq (.block 0 (.loop pJ)) <|
  .seq (af [ax 6 (-1)]) <|
  .ret,
  [.tmp 6],21⟩
theorem o3:aC Tryz.prog 240 []=some kL:=by kernel_rfl
def pC:DC :=
  .seq (.seq (.region [] [⟨none,[aa 5 1,aa 6 0,aH 7 6,aF 8 .lss 5 7,aa 9 8]⟩,⟨(some (9,true)),[aa 10 0,aa 11 1,aI 12 1 10 11,ak 13 12,((some 14),.op (.arith .neq (.tmp 13) (.val (.val (.int .u8 10)))))]⟩,⟨none,[bf 15 9 14]⟩]) <|
  .cond (.tmp 15) (.skip) (.exit 0)) <|
  .block 1 (af [aa 16 1,aq 17 .add 16 1,aa 1 17])
def k9:DF:=⟨.seq (af [ax 4 0]) <|
  .seq (.block 0 (.loop pC)) <|
  .seq (af [aa 18 1,aa 4 18]) <|
  .ret,
  [.tmp 4],19⟩
theorem oe:aC Tryz.prog 241 []=some k9:=by kernel_rfl
def nV:DC :=
  .seq (.seq (.region [] [⟨none,[aa 6 1,aq 7 .geq 6 0,aa 8 7]⟩,⟨(some (8,true)),[aa 9 1,aa 10 0,aH 11 10,aF 12 .lss 9 11]⟩,⟨none,[bf 13 8 12]⟩]) <|
  .cond (.tmp 13) (.skip) (.exit 0)) <|
  .block 1 (.seq (.seq (af [aa 14 0,aa 15 1,aI 16 1 14 15,ak 17 16]) <|
  .block 2 (.seq (af [((some 21),.op (.arith .eql (.tmp 17) (.val (.val (.int .u8 123))))),aa 20 21]) <|
  .cond (.tmp 20) (.seq (af [aa 22 5,aq 23 .add 22 1,aa 5 23]) <|
  af [aa 24 1,aq 25 .add 24 1,aa 1 25]) (.seq (af [((some 27),.op (.arith .eql (.tmp 17) (.val (.val (.int .u8 125))))),aa 26 27]) <|
  .cond (.tmp 26) (.seq (af [aa 28 5,aq 29 .sub 28 1,aa 5 29]) <|
  af [aa 30 1,aq 31 .add 30 1,aa 1 31]) (.seq (.seq (af [((some 33),.op (.arith .eql (.tmp 17) (.val (.val (.int .u8 39))))),aa 32 33]) <|
  .cond (.tmp 32) (.skip) (af [((some 34),.op (.arith .eql (.tmp 17) (.val (.val (.int .u8 34))))),aa 32 34])) <|
  .cond (.tmp 32) (af [aa 35 0,aa 36 1,aB 37 260 [35,36],aa 1 37]) (af [aa 18 1,aq 19 .add 18 1,aa 1 19]))))) <|
  .seq (.region [] [⟨none,[aa 38 5,aq 39 .eql 38 0,aa 40 39]⟩,⟨(some (40,true)),[aa 41 1,aq 42 .geq 41 0]⟩,⟨none,[bf 43 40 42]⟩]) <|
  .cond (.tmp 43) (.seq (af [aa 44 1,aa 4 44]) <|
  .ret) (.skip))
def jc:DF:=⟨.seq (af [ax 4 0]) <|
  .seq (af [ax 5 0]) <|
  .seq (.block 0 (.loop nV)) <|
  .seq (af [ax 4 (-1)]) <|
  .ret,
  [.tmp 4],45⟩
theorem mP:aC Tryz.prog 242 []=some jc:=by kernel_rfl
def nU:DC :=
  .seq (.seq (af [aa 12 1,aa 13 0,aH 14 13,aF 15 .lss 12 14]) <|
  .cond (.tmp 15) (.skip) (.exit 0)) <|
  .block 1 (.seq (.seq (af [aa 16 0,aa 17 1,aI 18 1 16 17,ak 19 18,aa 20 5,aF 21 .eql 19 20]) <|
  .cond (.tmp 21) (.seq (af [aa 22 1,aq 23 .add 22 1,aa 4 23]) <|
  .ret) (.skip)) <|
  .seq (.seq (af [aa 24 0,aa 25 1,aI 26 1 24 25,ak 27 26,((some 28),.op (.arith .eql (.tmp 27) (.val (.val (.int .u8 92)))))]) <|
  .cond (.tmp 28) (af [aa 29 1,aq 30 .add 29 1,aa 1 30]) (.skip)) <|
  af [aa 31 1,aq 32 .add 31 1,aa 1 32])
def jd:DF:=⟨.seq (af [ax 4 0]) <|
  .seq (af [aa 6 0,aa 7 1,aI 8 1 6 7,ak 9 8,aa 5 9]) <|
  .seq (af [aa 10 1,aq 11 .add 10 1,aa 1 11]) <|
  .seq (.block 0 (.loop nU)) <|
  .seq (af [ax 4 (-1)]) <|
  .ret,
  [.tmp 4],33⟩
theorem mN:aC Tryz.prog 260 []=some jd:=by kernel_rfl
def rn:DC :=
  .seq (.seq (af [aa 16 7,aa 17 1,aF 18 .lss 16 17]) <|
  .cond (.tmp 18) (.skip) (.exit 0)) <|
  .seq (.block 1 (.seq (af [aa 21 6,aq 22 .add 21 1,aa 6 22]) <|
  .seq (af [aa 23 0,aa 24 7,aI 25 1 23 24,ak 26 25,((some 27),.op (.arith .eql (.tmp 26) (.val (.val (.int .u8 10)))))]) <|
  .cond (.tmp 27) (af [aa 28 5,aq 29 .add 28 1,aa 5 29,ax 6 1]) (.skip))) <|
  af [aa 19 7,aq 20 .add 19 1,aa 7 20]
def mB:DF:=⟨.seq (af [((some 4),.op (.aV (.val (.val (.complex .f64 0 0)))))]) <|
  .seq (.seq (.region [] [⟨none,[aa 8 1,aq 9 .lss 8 0,aa 10 9]⟩,⟨(some (10,false)),[aa 11 1,aa 12 0,aH 13 12,aF 14 .gtr 11 13]⟩,⟨none,[aT 15 10 14]⟩]) <|
  .cond (.tmp 15) (.seq (af [((some 4),.op (.aV (.val (.val (.complex .f64 0 0)))))]) <|
  .ret) (.skip)) <|
  .seq (af [ax 5 1,ax 6 1]) <|
  .seq (.seq (af [ax 7 0]) <|
  .block 0 (.loop rn)) <|
  .seq (af [aa 30 5,aa 31 6,aB 32 243 [30,31],aa 4 32]) <|
  .ret,
  [.tmp 4],33⟩
theorem qF:aC Tryz.prog 199 []=some mB:=by kernel_rfl
def my:DF:=⟨.seq (af [((some 4),.op (.aV (.val (.val (.complex .f64 0 0)))))]) <|
  .seq (.seq (.region [] [⟨none,[aa 5 0,aq 6 .lss 5 1,aa 7 6]⟩,⟨(some (7,false)),[aa 8 0,aq 9 .gtr 8 1073741824]⟩,⟨none,[aT 10 7 9,aa 11 10]⟩,⟨(some (11,false)),[aa 12 1,aq 13 .lss 12 1]⟩,⟨none,[aT 14 11 13,aa 15 14]⟩,⟨(some (15,false)),[aa 16 1,aq 17 .gtr 16 1073741824]⟩,⟨none,[aT 18 15 17]⟩]) <|
  .cond (.tmp 18) (.seq (af [((some 4),.op (.aV (.val (.val (.complex .f64 0 0)))))]) <|
  .ret) (.skip)) <|
  .seq (af [aa 19 0,((some 20),.op (.old (.convert 3 309 (.tmp 19)) 309)),aa 21 1,((some 22),.op (.old (.convert 3 309 (.tmp 21)) 309)),((some 23),.op (.old (.call { callee:=.builtin .complex,args:=#[(.tmp 20),(.tmp 22)],argTypes:=#[309,309] }) 93)),aa 4 23]) <|
  .ret,
  [.tmp 4],24⟩
theorem qB:aC Tryz.prog 243 []=some my:=by kernel_rfl
def qJ:DC :=
  .seq (.seq (.region [] [⟨none,[aa 27 9,aa 28 0,aH 29 28,aF 30 .lss 27 29,aa 31 30]⟩,⟨(some (31,true)),[aa 32 0,aa 33 9,aI 34 1 32 33,ak 35 34,aB 36 219 [35]]⟩,⟨none,[bf 37 31 36]⟩]) <|
  .cond (.tmp 37) (.skip) (.exit 1)) <|
  .block 2 (af [aa 38 9,aq 39 .add 38 1,aa 9 39])
def qK:DC :=
  .seq (.seq (af [aa 58 10,aq 59 .leq 58 4]) <|
  .cond (.tmp 59) (.skip) (.exit 3)) <|
  .seq (.block 4 (.seq (.region [] [⟨none,[aa 62 1,aa 63 10,aF 64 .add 62 63,aa 65 0,aH 66 65,aF 67 .leq 64 66,aa 68 67]⟩,⟨(some (68,true)),[aa 69 0,aa 70 1,aa 71 1,aa 72 10,aF 73 .add 71 72,((some 74),.op (.slice 1 (.tmp 69) (some (.tmp 70)) (some (.tmp 73)))),((some 75),.op (.old (.convert 96 9 (.tmp 74)) 9)),aB 76 217 [75]]⟩,⟨none,[bf 77 68 76]⟩]) <|
  .cond (.tmp 77) (.seq (.region [(6,8)] [⟨none,[aa 78 0,aa 79 1,aa 80 1,aa 81 10,aF 82 .add 80 81,((some 83),.op (.slice 1 (.tmp 78) (some (.tmp 79)) (some (.tmp 82)))),((some 84),.op (.old (.convert 96 9 (.tmp 83)) 9)),al 85 0 7,(none,.op (.store 1 (.tmp 85) (.val (.val (.int .i64 2))))),al 86 1 7,(none,.op (.store 1 (.tmp 86) (.tmp 84)))]⟩]) <|
  .seq (af [aG 87 3 7,aa 88 1,aa 89 10,aF 90 .add 88 89,(none,.op (.store 3 (.tmp 4) (.tmp 87))),aa 5 90,ax 6 0]) <|
  .ret) (.skip))) <|
  af [aa 60 10,aq 61 .add 60 1,aa 10 61]
def qA:DC :=
  .seq (.seq (.region [] [⟨none,[aa 108 9,aa 109 0,aH 110 109,aF 111 .lss 108 110,aa 112 111]⟩,⟨(some (112,true)),[aa 113 0,aa 114 9,aI 115 1 113 114,ak 116 115,((some 117),.op (.arith .geq (.tmp 116) (.val (.val (.int .u8 97)))))]⟩,⟨none,[bf 118 112 117,aa 119 118]⟩,⟨(some (119,true)),[aa 120 0,aa 121 9,aI 122 1 120 121,ak 123 122,((some 124),.op (.arith .leq (.tmp 123) (.val (.val (.int .u8 122)))))]⟩,⟨none,[bf 125 119 124]⟩]) <|
  .cond (.tmp 125) (.skip) (.exit 5)) <|
  .block 6 (af [aa 126 9,aq 127 .add 126 1,aa 9 127])
def lG:DF:=⟨.seq (.region [] [⟨none,[((some 4),.op (.alloc [(.val (.int .i64 0)),(.val (.string ⟨#[]⟩)),(.val (.complex .f64 0 0))])),ax 5 0,ax 6 0]⟩]) <|
  .seq (.region [] [⟨none,[aa 11 0,aa 12 1,aB 13 199 [11,12],((some 14),.op (.build [(.val (.int .i64 0)),(.val (.string ⟨#[]⟩)),(.val (.complex .f64 0 0))] [(2,1,(.tmp 13))])),((some 7),.op (.alloc [(.val (.int .i64 0)),(.val (.string ⟨#[]⟩)),(.val (.complex .f64 0 0))])),(none,.op (.store 3 (.tmp 7) (.tmp 14)))]⟩]) <|
  .seq (af [aa 15 0,aa 16 1,aI 17 1 15 16,ak 18 17,aa 8 18]) <|
  .seq (af [aa 19 1,aq 20 .add 19 1,aa 9 20]) <|
  .seq (.block 0 (.seq (af [aa 25 8,aB 26 218 [25],aa 24 26]) <|
  .cond (.tmp 24) (.seq (.block 1 (.loop qJ)) <|
  .seq (.seq (af [aa 40 9,aa 41 1,aF 42 .sub 40 41,aq 43 .gtr 42 20]) <|
  .cond (.tmp 43) (.seq (af [aG 44 3 7,aa 45 9,(none,.op (.store 3 (.tmp 4) (.tmp 44))),aa 5 45,ax 6 5]) <|
  .ret) (.skip)) <|
  .seq (.region [(4,6)] [⟨none,[aa 46 0,aa 47 1,aa 48 9,((some 49),.op (.slice 1 (.tmp 46) (some (.tmp 47)) (some (.tmp 48)))),((some 50),.op (.old (.convert 96 9 (.tmp 49)) 9)),al 51 0 7,(none,.op (.store 1 (.tmp 51) (.val (.val (.int .i64 1))))),al 52 1 7,(none,.op (.store 1 (.tmp 52) (.tmp 50)))]⟩]) <|
  .seq (af [aG 53 3 7,aa 54 9,(none,.op (.store 3 (.tmp 4) (.tmp 53))),aa 5 54,ax 6 0]) <|
  .ret) (.seq (af [aa 56 8,((some 57),.op (.arith .eql (.tmp 56) (.val (.val (.int .u8 39))))),aa 55 57]) <|
  .cond (.tmp 55) (.seq (.seq (af [ax 10 3]) <|
  .block 3 (.loop qK)) <|
  .seq (.region [(0,5)] [⟨none,[aG 91 3 7,aa 92 9,aa 93 0,aa 94 1,((some 95),.op (.slice 1 (.tmp 93) (some (.tmp 94)) none)),aB 96 244 [95],(none,.op (.store 3 (.tmp 4) (.tmp 91))),aa 5 92,aa 6 96]⟩]) <|
  .ret) (.seq (.region [] [⟨none,[aa 98 0,aa 99 1,bS 100 239 [(.tmp 98),(.tmp 99),(.val (.val (.string ⟨#[37,37]⟩)))],aa 97 100]⟩]) <|
  .cond (.tmp 97) (.seq (af [al 101 0 7,(none,.op (.store 1 (.tmp 101) (.val (.val (.int .i64 9)))))]) <|
  .seq (af [aG 102 3 7,aa 103 1,aq 104 .add 103 2,(none,.op (.store 3 (.tmp 4) (.tmp 102))),aa 5 104,ax 6 0]) <|
  .ret) (.seq (af [aa 106 8,((some 107),.op (.arith .eql (.tmp 106) (.val (.val (.int .u8 37))))),aa 105 107]) <|
  .cond (.tmp 105) (.seq (.block 5 (.loop qA)) <|
  af [aa 128 0,aa 129 1,aq 130 .add 129 1,aa 131 9,((some 132),.op (.slice 1 (.tmp 128) (some (.tmp 130)) (some (.tmp 131)))),((some 133),.op (.old (.convert 96 9 (.tmp 132)) 9)),aB 134 245 [133],al 135 0 7,(none,.op (.store 1 (.tmp 135) (.tmp 134)))]) (af [aa 21 8,aB 22 246 [21],al 23 0 7,(none,.op (.store 1 (.tmp 23) (.tmp 22)))])))))) <|
  .seq (.seq (af [al 136 0 7,ak 137 136,aq 138 .eql 137 0]) <|
  .cond (.tmp 138) (.seq (af [aG 139 3 7,aa 140 9,(none,.op (.store 3 (.tmp 4) (.tmp 139))),aa 5 140,ax 6 3]) <|
  .ret) (.skip)) <|
  .seq (af [aG 141 3 7,aa 142 9,(none,.op (.store 3 (.tmp 4) (.tmp 141))),aa 5 142,ax 6 0]) <|
  .ret,
  [.cell 4 (some 3),.tmp 5,.tmp 6],143⟩
theorem pv:aC Tryz.prog 200 []=some lG:=by kernel_rfl
def jL:DF:=⟨.seq (af [aM 2 false]) <|
  .seq (.region [] [⟨none,[aa 3 0,aB 4 218 [3],aa 5 4]⟩,⟨(some (5,false)),[aa 6 0,((some 7),.op (.arith .geq (.tmp 6) (.val (.val (.int .u8 48))))),aa 8 7]⟩,⟨(some (8,true)),[aa 9 0,((some 10),.op (.arith .leq (.tmp 9) (.val (.val (.int .u8 57)))))]⟩,⟨(some (5,false)),[bf 11 8 10]⟩,⟨none,[aT 12 5 11,aa 13 12]⟩,⟨(some (13,false)),[aa 14 0,((some 15),.op (.arith .eql (.tmp 14) (.val (.val (.int .u8 46)))))]⟩,⟨none,[aT 16 13 15,aa 2 16]⟩]) <|
  .ret,
  [.tmp 2],17⟩
theorem nM:aC Tryz.prog 219 []=some jL:=by kernel_rfl
def jE:DF:=⟨.seq (af [aM 2 false]) <|
  .seq (.region [] [⟨none,[aa 3 0,((some 4),.op (.arith .geq (.tmp 3) (.val (.val (.int .u8 97))))),aa 5 4]⟩,⟨(some (5,true)),[aa 6 0,((some 7),.op (.arith .leq (.tmp 6) (.val (.val (.int .u8 122)))))]⟩,⟨none,[bf 8 5 7,aa 9 8]⟩,⟨(some (9,false)),[aa 10 0,((some 11),.op (.arith .geq (.tmp 10) (.val (.val (.int .u8 65))))),aa 12 11]⟩,⟨(some (12,true)),[aa 13 0,((some 14),.op (.arith .leq (.tmp 13) (.val (.val (.int .u8 90)))))]⟩,⟨(some (9,false)),[bf 15 12 14]⟩,⟨none,[aT 16 9 15,aa 17 16]⟩,⟨(some (17,false)),[aa 18 0,((some 19),.op (.arith .eql (.tmp 18) (.val (.val (.int .u8 95)))))]⟩,⟨none,[aT 20 17 19,aa 2 20]⟩]) <|
  .ret,
  [.tmp 2],21⟩
theorem oc:aC Tryz.prog 218 []=some jE:=by kernel_rfl
def iF:DF:=⟨.seq (af [aM 2 false]) <|
  .seq (.seq (af [aa 3 0,((some 4),.op (.eA (.tmp 3))),aq 5 .eql 4 3]) <|
  .cond (.tmp 5) (.seq (.region [] [⟨none,[aa 6 0,((some 7),.op (.bZ (.tmp 6) (.val (.val (.int .i64 0))))),((some 8),.op (.arith .eql (.tmp 7) (.val (.val (.int .u8 39))))),aa 9 8]⟩,⟨(some (9,true)),[aa 10 0,((some 11),.op (.bZ (.tmp 10) (.val (.val (.int .i64 2))))),((some 12),.op (.arith .eql (.tmp 11) (.val (.val (.int .u8 39)))))]⟩,⟨none,[bf 13 9 12,aa 14 13]⟩,⟨(some (14,true)),[aa 15 0,((some 16),.op (.bZ (.tmp 15) (.val (.val (.int .i64 1))))),((some 17),.op (.arith .geq (.tmp 16) (.val (.val (.int .u8 32)))))]⟩,⟨none,[bf 18 14 17,aa 19 18]⟩,⟨(some (19,true)),[aa 20 0,((some 21),.op (.bZ (.tmp 20) (.val (.val (.int .i64 1))))),((some 22),.op (.arith .leq (.tmp 21) (.val (.val (.int .u8 126)))))]⟩,⟨none,[bf 23 19 22,aa 24 23]⟩,⟨(some (24,true)),[aa 25 0,((some 26),.op (.bZ (.tmp 25) (.val (.val (.int .i64 1))))),((some 27),.op (.arith .neq (.tmp 26) (.val (.val (.int .u8 39)))))]⟩,⟨none,[bf 28 24 27,aa 29 28]⟩,⟨(some (29,true)),[aa 30 0,((some 31),.op (.bZ (.tmp 30) (.val (.val (.int .i64 1))))),((some 32),.op (.arith .neq (.tmp 31) (.val (.val (.int .u8 92)))))]⟩,⟨none,[bf 33 29 32,aa 2 33]⟩]) <|
  .ret) (.skip)) <|
  .seq (.region [] [⟨none,[aa 34 0,((some 35),.op (.eA (.tmp 34))),aq 36 .eql 35 4,aa 37 36]⟩,⟨(some (37,true)),[aa 38 0,((some 39),.op (.bZ (.tmp 38) (.val (.val (.int .i64 0))))),((some 40),.op (.arith .eql (.tmp 39) (.val (.val (.int .u8 39)))))]⟩,⟨none,[bf 41 37 40,aa 42 41]⟩,⟨(some (42,true)),[aa 43 0,((some 44),.op (.bZ (.tmp 43) (.val (.val (.int .i64 3))))),((some 45),.op (.arith .eql (.tmp 44) (.val (.val (.int .u8 39)))))]⟩,⟨none,[bf 46 42 45,aa 47 46]⟩,⟨(some (47,true)),[aa 48 0,((some 49),.op (.bZ (.tmp 48) (.val (.val (.int .i64 1))))),((some 50),.op (.arith .eql (.tmp 49) (.val (.val (.int .u8 92)))))]⟩,⟨none,[bf 51 47 50,aa 52 51]⟩,⟨(some (52,true)),[aa 53 0,((some 54),.op (.bZ (.tmp 53) (.val (.val (.int .i64 2))))),((some 55),.op (.arith .eql (.tmp 54) (.val (.val (.int .u8 110))))),aa 56 55]⟩,⟨(some (56,false)),[aa 57 0,((some 58),.op (.bZ (.tmp 57) (.val (.val (.int .i64 2))))),((some 59),.op (.arith .eql (.tmp 58) (.val (.val (.int .u8 116)))))]⟩,⟨(some (52,true)),[aT 60 56 59,aa 61 60]⟩,⟨(some (61,false)),[aa 62 0,((some 63),.op (.bZ (.tmp 62) (.val (.val (.int .i64 2))))),((some 64),.op (.arith .eql (.tmp 63) (.val (.val (.int .u8 92)))))]⟩,⟨(some (52,true)),[aT 65 61 64,aa 66 65]⟩,⟨(some (66,false)),[aa 67 0,((some 68),.op (.bZ (.tmp 67) (.val (.val (.int .i64 2))))),((some 69),.op (.arith .eql (.tmp 68) (.val (.val (.int .u8 39)))))]⟩,⟨(some (52,true)),[aT 70 66 69]⟩,⟨none,[bf 71 52 70,aa 2 71]⟩]) <|
  .ret,
  [.tmp 2],72⟩
theorem mc:aC Tryz.prog 217 []=some iF:=by kernel_rfl
def mR:DC :=
  .seq (.seq (af [aa 6 4,aa 7 3,aH 8 7,aF 9 .lss 6 8]) <|
  .cond (.tmp 9) (.skip) (.exit 0)) <|
  .seq (.block 1 (.seq (.region [(5,9)] [⟨none,[aa 12 0,aH 13 12,aq 14 .lss 13 4,aa 15 14]⟩,⟨(some (15,true)),[aa 16 0,((some 17),.op (.old (.convert 96 9 (.tmp 16)) 9)),aa 18 3,aa 19 4,aI 20 1 18 19,ak 21 20,((some 22),.op (.fT .add (.tmp 17) (.tmp 21))),aB 23 217 [22]]⟩,⟨none,[bf 24 15 23]⟩]) <|
  .cond (.tmp 24) (.seq (af [ax 2 4]) <|
  .ret) (.skip))) <|
  af [aa 10 4,aq 11 .add 10 1,aa 4 11]
def iv:DF:=⟨.seq (af [ax 2 0]) <|
  .seq (.region [] [⟨none,[((some 5),.op (.ba 5 1 [(.val (.string ⟨#[]⟩))] [(0,(.val (.val (.string ⟨#[120,39]⟩)))),(1,(.val (.val (.string ⟨#[39]⟩)))),(2,(.val (.val (.string ⟨#[92,110,39]⟩)))),(3,(.val (.val (.string ⟨#[110,39]⟩)))),(4,(.val (.val (.string ⟨#[92,39,39]⟩))))])),aa 3 5]⟩]) <|
  .seq (.seq (af [ax 4 0]) <|
  .block 0 (.loop mR)) <|
  .seq (af [ax 2 3]) <|
  .ret,
  [.tmp 2],25⟩
theorem mI:aC Tryz.prog 244 []=some iv:=by kernel_rfl
def iB:DF:=⟨.seq (af [ax 2 0]) <|
  .seq (.seq (af [aa 3 0]) <|
  .block 0 (.seq (.region [] [⟨none,[((some 5),.op (.fT .eql (.tmp 3) (.val (.val (.string ⟨#[116,111,107,101,110]⟩))))),aa 4 5]⟩]) <|
  .cond (.tmp 4) (.seq (af [ax 2 3]) <|
  .ret) (.seq (.region [] [⟨none,[((some 7),.op (.fT .eql (.tmp 3) (.val (.val (.string ⟨#[108,101,102,116]⟩))))),aa 6 7]⟩]) <|
  .cond (.tmp 6) (.seq (af [ax 2 4]) <|
  .ret) (.seq (.region [] [⟨none,[((some 9),.op (.fT .eql (.tmp 3) (.val (.val (.string ⟨#[114,105,103,104,116]⟩))))),aa 8 9]⟩]) <|
  .cond (.tmp 8) (.seq (af [ax 2 5]) <|
  .ret) (.seq (.region [] [⟨none,[((some 11),.op (.fT .eql (.tmp 3) (.val (.val (.string ⟨#[110,111,110,97,115,115,111,99]⟩))))),aa 10 11]⟩]) <|
  .cond (.tmp 10) (.seq (af [ax 2 6]) <|
  .ret) (.seq (.region [] [⟨none,[((some 13),.op (.fT .eql (.tmp 3) (.val (.val (.string ⟨#[115,116,97,114,116]⟩))))),aa 12 13]⟩]) <|
  .cond (.tmp 12) (.seq (af [ax 2 7]) <|
  .ret) (.seq (.region [] [⟨none,[((some 15),.op (.fT .eql (.tmp 3) (.val (.val (.string ⟨#[112,114,101,99]⟩))))),aa 14 15]⟩]) <|
  .cond (.tmp 14) (.seq (af [ax 2 8]) <|
  .ret) (.skip)))))))) <|
  .seq (af [ax 2 0]) <|
  .ret,
  [.tmp 2],16⟩
theorem mD:aC Tryz.prog 245 []=some iB:=by kernel_rfl
def ld:DF:=⟨.seq (af [ax 2 0]) <|
  .seq (.seq (af [aa 3 0]) <|
  .block 0 (.seq (af [((some 5),.op (.arith .eql (.tmp 3) (.val (.val (.int .u8 58))))),aa 4 5]) <|
  .cond (.tmp 4) (.seq (af [ax 2 10]) <|
  .ret) (.seq (af [((some 7),.op (.arith .eql (.tmp 3) (.val (.val (.int .u8 124))))),aa 6 7]) <|
  .cond (.tmp 6) (.seq (af [ax 2 11]) <|
  .ret) (.seq (af [((some 9),.op (.arith .eql (.tmp 3) (.val (.val (.int .u8 59))))),aa 8 9]) <|
  .cond (.tmp 8) (.seq (af [ax 2 12]) <|
  .ret) (.skip))))) <|
  .seq (af [ax 2 0]) <|
  .ret,
  [.tmp 2],10⟩
theorem oA:aC Tryz.prog 246 []=some ld:=by kernel_rfl
def r5:DC :=
  .seq (.seq (.region [] [⟨none,[aa 21 7,aO 22 21,al 23 3 22,ak 24 23,aq 25 .eql 24 0,aa 26 25]⟩,⟨(some (26,true)),[aa 27 7,aO 28 27,al 29 0 28,ak 30 29,aH 31 30,aq 32 .gtr 31 0]⟩,⟨none,[bf 33 26 32,aa 34 33]⟩,⟨(some (34,true)),[aa 35 7,aB 36 204 [35],aq 37 .neq 36 9]⟩,⟨none,[bf 38 34 37]⟩]) <|
  .cond (.tmp 38) (.skip) (.exit 0)) <|
  .block 1 (.region [(1,3)] [⟨none,[al 39 1 8,ak 40 39,aa 41 7,aB 42 203 [41],((some 43),.op (.app 5 88 (.tmp 40) (.tmp 42))),al 44 1 8,(none,.op (.store 1 (.tmp 44) (.tmp 43)))]⟩])
def mf:DF:=⟨.seq (af [((some 4),.op (.alloc [(.emp 1),(.emp 1)])),((some 5),.op (.aV (.val (.val (.complex .f64 0 0))))),ax 6 0]) <|
  .seq (af [aa 9 0,aa 10 1,((some 11),.op (.build [(.emp 1),(.val (.complex .f64 0 0)),(.val (.complex .f64 0 0)),(.val (.int .i64 0))] [(0,1,(.tmp 9)),(1,1,(.tmp 10))])),((some 12),.op (.box (.tmp 11))),aa 7 12]) <|
  .seq (af [aa 13 7,aB 14 201 [13],((some 15),.op (.build [(.emp 1),(.emp 1)] [(0,1,(.tmp 14))])),((some 8),.op (.alloc [(.emp 1),(.emp 1)])),(none,.op (.store 2 (.tmp 8) (.tmp 15)))]) <|
  .seq (af [aa 16 7,bS 17 202 [(.tmp 16),(.val (.val (.int .i64 9))),(.val (.val (.int .i64 9)))]]) <|
  .seq (af [aa 18 7,aB 19 203 [18],al 20 1 8,(none,.op (.store 1 (.tmp 20) (.tmp 19)))]) <|
  .seq (.block 0 (.loop r5)) <|
  .seq (.seq (.region [] [⟨none,[aa 45 7,aO 46 45,al 47 3 46,ak 48 47,aq 49 .eql 48 0,aa 50 49]⟩,⟨(some (50,true)),[aa 51 7,aO 52 51,al 53 0 52,ak 54 53,aH 55 54,aq 56 .gtr 55 0]⟩,⟨none,[bf 57 50 56]⟩]) <|
  .cond (.tmp 57) (af [aa 58 7,bS 59 202 [(.tmp 58),(.val (.val (.int .i64 9))),(.val (.val (.int .i64 9)))]]) (.skip)) <|
  .seq (.seq (af [aa 60 7,aO 61 60,al 62 0 61,ak 63 62,aH 64 63,aq 65 .gtr 64 0]) <|
  .cond (.tmp 65) (af [aa 66 7,aB 67 205 [66]]) (.skip)) <|
  .seq (.seq (af [aa 68 7,aO 69 68,al 70 3 69,ak 71 70,aq 72 .neq 71 0]) <|
  .cond (.tmp 72) (.seq (.region [(4,9),(8,9)] [⟨none,[((some 73),.op (.build [(.emp 1),(.emp 1)] [])),aa 74 7,aO 75 74,al 76 2 75,ak 77 76,aa 78 7,aO 79 78,al 80 3 79,ak 81 80,(none,.op (.store 2 (.tmp 4) (.tmp 73))),aa 5 77,aa 6 81]⟩]) <|
  .ret) (.skip)) <|
  .seq (af [aG 82 2 8,(none,.op (.store 2 (.tmp 4) (.tmp 82))),((some 5),.op (.aV (.val (.val (.complex .f64 0 0))))),ax 6 0]) <|
  .ret,
  [.cell 4 (some 2),.tmp 5,.tmp 6],83⟩
theorem qH:aC Tryz.prog 141 []=some mf:=by kernel_rfl
def fU:DF:=⟨.seq (af [ax 2 0]) <|
  .seq (.seq (.region [] [⟨none,[aa 3 0,aO 4 3,al 5 3 4,ak 6 5,aq 7 .neq 6 0,aa 8 7]⟩,⟨(some (8,false)),[aa 9 0,aO 10 9,al 11 0 10,ak 12 11,aH 13 12,aq 14 .eql 13 0]⟩,⟨none,[aT 15 8 14]⟩]) <|
  .cond (.tmp 15) (.seq (af [ax 2 0]) <|
  .ret) (.skip)) <|
  .seq (af [aa 16 0,aO 17 16,al 18 0 17,ak 19 18,((some 20),.op (.idx 3 (.tmp 19) (.val (.val (.int .i64 0))))),al 21 0 20,ak 22 21,aa 2 22]) <|
  .ret,
  [.tmp 2],23⟩
theorem kj:aC Tryz.prog 204 []=some fU:=by kernel_rfl
def kk:DC :=
  .seq (.seq (af [aa 10 0,aO 11 10,al 12 3 11,ak 13 12,aq 14 .eql 13 0]) <|
  .cond (.tmp 14) (.skip) (.exit 0)) <|
  .block 1 (.seq (.region [(0,2),(2,4)] [⟨none,[aG 15 2 4,aa 16 0,aB 17 247 [16],((some 18),.op (.build [(.val (.string ⟨#[]⟩)),(.val (.complex .f64 0 0)),(.emp 1),(.val (.string ⟨#[]⟩)),(.val (.complex .f64 0 0))] [(0,2,(.tmp 15)),(2,1,(.tmp 17))])),((some 5),.op (.alloc [(.val (.string ⟨#[]⟩)),(.val (.complex .f64 0 0)),(.emp 1),(.val (.string ⟨#[]⟩)),(.val (.complex .f64 0 0))])),(none,.op (.store 5 (.tmp 5) (.tmp 18)))]⟩]) <|
  .seq (.seq (af [aa 19 0,bS 20 248 [(.tmp 19),(.val (.val (.int .i64 8))),(.val (.val (.int .i64 8)))]]) <|
  .cond (.tmp 20) (.seq (af [aa 21 0,bS 22 202 [(.tmp 21),(.val (.val (.int .i64 8))),(.val (.val (.int .i64 8)))]]) <|
  af [aa 23 0,bS 24 202 [(.tmp 23),(.val (.val (.int .i64 1))),(.val (.val (.int .i64 2)))],al 25 3 5,(none,.op (.store 2 (.tmp 25) (.tmp 24)))]) (.skip)) <|
  .seq (.region [] [⟨none,[aa 26 3,aG 27 5 5,((some 28),.op (.ba 1 5 [(.val (.string ⟨#[]⟩)),(.val (.complex .f64 0 0)),(.emp 1),(.val (.string ⟨#[]⟩)),(.val (.complex .f64 0 0))] [(0,(.tmp 27))])),((some 29),.op (.app 5 88 (.tmp 26) (.tmp 28))),aa 3 29]⟩]) <|
  .seq (.seq (af [aa 30 0,bS 31 248 [(.tmp 30),(.val (.val (.int .i64 11))),(.val (.val (.int .i64 11)))],bB 32 31]) <|
  .cond (.tmp 32) (.seq (af [aa 33 0,bS 34 202 [(.tmp 33),(.val (.val (.int .i64 12))),(.val (.val (.int .i64 12)))]]) <|
  .seq (af [aa 35 3,aa 2 35]) <|
  .ret) (.skip)) <|
  af [aa 36 0,bS 37 202 [(.tmp 36),(.val (.val (.int .i64 11))),(.val (.val (.int .i64 11)))]])
def fu:DF:=⟨.seq (af [((some 2),.op (.aV (.val (.emp 1))))]) <|
  .seq (af [((some 3),.op (.aV (.val (.emp 1))))]) <|
  .seq (.region [] [⟨none,[aa 6 0,bS 7 202 [(.tmp 6),(.val (.val (.int .i64 1))),(.val (.val (.int .i64 1)))],((some 4),.op (.alloc [(.val (.string ⟨#[]⟩)),(.val (.complex .f64 0 0))])),(none,.op (.store 2 (.tmp 4) (.tmp 7)))]⟩]) <|
  .seq (af [aa 8 0,bS 9 202 [(.tmp 8),(.val (.val (.int .i64 10))),(.val (.val (.int .i64 10)))]]) <|
  .seq (.block 0 (.loop kk)) <|
  .seq (af [aa 38 3,aa 2 38]) <|
  .ret,
  [.tmp 2],39⟩
theorem jw:aC Tryz.prog 203 []=some fu:=by kernel_rfl
def kY:DC :=
  .seq (.seq (af [aa 4 0,bS 5 248 [(.tmp 4),(.val (.val (.int .i64 1))),(.val (.val (.int .i64 2)))]]) <|
  .cond (.tmp 5) (.skip) (.exit 0)) <|
  .block 1 (.region [] [⟨none,[aa 6 3,aa 7 0,bS 8 202 [(.tmp 7),(.val (.val (.int .i64 1))),(.val (.val (.int .i64 2)))],((some 9),.op (.ba 1 2 [(.val (.string ⟨#[]⟩)),(.val (.complex .f64 0 0))] [(0,(.tmp 8))])),((some 10),.op (.app 2 32 (.tmp 6) (.tmp 9))),aa 3 10]⟩])
def fS:DF:=⟨.seq (af [((some 2),.op (.aV (.val (.emp 1))))]) <|
  .seq (af [((some 3),.op (.aV (.val (.emp 1))))]) <|
  .seq (.block 0 (.loop kY)) <|
  .seq (af [aa 11 3,aa 2 11]) <|
  .ret,
  [.tmp 2],12⟩
theorem km:aC Tryz.prog 247 []=some fS:=by kernel_rfl
def gU:DF:=⟨.seq (af [aM 6 false]) <|
  .seq (.region [] [⟨none,[aa 7 0,aO 8 7,al 9 0 8,ak 10 9,aH 11 10,aq 12 .gtr 11 0,aa 13 12]⟩,⟨(some (13,true)),[aa 14 0,aB 15 204 [14],aa 16 1,aF 17 .eql 15 16,aa 18 17]⟩,⟨(some (18,false)),[aa 19 0,aB 20 204 [19],aa 21 2,aF 22 .eql 20 21]⟩,⟨(some (13,true)),[aT 23 18 22]⟩,⟨none,[bf 24 13 23,aa 6 24]⟩]) <|
  .ret,
  [.tmp 6],25⟩
theorem lr:aC Tryz.prog 248 []=some gU:=by kernel_rfl
def fQ:DF:=⟨.seq (.region [] [⟨none,[((some 6),.op (.alloc [(.val (.string ⟨#[]⟩)),(.val (.complex .f64 0 0))]))]⟩]) <|
  .seq (.seq (.region [] [⟨none,[aa 8 0,aO 9 8,al 10 3 9,ak 11 10,aq 12 .neq 11 0,aa 13 12]⟩,⟨(some (13,false)),[aa 14 0,aa 15 1,aa 16 2,aB 17 248 [14,15,16],bB 18 17]⟩,⟨none,[aT 19 13 18]⟩]) <|
  .cond (.tmp 19) (.seq (af [aa 20 0,aB 21 205 [20]]) <|
  .seq (.region [] [⟨none,[((some 22),.op (.build [(.val (.string ⟨#[]⟩)),(.val (.complex .f64 0 0))] [])),(none,.op (.store 2 (.tmp 6) (.tmp 22)))]⟩]) <|
  .ret) (.skip)) <|
  .seq (.region [] [⟨none,[aa 23 0,aO 24 23,al 25 0 24,ak 26 25,((some 27),.op (.idx 3 (.tmp 26) (.val (.val (.int .i64 0))))),aG 28 3 27,((some 7),.op (.alloc [(.val (.int .i64 0)),(.val (.string ⟨#[]⟩)),(.val (.complex .f64 0 0))])),(none,.op (.store 3 (.tmp 7) (.tmp 28)))]⟩]) <|
  .seq (af [aa 29 0,aa 30 0,aO 31 30,al 32 0 31,ak 33 32,((some 34),.op (.slice 3 (.tmp 33) (some (.val (.val (.int .i64 1)))) none)),aO 35 29,al 36 0 35,(none,.op (.store 1 (.tmp 36) (.tmp 34)))]) <|
  .seq (.region [] [⟨none,[al 37 1 7,ak 38 37,al 39 2 7,ak 40 39,((some 41),.op (.build [(.val (.string ⟨#[]⟩)),(.val (.complex .f64 0 0))] [(0,1,(.tmp 38)),(1,1,(.tmp 40))])),(none,.op (.store 2 (.tmp 6) (.tmp 41)))]⟩]) <|
  .ret,
  [.cell 6 (some 2)],42⟩
theorem jX:aC Tryz.prog 202 []=some fQ:=by kernel_rfl
def fW:DF:=⟨.seq (.seq (af [aa 2 0,aO 3 2,al 4 3 3,ak 5 4,aq 6 .neq 5 0]) <|
  .cond (.tmp 6) (.ret) (.skip)) <|
  .seq (af [aa 7 0,aa 8 0,aa 9 0,aO 10 9,al 11 1 10,ak 12 11,aO 13 7,al 14 2 13,(none,.op (.store 1 (.tmp 14) (.tmp 12))),aO 15 8,al 16 3 15,(none,.op (.store 1 (.tmp 16) (.val (.val (.int .i64 4)))))]) <|
  .seq (af [aa 17 0,aO 18 17,al 19 0 18,ak 20 19,aH 21 20,aq 22 .gtr 21 0]) <|
  .cond (.tmp 22) (af [aa 23 0,aa 24 0,aa 25 0,aO 26 25,al 27 0 26,ak 28 27,((some 29),.op (.idx 3 (.tmp 28) (.val (.val (.int .i64 0))))),al 30 2 29,ak 31 30,aO 32 23,al 33 2 32,(none,.op (.store 1 (.tmp 33) (.tmp 31))),aO 34 24,al 35 3 34,(none,.op (.store 1 (.tmp 35) (.val (.val (.int .i64 3)))))]) (.skip),
  [],36⟩
theorem jY:aC Tryz.prog 205 []=some fW:=by kernel_rfl
def j4:DC :=
  .seq (.seq (.region [] [⟨none,[aa 6 0,aO 7 6,al 8 3 7,ak 9 8,aq 10 .eql 9 0,aa 11 10]⟩,⟨(some (11,true)),[aa 12 0,aO 13 12,al 14 0 13,ak 15 14,aH 16 15,aq 17 .gtr 16 0]⟩,⟨none,[bf 18 11 17,aa 19 18]⟩,⟨(some (19,true)),[aa 20 0,aB 21 204 [20],aq 22 .neq 21 9]⟩,⟨none,[bf 23 19 22]⟩]) <|
  .cond (.tmp 23) (.skip) (.exit 0)) <|
  .block 1 (.seq (af [aa 24 0,aB 25 204 [24],aa 4 25]) <|
  .seq (.seq (af [aa 26 4,aq 27 .eql 26 7]) <|
  .cond (.tmp 27) (.seq (af [aa 28 0,aa 29 4,aa 30 4,aB 31 202 [28,29,30]]) <|
  .seq (.region [] [⟨none,[aa 32 3,aa 33 4,aa 34 0,bS 35 202 [(.tmp 34),(.val (.val (.int .i64 1))),(.val (.val (.int .i64 1)))],((some 36),.op (.ba 1 2 [(.val (.string ⟨#[]⟩)),(.val (.complex .f64 0 0))] [(0,(.tmp 35))])),((some 37),.op (.build [(.val (.int .i64 0)),(.emp 1)] [(0,1,(.tmp 33)),(1,1,(.tmp 36))])),((some 38),.op (.ba 1 2 [(.val (.int .i64 0)),(.emp 1)] [(0,(.tmp 37))])),((some 39),.op (.app 2 32 (.tmp 32) (.tmp 38))),aa 3 39]⟩]) <|
  .exit 1) (.skip)) <|
  .seq (.seq (.region [] [⟨none,[aa 40 4,aq 41 .neq 40 3,aa 42 41]⟩,⟨(some (42,true)),[aa 43 4,aq 44 .neq 43 4]⟩,⟨none,[bf 45 42 44,aa 46 45]⟩,⟨(some (46,true)),[aa 47 4,aq 48 .neq 47 5]⟩,⟨none,[bf 49 46 48,aa 50 49]⟩,⟨(some (50,true)),[aa 51 4,aq 52 .neq 51 6]⟩,⟨none,[bf 53 50 52]⟩]) <|
  .cond (.tmp 53) (.seq (af [aa 54 0,aB 55 205 [54]]) <|
  .exit 1) (.skip)) <|
  .seq (af [aa 56 0,aa 57 4,aa 58 4,aB 59 202 [56,57,58]]) <|
  .seq (.region [] [⟨none,[aa 60 0,bS 61 202 [(.tmp 60),(.val (.val (.int .i64 1))),(.val (.val (.int .i64 2)))],((some 5),.op (.alloc [(.val (.string ⟨#[]⟩)),(.val (.complex .f64 0 0))])),(none,.op (.store 2 (.tmp 5) (.tmp 61)))]⟩]) <|
  .region [(2,5),(3,5)] [⟨none,[aa 62 3,aa 63 4,aG 64 2 5,((some 65),.op (.ba 1 2 [(.val (.string ⟨#[]⟩)),(.val (.complex .f64 0 0))] [(0,(.tmp 64))])),aa 66 0,aB 67 247 [66],((some 68),.op (.app 2 32 (.tmp 65) (.tmp 67))),((some 69),.op (.build [(.val (.int .i64 0)),(.emp 1)] [(0,1,(.tmp 63)),(1,1,(.tmp 68))])),((some 70),.op (.ba 1 2 [(.val (.int .i64 0)),(.emp 1)] [(0,(.tmp 69))])),((some 71),.op (.app 2 32 (.tmp 62) (.tmp 70))),aa 3 71]⟩])
def fw:DF:=⟨.seq (af [((some 2),.op (.aV (.val (.emp 1))))]) <|
  .seq (af [((some 3),.op (.aV (.val (.emp 1))))]) <|
  .seq (.block 0 (.loop j4)) <|
  .seq (af [aa 72 3,aa 2 72]) <|
  .ret,
  [.tmp 2],73⟩
theorem jA:aC Tryz.prog 201 []=some fw:=by kernel_rfl
def oX:DC :=
  .seq (.seq (.region [] [⟨none,[aa 17 6,al 18 1 1,ak 19 18,aH 20 19,aF 21 .lss 17 20,aa 22 21]⟩,⟨(some (22,true)),[aa 23 5,aO 24 23,al 25 10 24,ak 26 25,aq 27 .eql 26 0]⟩,⟨none,[bf 28 22 27]⟩]) <|
  .cond (.tmp 28) (.skip) (.exit 0)) <|
  .seq (.block 1 (af [aa 31 5,al 32 1 1,ak 33 32,aa 34 6,aI 35 5 33 34,aG 36 5 35,aB 37 144 [31,36]])) <|
  af [aa 29 6,aq 30 .add 29 1,aa 6 30]
def jK:DF:=⟨.seq (af [bu 1 0,((some 2),.op (.alloc [(.emp 1),(.emp 1),(.emp 1),(.val (.int .i64 0))])),((some 3),.op (.aV (.val (.val (.complex .f64 0 0))))),ax 4 0]) <|
  .seq (.region [] [⟨none,[((some 7),.op (.build [(.emp 1),(.emp 1),(.emp 1),(.val (.int .i64 0)),(.emp 1),(.val (.string ⟨#[]⟩)),(.val (.complex .f64 0 0)),(.val (.bool false)),(.val (.int .i64 0)),(.val (.complex .f64 0 0)),(.val (.int .i64 0))] [])),((some 8),.op (.box (.tmp 7))),aa 5 8]⟩]) <|
  .seq (af [aa 9 5,al 10 0 1,ak 11 10,aB 12 142 [9,11]]) <|
  .seq (af [aa 13 5,al 14 1 1,ak 15 14,aB 16 143 [13,15]]) <|
  .seq (.seq (af [ax 6 0]) <|
  .block 0 (.loop oX)) <|
  .seq (.seq (.region [] [⟨none,[aa 38 5,aO 39 38,al 40 7 39,ak 41 40,aa 42 41]⟩,⟨(some (42,true)),[aa 43 5,aO 44 43,al 45 0 44,aG 46 4 45,aa 47 5,aO 48 47,al 49 5 48,al 50 0 49,ak 51 50,aB 52 145 [46,51],aq 53 .lss 52 0]⟩,⟨none,[bf 54 42 53]⟩]) <|
  .cond (.tmp 54) (af [aa 55 5,aa 56 5,aO 57 56,al 58 5 57,aG 59 2 58,bS 60 146 [(.tmp 55),(.tmp 59),(.val (.val (.int .i64 8)))]]) (.skip)) <|
  .seq (.seq (af [al 61 1 1,ak 62 61,aH 63 62,aq 64 .eql 63 0]) <|
  .cond (.tmp 64) (.region [] [⟨none,[aa 65 5,((some 66),.op (.build [(.val (.string ⟨#[]⟩)),(.val (.complex .f64 0 0))] [])),bS 67 146 [(.tmp 65),(.tmp 66),(.val (.val (.int .i64 8)))]]⟩]) (.skip)) <|
  .seq (.seq (af [aa 68 5,aO 69 68,al 70 10 69,ak 71 70,aq 72 .neq 71 0]) <|
  .cond (.tmp 72) (.seq (.region [(4,9),(8,9)] [⟨none,[((some 73),.op (.build [(.emp 1),(.emp 1),(.emp 1),(.val (.int .i64 0))] [])),aa 74 5,aO 75 74,al 76 9 75,ak 77 76,aa 78 5,aO 79 78,al 80 10 79,ak 81 80,(none,.op (.store 4 (.tmp 2) (.tmp 73))),aa 3 77,aa 4 81]⟩]) <|
  .ret) (.skip)) <|
  .seq (.seq (af [aa 82 5,aO 83 82,al 84 7 83,ak 85 84]) <|
  .cond (.tmp 85) (af [aa 86 5,aa 87 5,aO 88 87,al 89 0 88,aG 90 4 89,aa 91 5,aO 92 91,al 93 5 92,al 94 0 93,ak 95 94,aB 96 145 [90,95],aO 97 86,al 98 0 97,al 99 3 98,(none,.op (.store 1 (.tmp 99) (.tmp 96)))]) (.skip)) <|
  .seq (af [aa 100 5,aO 101 100,al 102 0 101,aG 103 4 102,(none,.op (.store 4 (.tmp 2) (.tmp 103))),((some 3),.op (.aV (.val (.val (.complex .f64 0 0))))),ax 4 0]) <|
  .ret,
  [.cell 2 (some 4),.tmp 3,.tmp 4],104⟩
theorem nY:aC Tryz.prog 99 [1]=some jK:=by kernel_rfl
def lR:DC :=
  .seq (.seq (.region [] [⟨none,[aa 28 5,al 29 2 3,ak 30 29,aH 31 30,aF 32 .lss 28 31,aa 33 32]⟩,⟨(some (33,true)),[aa 34 0,aO 35 34,al 36 10 35,ak 37 36,aq 38 .eql 37 0]⟩,⟨none,[bf 39 33 38]⟩]) <|
  .cond (.tmp 39) (.skip) (.exit 0)) <|
  .seq (.block 1 (.seq (.region [] [⟨none,[al 42 2 3,ak 43 42,aa 44 5,aI 45 2 43 44,aG 46 2 45,((some 6),.op (.alloc [(.val (.string ⟨#[]⟩)),(.val (.complex .f64 0 0))])),(none,.op (.store 2 (.tmp 6) (.tmp 46)))]⟩]) <|
  .seq (.seq (af [al 47 0 6,ak 48 47,aB 49 168 [48],bB 50 49]) <|
  .cond (.tmp 50) (.seq (af [aa 51 0,aG 52 2 6,bS 53 146 [(.tmp 51),(.tmp 52),(.val (.val (.int .i64 3)))]]) <|
  .ret) (.skip)) <|
  .seq (.seq (af [aa 54 5,aq 55 .eql 54 6]) <|
  .cond (.tmp 55) (.seq (af [aa 56 0,aG 57 2 6,bS 58 146 [(.tmp 56),(.tmp 57),(.val (.val (.int .i64 5)))]]) <|
  .ret) (.skip)) <|
  .seq (af [aa 59 0,aG 60 2 6,bS 61 207 [(.tmp 59),(.tmp 60),(.val (.val (.bool true)))],aa 7 61]) <|
  .seq (af [al 62 1 4,ak 63 62,aa 64 7,((some 65),.op (.ba 1 1 [(.val (.int .i64 0))] [(0,(.tmp 64))])),((some 66),.op (.app 1 8 (.tmp 63) (.tmp 65))),al 67 1 4,(none,.op (.store 1 (.tmp 67) (.tmp 66)))]) <|
  .seq (af [aa 68 7,aq 69 .geq 68 0]) <|
  .cond (.tmp 69) (af [aa 70 7,al 71 2 4,(none,.op (.store 1 (.tmp 71) (.tmp 70)))]) (.skip))) <|
  af [aa 40 5,aq 41 .add 40 1,aa 5 41]
def gS:DF:=⟨.seq (af [bu 3 1]) <|
  .seq (.region [(7,9)] [⟨none,[aa 8 0,aO 9 8,al 10 0 9,aG 11 4 10,al 12 0 3,al 13 0 12,ak 14 13,aB 15 145 [11,14],((some 16),.op (.build [(.val (.int .i64 0)),(.emp 1),(.val (.int .i64 0))] [(0,1,(.tmp 15)),(2,1,(.val (.val (.int .i64 (-1)))))])),((some 4),.op (.alloc [(.val (.int .i64 0)),(.emp 1),(.val (.int .i64 0))])),(none,.op (.store 3 (.tmp 4) (.tmp 16)))]⟩]) <|
  .seq (.seq (af [aa 17 0,aO 18 17,al 19 0 18,al 20 2 19,ak 21 20,aH 22 21,aq 23 .eql 22 40]) <|
  .cond (.tmp 23) (af [aa 24 0,al 25 0 3,aG 26 2 25,bS 27 146 [(.tmp 24),(.tmp 26),(.val (.val (.int .i64 5)))]]) (.skip)) <|
  .seq (.seq (af [ax 5 0]) <|
  .block 0 (.loop lR)) <|
  .seq (.seq (.region [] [⟨none,[al 72 3 3,al 73 0 72,ak 74 73,((some 75),.op (.fT .neq (.tmp 74) (.val (.val (.string ⟨#[]⟩))))),aa 76 75]⟩,⟨(some (76,true)),[aa 77 0,aO 78 77,al 79 10 78,ak 80 79,aq 81 .eql 80 0]⟩,⟨none,[bf 82 76 81]⟩]) <|
  .cond (.tmp 82) (.seq (.seq (af [al 83 3 3,al 84 0 83,ak 85 84,aB 86 168 [85],bB 87 86]) <|
  .cond (.tmp 87) (.seq (af [aa 88 0,al 89 3 3,aG 90 2 89,bS 91 146 [(.tmp 88),(.tmp 90),(.val (.val (.int .i64 3)))]]) <|
  .ret) (.skip)) <|
  af [aa 92 0,al 93 3 3,aG 94 2 93,bS 95 207 [(.tmp 92),(.tmp 94),(.val (.val (.bool false)))],al 96 2 4,(none,.op (.store 1 (.tmp 96) (.tmp 95)))]) (.skip)) <|
  af [aa 97 0,aa 98 0,aO 99 98,al 100 0 99,al 101 2 100,ak 102 101,aG 103 3 4,((some 104),.op (.ba 1 3 [(.val (.int .i64 0)),(.emp 1),(.val (.int .i64 0))] [(0,(.tmp 103))])),((some 105),.op (.app 3 40 (.tmp 102) (.tmp 104))),aO 106 97,al 107 0 106,al 108 2 107,(none,.op (.store 1 (.tmp 108) (.tmp 105)))],
  [],109⟩
theorem lj:aC Tryz.prog 144 [3]=some gS:=by kernel_rfl
def jM:DF:=⟨.seq (af [aM 2 false]) <|
  .seq (.region [] [⟨none,[aa 3 0,aB 4 171 [3],aa 5 4]⟩,⟨(some (5,false)),[aa 6 0,aB 7 217 [6]]⟩,⟨none,[aT 8 5 7,aa 2 8]⟩]) <|
  .ret,
  [.tmp 2],9⟩
theorem nD:aC Tryz.prog 168 []=some jM:=by kernel_rfl
def pj:DC :=
  .seq (.seq (af [aa 18 3,aa 19 0,((some 20),.op (.eA (.tmp 19))),aF 21 .lss 18 20]) <|
  .cond (.tmp 21) (.skip) (.exit 0)) <|
  .seq (.block 1 (.seq (af [aa 24 0,aa 25 3,((some 26),.op (.bZ (.tmp 24) (.tmp 25))),aB 27 219 [26],bB 28 27]) <|
  .cond (.tmp 28) (.seq (af [aM 2 false]) <|
  .ret) (.skip))) <|
  af [aa 22 3,aq 23 .add 22 1,aa 3 23]
def k6:DF:=⟨.seq (af [aM 2 false]) <|
  .seq (.seq (.region [] [⟨none,[aa 4 0,((some 5),.op (.eA (.tmp 4))),aq 6 .eql 5 0,aa 7 6]⟩,⟨(some (7,false)),[aa 8 0,((some 9),.op (.eA (.tmp 8))),aq 10 .gtr 9 20]⟩,⟨none,[aT 11 7 10,aa 12 11]⟩,⟨(some (12,false)),[aa 13 0,((some 14),.op (.bZ (.tmp 13) (.val (.val (.int .i64 0))))),aB 15 218 [14],bB 16 15]⟩,⟨none,[aT 17 12 16]⟩]) <|
  .cond (.tmp 17) (.seq (af [aM 2 false]) <|
  .ret) (.skip)) <|
  .seq (.seq (af [ax 3 0]) <|
  .block 0 (.loop pj)) <|
  .seq (af [aM 2 true]) <|
  .ret,
  [.tmp 2],29⟩
theorem ou:aC Tryz.prog 171 []=some k6:=by kernel_rfl
def gT:DF:=⟨.seq (af [bu 4 1]) <|
  .seq (af [aa 6 0,aO 7 6,al 8 10 7,ak 9 8,aq 10 .eql 9 0]) <|
  .cond (.tmp 10) (af [aa 11 0,aa 12 0,al 13 1 4,ak 14 13,aa 15 2,aO 16 11,al 17 9 16,(none,.op (.store 1 (.tmp 17) (.tmp 14))),aO 18 12,al 19 10 18,(none,.op (.store 1 (.tmp 19) (.tmp 15)))]) (.skip),
  [],20⟩
theorem ln:aC Tryz.prog 146 [4]=some gT:=by kernel_rfl
def fR:DF:=⟨.seq (af [bu 4 1,ax 6 0]) <|
  .seq (af [aa 8 0,aO 9 8,al 10 0 9,aG 11 4 10,al 12 0 4,ak 13 12,aB 14 145 [11,13],aa 7 14]) <|
  .seq (.block 0 (.seq (.region [] [⟨none,[aa 19 7,aq 20 .geq 19 0,aa 21 20]⟩,⟨(some (21,true)),[aa 22 2]⟩,⟨none,[bf 23 21 22,aa 18 23]⟩]) <|
  .cond (.tmp 18) (.seq (af [aa 24 7,((some 25),.op (.arith .sub (.val (.val (.int .i64 (-1)))) (.tmp 24))),aa 6 25]) <|
  .ret) (.seq (af [aa 27 7,aq 28 .geq 27 0,aa 26 28]) <|
  .cond (.tmp 26) (af [aa 29 0,aG 30 2 4,bS 31 146 [(.tmp 29),(.tmp 30),(.val (.val (.int .i64 6)))]]) (.seq (.region [] [⟨none,[aa 33 0,aO 34 33,al 35 0 34,aG 36 4 35,al 37 0 4,ak 38 37,aB 39 169 [36,38],aq 40 .geq 39 0,aa 41 40]⟩,⟨(some (41,false)),[al 42 0 4,ak 43 42,aB 44 217 [43]]⟩,⟨none,[aT 45 41 44,aa 46 45]⟩,⟨(some (46,false)),[al 47 0 4,ak 48 47,((some 49),.op (.fT .eql (.tmp 48) (.val (.val (.string ⟨#[101,114,114,111,114]⟩)))))]⟩,⟨none,[aT 50 46 49,aa 32 50]⟩]) <|
  .cond (.tmp 32) (.seq (af [aa 51 0,aG 52 2 4,aB 53 250 [51,52],aa 6 53]) <|
  .ret) (af [aa 15 0,aG 16 2 4,bS 17 146 [(.tmp 15),(.tmp 16),(.val (.val (.int .i64 6)))]]))))) <|
  .seq (af [ax 6 0]) <|
  .ret,
  [.tmp 6],54⟩
theorem j6:aC Tryz.prog 207 [4]=some fR:=by kernel_rfl
def qN:DC :=
  .seq (.seq (af [aa 6 5,al 7 1 2,ak 8 7,aH 9 8,aF 10 .lss 6 9]) <|
  .cond (.tmp 10) (.skip) (.exit 0)) <|
  .seq (.block 1 (.seq (af [al 13 1 2,ak 14 13,aa 15 5,aI 16 1 14 15,ak 17 16,aa 18 1,((some 19),.op (.fT .eql (.tmp 17) (.tmp 18)))]) <|
  .cond (.tmp 19) (.seq (af [aa 20 5,aa 4 20]) <|
  .ret) (.skip))) <|
  af [aa 11 5,aq 12 .add 11 1,aa 5 12]
def lC:DF:=⟨.seq (af [bu 2 0,ax 4 0]) <|
  .seq (.seq (af [ax 5 0]) <|
  .block 0 (.loop qN)) <|
  .seq (af [ax 4 (-1)]) <|
  .ret,
  [.tmp 4],21⟩
theorem o9:aC Tryz.prog 145 [2]=some lC:=by kernel_rfl
def p7:DC :=
  .seq (.seq (af [aa 6 5,al 7 0 2,ak 8 7,aH 9 8,aF 10 .lss 6 9]) <|
  .cond (.tmp 10) (.skip) (.exit 0)) <|
  .seq (.block 1 (.seq (af [al 13 0 2,ak 14 13,aa 15 5,aI 16 3 14 15,al 17 0 16,ak 18 17,aa 19 1,((some 20),.op (.fT .eql (.tmp 18) (.tmp 19)))]) <|
  .cond (.tmp 20) (.seq (af [aa 21 5,aa 4 21]) <|
  .ret) (.skip))) <|
  af [aa 11 5,aq 12 .add 11 1,aa 5 12]
def kR:DF:=⟨.seq (af [bu 2 0,ax 4 0]) <|
  .seq (.seq (af [ax 5 0]) <|
  .block 0 (.loop p7)) <|
  .seq (af [ax 4 (-1)]) <|
  .ret,
  [.tmp 4],22⟩
theorem oT:aC Tryz.prog 169 [2]=some kR:=by kernel_rfl
def fg:DF:=⟨.seq (af [bu 3 1,ax 4 0]) <|
  .seq (af [aa 6 0,aO 7 6,al 8 0 7,aG 9 4 8,al 10 0 3,ak 11 10,aB 12 169 [9,11],aa 5 12]) <|
  .seq (.seq (af [aa 13 5,aq 14 .geq 13 0]) <|
  .cond (.tmp 14) (.seq (af [aa 15 5,aa 4 15]) <|
  .ret) (.skip)) <|
  .seq (.seq (af [aa 16 0,aO 17 16,al 18 0 17,al 19 0 18,ak 20 19,aH 21 20,aq 22 .eql 21 24]) <|
  .cond (.tmp 22) (.seq (af [aa 23 0,aG 24 2 3,bS 25 146 [(.tmp 23),(.tmp 24),(.val (.val (.int .i64 5)))]]) <|
  .seq (af [ax 4 0]) <|
  .ret) (.skip)) <|
  .seq (.region [] [⟨none,[aa 26 0,aa 27 0,aO 28 27,al 29 0 28,al 30 0 29,ak 31 30,al 32 0 3,ak 33 32,((some 34),.op (.build [(.val (.string ⟨#[]⟩)),(.val (.int .i64 0)),(.val (.int .i64 0))] [(0,1,(.tmp 33))])),((some 35),.op (.ba 1 3 [(.val (.string ⟨#[]⟩)),(.val (.int .i64 0)),(.val (.int .i64 0))] [(0,(.tmp 34))])),((some 36),.op (.app 3 32 (.tmp 31) (.tmp 35))),aO 37 26,al 38 0 37,al 39 0 38,(none,.op (.store 1 (.tmp 39) (.tmp 36)))]⟩]) <|
  .seq (af [aa 40 0,aO 41 40,al 42 0 41,al 43 0 42,ak 44 43,aH 45 44,aq 46 .sub 45 1,aa 4 46]) <|
  .ret,
  [.tmp 4],47⟩
theorem js:aC Tryz.prog 250 [3]=some fg:=by kernel_rfl
def lh:DC :=
  .seq (.seq (.region [] [⟨none,[aa 60 7,al 61 1 5,ak 62 61,aH 63 62,aF 64 .lss 60 63,aa 65 64]⟩,⟨(some (65,true)),[aa 66 0,aO 67 66,al 68 10 67,ak 69 68,aq 70 .eql 69 0]⟩,⟨none,[bf 71 65 70]⟩]) <|
  .cond (.tmp 71) (.skip) (.exit 2)) <|
  .seq (.block 3 (af [aa 74 0,al 75 0 5,ak 76 75,al 77 1 5,ak 78 77,aa 79 7,aI 80 2 78 79,aG 81 2 80,aB 82 206 [74,76,81]])) <|
  af [aa 72 7,aq 73 .add 72 1,aa 7 73]
def ll:DC :=
  .seq (.seq (.region [] [⟨none,[aa 8 4,aa 9 1,aH 10 9,aF 11 .lss 8 10,aa 12 11]⟩,⟨(some (12,true)),[aa 13 0,aO 14 13,al 15 10 14,ak 16 15,aq 17 .eql 16 0]⟩,⟨none,[bf 18 12 17]⟩]) <|
  .cond (.tmp 18) (.skip) (.exit 0)) <|
  .seq (.block 1 (.seq (af [aa 21 1,aa 22 4,aI 23 2 21 22,aG 24 2 23,((some 5),.op (.alloc [(.val (.int .i64 0)),(.emp 1)])),(none,.op (.store 2 (.tmp 5) (.tmp 24)))]) <|
  .seq (.seq (.region [] [⟨none,[al 25 0 5,ak 26 25,aq 27 .lss 26 3,aa 28 27]⟩,⟨(some (28,false)),[al 29 0 5,ak 30 29,aq 31 .gtr 30 7]⟩,⟨none,[aT 32 28 31]⟩]) <|
  .cond (.tmp 32) (.seq (.region [] [⟨none,[((some 33),.op (.build [(.val (.string ⟨#[]⟩)),(.val (.complex .f64 0 0))] [])),((some 6),.op (.alloc [(.val (.string ⟨#[]⟩)),(.val (.complex .f64 0 0))])),(none,.op (.store 2 (.tmp 6) (.tmp 33)))]⟩]) <|
  .seq (.seq (af [al 34 1 5,ak 35 34,aH 36 35,aq 37 .gtr 36 0]) <|
  .cond (.tmp 37) (af [al 38 1 5,ak 39 38,((some 40),.op (.idx 2 (.tmp 39) (.val (.val (.int .i64 0))))),aG 41 2 40,(none,.op (.store 2 (.tmp 6) (.tmp 41)))]) (.skip)) <|
  .seq (af [aa 42 0,aG 43 2 6,bS 44 146 [(.tmp 42),(.tmp 43),(.val (.val (.int .i64 3)))]]) <|
  .ret) (.skip)) <|
  .seq (.seq (.region [] [⟨none,[al 45 0 5,ak 46 45,aq 47 .neq 46 3,aa 48 47]⟩,⟨(some (48,true)),[al 49 0 5,ak 50 49,aq 51 .neq 50 7]⟩,⟨none,[bf 52 48 51]⟩]) <|
  .cond (.tmp 52) (af [aa 53 0,aO 54 53,al 55 8 54,ak 56 55,aq 57 .add 56 1,aO 58 53,al 59 8 58,(none,.op (.store 1 (.tmp 59) (.tmp 57)))]) (.skip)) <|
  .seq (af [ax 7 0]) <|
  .block 2 (.loop lh))) <|
  af [aa 19 4,aq 20 .add 19 1,aa 4 20]
def gf:DF:=⟨.seq (af [ax 4 0]) <|
  .block 0 (.loop ll),
  [],83⟩
theorem kG:aC Tryz.prog 142 []=some gf:=by kernel_rfl
def fA:DF:=⟨.seq (af [bu 5 2]) <|
  .block 0 (.seq (.region [] [⟨none,[al 63 0 5,ak 64 63,aB 65 168 [64],bB 66 65,aa 67 66]⟩,⟨(some (67,false)),[aa 68 1,aq 69 .eql 68 7,aa 70 69]⟩,⟨(some (70,true)),[al 71 0 5,ak 72 71,aB 73 171 [72],bB 74 73]⟩,⟨(some (67,false)),[bf 75 70 74]⟩,⟨none,[aT 76 67 75,aa 62 76]⟩]) <|
  .cond (.tmp 62) (af [aa 77 0,aG 78 2 5,bS 79 146 [(.tmp 77),(.tmp 78),(.val (.val (.int .i64 3)))]]) (.seq (af [aa 81 1,aq 82 .eql 81 7,aa 80 82]) <|
  .cond (.tmp 80) (.seq (.seq (af [aa 83 0,aO 84 83,al 85 7 84,ak 86 85]) <|
  .cond (.tmp 86) (af [aa 87 0,aG 88 2 5,bS 89 146 [(.tmp 87),(.tmp 88),(.val (.val (.int .i64 7)))]]) (.skip)) <|
  af [aa 90 0,aa 91 0,aG 92 2 5,aO 93 90,al 94 5 93,(none,.op (.store 2 (.tmp 94) (.tmp 92))),aO 95 91,al 96 7 95,(none,.op (.store 1 (.tmp 96) (.val (.val (.bool true)))))]) (.seq (af [aa 98 1,aq 99 .eql 98 3,aa 97 99]) <|
  .cond (.tmp 97) (.seq (.seq (af [aa 100 0,aO 101 100,al 102 4 101,ak 103 102,al 104 0 5,ak 105 104,aB 106 249 [103,105]]) <|
  .cond (.tmp 106) (af [aa 107 0,aG 108 2 5,bS 109 146 [(.tmp 107),(.tmp 108),(.val (.val (.int .i64 7)))]]) (.skip)) <|
  .seq (.region [] [⟨none,[aa 110 0,aa 111 0,aO 112 111,al 113 4 112,ak 114 113,al 115 0 5,ak 116 115,((some 117),.op (.ba 1 1 [(.val (.string ⟨#[]⟩))] [(0,(.tmp 116))])),((some 118),.op (.app 1 16 (.tmp 114) (.tmp 117))),aO 119 110,al 120 4 119,(none,.op (.store 1 (.tmp 120) (.tmp 118)))]⟩]) <|
  af [aa 121 0,aG 122 2 5,aB 123 250 [121,122]]) (.seq (af [aa 7 0,aO 8 7,al 9 0 8,aG 10 4 9,al 11 0 5,ak 12 11,aB 13 169 [10,12],aa 6 13]) <|
  .seq (.seq (.region [] [⟨none,[aa 14 6,aq 15 .geq 14 0,aa 16 15]⟩,⟨(some (16,true)),[aa 17 0,aO 18 17,al 19 0 18,al 20 0 19,ak 21 20,aa 22 6,aI 23 3 21 22,al 24 1 23,ak 25 24,aq 26 .gtr 25 0]⟩,⟨none,[bf 27 16 26]⟩]) <|
  .cond (.tmp 27) (.seq (af [aa 28 0,aG 29 2 5,bS 30 146 [(.tmp 28),(.tmp 29),(.val (.val (.int .i64 7)))]]) <|
  .ret) (.skip)) <|
  .seq (af [aa 31 0,aG 32 2 5,aB 33 250 [31,32],aa 6 33]) <|
  .seq (af [aa 34 0,aO 35 34,al 36 10 35,ak 37 36,aq 38 .eql 37 0]) <|
  .cond (.tmp 38) (af [aa 39 0,aO 40 39,al 41 0 40,al 42 0 41,ak 43 42,aa 44 6,aa 45 0,aO 46 45,al 47 0 46,al 48 0 47,ak 49 48,aa 50 6,aa 51 0,aO 52 51,al 53 8 52,ak 54 53,aa 55 1,aq 56 .sub 55 4,aq 57 .add 56 1,aI 58 3 43 44,al 59 1 58,(none,.op (.store 1 (.tmp 59) (.tmp 54))),aI 60 3 49 50,al 61 2 60,(none,.op (.store 1 (.tmp 61) (.tmp 57)))]) (.skip))))),
  [],124⟩
theorem jy:aC Tryz.prog 206 [5]=some fA:=by kernel_rfl
def qC:DC :=
  .seq (.seq (af [aa 6 5,aa 7 0,aH 8 7,aF 9 .lss 6 8]) <|
  .cond (.tmp 9) (.skip) (.exit 0)) <|
  .seq (.block 1 (.seq (af [aa 12 0,aa 13 5,aI 14 1 12 13,ak 15 14,aa 16 1,((some 17),.op (.fT .eql (.tmp 15) (.tmp 16)))]) <|
  .cond (.tmp 17) (.seq (af [aM 4 true]) <|
  .ret) (.skip))) <|
  af [aa 10 5,aq 11 .add 10 1,aa 5 11]
def lz:DF:=⟨.seq (af [aM 4 false]) <|
  .seq (.seq (af [ax 5 0]) <|
  .block 0 (.loop qC)) <|
  .seq (af [aM 4 false]) <|
  .ret,
  [.tmp 4],18⟩
theorem o8:aC Tryz.prog 249 []=some lz:=by kernel_rfl
def lx:DC :=
  .seq (.seq (.region [] [⟨none,[aa 6 4,aa 7 1,aH 8 7,aF 9 .lss 6 8,aa 10 9]⟩,⟨(some (10,true)),[aa 11 0,aO 12 11,al 13 10 12,ak 14 13,aq 15 .eql 14 0]⟩,⟨none,[bf 16 10 15]⟩]) <|
  .cond (.tmp 16) (.skip) (.exit 0)) <|
  .seq (.block 1 (.seq (.region [] [⟨none,[aa 19 1,aa 20 4,aI 21 5 19 20,al 22 0 21,aG 23 2 22,((some 5),.op (.alloc [(.val (.string ⟨#[]⟩)),(.val (.complex .f64 0 0))])),(none,.op (.store 2 (.tmp 5) (.tmp 23)))]⟩]) <|
  .block 2 (.seq (af [al 38 0 5,ak 39 38,aB 40 171 [39],bB 41 40,aa 37 41]) <|
  .cond (.tmp 37) (af [aa 42 0,aG 43 2 5,bS 44 146 [(.tmp 42),(.tmp 43),(.val (.val (.int .i64 3)))]]) (.seq (af [aa 46 0,aO 47 46,al 48 0 47,aG 49 4 48,al 50 0 5,ak 51 50,aB 52 169 [49,51],aq 53 .geq 52 0,aa 45 53]) <|
  .cond (.tmp 45) (af [aa 54 0,aG 55 2 5,bS 56 146 [(.tmp 54),(.tmp 55),(.val (.val (.int .i64 7)))]]) (.seq (af [aa 58 0,aO 59 58,al 60 0 59,aG 61 4 60,al 62 0 5,ak 63 62,aB 64 145 [61,63],aq 65 .geq 64 0,aa 57 65]) <|
  .cond (.tmp 57) (.skip) (.seq (af [aa 67 0,aO 68 67,al 69 0 68,al 70 1 69,ak 71 70,aH 72 71,aq 73 .eql 72 16,aa 66 73]) <|
  .cond (.tmp 66) (af [aa 74 0,aG 75 2 5,bS 76 146 [(.tmp 74),(.tmp 75),(.val (.val (.int .i64 5)))]]) (.region [] [⟨none,[aa 24 0,aa 25 0,aO 26 25,al 27 0 26,al 28 1 27,ak 29 28,al 30 0 5,ak 31 30,((some 32),.op (.ba 1 1 [(.val (.string ⟨#[]⟩))] [(0,(.tmp 31))])),((some 33),.op (.app 1 16 (.tmp 29) (.tmp 32))),aO 34 24,al 35 0 34,al 36 1 35,(none,.op (.store 1 (.tmp 36) (.tmp 33)))]⟩]))))))) <|
  af [aa 17 4,aq 18 .add 17 1,aa 4 18]
def ga:DF:=⟨.seq (af [ax 4 0]) <|
  .block 0 (.loop lx),
  [],77⟩
theorem kX:aC Tryz.prog 143 []=some ga:=by kernel_rfl
def wa:List (FuncId × DF):=[(52,kE),(98,jU),(140,jf),(198,kP),(239,lB),(240,kL),(241,k9),(242,jc),(260,jd),(199,mB),(243,my),(200,lG),(219,jL),(218,jE),(217,iF),(244,iv),(245,iB),(246,ld),(141,mf),(204,fU),(203,fu),(247,fS),(248,gU),(202,fQ),(205,fW),(201,fw),(99,jK),(144,gS),(168,jM),(171,k6),(146,gT),(207,fR),(145,lC),(169,kR),(250,fg),(142,gf),(206,fA),(249,lz),(143,ga)]
theorem Cx:px Tryz.prog wa:=by
  intro p hp
  simp only[wa,List.mem_cons,List.not_mem_nil,or_false] at hp
  rcases hp with rfl | rfl | rfl | rfl | rfl | rfl | rfl | rfl | rfl | rfl | rfl | rfl | rfl | rfl | rfl | rfl | rfl | rfl | rfl | rfl | rfl | rfl | rfl | rfl | rfl | rfl | rfl | rfl | rfl | rfl | rfl | rfl | rfl | rfl | rfl | rfl | rfl | rfl | rfl
  · exact ⟨_,oq⟩
  · exact ⟨_,nR⟩
  · exact ⟨_,mQ⟩
  · exact ⟨_,oK⟩
  · exact ⟨_,py⟩
  · exact ⟨_,o3⟩
  · exact ⟨_,oe⟩
  · exact ⟨_,mP⟩
  · exact ⟨_,mN⟩
  · exact ⟨_,qF⟩
  · exact ⟨_,qB⟩
  · exact ⟨_,pv⟩
  · exact ⟨_,nM⟩
  · exact ⟨_,oc⟩
  · exact ⟨_,mc⟩
  · exact ⟨_,mI⟩
  · exact ⟨_,mD⟩
  · exact ⟨_,oA⟩
  · exact ⟨_,qH⟩
  · exact ⟨_,kj⟩
  · exact ⟨_,jw⟩
  · exact ⟨_,km⟩
  · exact ⟨_,lr⟩
  · exact ⟨_,jX⟩
  · exact ⟨_,jY⟩
  · exact ⟨_,jA⟩
  · exact ⟨_,nY⟩
  · exact ⟨_,lj⟩
  · exact ⟨_,nD⟩
  · exact ⟨_,ou⟩
  · exact ⟨_,ln⟩
  · exact ⟨_,j6⟩
  · exact ⟨_,o9⟩
  · exact ⟨_,oT⟩
  · exact ⟨_,js⟩
  · exact ⟨_,kG⟩
  · exact ⟨_,jy⟩
  · exact ⟨_,o8⟩
  · exact ⟨_,kX⟩
def tn (l:List Int):V:=.aS (l.map fun x=>[gy x])
theorem C8 (l:List Int):Tree (tn l):=eC _ _ fun x _ v hv=>by simp at hv; subst hv; exact .val _
def l5 (g:aE):V:=.bc [.agg (aw g),.val (.complex .f64 0 0),gi 0]
theorem AL {l:List Int} {g:aE} (h:sj Tryz.prog wa (fun _ _ _=>none) 52 [tn l]=some (l5 g)):cF Tryz.prog 52 [tn l] (l5 g) :=
  pS mixed Cx (FY _) (by intro v hv; simp at hv; subst hv; exact C8 _) h
abbrev eD (κ:Type):=List (κ × V × Nat)
def cO {κ:Type} (key:κ→Value) (m:eD κ):List (V × V × Nat):=m.map fun x=>(.val (key x.1),x.2.1,x.2.2)
def getM {κ:Type} [BEq κ] (m:eD κ) (k:κ):Option V:=(m.find? fun x=>k == x.1).map (·.2.1)
def eY {κ:Type} [BEq κ] (k:κ) (v:V) (c:Nat):eD κ→eD κ
  | []=>[(k,v,c)]
  | x :: r=>if k == x.1 then (k,v,x.2.2) :: r else x :: eY k v c r
structure vt {κ:Type} [BEq κ] (P:Program) (kt:TypeId) (key:κ→Value):Prop where
  ty:∃ d,P.underlying kt=some d∧(∀ a b,Instr.sameNow d (key a) (key b)=some (a == b))∧(∀ a e,aX P (Instr.checkKey e 10000 kt (key a))=some ())
  bits:∀ a b,(a == b)=true→Instr.sameBits 10000 (key b) (key a)=true
theorem ov {κ:Type} (key:κ→Value):∀ m:eD κ,fp (cO key m)=some (m.map fun x=>{ key:=key x.1,val:=.nilFunc,born:=x.2.2 })
  | []=>rfl
  | x :: r=>by
    have:=ov key r
    simp only[cO] at this
    simp[cO,fp,bH,this]
def lk {κ:Type} [BEq κ] (k:κ):eD κ→Option Nat
  | []=>none
  | x :: r=>if k == x.1 then some 0 else (lk k r).map (·+1)
theorem sN {κ:Type} [BEq κ] {key:κ→Value} {d:TypeDesc} (h:∀ a b,Instr.sameNow d (key a) (key b)=some (a == b)) (k:κ):∀ (m:eD κ) (i:Nat),
    Instr.findNow d (key k) (m.map fun x=>{ key:=key x.1,val:=.nilFunc,born:=x.2.2 }) i=some ((lk k m).map fun j=>(i+j,.nilFunc))
  | [],i=>rfl
  | x :: r,i=>by
    simp only[List.map_cons,Instr.findNow,h,lk]
    cases hk:k == x.1 with
    | true=>simp
    | false =>
      simp only[sN h k r (i+1),Bool.false_eq_true,if_false,Option.map_map]
      congr 2
      funext j
      simp only[Function.comp]
      congr 1
      omega
theorem q8 {κ:Type} [BEq κ] {P:Program} {kt:TypeId} {key:κ→Value} (h:vt P kt key) (k:κ) (e:Bool) (m:eD κ):kB P kt (.val (key k)) e (cO key m)=some (lk k m):=by
  obtain ⟨d,hd,hn,hc⟩:=h.ty
  have hu:aX P (underlying kt)=some d:=cG hd
  simp only[kB,bH,ov,aU,hc,Option.bind_some]
  have:aX P (Instr.findKey kt (key k) (m.map fun x=>{ key:=key x.1,val:=.nilFunc,born:=x.2.2 }))=some ((lk k m).map fun j=>(0+j,.nilFunc)):=by
    unfold Instr.findKey
    rw[aU,hu,Option.bind_some,sN hn]
    rfl
  rw[this]
  cases lk k m with
  | none=>rfl
  | some j=>simp
theorem Co {P:Program} {kt:TypeId} {d:TypeDesc} (h:P.underlying kt=some d) (hd:match d with | .int _ | .string | .bool=>True | _=>False) (e:Bool) (n:Nat) (v:Value):aX P (Instr.checkKey e (n+1) kt v)=some ():=by
  unfold Instr.checkKey
  rw[aU,cG h,Option.bind_some]
  cases d <;> first | exact hd.elim | rfl
theorem k7 {P:Program} {kt:TypeId} (k:IntKind) (h:P.underlying kt=some (.int k)):vt P kt (Value.int k) where
  ty:=⟨_,h,fun a b=>by simp[Instr.sameNow],fun a e=>Co h trivial e 9999 _⟩
  bits:=fun a b hab=>by
    have:a=b:=by simpa using hab
    subst this
    simp[Instr.sameBits]
theorem pD {κ:Type} [BEq κ] {key:κ→Value} (k:κ):∀ m:eD κ,match lk k m with
    | some i=>∃ x,m[i]?=some x∧(k == x.1)=true∧getM m k=some x.2.1∧(cO key m)[i]?=some (.val (key x.1),x.2.1,x.2.2)∧∀ v c,(cO key m).set i (.val (key k),v,x.2.2)=cO key (eY k v c m)∧(eY k v c m).length=m.length
    | none=>getM m k=none∧∀ v c,cO key m ++ [(.val (key k),v,c)]=cO key (eY k v c m)∧(eY k v c m).length=m.length+1
  | []=>⟨rfl,fun v c=>⟨rfl,rfl⟩⟩
  | x :: r=>by
    have ih:=pD (key:=key) k r
    simp only[lk]
    cases hk:k == x.1 with
    | true=>exact ⟨x,rfl,hk,by simp[getM,hk],rfl,fun v c=>by simp[eY,hk,cO]⟩
    | false =>
      simp only[Bool.false_eq_true,if_false]
      cases hi:lk k r with
      | some i =>
        rw[hi] at ih
        obtain ⟨y,h1,h2,h3,h4,h5⟩:=ih
        refine ⟨y,by simpa using h1,h2,by simpa [getM,hk] using h3,by simpa [cO] using h4,fun v c=>?_⟩
        obtain ⟨g1,g2⟩:=h5 v c
        exact ⟨by simp only[cO] at g1 ⊢; simp[eY,hk,g1],by simp[eY,hk,g2]⟩
      | none =>
        rw[hi] at ih
        refine ⟨by simpa [getM,hk] using ih.1,fun v c=>?_⟩
        obtain ⟨g1,g2⟩:=ih.2 v c
        exact ⟨by simp only[cO] at g1 ⊢; simp[eY,hk,g1],by simp[eY,hk,g2]⟩
section
variable {P:Program} {T:Env} {H:View} {κ:Type} [BEq κ] {key:κ→Value} {kt et t ty:TypeId}
theorem xU {K:V→View→Prop} {w:bP (T,H,K)} {x i:Operand} {z:V} {id c:Nat} {m:eD κ} {k:κ} (hm:dd P t=some (kt,et)) (hz:zeroV P et=some z) (hk:vt P kt key)
    (hx:ev T x=.mp id) (hi:ev T i=.val (key k)) (hH:H id=.map (cO key m) c) (h:K ((getM m k).getD z) H):so P (.lookup t x i false) ty T H K w:=by
  intro n _
  have hf:=q8 hk k (cO key m).isEmpty m
  have hg:=pD (key:=key) k m
  refine ⟨(getM m k).getD z,.none,[id],?_,h⟩
  simp only[sI,bm,oper,de,hm,hz,hx,hi,hH,hf]
  cases hj:lk k m with
  | some j =>
    rw[hj] at hg
    obtain ⟨y,h1,h2,h3,h4,_⟩:=hg
    simp[h4,h3]
  | none =>
    rw[hj] at hg
    simp[hg.1]
theorem Hq {K:V→View→Prop} {w:bP (T,H,K)} {x i:Operand} {z:V} {id c:Nat} {m:eD κ} {k:κ} (hm:dd P t=some (kt,et)) (hz:zeroV P et=some z) (hk:vt P kt key)
    (hx:ev T x=.mp id) (hi:ev T i=.val (key k)) (hH:H id=.map (cO key m) c) (h:K (.bc [(getM m k).getD z,.val (.bool (getM m k).isSome)]) H):so P (.lookup t x i true) ty T H K w:=by
  intro n _
  have hf:=q8 hk k (cO key m).isEmpty m
  have hg:=pD (key:=key) k m
  refine ⟨_,.none,[id],?_,h⟩
  simp only[sI,bm,oper,de,hm,hz,hx,hi,hH,hf]
  cases hj:lk k m with
  | some j =>
    rw[hj] at hg
    obtain ⟨y,h1,h2,h3,h4,_⟩:=hg
    simp[h4,h3]
  | none =>
    rw[hj] at hg
    simp[hg.1]
theorem Fi (hk:vt P kt key) (k k':κ) (h:(k == k')=true):sameKey (.val (key k')) (.val (key k))=true:=by
  simp only[sameKey,bH]; exact hk.bits _ _ h
theorem zx {K:V→View→Prop} {w:bP (T,H,K)} {x i y:Operand} {id c:Nat} {m:eD κ} {k:κ} {v:V} (hm:dd P t=some (kt,et)) (hk:vt P kt key)
    (hx:ev T x=.mp id) (hi:ev T i=.val (key k)) (hy:ev T y=v) (hH:H id=.map (cO key m) c)
    (h:∀ c',K .any (H.set id (.map (cO key (eY k v c m)) c'))):so P (.mapUpdate t x i y) ty T H K w:=by
  intro n _
  have hf:=q8 hk k false m
  have hg:=pD (key:=key) k m
  cases hj:lk k m with
  | some j =>
    rw[hj] at hg hf
    obtain ⟨z,h1,h2,h3,h4,h5⟩:=hg
    refine ⟨.any,.dH id (.map ((cO key m).set j (.val (key k),v,z.2.2)) c),[id],?_,?_⟩
    · simp only[sI,bm,oper,dn,hm,hx,hi,hy,hH,hf,h4,Fi hk k z.1 h2,if_true]
    · rw[(h5 v c).1]; exact h c
  | none =>
    rw[hj] at hg hf
    refine ⟨.any,.dH id (.map (cO key m ++ [(.val (key k),v,c)]) (c+1)),[id],?_,?_⟩
    · simp only[sI,bm,oper,dn,hm,hx,hi,hy,hH,hf]
    · rw[(hg.2 v c).1]; exact h (c+1)
omit [BEq κ] in
theorem GQ {K:V→View→Prop} {w:bP (T,H,K)} {x:Operand} {id c:Nat} {m:eD κ} (hm:dd P t=some (kt,et)) (hx:ev T x=.mp id) (hH:H id=.map (cO key m) c) (h:K (an m.length) H) :
    so P (.call { callee:=.builtin .len,args:=#[x],argTypes:=#[t] }) ty T H K w:=by
  intro n _
  have hu:∃ a b,P.underlying t=some (.map a b):=by
    unfold dd at hm
    split at hm
    · rename_i a b h1; exact ⟨a,b,h1⟩
    · simp at hm
  obtain ⟨a,b,hu⟩:=hu
  refine ⟨an m.length,.none,[id],?_,h⟩
  have hl:(cO key m).length=m.length:=by simp[cO]
  simp only[sI,bm,oper,List.size_toArray,List.length_cons,List.length_nil,nO,hu,hx,hH,hl]
  simp[hu,hx,hH,hl,nO]
end
theorem EZ {κ:Type} [BEq κ] [LawfulBEq κ] (k k':κ) (v:V) (c:Nat):∀ m:eD κ,getM (eY k v c m) k'=if k' == k then some v else getM m k'
  | []=>by
    by_cases h:k'=k
    · subst h; simp[eY,getM]
    · simp[eY,getM,h]
  | x :: r=>by
    have ih:=EZ k k' v c r
    simp only[eY]
    by_cases hk:k=x.1
    · by_cases h:k'=k
      · subst h; simp[hk,getM]
      · have:¬ k'=x.1:=fun e=>h (e.trans hk.symm)
        simp[hk,getM,this]
    · simp only[beq_iff_eq,hk,if_false]
      by_cases h:k'=x.1
      · have:¬ k'=k:=fun e=>hk (e.symm.trans h)
        simp[getM,h]
        subst h
        simp[this]
      · simp only[getM,List.find?_cons,beq_eq_false_iff_ne.2 h] at ih ⊢
        exact ih
def cd {κ β:Type} [BEq κ] (a:List (κ × β)) (k:κ):Option β:=(a.find? fun x=>k == x.1).map (·.2)
def fL {κ β:Type} [BEq κ] (k:κ) (v:β):List (κ × β)→List (κ × β)
  | []=>[(k,v)]
  | x :: r=>if k == x.1 then (k,v) :: r else x :: fL k v r
def iN {κ β:Type} (encV:β→V):List (κ × β)→eD κ→Prop
  | [],[]=>True
  | x :: a,y :: m=>y.1=x.1∧y.2.1=encV x.2∧iN encV a m
  | _,_=>False
theorem iN.get {κ β:Type} [BEq κ] {encV:β→V} (k:κ):∀ {a:List (κ × β)} {m:eD κ},iN encV a m→getM m k=(cd a k).map encV
  | [],[],_=>rfl
  | x :: a,y :: m,⟨h1,h2,h3⟩=>by
    have ih:=iN.get k h3
    simp only[getM,cd,List.find?_cons,h1] at ih ⊢
    cases k == x.1 with
    | true=>simp[h2]
    | false=>simpa using ih
theorem iN.put {κ β:Type} [BEq κ] {encV:β→V} (k:κ) (v:β) (c:Nat):∀ {a:List (κ × β)} {m:eD κ},iN encV a m→iN encV (fL k v a) (eY k (encV v) c m)
  | [],[],_=>⟨rfl,rfl,trivial⟩
  | x :: a,y :: m,⟨h1,h2,h3⟩=>by
    have ih:=iN.put k v c h3
    simp only[fL,eY,h1]
    cases k == x.1 with
    | true=>exact ⟨rfl,rfl,h3⟩
    | false=>exact ⟨h1,h2,ih⟩
theorem iN.len {κ β:Type} {encV:β→V} : ∀ {a:List (κ × β)} {m:eD κ},iN encV a m→m.length=a.length
  | [],[],_=>rfl
  | x :: a,y :: m,⟨_,_,h3⟩=>by simp[iN.len h3]
theorem zh {κ β:Type} [BEq κ] [LawfulBEq κ] (k k':κ) (v:β):∀ a:List (κ × β),cd (fL k v a) k'=if k' == k then some v else cd a k'
  | []=>by
    by_cases h:k'=k
    · subst h; simp[fL,cd]
    · simp[fL,cd,h]
  | x :: r=>by
    have ih:=zh k k' v r
    simp only[fL]
    by_cases hk:k=x.1
    · by_cases h:k'=k
      · subst h; simp[hk,cd]
      · have:¬ k'=x.1:=fun e=>h (e.trans hk.symm)
        simp[hk,cd,this]
    · simp only[beq_iff_eq,hk,if_false]
      by_cases h:k'=x.1
      · have:¬ k'=k:=fun e=>hk (e.symm.trans h)
        simp[cd,h]
        subst h
        simp[this]
      · simp only[cd,List.find?_cons,beq_eq_false_iff_ne.2 h] at ih ⊢
        exact ih
def A0 (n k:Nat) (J:Nat→Env→View→Prop) (T:Env) (H:View):Prop:=∃ i,i+k=n∧J i T H
theorem bJ.up {P:Program} {T:Env} {H:View} {c:SC} {Q:Exit→Env→View→Prop} {v:bP (T,H,Q)} (n:Nat) (J:Nat→Env→View→Prop) (h0:J 0 T H)
    (hs:∀ i k T H,i+k=n→J i T H→wS P c T H fun e T' H'=>sU e (∃ k',k' < k∧A0 n k' J T' H') (Q e T' H')):bJ P c T H Q v :=
  bJ.intro (fun k T H=>A0 n k J T H) n ⟨0,by omega,h0⟩ fun k T H ⟨i,hk,hj⟩=>hs i k T H hk hj
theorem ca {n i k:Nat} {J:Nat→Env→View→Prop} {T:Env} {H:View} (hk:i+k=n) (hlt:i < n) (hJ:J (i+1) T H):∃ k',k' < k∧A0 n k' J T H:=⟨k - 1,by omega,i+1,by omega,hJ⟩
end Gv
