/-
  Part 13 of the proof: what the machine does and what the functions answer.
  Conditions: those that each lemma names.
-/
import Derived.Test.YtkkdjpnkhhlnpaaGreatSGzA2L
set_option linter.unusedSimpArgs false
set_option linter.unusedVariables false
set_option maxRecDepth 100000
namespace Gv
open Go Go.Proofs
def CO:List Int:=[37,108,101,102,116,32,39,43,39,32,37,37,32,101,32,58,32,101,32,39,43,39,32,101,32,124,32,39,110,39,32,59]
def gZ:aE:=⟨[⟨⟨#[39,43,39]⟩,1,1⟩,⟨⟨#[39,110,39]⟩,0,0⟩],[⟨#[101]⟩],[⟨0,[-1,0,-1],0⟩,⟨0,[1],1⟩],0⟩
def jR:DF:=⟨.seq (af [aM 0 false]) <|
  .seq (af [((some 17),.op (.ba 32 1 [(.val (.int .u8 0))] [(0,(.val (.val (.int .u8 37)))),(1,(.val (.val (.int .u8 108)))),(2,(.val (.val (.int .u8 101)))),(3,(.val (.val (.int .u8 102)))),(4,(.val (.val (.int .u8 116)))),(5,(.val (.val (.int .u8 32)))),(6,(.val (.val (.int .u8 39)))),(7,(.val (.val (.int .u8 43)))),(8,(.val (.val (.int .u8 39)))),(9,(.val (.val (.int .u8 32)))),(10,(.val (.val (.int .u8 37)))),(11,(.val (.val (.int .u8 37)))),(12,(.val (.val (.int .u8 32)))),(13,(.val (.val (.int .u8 101)))),(14,(.val (.val (.int .u8 32)))),(15,(.val (.val (.int .u8 58)))),(16,(.val (.val (.int .u8 32)))),(17,(.val (.val (.int .u8 101)))),(18,(.val (.val (.int .u8 32)))),(19,(.val (.val (.int .u8 39)))),(20,(.val (.val (.int .u8 43)))),(21,(.val (.val (.int .u8 39)))),(22,(.val (.val (.int .u8 32)))),(23,(.val (.val (.int .u8 101)))),(24,(.val (.val (.int .u8 32)))),(25,(.val (.val (.int .u8 124)))),(26,(.val (.val (.int .u8 32)))),(27,(.val (.val (.int .u8 39)))),(28,(.val (.val (.int .u8 110)))),(29,(.val (.val (.int .u8 39)))),(30,(.val (.val (.int .u8 32)))),(31,(.val (.val (.int .u8 59))))])),((some 18),.op (.old (.convert 96 96 (.tmp 17)) 96)),aB 19 52 [18],aa 16 19,bA 20 0 16,bA 21 1 16,bA 22 2 16,((some 1),.op (.alloc [(.emp 1),(.emp 1),(.emp 1),(.val (.int .i64 0))])),(none,.op (.store 4 (.tmp 1) (.tmp 20))),aa 2 21,aa 3 22]) <|
  .seq (af [aG 24 4 1,aB 25 41 [24],aa 23 25,bA 26 0 23,bA 27 1 23,bA 28 2 23,((some 4),.op (.alloc [(.emp 1),(.emp 1)])),(none,.op (.store 2 (.tmp 4) (.tmp 26))),aa 5 27,aa 6 28]) <|
  .seq (af [((some 30),.op (.ba 16 1 [(.val (.int .u8 0))] [(0,(.val (.val (.int .u8 37)))),(1,(.val (.val (.int .u8 37)))),(2,(.val (.val (.int .u8 32)))),(3,(.val (.val (.int .u8 115)))),(4,(.val (.val (.int .u8 32)))),(5,(.val (.val (.int .u8 58)))),(6,(.val (.val (.int .u8 32)))),(7,(.val (.val (.int .u8 39)))),(8,(.val (.val (.int .u8 97)))),(9,(.val (.val (.int .u8 39)))),(10,(.val (.val (.int .u8 32)))),(11,(.val (.val (.int .u8 115)))),(12,(.val (.val (.int .u8 32)))),(13,(.val (.val (.int .u8 124)))),(14,(.val (.val (.int .u8 32)))),(15,(.val (.val (.int .u8 59))))])),((some 31),.op (.old (.convert 96 96 (.tmp 30)) 96)),aB 32 52 [31],aa 29 32,bA 33 0 29,bA 34 1 29,bA 35 2 29,((some 7),.op (.alloc [(.emp 1),(.emp 1),(.emp 1),(.val (.int .i64 0))])),(none,.op (.store 4 (.tmp 7) (.tmp 33))),aa 8 34,aa 9 35]) <|
  .seq (af [aG 37 4 7,aB 38 41 [37],aa 36 38,bA 39 0 36,bA 40 1 36,bA 41 2 36,((some 10),.op (.alloc [(.emp 1),(.emp 1)])),(none,.op (.store 2 (.tmp 10) (.tmp 39))),aa 11 40,aa 12 41]) <|
  .seq (af [((some 43),.op (.build [(.emp 1),(.emp 1),(.emp 1),(.val (.int .i64 0))] [])),aB 44 41 [43],aa 42 44,bA 45 0 42,bA 46 1 42,bA 47 2 42,((some 13),.op (.alloc [(.emp 1),(.emp 1)])),(none,.op (.store 2 (.tmp 13) (.tmp 45))),aa 14 46,aa 15 47]) <|
  .seq (.seq (.region [] [⟨none,[aa 48 6,aq 49 .neq 48 0,aa 50 49]⟩,⟨(some (50,false)),[aa 51 12,aq 52 .neq 51 0]⟩,⟨none,[aT 53 50 52,aa 54 53]⟩,⟨(some (54,false)),[aa 55 15,aq 56 .neq 55 1]⟩,⟨none,[aT 57 54 56,aa 58 57]⟩,⟨(some (58,false)),[aa 59 5,aH 60 59,aq 61 .neq 60 1]⟩,⟨none,[aT 62 58 61,aa 63 62]⟩,⟨(some (63,false)),[aa 64 11,aH 65 64,aq 66 .neq 65 0]⟩,⟨none,[aT 67 63 66,aa 68 67]⟩,⟨(some (68,false)),[al 69 0 4,ak 70 69,aH 71 70,aq 72 .neq 71 5]⟩,⟨none,[aT 73 68 72,aa 74 73]⟩,⟨(some (74,false)),[al 75 0 10,ak 76 75,aH 77 76,aq 78 .neq 77 4]⟩,⟨none,[aT 79 74 78,aa 80 79]⟩,⟨(some (80,false)),[al 81 0 10,ak 82 81,((some 83),.op (.idx 1 (.tmp 82) (.val (.val (.int .i64 2))))),ak 84 83,aH 85 84,aq 86 .neq 85 2]⟩,⟨none,[aT 87 80 86,aa 88 87]⟩,⟨(some (88,false)),[al 89 1 10,ak 90 89,((some 91),.op (.idx 1 (.tmp 90) (.val (.val (.int .i64 0))))),ak 92 91,aH 93 92,aq 94 .neq 93 1]⟩,⟨none,[aT 95 88 94]⟩]) <|
  .cond (.tmp 95) (.seq (af [aM 0 false]) <|
  .ret) (.skip)) <|
  .seq (.region [] [⟨none,[aa 96 5,((some 97),.op (.idx 5 (.tmp 96) (.val (.val (.int .i64 0))))),aG 98 5 97,((some 99),.op (.build [(.val (.int .i64 0)),(.val (.int .i64 0)),(.val (.int .i64 0)),(.val (.int .i64 0)),(.val (.int .i64 0))] [(0,1,(.val (.val (.int .i64 4)))),(1,1,(.val (.val (.int .i64 0)))),(2,1,(.val (.val (.int .i64 1)))),(3,1,(.val (.val (.int .i64 0)))),(4,1,(.val (.val (.int .i64 (-1)))))])),((some 100),.op (.old (.binOp .eql 92 (.tmp 98) (.tmp 99) 92) 4)),aa 101 100]⟩,⟨(some (101,true)),[al 102 0 10,ak 103 102,((some 104),.op (.idx 1 (.tmp 103) (.val (.val (.int .i64 2))))),ak 105 104,((some 106),.op (.idx 2 (.tmp 105) (.val (.val (.int .i64 1))))),al 107 0 106,ak 108 107,aq 109 .eql 108 3]⟩,⟨none,[bf 110 101 109,aa 111 110]⟩,⟨(some (111,true)),[al 112 0 10,ak 113 112,((some 114),.op (.idx 1 (.tmp 113) (.val (.val (.int .i64 0))))),ak 115 114,((some 116),.op (.idx 2 (.tmp 115) (.val (.val (.int .i64 1))))),aG 117 2 116,((some 118),.op (.build [(.val (.int .i64 0)),(.val (.int .i64 0))] [(0,1,(.val (.val (.int .i64 2)))),(1,1,(.val (.val (.int .i64 1))))])),((some 119),.op (.old (.binOp .eql 89 (.tmp 117) (.tmp 118) 89) 4))]⟩,⟨none,[bf 120 111 119,aa 121 120]⟩,⟨(some (121,true)),[al 122 1 10,ak 123 122,((some 124),.op (.idx 1 (.tmp 123) (.val (.val (.int .i64 0))))),ak 125 124,((some 126),.op (.idx 1 (.tmp 125) (.val (.val (.int .i64 0))))),ak 127 126,aq 128 .eql 127 2]⟩,⟨none,[bf 129 121 128,aa 130 129]⟩,⟨(some (130,true)),[aG 131 4 7,aG 132 2 10,aB 133 46 [131,132]]⟩,⟨none,[bf 134 130 133,aa 135 134]⟩,⟨(some (135,true)),[aG 136 4 7,aG 137 2 4,aB 138 46 [136,137],bB 139 138]⟩,⟨none,[bf 140 135 139,aa 141 140]⟩,⟨(some (141,true)),[aG 142 4 1,bS 143 48 [(.tmp 142),(.val (.val (.int .i64 0))),(.val (.val (.int .i64 0)))],aq 144 .eql 143 1]⟩,⟨none,[bf 145 141 144,aa 146 145]⟩,⟨(some (146,true)),[aG 147 4 1,bS 148 48 [(.tmp 147),(.val (.val (.int .i64 1))),(.val (.val (.int .i64 0)))],aq 149 .eql 148 4]⟩,⟨none,[bf 150 146 149,aa 151 150]⟩,⟨(some (151,true)),[aG 152 4 1,bS 153 48 [(.tmp 152),(.val (.val (.int .i64 2))),(.val (.val (.int .i64 0)))],aq 154 .eql 153 0]⟩,⟨none,[bf 155 151 154,aa 0 155]⟩]) <|
  .ret,
  [.tmp 0],156⟩
theorem nI:aC Tryz.prog 39 []=some jR:=by kernel_rfl
def uH:DC :=
  .seq (af [aF 35 .lss 34 33]) <|
  .seq (.cond (.tmp 35) (.skip) (.exit 0)) <|
  .seq (.block 1 (.seq (af [aa 36 34,aI 37 2 32 34,aG 38 2 37,((some 10),.op (.alloc [(.emp 1),(.emp 1)])),aa 9 36,(none,.op (.store 2 (.tmp 10) (.tmp 38)))]) <|
  af [aa 39 8,aa 40 9,aG 41 2 10,aa 42 7,aa 43 9,aI 44 1 42 43,ak 45 44,aB 46 85 [39,40,41,45]])) <|
  af [aq 47 .add 34 1,aa 34 47]
def qx:DF:=⟨.seq (af [bu 1 0,((some 2),.op (.alloc [(.emp 1),(.emp 1)])),((some 3),.op (.aV (.val (.emp 1)))),ax 4 0]) <|
  .seq (af [aG 12 4 1,aB 13 32 [12],aa 11 13,bA 14 0 11,bA 15 1 11,aa 5 14,aa 6 15]) <|
  .seq (.seq (af [aa 16 6,aq 17 .neq 16 0]) <|
  .cond (.tmp 17) (.seq (af [((some 18),.op (.build [(.emp 1),(.emp 1)] [])),aa 19 6,(none,.op (.store 2 (.tmp 2) (.tmp 18))),((some 3),.op (.aV (.val (.emp 1)))),aa 4 19]) <|
  .ret) (.skip)) <|
  .seq (af [aG 21 4 1,aB 22 84 [21],aa 20 22,bA 23 0 20,bA 24 1 20,aa 7 23,aa 6 24]) <|
  .seq (.seq (af [aa 25 6,aq 26 .neq 25 0]) <|
  .cond (.tmp 26) (.seq (af [((some 27),.op (.build [(.emp 1),(.emp 1)] [])),aa 28 6,(none,.op (.store 2 (.tmp 2) (.tmp 27))),((some 3),.op (.aV (.val (.emp 1)))),aa 4 28]) <|
  .ret) (.skip)) <|
  .seq (af [aG 29 4 1,((some 30),.op (.build [(.emp 1),(.emp 1),(.emp 1),(.val (.int .i64 0)),(.emp 1),(.emp 1),(.emp 1)] [(0,4,(.tmp 29))])),((some 31),.op (.box (.tmp 30))),aa 8 31]) <|
  .seq (.seq (af [aa 32 5,aH 33 32,ax 34 0]) <|
  .block 0 (.loop uH)) <|
  .seq (.region [(7,8)] [⟨none,[aa 48 8,aO 49 48,al 50 4 49,aG 51 2 50,aa 52 8,aO 53 52,al 54 6 53,ak 55 54,(none,.op (.store 2 (.tmp 2) (.tmp 51))),aa 3 55,ax 4 0]⟩]) <|
  .ret,
  [.cell 2 (some 2),.tmp 3,.tmp 4],56⟩
theorem tx:aC Tryz.prog 41 [1]=some qx:=by kernel_rfl
def mS:DC :=
  .seq (af [aF 35 .lss 34 33]) <|
  .seq (.cond (.tmp 35) (.skip) (.exit 0)) <|
  .seq (.block 1 (.seq (af [aI 36 2 32 34,aG 37 2 36,((some 11),.op (.alloc [(.val (.int .i64 0)),(.val (.int .i64 0))])),(none,.op (.store 2 (.tmp 11) (.tmp 37)))]) <|
  .seq (af [al 38 0 11,ak 39 38,aq 40 .lss 39 0]) <|
  .cond (.tmp 40) (af [aa 41 9,al 42 0 11,ak 43 42,((some 44),.op (.arith .sub (.val (.val (.int .i64 (-1)))) (.tmp 43))),al 45 1 11,ak 46 45,aI 47 1 41 44,(none,.op (.store 1 (.tmp 47) (.tmp 46)))]) (af [aa 48 8,al 49 0 11,ak 50 49,al 51 1 11,ak 52 51,((some 53),.op (.build [(.val (.int .i64 0)),(.val (.int .i64 0))] [(0,1,(.val (.val (.int .i64 1)))),(1,1,(.tmp 52))])),aI 54 2 48 50,(none,.op (.store 2 (.tmp 54) (.tmp 53)))]))) <|
  af [aq 55 .add 34 1,aa 34 55]
def mM:DC :=
  .seq (af [aF 75 .lss 74 73]) <|
  .seq (.cond (.tmp 75) (.skip) (.exit 2)) <|
  .seq (.block 3 (.seq (af [aa 76 74,aI 77 2 72 74,aG 78 2 77,((some 14),.op (.alloc [(.val (.int .i64 0)),(.val (.int .i64 0))])),aa 13 76,(none,.op (.store 2 (.tmp 14) (.tmp 78)))]) <|
  .region [(7,8)] [⟨none,[aa 79 12,aa 80 13,aa 81 0,aa 82 1,aa 83 13,aa 84 3,aa 85 13,aB 86 135 [84,85],aG 87 2 14,aB 88 134 [81,82,83,86,87],aI 89 2 79 80,(none,.op (.store 2 (.tmp 89) (.tmp 88)))]⟩])) <|
  af [aq 90 .add 74 1,aa 74 90]
def iK:DF:=⟨.seq (af [bu 6 2]) <|
  .seq (af [aa 15 0,aO 16 15,al 17 0 16,al 18 0 17,ak 19 18,aH 20 19,aq 21 .add 20 1,((some 22),.op (.make 2 16 [(.val (.int .i64 0)),(.val (.int .i64 0))] (.tmp 21) (.tmp 21))),aa 8 22]) <|
  .seq (af [((some 23),.op (.ba 1 1 [(.val (.int .i64 0))] [(0,(.val (.val (.int .i64 (-1)))))])),aa 24 0,aO 25 24,al 26 0 25,al 27 1 26,ak 28 27,aH 29 28,aB 30 106 [23,29],aa 9 30]) <|
  .seq (.seq (af [al 31 1 6,ak 32 31,aH 33 32,ax 34 0]) <|
  .block 0 (.loop mS)) <|
  .seq (.seq (af [al 56 0 6,ak 57 56,((some 58),.op (.build [(.val (.int .i64 0)),(.val (.int .i64 0))] [(0,1,(.val (.val (.int .i64 (-1))))),(1,1,(.val (.val (.int .i64 1))))])),aB 59 133 [57,58]]) <|
  .cond (.tmp 59) (af [aa 60 8,aa 61 0,aO 62 61,al 63 0 62,al 64 0 63,ak 65 64,aH 66 65,((some 67),.op (.build [(.val (.int .i64 0)),(.val (.int .i64 0))] [(0,1,(.val (.val (.int .i64 3))))])),aI 68 2 60 66,(none,.op (.store 2 (.tmp 68) (.tmp 67)))]) (.skip)) <|
  .seq (af [aa 69 8,aH 70 69,((some 71),.op (.make 2 16 [(.val (.int .i64 0)),(.val (.int .i64 0))] (.tmp 70) (.tmp 70))),aa 12 71]) <|
  .seq (.seq (af [aa 72 8,aH 73 72,ax 74 0]) <|
  .block 2 (.loop mM)) <|
  .region [(9,14),(9,16)] [⟨none,[aa 91 0,aa 92 0,aa 93 0,aO 94 93,al 95 4 94,al 96 0 95,ak 97 96,aa 98 12,((some 99),.op (.ba 1 1 [(.emp 1)] [(0,(.tmp 98))])),((some 100),.op (.app 1 24 (.tmp 97) (.tmp 99))),aa 101 0,aO 102 101,al 103 4 102,al 104 1 103,ak 105 104,aa 106 9,((some 107),.op (.ba 1 1 [(.emp 1)] [(0,(.tmp 106))])),((some 108),.op (.app 1 24 (.tmp 105) (.tmp 107))),aO 109 91,al 110 4 109,al 111 0 110,(none,.op (.store 1 (.tmp 111) (.tmp 100))),aO 112 92,al 113 4 112,al 114 1 113,(none,.op (.store 1 (.tmp 114) (.tmp 108)))]⟩],
  [],115⟩
theorem mF:aC Tryz.prog 85 [6,100000]=some iK:=by kernel_rfl
def we:DC :=
  .seq (af [aF 10 .lss 9 8]) <|
  .seq (.cond (.tmp 10) (.skip) (.exit 0)) <|
  .seq (.block 1 (.seq (af [aI 11 2 7 9,aG 12 2 11,((some 6),.op (.alloc [(.val (.int .i64 0)),(.val (.int .u32 0))])),(none,.op (.store 2 (.tmp 6) (.tmp 12)))]) <|
  .seq (af [al 13 1 6,ak 14 13,aa 15 1,aB 16 194 [14,15]]) <|
  .cond (.tmp 16) (af [aa 17 4,al 18 0 6,ak 19 18,((some 20),.op (.ba 1 1 [(.val (.int .i64 0))] [(0,(.tmp 19))])),((some 21),.op (.app 1 8 (.tmp 17) (.tmp 20))),aa 4 21]) (.skip))) <|
  af [aq 22 .add 9 1,aa 9 22]
def re:DF:=⟨.seq (af [((some 4),.op (.aV (.val (.emp 1))))]) <|
  .seq (.seq (af [aa 7 0,aH 8 7,ax 9 0]) <|
  .block 0 (.loop we)) <|
  .seq (af [aa 23 4,aa 4 23]) <|
  .ret,
  [.tmp 4],24⟩
theorem uc:aC Tryz.prog 135 []=some re:=by kernel_rfl
def wC:DF:=⟨.seq (af [aM 4 false]) <|
  .seq (af [aa 5 0,aa 6 1,aB 7 237 [6],aF 8 .and 5 7,((some 9),.op (.arith .neq (.tmp 8) (.val (.val (.int .u32 0))))),aa 4 9]) <|
  .ret,
  [.tmp 4],10⟩
theorem y7:aC Tryz.prog 194 []=some wC:=by kernel_rfl
def wY:DF:=⟨.seq (af [((some 2),.op (.aV (.val (.val (.int .u32 0)))))]) <|
  .seq (.seq (.region [] [⟨none,[aa 3 0,aq 4 .lss 3 0,aa 5 4]⟩,⟨(some (5,false)),[aa 6 0,aq 7 .geq 6 32]⟩,⟨none,[aT 8 5 7]⟩]) <|
  .cond (.tmp 8) (.seq (af [((some 2),.op (.aV (.val (.val (.int .u32 0)))))]) <|
  .ret) (.skip)) <|
  .seq (af [aa 9 0,((some 10),.op (.sh true (.val (.val (.int .u32 1))) (.tmp 9))),aa 2 10]) <|
  .ret,
  [.tmp 2],11⟩
theorem zG:aC Tryz.prog 237 []=some wY:=by kernel_rfl
def nW:DC :=
  .seq (af [aF 21 .lss 20 19]) <|
  .seq (.cond (.tmp 21) (.skip) (.exit 0)) <|
  .seq (.block 1 (.seq (af [aI 22 1 18 20,ak 23 22,aa 12 23]) <|
  af [aa 24 0,aa 25 0,aO 26 25,al 27 6 26,ak 28 27,aa 29 1,aa 30 2,aa 31 12,aa 32 3,((some 33),.op (.idx 1 (.tmp 32) (.val (.val (.int .i64 0))))),ak 34 33,((some 35),.op (.build [(.val (.int .i64 0)),(.val (.int .i64 0)),(.val (.int .i64 0)),(.val (.int .i64 0)),(.val (.int .i64 0))] [(0,1,(.tmp 29)),(1,1,(.tmp 30)),(2,1,(.val (.val (.int .i64 5)))),(3,1,(.tmp 31)),(4,1,(.tmp 34))])),((some 36),.op (.ba 1 5 [(.val (.int .i64 0)),(.val (.int .i64 0)),(.val (.int .i64 0)),(.val (.int .i64 0)),(.val (.int .i64 0))] [(0,(.tmp 35))])),((some 37),.op (.app 5 40 (.tmp 28) (.tmp 36))),aO 38 24,al 39 6 38,(none,.op (.store 1 (.tmp 39) (.tmp 37)))])) <|
  af [aq 40 .add 20 1,aa 20 40]
def iX:DF:=⟨.seq (af [bu 9 4,((some 10),.op (.alloc [(.val (.int .i64 0)),(.val (.int .i64 0))]))]) <|
  .seq (.seq (af [aa 13 3,aH 14 13,aq 15 .eql 14 0]) <|
  .cond (.tmp 15) (.seq (af [aG 16 2 9,(none,.op (.store 2 (.tmp 10) (.tmp 16)))]) <|
  .ret) (.skip)) <|
  .seq (.seq (af [aa 17 3,((some 18),.op (.slice 1 (.tmp 17) (some (.val (.val (.int .i64 1)))) none)),aH 19 18,ax 20 0]) <|
  .block 0 (.loop nW)) <|
  .seq (.seq (af [al 41 0 9,ak 42 41,aq 43 .eql 42 0]) <|
  .cond (.tmp 43) (.seq (af [aa 44 3,((some 45),.op (.idx 1 (.tmp 44) (.val (.val (.int .i64 0))))),ak 46 45,((some 47),.op (.build [(.val (.int .i64 0)),(.val (.int .i64 0))] [(0,1,(.val (.val (.int .i64 2)))),(1,1,(.tmp 46))])),(none,.op (.store 2 (.tmp 10) (.tmp 47)))]) <|
  .ret) (.skip)) <|
  .seq (af [aa 48 0,aa 49 1,aa 50 2,aa 51 3,((some 52),.op (.idx 1 (.tmp 51) (.val (.val (.int .i64 0))))),ak 53 52,aG 54 2 9,aB 55 193 [48,49,50,53,54],(none,.op (.store 2 (.tmp 10) (.tmp 55)))]) <|
  .ret,
  [.cell 10 (some 2)],56⟩
theorem mT:aC Tryz.prog 134 [9]=some iX:=by kernel_rfl
def hE:DF:=⟨.seq (af [bu 9 4,((some 10),.op (.alloc [(.val (.int .i64 0)),(.val (.int .i64 0))]))]) <|
  .seq (af [aa 12 0,aO 13 12,al 14 0 13,aG 15 4 14,aa 16 3,aa 17 2,aB 18 48 [15,16,17],aa 11 18]) <|
  .seq (af [aa 19 0,aa 20 0,aO 21 20,al 22 6 21,ak 23 22,aa 24 1,aa 25 2,aa 26 11,aa 27 3,((some 28),.op (.build [(.val (.int .i64 0)),(.val (.int .i64 0)),(.val (.int .i64 0)),(.val (.int .i64 0)),(.val (.int .i64 0))] [(0,1,(.tmp 24)),(1,1,(.tmp 25)),(2,1,(.tmp 26)),(3,1,(.tmp 27)),(4,1,(.val (.val (.int .i64 (-1)))))])),((some 29),.op (.ba 1 5 [(.val (.int .i64 0)),(.val (.int .i64 0)),(.val (.int .i64 0)),(.val (.int .i64 0)),(.val (.int .i64 0))] [(0,(.tmp 28))])),((some 30),.op (.app 5 40 (.tmp 23) (.tmp 29))),aO 31 19,al 32 6 31,(none,.op (.store 1 (.tmp 32) (.tmp 30)))]) <|
  .seq (.seq (af [aa 33 11]) <|
  .block 0 (.seq (af [aq 35 .eql 33 1,aa 34 35]) <|
  .cond (.tmp 34) (.seq (af [aa 36 3,((some 37),.op (.build [(.val (.int .i64 0)),(.val (.int .i64 0))] [(0,1,(.val (.val (.int .i64 2)))),(1,1,(.tmp 36))])),(none,.op (.store 2 (.tmp 10) (.tmp 37)))]) <|
  .ret) (.seq (af [aq 39 .eql 33 3,aa 38 39]) <|
  .cond (.tmp 38) (.seq (af [((some 40),.op (.build [(.val (.int .i64 0)),(.val (.int .i64 0))] [])),(none,.op (.store 2 (.tmp 10) (.tmp 40)))]) <|
  .ret) (.skip)))) <|
  .seq (af [aG 41 2 9,(none,.op (.store 2 (.tmp 10) (.tmp 41)))]) <|
  .ret,
  [.cell 10 (some 2)],42⟩
theorem lT:aC Tryz.prog 193 [9]=some hE:=by kernel_rfl
def oL:DF:=⟨.seq (af [bu 3 0,ax 6 0]) <|
  .seq (.block 0 (.seq (.region [] [⟨none,[aG 11 4 3,aB 12 64 [11],bB 13 12,aa 14 13]⟩,⟨(some (14,false)),[aa 15 1,aq 16 .lss 15 0]⟩,⟨none,[aT 17 14 16,aa 18 17]⟩,⟨(some (18,false)),[aa 19 1,al 20 2 3,ak 21 20,aH 22 21,aF 23 .geq 19 22]⟩,⟨none,[aT 24 18 23,aa 25 24]⟩,⟨(some (25,false)),[aa 26 2,aq 27 .lss 26 0]⟩,⟨none,[aT 28 25 27,aa 29 28]⟩,⟨(some (29,false)),[aa 30 2,al 31 0 3,ak 32 31,aH 33 32,aF 34 .gtr 30 33]⟩,⟨none,[aT 35 29 34,aa 10 35]⟩]) <|
  .cond (.tmp 10) (.seq (af [ax 6 0]) <|
  .ret) (.seq (.region [] [⟨none,[aa 37 2,al 38 0 3,ak 39 38,aH 40 39,aF 41 .eql 37 40,aa 42 41]⟩,⟨(some (42,false)),[al 43 2 3,ak 44 43,aa 45 1,aI 46 3 44 45,al 47 2 46,ak 48 47,aq 49 .lss 48 0]⟩,⟨none,[aT 50 42 49,aa 36 50]⟩]) <|
  .cond (.tmp 36) (.seq (af [ax 6 4]) <|
  .ret) (.skip)))) <|
  .seq (.region [(11,17),(14,17)] [⟨none,[al 51 0 3,ak 52 51,al 53 2 3,ak 54 53,aa 55 1,aI 56 3 54 55,al 57 2 56,ak 58 57,aI 59 3 52 58,aG 60 3 59,al 61 0 3,ak 62 61,aa 63 2,aI 64 3 62 63,aG 65 3 64,((some 7),.op (.alloc [(.val (.string ⟨#[]⟩)),(.val (.int .i64 0)),(.val (.int .i64 0))])),((some 8),.op (.alloc [(.val (.string ⟨#[]⟩)),(.val (.int .i64 0)),(.val (.int .i64 0))])),(none,.op (.store 3 (.tmp 7) (.tmp 60))),(none,.op (.store 3 (.tmp 8) (.tmp 65)))]⟩]) <|
  .seq (.seq (.region [] [⟨none,[al 66 1 7,ak 67 66,aq 68 .eql 67 0,aa 69 68]⟩,⟨(some (69,false)),[al 70 1 8,ak 71 70,aq 72 .eql 71 0]⟩,⟨none,[aT 73 69 72]⟩]) <|
  .cond (.tmp 73) (.seq (af [ax 6 4]) <|
  .ret) (.skip)) <|
  .seq (.seq (af [al 74 1 7,ak 75 74,al 76 1 8,ak 77 76,aB 78 93 [75,77],aa 9 78]) <|
  .block 1 (.seq (af [aa 80 9,aq 81 .gtr 80 0,aa 79 81]) <|
  .cond (.tmp 79) (.seq (af [ax 6 1]) <|
  .ret) (.seq (af [aa 83 9,aq 84 .lss 83 0,aa 82 84]) <|
  .cond (.tmp 82) (.seq (af [ax 6 2]) <|
  .ret) (.skip)))) <|
  .seq (.seq (af [al 85 2 8,ak 86 85]) <|
  .block 2 (.seq (af [aq 88 .eql 86 1,aa 87 88]) <|
  .cond (.tmp 87) (.seq (af [ax 6 1]) <|
  .ret) (.seq (af [aq 90 .eql 86 2,aa 89 90]) <|
  .cond (.tmp 89) (.seq (af [ax 6 2]) <|
  .ret) (.skip)))) <|
  .seq (af [ax 6 3]) <|
  .ret,
  [.tmp 6],91⟩
theorem sE:aC Tryz.prog 48 [3]=some oL:=by kernel_rfl
def kQ:DF:=⟨.seq (af [ax 4 0]) <|
  .seq (af [aa 7 0,aB 8 138 [7],aa 5 8]) <|
  .seq (af [aa 9 1,aB 10 138 [9],aa 6 10]) <|
  .seq (.seq (af [aa 11 5]) <|
  .cond (.tmp 11) (.seq (.seq (af [aa 12 6]) <|
  .cond (.tmp 12) (.seq (af [ax 4 0]) <|
  .ret) (.skip)) <|
  .seq (af [ax 4 (-1)]) <|
  .ret) (.skip)) <|
  .seq (.seq (af [aa 13 6]) <|
  .cond (.tmp 13) (.seq (af [ax 4 1]) <|
  .ret) (.skip)) <|
  .seq (.seq (af [aa 14 0,aa 15 1,aF 16 .lss 14 15]) <|
  .cond (.tmp 16) (.seq (af [ax 4 (-1)]) <|
  .ret) (.skip)) <|
  .seq (.seq (af [aa 17 0,aa 18 1,aF 19 .gtr 17 18]) <|
  .cond (.tmp 19) (.seq (af [ax 4 1]) <|
  .ret) (.skip)) <|
  .seq (af [ax 4 0]) <|
  .ret,
  [.tmp 4],20⟩
theorem oN:aC Tryz.prog 93 []=some kQ:=by kernel_rfl
def mL:DF:=⟨.seq (af [aM 2 false]) <|
  .seq (af [aa 3 0,aa 4 0,aF 5 .neq 3 4,aa 2 5]) <|
  .ret,
  [.tmp 2],6⟩
theorem qL:aC Tryz.prog 138 []=some mL:=by kernel_rfl
def j7:DC :=
  .seq (.seq (af [aa 34 8,aa 35 7,aH 36 35,aF 37 .lss 34 36]) <|
  .cond (.tmp 37) (.skip) (.exit 0)) <|
  .block 1 (af [aa 38 8,aa 39 7,aa 40 8,((some 41),.op (.slice 1 (.tmp 39) (some (.tmp 40)) none)),aa 42 7,aa 43 8,((some 44),.op (.slice 1 (.tmp 42) none (some (.tmp 43)))),((some 45),.op (.old (.call { callee:=.builtin .copy,args:=#[(.tmp 41),(.tmp 44)],argTypes:=#[27,27] }) 3)),aF 46 .add 38 45,aa 8 46])
def fB:DF:=⟨.seq (af [((some 4),.op (.aV (.val (.emp 1))))]) <|
  .seq (.seq (af [aa 9 1,aq 10 .lss 9 0]) <|
  .cond (.tmp 10) (.region [] [⟨none,[((some 11),.op (.old (.makeInterface 9 (.const (.string ⟨#[99,97,110,110,111,116,32,98,101,32,110,101,103,97,116,105,118,101]⟩))) 20)),(none,.op (.old (.panic (.tmp 11)) 0))]⟩]) (.skip)) <|
  .seq (af [aa 13 0,aH 14 13,((some 15),.op (.conv .u64 (.tmp 14))),aa 16 1,((some 17),.op (.conv .u64 (.tmp 16))),aB 18 157 [15,17],aa 12 18,bA 19 0 12,bA 20 1 12,aa 5 19,aa 6 20]) <|
  .seq (.seq (.region [] [⟨none,[aa 21 5,((some 22),.op (.arith .gtr (.tmp 21) (.val (.val (.int .u64 0))))),aa 23 22]⟩,⟨(some (23,false)),[aa 24 6,((some 25),.op (.arith .gtr (.tmp 24) (.val (.val (.int .u64 9223372036854775807)))))]⟩,⟨none,[aT 26 23 25]⟩]) <|
  .cond (.tmp 26) (.region [] [⟨none,[((some 27),.op (.old (.makeInterface 9 (.const (.string ⟨#[116,104,101,32,114,101,115,117,108,116,32,111,102,32,40,108,101,110,40,120,41,32,42,32,99,111,117,110,116,41,32,111,118,101,114,102,108,111,119,115]⟩))) 20)),(none,.op (.old (.panic (.tmp 27)) 0))]⟩]) (.skip)) <|
  .seq (af [aa 28 6,((some 29),.op (.conv .i64 (.tmp 28))),((some 30),.op (.make 1 8 [(.val (.int .i64 0))] (.tmp 29) (.tmp 29))),aa 7 30]) <|
  .seq (af [aa 31 7,aa 32 0,((some 33),.op (.old (.call { callee:=.builtin .copy,args:=#[(.tmp 31),(.tmp 32)],argTypes:=#[27,27] }) 3)),aa 8 33]) <|
  .seq (.block 0 (.loop j7)) <|
  .seq (af [aa 47 7,aa 4 47]) <|
  .ret,
  [.tmp 4],48⟩
theorem jx:aC Tryz.prog 106 []=some fB:=by kernel_rfl
def ni:DF:=⟨.seq (af [((some 4),.op (.aV (.val (.val (.int .u64 0))))),((some 5),.op (.aV (.val (.val (.int .u64 0)))))]) <|
  .seq (.cond (.val (.val (.bool false))) (.seq (af [aa 11 0,((some 12),.op (.conv .u32 (.tmp 11))),aa 13 1,((some 14),.op (.conv .u32 (.tmp 13))),aB 15 210 [12,14],aa 10 15,bA 16 0 10,bA 17 1 10,aa 6 16,aa 7 17]) <|
  .seq (af [aa 18 6,((some 19),.op (.conv .u64 (.tmp 18))),aa 20 7,((some 21),.op (.conv .u64 (.tmp 20))),aa 4 19,aa 5 21]) <|
  .ret) (.skip)) <|
  .seq (af [aa 23 0,aa 24 1,aB 25 211 [23,24],aa 22 25,bA 26 0 22,bA 27 1 22,aa 8 26,aa 9 27]) <|
  .seq (af [aa 28 8,aa 29 9,aa 4 28,aa 5 29]) <|
  .ret,
  [.tmp 4,.tmp 5],30⟩
theorem rX:aC Tryz.prog 157 []=some ni:=by kernel_rfl
def lH:DF:=⟨.seq (af [((some 4),.op (.aV (.val (.val (.int .u32 0))))),((some 5),.op (.aV (.val (.val (.int .u32 0)))))]) <|
  .seq (af [aa 7 0,((some 8),.op (.conv .u64 (.tmp 7))),aa 9 1,((some 10),.op (.conv .u64 (.tmp 9))),aF 11 .mul 8 10,aa 6 11]) <|
  .seq (af [aa 12 6,((some 13),.op (.sh false (.tmp 12) (.val (.val (.int .u64 32))))),((some 14),.op (.conv .u32 (.tmp 13))),aa 15 6,((some 16),.op (.conv .u32 (.tmp 15))),aa 4 14,aa 5 16]) <|
  .ret,
  [.tmp 4,.tmp 5],17⟩
theorem pE:aC Tryz.prog 210 []=some lH:=by kernel_rfl
def lJ:DF:=⟨.seq (af [((some 4),.op (.aV (.val (.val (.int .u64 0))))),((some 5),.op (.aV (.val (.val (.int .u64 0)))))]) <|
  .seq (af [aa 14 0,((some 15),.op (.arith .and (.tmp 14) (.val (.val (.int .u64 4294967295))))),aa 6 15]) <|
  .seq (af [aa 16 0,((some 17),.op (.sh false (.tmp 16) (.val (.val (.int .u64 32))))),aa 7 17]) <|
  .seq (af [aa 18 1,((some 19),.op (.arith .and (.tmp 18) (.val (.val (.int .u64 4294967295))))),aa 8 19]) <|
  .seq (af [aa 20 1,((some 21),.op (.sh false (.tmp 20) (.val (.val (.int .u64 32))))),aa 9 21]) <|
  .seq (af [aa 22 6,aa 23 8,aF 24 .mul 22 23,aa 10 24]) <|
  .seq (af [aa 25 7,aa 26 8,aF 27 .mul 25 26,aa 28 10,((some 29),.op (.sh false (.tmp 28) (.val (.val (.int .u64 32))))),aF 30 .add 27 29,aa 11 30]) <|
  .seq (af [aa 31 11,((some 32),.op (.arith .and (.tmp 31) (.val (.val (.int .u64 4294967295))))),aa 12 32]) <|
  .seq (af [aa 33 11,((some 34),.op (.sh false (.tmp 33) (.val (.val (.int .u64 32))))),aa 13 34]) <|
  .seq (af [aa 35 12,aa 36 6,aa 37 9,aF 38 .mul 36 37,aF 39 .add 35 38,aa 12 39]) <|
  .seq (af [aa 40 7,aa 41 9,aF 42 .mul 40 41,aa 43 13,aF 44 .add 42 43,aa 45 12,((some 46),.op (.sh false (.tmp 45) (.val (.val (.int .u64 32))))),aF 47 .add 44 46,aa 4 47]) <|
  .seq (af [aa 48 0,aa 49 1,aF 50 .mul 48 49,aa 5 50]) <|
  .ret,
  [.tmp 4,.tmp 5],51⟩
theorem pG:aC Tryz.prog 211 []=some lJ:=by kernel_rfl
def db:DF:=⟨.seq (af [bu 3 1,aM 4 false]) <|
  .seq (af [aa 5 0,aG 6 2 3,aB 7 192 [5,6],aq 8 .geq 7 0,aa 4 8]) <|
  .ret,
  [.tmp 4],9⟩
theorem eZ:aC Tryz.prog 133 [3]=some db:=by kernel_rfl
def fY:DC :=
  .seq (af [aF 9 .lss 8 7]) <|
  .seq (.cond (.tmp 9) (.skip) (.exit 0)) <|
  .seq (.block 1 (.seq (af [aa 10 8,aa 5 10]) <|
  .seq (af [aG 11 2 3,aa 12 0,aa 13 5,aI 14 2 12 13,aG 15 2 14,((some 16),.op (.old (.binOp .eql 55 (.tmp 11) (.tmp 15) 55) 4))]) <|
  .cond (.tmp 16) (.seq (af [aa 17 5,aa 4 17]) <|
  .ret) (.skip))) <|
  af [aq 18 .add 8 1,aa 8 18]
def dz:DF:=⟨.seq (af [bu 3 1,ax 4 0]) <|
  .seq (.seq (af [aa 6 0,aH 7 6,ax 8 0]) <|
  .block 0 (.loop fY)) <|
  .seq (af [ax 4 (-1)]) <|
  .ret,
  [.tmp 4],19⟩
theorem fJ:aC Tryz.prog 192 [3]=some dz:=by kernel_rfl
def vw:DC :=
  .seq (af [aF 49 .lss 48 47]) <|
  .seq (.cond (.tmp 49) (.skip) (.exit 2)) <|
  .seq (.block 3 (.seq (af [aa 50 48,aa 9 50]) <|
  .seq (af [aa 51 8,aa 52 9,((some 53),.op (.old (.lookup 119 (.tmp 51) (.tmp 52) false) 51)),aB 54 76 [53],aa 10 54]) <|
  .seq (.seq (af [aa 55 10,aH 56 55,aq 57 .eql 56 0]) <|
  .cond (.tmp 57) (.exit 3) (.skip)) <|
  .seq (af [aa 58 9,aa 11 58]) <|
  .seq (.seq (af [aa 59 9,al 60 0 1,ak 61 60,aH 62 61,aF 63 .geq 59 62]) <|
  .cond (.tmp 63) (af [al 64 0 1,ak 65 64,aH 66 65,aq 67 .sub 66 1,aa 68 9,aF 69 .sub 67 68,aa 11 69]) (.skip)) <|
  .seq (af [aa 71 6,aa 72 10,aB 73 74 [72],((some 74),.op (.old (.lookup 118 (.tmp 71) (.tmp 73) true) 52)),aa 70 74,bA 75 0 70,bA 76 1 70,aa 12 75,aa 13 76]) <|
  .seq (.seq (af [aa 77 13,bB 78 77]) <|
  .cond (.tmp 78) (.seq (af [aa 79 5,aH 80 79,aa 12 80]) <|
  .seq (af [aa 81 6,aa 82 10,aB 83 74 [82],aa 84 12,(none,.op (.old (.mapUpdate 118 (.tmp 81) (.tmp 83) (.tmp 84)) 0))]) <|
  af [aa 85 5,aa 86 10,((some 87),.op (.build [(.emp 1),(.emp 1)] [(0,1,(.tmp 86))])),((some 88),.op (.ba 1 2 [(.emp 1),(.emp 1)] [(0,(.tmp 87))])),((some 89),.op (.app 2 48 (.tmp 85) (.tmp 88))),aa 5 89]) (.skip)) <|
  af [aa 90 5,aa 91 7,aa 92 5,aa 93 7,aI 94 2 92 93,al 95 1 94,ak 96 95,aa 97 11,aa 98 12,((some 99),.op (.build [(.val (.int .i64 0)),(.val (.int .i64 0))] [(0,1,(.tmp 97)),(1,1,(.tmp 98))])),((some 100),.op (.ba 1 2 [(.val (.int .i64 0)),(.val (.int .i64 0))] [(0,(.tmp 99))])),((some 101),.op (.app 2 16 (.tmp 96) (.tmp 100))),aI 102 2 90 91,al 103 1 102,(none,.op (.store 1 (.tmp 103) (.tmp 101)))])) <|
  af [aq 104 .add 48 1,aa 48 104]
def vD:DC :=
  .seq (.seq (af [aa 26 7,aa 27 5,aH 28 27,aF 29 .lss 26 28]) <|
  .cond (.tmp 29) (.skip) (.exit 0)) <|
  .seq (.block 1 (.seq (.region [(0,7)] [⟨none,[aG 32 4 1,aG 33 4 1,aa 34 5,aa 35 7,aI 36 2 34 35,al 37 0 36,ak 38 37,aB 39 68 [33,38],aB 40 75 [32,39],aa 8 40]⟩]) <|
  .seq (.seq (af [al 41 0 1,ak 42 41,aH 43 42,al 44 1 1,ak 45 44,aH 46 45,aF 47 .add 43 46,ax 48 0]) <|
  .block 2 (.loop vw)) <|
  .seq (af [aa 105 5,aH 106 105,aq 107 .gtr 106 300]) <|
  .cond (.tmp 107) (.seq (af [((some 2),.op (.aV (.val (.emp 1)))),ax 3 5]) <|
  .ret) (.skip))) <|
  af [aa 30 7,aq 31 .add 30 1,aa 7 31]
def rG:DF:=⟨.seq (af [bu 1 0,((some 2),.op (.aV (.val (.emp 1)))),ax 3 0]) <|
  .seq (.seq (af [aG 14 4 1,aB 15 73 [14],bB 16 15]) <|
  .cond (.tmp 16) (.seq (af [((some 2),.op (.aV (.val (.emp 1)))),ax 3 1]) <|
  .ret) (.skip)) <|
  .seq (af [((some 17),.op (.build [(.val (.int .i64 0)),(.val (.int .i64 0))] [(0,1,(.val (.val (.int .i64 (-1)))))])),((some 18),.op (.ba 1 2 [(.val (.int .i64 0)),(.val (.int .i64 0))] [(0,(.tmp 17))])),aa 4 18]) <|
  .seq (af [aa 19 4,((some 20),.op (.build [(.emp 1),(.emp 1)] [(0,1,(.tmp 19))])),((some 21),.op (.ba 1 2 [(.emp 1),(.emp 1)] [(0,(.tmp 20))])),aa 5 21]) <|
  .seq (af [((some 22),.op (.iP)),aa 23 4,aB 24 74 [23],(none,.op (.old (.insert 118 (.tmp 22) (.tmp 24) (.const (.int .i64 0))) 0)),aa 25 22,aa 6 25]) <|
  .seq (.seq (af [ax 7 0]) <|
  .block 0 (.loop vD)) <|
  .seq (af [aa 108 5,aa 2 108,ax 3 0]) <|
  .ret,
  [.tmp 2,.tmp 3],109⟩
theorem vg:aC Tryz.prog 32 [1]=some rG:=by kernel_rfl
def tb:DF:=⟨.seq (af [((some 2),.op (.aV (.val (.emp 1))))]) <|
  .seq (af [aa 3 0,bS 4 123 [(.tmp 3),(.val (.fn 124 [] []))]]) <|
  .seq (af [aa 5 0,aB 6 125 [5],aa 2 6]) <|
  .ret,
  [.tmp 2],7⟩
theorem wc:aC Tryz.prog 76 []=some tb:=by kernel_rfl
def c8:DF:=⟨.seq (af [aa 5 0,aH 6 5,aa 4 6]) <|
  af [aa 7 0,aa 8 4,aa 9 4,((some 10),.op (.conv .u64 (.tmp 9))),aB 11 184 [10],aa 12 1,bS 13 183 [(.tmp 7),(.val (.val (.int .i64 0))),(.tmp 8),(.tmp 11),(.tmp 12)]],
  [],14⟩
theorem ff:aC Tryz.prog 123 []=some c8:=by kernel_rfl
def nr:DF:=⟨.seq (af [ax 2 0]) <|
  .seq (.cond (.val (.val (.bool false))) (.seq (af [aa 3 0,((some 4),.op (.conv .u32 (.tmp 3))),aB 5 233 [4],aa 2 5]) <|
  .ret) (.skip)) <|
  .seq (af [aa 6 0,aB 7 234 [6],aa 2 7]) <|
  .ret,
  [.tmp 2],8⟩
theorem rp:aC Tryz.prog 184 []=some nr:=by kernel_rfl
def lF:DF:=⟨.seq (af [ax 2 0]) <|
  .seq (.seq (af [aa 3 0,((some 4),.op (.arith .geq (.tmp 3) (.val (.val (.int .u32 65536)))))]) <|
  .cond (.tmp 4) (.seq (af [aa 5 0,((some 6),.op (.sh false (.tmp 5) (.val (.val (.int .u64 16))))),aa 0 6]) <|
  af [ax 2 16]) (.skip)) <|
  .seq (.seq (af [aa 7 0,((some 8),.op (.arith .geq (.tmp 7) (.val (.val (.int .u32 256)))))]) <|
  .cond (.tmp 8) (.seq (af [aa 9 0,((some 10),.op (.sh false (.tmp 9) (.val (.val (.int .u64 8))))),aa 0 10]) <|
  af [aa 11 2,aq 12 .add 11 8,aa 2 12]) (.skip)) <|
  .seq (.region [] [⟨none,[aa 13 2,aa 14 0,((some 15),.op (.conv .u8 (.tmp 14))),((some 16),.op (.bZ (.val (.val (.string ⟨#[0,1,2,2,3,3,3,3,4,4,4,4,4,4,4,4,5,5,5,5,5,5,5,5,5,5,5,5,5,5,5,5,6,6,6,6,6,6,6,6,6,6,6,6,6,6,6,6,6,6,6,6,6,6,6,6,6,6,6,6,6,6,6,6,7,7,7,7,7,7,7,7,7,7,7,7,7,7,7,7,7,7,7,7,7,7,7,7,7,7,7,7,7,7,7,7,7,7,7,7,7,7,7,7,7,7,7,7,7,7,7,7,7,7,7,7,7,7,7,7,7,7,7,7,7,7,7,7,8,8,8,8,8,8,8,8,8,8,8,8,8,8,8,8,8,8,8,8,8,8,8,8,8,8,8,8,8,8,8,8,8,8,8,8,8,8,8,8,8,8,8,8,8,8,8,8,8,8,8,8,8,8,8,8,8,8,8,8,8,8,8,8,8,8,8,8,8,8,8,8,8,8,8,8,8,8,8,8,8,8,8,8,8,8,8,8,8,8,8,8,8,8,8,8,8,8,8,8,8,8,8,8,8,8,8,8,8,8,8,8,8,8,8,8,8,8,8,8,8,8,8,8,8,8,8,8]⟩))) (.tmp 15))),((some 17),.op (.conv .i64 (.tmp 16))),aF 18 .add 13 17,aa 2 18]⟩]) <|
  .ret,
  [.tmp 2],19⟩
theorem pe:aC Tryz.prog 233 []=some lF:=by kernel_rfl
def lE:DF:=⟨.seq (af [ax 2 0]) <|
  .seq (.seq (af [aa 3 0,((some 4),.op (.arith .geq (.tmp 3) (.val (.val (.int .u64 4294967296)))))]) <|
  .cond (.tmp 4) (.seq (af [aa 5 0,((some 6),.op (.sh false (.tmp 5) (.val (.val (.int .u64 32))))),aa 0 6]) <|
  af [ax 2 32]) (.skip)) <|
  .seq (.seq (af [aa 7 0,((some 8),.op (.arith .geq (.tmp 7) (.val (.val (.int .u64 65536)))))]) <|
  .cond (.tmp 8) (.seq (af [aa 9 0,((some 10),.op (.sh false (.tmp 9) (.val (.val (.int .u64 16))))),aa 0 10]) <|
  af [aa 11 2,aq 12 .add 11 16,aa 2 12]) (.skip)) <|
  .seq (.seq (af [aa 13 0,((some 14),.op (.arith .geq (.tmp 13) (.val (.val (.int .u64 256)))))]) <|
  .cond (.tmp 14) (.seq (af [aa 15 0,((some 16),.op (.sh false (.tmp 15) (.val (.val (.int .u64 8))))),aa 0 16]) <|
  af [aa 17 2,aq 18 .add 17 8,aa 2 18]) (.skip)) <|
  .seq (.region [] [⟨none,[aa 19 2,aa 20 0,((some 21),.op (.conv .u8 (.tmp 20))),((some 22),.op (.bZ (.val (.val (.string ⟨#[0,1,2,2,3,3,3,3,4,4,4,4,4,4,4,4,5,5,5,5,5,5,5,5,5,5,5,5,5,5,5,5,6,6,6,6,6,6,6,6,6,6,6,6,6,6,6,6,6,6,6,6,6,6,6,6,6,6,6,6,6,6,6,6,7,7,7,7,7,7,7,7,7,7,7,7,7,7,7,7,7,7,7,7,7,7,7,7,7,7,7,7,7,7,7,7,7,7,7,7,7,7,7,7,7,7,7,7,7,7,7,7,7,7,7,7,7,7,7,7,7,7,7,7,7,7,7,7,8,8,8,8,8,8,8,8,8,8,8,8,8,8,8,8,8,8,8,8,8,8,8,8,8,8,8,8,8,8,8,8,8,8,8,8,8,8,8,8,8,8,8,8,8,8,8,8,8,8,8,8,8,8,8,8,8,8,8,8,8,8,8,8,8,8,8,8,8,8,8,8,8,8,8,8,8,8,8,8,8,8,8,8,8,8,8,8,8,8,8,8,8,8,8,8,8,8,8,8,8,8,8,8,8,8,8,8,8,8,8,8,8,8,8,8,8,8,8,8,8,8,8,8,8,8,8,8]⟩))) (.tmp 21))),((some 23),.op (.conv .i64 (.tmp 22))),aF 24 .add 19 23,aa 2 24]⟩]) <|
  .ret,
  [.tmp 2],25⟩
theorem pB:aC Tryz.prog 234 []=some lE:=by kernel_rfl
def gD:DC :=
  .block 1 (.seq (af [aa 21 2,aa 22 1,aF 23 .sub 21 22,aa 12 23]) <|
  .seq (.seq (af [aa 24 12,aq 25 .leq 24 12]) <|
  .cond (.tmp 25) (.seq (af [aa 26 0,aa 27 1,aa 28 2,aa 29 4,aB 30 225 [26,27,28,29]]) <|
  .ret) (.skip)) <|
  .seq (.seq (af [aa 31 3,aq 32 .eql 31 0]) <|
  .cond (.tmp 32) (.seq (af [aa 33 0,aa 34 1,aa 35 2,aa 36 4,aB 37 226 [33,34,35,36]]) <|
  .ret) (.skip)) <|
  .seq (.seq (af [aa 38 10,bB 39 38]) <|
  .cond (.tmp 39) (.seq (af [aa 40 0,aa 41 1,aa 42 2,aa 43 4,aB 44 227 [40,41,42,43]]) <|
  af [aa 45 3,aq 46 .sub 45 1,aa 3 46]) (.skip)) <|
  .seq (af [aa 48 0,aa 49 1,aa 50 2,aa 51 4,aB 52 228 [48,49,50,51],aa 47 52,bA 53 0 47,bA 54 1 47,aa 13 53,aa 14 54]) <|
  .seq (.seq (af [aa 55 14,aq 56 .eql 55 2]) <|
  .cond (.tmp 56) (.seq (af [aa 57 0,aa 58 1,aa 59 2,aa 60 4,aB 61 229 [57,58,59,60]]) <|
  .seq (af [aa 62 2,aq 63 .sub 62 1,aa 64 13,aa 65 1,aF 66 .sub 64 65,aF 67 .sub 63 66,aa 13 67]) <|
  af [ax 14 1]) (.skip)) <|
  .seq (.seq (.region [] [⟨none,[aa 68 10,aa 69 68]⟩,⟨(some (69,true)),[aa 70 11]⟩,⟨none,[bf 71 69 70,aa 72 71]⟩,⟨(some (72,true)),[aa 73 14,aq 74 .eql 73 1]⟩,⟨none,[bf 75 72 74]⟩]) <|
  .cond (.tmp 75) (.seq (af [aa 76 0,aa 77 1,aa 78 2,aa 79 4,aB 80 230 [76,77,78,79]]) <|
  .cond (.tmp 80) (.ret) (.skip)) (.skip)) <|
  .seq (.seq (.region [] [⟨none,[aa 81 1,aq 82 .gtr 81 0,aa 83 82]⟩,⟨(some (83,true)),[aa 84 4,aa 85 0,aa 86 1,aq 87 .sub 86 1,aI 88 2 85 87,aG 89 2 88,aa 90 0,aa 91 13,aI 92 2 90 91,aG 93 2 92,((some 94),.call (.tmp 84) [(.tmp 89),(.tmp 93)]),aq 95 .lss 94 0,bB 96 95]⟩,⟨none,[bf 97 83 96]⟩]) <|
  .cond (.tmp 97) (.seq (af [aa 98 0,aa 99 1,aa 100 2,aa 101 13,aa 102 4,aB 103 231 [98,99,100,101,102],aa 15 103]) <|
  .seq (af [aa 104 15,aa 1 104]) <|
  .exit 1) (.skip)) <|
  .seq (af [aa 106 0,aa 107 1,aa 108 2,aa 109 13,aa 110 4,aB 111 232 [106,107,108,109,110],aa 105 111,bA 112 0 105,bA 113 1 105,aa 16 112,aa 17 113]) <|
  .seq (af [aa 114 17,aa 11 114]) <|
  .seq (af [aa 115 16,aa 116 1,aF 117 .sub 115 116,aa 118 2,aa 119 16,aF 120 .sub 118 119,aa 18 117,aa 19 120]) <|
  .seq (af [aa 121 12,aq 122 .quo 121 8,aa 20 122]) <|
  .seq (af [aa 123 18,aa 124 19,aF 125 .lss 123 124]) <|
  .cond (.tmp 125) (.seq (af [aa 126 18,aa 127 20,aF 128 .geq 126 127,aa 10 128]) <|
  .seq (af [aa 129 0,aa 130 1,aa 131 16,aa 132 3,aa 133 4,aB 134 183 [129,130,131,132,133]]) <|
  af [aa 135 16,aq 136 .add 135 1,aa 1 136]) (.seq (af [aa 137 19,aa 138 20,aF 139 .geq 137 138,aa 10 139]) <|
  .seq (af [aa 140 0,aa 141 16,aq 142 .add 141 1,aa 143 2,aa 144 3,aa 145 4,aB 146 183 [140,142,143,144,145]]) <|
  af [aa 147 16,aa 2 147]))
def dN:DF:=⟨.seq (af [aM 10 true]) <|
  .seq (af [aM 11 true]) <|
  .block 0 (.loop gD),
  [],148⟩
theorem gw:aC Tryz.prog 183 []=some dN:=by kernel_rfl
def fe:DC :=
  .seq (.seq (.region [] [⟨none,[aa 18 9,aa 19 1,aF 20 .gtr 18 19,aa 21 20]⟩,⟨(some (21,true)),[aa 22 3,aa 23 0,aa 24 9,aI 25 2 23 24,aG 26 2 25,aa 27 0,aa 28 9,aq 29 .sub 28 1,aI 30 2 27 29,aG 31 2 30,((some 32),.call (.tmp 22) [(.tmp 26),(.tmp 31)]),aq 33 .lss 32 0]⟩,⟨none,[bf 34 21 33]⟩]) <|
  .cond (.tmp 34) (.skip) (.exit 2)) <|
  .seq (.block 3 (af [aa 37 0,aa 38 9,aa 39 0,aa 40 9,aq 41 .sub 40 1,aa 42 0,aa 43 9,aq 44 .sub 43 1,aI 45 2 42 44,aG 46 2 45,aa 47 0,aa 48 9,aI 49 2 47 48,aG 50 2 49,aI 51 2 37 38,(none,.op (.store 2 (.tmp 51) (.tmp 46))),aI 52 2 39 41,(none,.op (.store 2 (.tmp 52) (.tmp 50)))])) <|
  af [aa 35 9,aq 36 .sub 35 1,aa 9 36]
def fa:DC :=
  .seq (.seq (af [aa 12 8,aa 13 2,aF 14 .lss 12 13]) <|
  .cond (.tmp 14) (.skip) (.exit 0)) <|
  .seq (.block 1 (.seq (af [aa 17 8,aa 9 17]) <|
  .block 2 (.loop fe))) <|
  af [aa 15 8,aq 16 .add 15 1,aa 8 16]
def c3:DF:=⟨.seq (af [aa 10 1,aq 11 .add 10 1,aa 8 11]) <|
  .block 0 (.loop fa),
  [],53⟩
theorem eQ:aC Tryz.prog 225 []=some c3:=by kernel_rfl
def qR:DF:=⟨.seq (af [bu 2 0,bu 3 1,ax 4 0]) <|
  .seq (.region [(4,6),(4,8)] [⟨none,[al 5 0 2,ak 6 5,al 7 0 3,ak 8 7,aB 9 93 [6,8],al 10 1 2,ak 11 10,al 12 1 3,ak 13 12,aB 14 93 [11,13],((some 15),.op (.ba 2 1 [(.val (.int .i64 0))] [(0,(.tmp 9)),(1,(.tmp 14))])),aB 16 185 [15],aa 4 16]⟩]) <|
  .ret,
  [.tmp 4],17⟩
theorem uQ:aC Tryz.prog 124 [2,3]=some qR:=by kernel_rfl
def uY:DC :=
  .seq (af [aF 9 .lss 8 7]) <|
  .seq (.cond (.tmp 9) (.skip) (.exit 0)) <|
  .seq (.block 1 (.seq (af [aI 10 1 6 8,ak 11 10,aa 5 11]) <|
  .seq (af [aa 12 5,aa 13 3,aF 14 .neq 12 13]) <|
  .cond (.tmp 14) (.seq (af [aa 15 5,aa 2 15]) <|
  .ret) (.skip))) <|
  af [aq 16 .add 8 1,aa 8 16]
def qv:DF:=⟨.seq (af [ax 2 0]) <|
  .seq (af [ax 3 0]) <|
  .seq (.seq (af [aa 6 0,aH 7 6,ax 8 0]) <|
  .block 0 (.loop uY)) <|
  .seq (af [aa 17 3,aa 2 17]) <|
  .ret,
  [.tmp 2],18⟩
theorem tq:aC Tryz.prog 185 []=some qv:=by kernel_rfl
def fv:DC :=
  .seq (.seq (af [aa 29 5,aa 30 4,aH 31 30,aF 32 .lss 29 31]) <|
  .cond (.tmp 32) (.skip) (.exit 2)) <|
  .seq (.block 3 (.seq (af [aa 35 4,aa 36 5,aI 37 2 35 36,aG 38 2 37,aa 39 4,aa 40 5,aq 41 .sub 40 1,aI 42 2 39 41,aG 43 2 42,((some 44),.op (.old (.binOp .neq 55 (.tmp 38) (.tmp 43) 55) 4))]) <|
  .cond (.tmp 44) (.seq (af [aa 45 0,aa 46 3,aa 47 4,aa 48 5,aI 49 2 47 48,aG 50 2 49,aI 51 2 45 46,(none,.op (.store 2 (.tmp 51) (.tmp 50)))]) <|
  af [aa 52 3,aq 53 .add 52 1,aa 3 53]) (.skip))) <|
  af [aa 33 5,aq 34 .add 33 1,aa 5 34]
def fy:DC :=
  .seq (.seq (af [aa 10 3,aa 11 0,aH 12 11,aF 13 .lss 10 12]) <|
  .cond (.tmp 13) (.skip) (.exit 0)) <|
  .seq (.block 1 (.seq (af [aa 16 0,aa 17 3,aI 18 2 16 17,aG 19 2 18,aa 20 0,aa 21 3,aq 22 .sub 21 1,aI 23 2 20 22,aG 24 2 23,((some 25),.op (.old (.binOp .eql 55 (.tmp 19) (.tmp 24) 55) 4))]) <|
  .cond (.tmp 25) (.seq (af [aa 26 0,aa 27 3,((some 28),.op (.slice 2 (.tmp 26) (some (.tmp 27)) none)),aa 4 28]) <|
  .seq (.seq (af [ax 5 1]) <|
  .block 2 (.loop fv)) <|
  .seq (af [aa 54 0,aa 55 3,((some 56),.op (.slice 2 (.tmp 54) (some (.tmp 55)) none)),(none,.op (.old (.call { callee:=.builtin .clear,args:=#[(.tmp 56)],argTypes:=#[51] }) 0))]) <|
  .seq (af [aa 57 0,aa 58 3,((some 59),.op (.slice 2 (.tmp 57) none (some (.tmp 58)))),aa 2 59]) <|
  .ret) (.skip))) <|
  af [aa 14 3,aq 15 .add 14 1,aa 3 15]
def dg:DF:=⟨.seq (af [((some 2),.op (.aV (.val (.emp 1))))]) <|
  .seq (.seq (af [aa 6 0,aH 7 6,aq 8 .lss 7 2]) <|
  .cond (.tmp 8) (.seq (af [aa 9 0,aa 2 9]) <|
  .ret) (.skip)) <|
  .seq (.seq (af [ax 3 1]) <|
  .block 0 (.loop fy)) <|
  .seq (af [aa 60 0,aa 2 60]) <|
  .ret,
  [.tmp 2],61⟩
theorem fi:aC Tryz.prog 125 []=some dg:=by kernel_rfl
def zL:DC :=
  .seq (af [aF 9 .lss 8 7]) <|
  .seq (.cond (.tmp 9) (.skip) (.exit 0)) <|
  .seq (.block 1 (.seq (af [aI 10 2 6 8,aG 11 2 10,((some 5),.op (.alloc [(.val (.int .i64 0)),(.val (.int .i64 0))])),(none,.op (.store 2 (.tmp 5) (.tmp 11)))]) <|
  af [aa 12 3,al 13 0 5,ak 14 13,aq 15 .add 14 1,((some 16),.op (.conv .u8 (.tmp 15))),al 17 1 5,ak 18 17,((some 19),.op (.conv .u8 (.tmp 18))),((some 20),.op (.ba 2 1 [(.val (.int .u8 0))] [(0,(.tmp 16)),(1,(.tmp 19))])),((some 21),.op (.app 1 1 (.tmp 12) (.tmp 20))),aa 3 21])) <|
  af [aq 22 .add 8 1,aa 8 22]
def uT:DF:=⟨.seq (.region [] [⟨none,[((some 2),.op (.aV (.val (.val (.string ⟨#[]⟩)))))]⟩]) <|
  .seq (af [((some 3),.op (.aV (.val (.emp 1))))]) <|
  .seq (.seq (af [aa 6 0,aH 7 6,ax 8 0]) <|
  .block 0 (.loop zL)) <|
  .seq (af [aa 23 3,((some 24),.op (.old (.convert 96 9 (.tmp 23)) 9)),aa 2 24]) <|
  .ret,
  [.tmp 2],25⟩
theorem xP:aC Tryz.prog 74 []=some uT:=by kernel_rfl
def tT:DC :=
  .seq (af [aF 54 .lss 53 52]) <|
  .seq (.cond (.tmp 54) (.skip) (.exit 2)) <|
  .seq (.block 3 (.seq (af [aa 55 53,aI 56 3 51 53,aG 57 3 56,((some 11),.op (.alloc [(.val (.int .i64 0)),(.emp 1),(.val (.int .i64 0))])),aa 10 55,(none,.op (.store 3 (.tmp 11) (.tmp 57)))]) <|
  .seq (af [al 58 0 11,ak 59 58,aa 60 8,((some 61),.op (.arith .sub (.val (.val (.int .i64 (-1)))) (.tmp 60))),aF 62 .eql 59 61]) <|
  .cond (.tmp 62) (af [aa 63 5,aa 64 10,((some 65),.op (.build [(.val (.int .i64 0)),(.val (.int .i64 0))] [(0,1,(.tmp 64))])),((some 66),.op (.ba 1 2 [(.val (.int .i64 0)),(.val (.int .i64 0))] [(0,(.tmp 65))])),((some 67),.op (.app 2 16 (.tmp 63) (.tmp 66))),aa 5 67]) (.skip))) <|
  af [aq 68 .add 53 1,aa 53 68]
def tK:DC :=
  .seq (.seq (af [aa 18 7,aa 19 5,aH 20 19,aF 21 .lss 18 20]) <|
  .cond (.tmp 21) (.skip) (.exit 0)) <|
  .seq (.block 1 (.seq (af [aG 25 4 2,aa 26 5,aa 27 7,aI 28 2 26 27,aG 29 2 28,aB 30 62 [25,29],aa 24 30,bA 31 0 24,bA 32 1 24,aa 8 31,aa 9 32]) <|
  .seq (.seq (.region [] [⟨none,[aa 33 9,bB 34 33,aa 35 34]⟩,⟨(some (35,false)),[aa 36 8,aq 37 .geq 36 0]⟩,⟨none,[aT 38 35 37,aa 39 38]⟩,⟨(some (39,false)),[aa 40 6,aa 41 8,((some 42),.op (.arith .sub (.val (.val (.int .i64 (-1)))) (.tmp 41))),aI 43 1 40 42,ak 44 43]⟩,⟨none,[aT 45 39 44]⟩]) <|
  .cond (.tmp 45) (.exit 1) (.skip)) <|
  .seq (af [aa 46 6,aa 47 8,((some 48),.op (.arith .sub (.val (.val (.int .i64 (-1)))) (.tmp 47))),aI 49 1 46 48,(none,.op (.store 1 (.tmp 49) (.val (.val (.bool true)))))]) <|
  .seq (af [al 50 2 2,ak 51 50,aH 52 51,ax 53 0]) <|
  .block 2 (.loop tT))) <|
  af [aa 22 7,aq 23 .add 22 1,aa 7 23]
def o4:DF:=⟨.seq (af [bu 2 0,((some 4),.op (.aV (.val (.emp 1))))]) <|
  .seq (af [aa 12 1,aB 13 70 [12],aa 5 13]) <|
  .seq (af [al 14 1 2,ak 15 14,aH 16 15,((some 17),.op (.make 1 1 [(.val (.bool false))] (.tmp 16) (.tmp 16))),aa 6 17]) <|
  .seq (.seq (af [ax 7 0]) <|
  .block 0 (.loop tK)) <|
  .seq (af [aa 69 5,aB 70 76 [69],aa 4 70]) <|
  .ret,
  [.tmp 4],71⟩
theorem sH:aC Tryz.prog 68 [2]=some o4:=by kernel_rfl
def ta:DF:=⟨.seq (af [bu 2 0,bu 3 1,ax 4 0,aM 5 false]) <|
  .seq (.seq (af [aG 7 4 2,al 8 0 3,ak 9 8,aB 10 65 [7,9],aa 6 10]) <|
  .seq (af [al 11 1 3,ak 12 11,aa 13 6,aH 14 13,aF 15 .lss 12 14]) <|
  .cond (.tmp 15) (.seq (af [aa 16 6,al 17 1 3,ak 18 17,aI 19 1 16 18,ak 20 19,aa 4 20,aM 5 true]) <|
  .ret) (.skip)) <|
  .seq (af [ax 4 0,aM 5 false]) <|
  .ret,
  [.tmp 4,.tmp 5],21⟩
theorem wo:aC Tryz.prog 62 [2,3]=some ta:=by kernel_rfl
def rh:DF:=⟨.seq (af [bu 2 0,((some 4),.op (.aV (.val (.emp 1))))]) <|
  .seq (.seq (af [aa 5 1,aq 6 .eql 5 (-1)]) <|
  .cond (.tmp 6) (.seq (af [al 7 3 2,ak 8 7,((some 9),.op (.arith .sub (.val (.val (.int .i64 (-1)))) (.tmp 8))),((some 10),.op (.ba 1 1 [(.val (.int .i64 0))] [(0,(.tmp 9))])),aa 4 10]) <|
  .ret) (.skip)) <|
  .seq (af [al 11 2 2,ak 12 11,aa 13 1,aI 14 3 12 13,al 15 1 14,ak 16 15,aa 4 16]) <|
  .ret,
  [.tmp 4],17⟩
theorem tZ:aC Tryz.prog 65 [2]=some rh:=by kernel_rfl
def dA:DF:=⟨.seq (af [((some 2),.op (.aV (.val (.emp 1))))]) <|
  .seq (.seq (af [aa 3 0,((some 4),.op (.nil true 0 (.tmp 3) (.val (.emp 1))))]) <|
  .cond (.tmp 4) (.seq (af [((some 2),.op (.aV (.val (.emp 1))))]) <|
  .ret) (.skip)) <|
  .seq (af [((some 5),.op (.aV (.val (.emp 2)))),aa 6 0,((some 7),.op (.app 2 16 (.tmp 5) (.tmp 6))),aa 2 7]) <|
  .ret,
  [.tmp 2],8⟩
theorem fK:aC Tryz.prog 70 []=some dA:=by kernel_rfl
def vu:DC :=
  .seq (af [aF 15 .lss 14 13]) <|
  .seq (.cond (.tmp 15) (.skip) (.exit 0)) <|
  .seq (.block 1 (.seq (af [aI 16 2 12 14,aG 17 2 16,((some 7),.op (.alloc [(.val (.int .i64 0)),(.val (.int .i64 0))])),(none,.op (.store 2 (.tmp 7) (.tmp 17)))]) <|
  .seq (af [aG 19 4 2,aG 20 2 7,aB 21 62 [19,20],aa 18 21,bA 22 0 18,bA 23 1 18,aa 8 22,aa 9 23]) <|
  .seq (af [aa 24 9]) <|
  .cond (.tmp 24) (.seq (af [aG 25 4 2,aa 26 8,aB 27 122 [25,26],aa 10 27]) <|
  af [aa 28 5,aa 29 10,aa 30 5,aa 31 10,((some 32),.op (.old (.lookup 119 (.tmp 30) (.tmp 31) false) 51)),al 33 0 7,ak 34 33,al 35 1 7,ak 36 35,aq 37 .add 36 1,((some 38),.op (.build [(.val (.int .i64 0)),(.val (.int .i64 0))] [(0,1,(.tmp 34)),(1,1,(.tmp 37))])),((some 39),.op (.ba 1 2 [(.val (.int .i64 0)),(.val (.int .i64 0))] [(0,(.tmp 38))])),((some 40),.op (.app 2 16 (.tmp 32) (.tmp 39))),(none,.op (.old (.mapUpdate 119 (.tmp 28) (.tmp 29) (.tmp 40)) 0))]) (.skip))) <|
  af [aq 41 .add 14 1,aa 14 41]
def rr:DF:=⟨.seq (af [bu 2 0,((some 4),.op (.aV (.val (.val (.map none)))))]) <|
  .seq (af [((some 11),.op (.iP)),aa 5 11]) <|
  .seq (.seq (af [aa 12 1,aH 13 12,ax 14 0]) <|
  .block 0 (.loop vu)) <|
  .seq (af [aa 42 5,aa 4 42]) <|
  .ret,
  [.tmp 4],43⟩
theorem uz:aC Tryz.prog 75 [2]=some rr:=by kernel_rfl
def s9:DF:=⟨.seq (af [bu 2 0,ax 4 0]) <|
  .seq (.seq (af [aa 5 1,aq 6 .lss 5 0]) <|
  .cond (.tmp 6) (.seq (af [al 7 0 2,ak 8 7,aH 9 8,aq 10 .sub 9 1,aa 11 1,aF 12 .sub 10 11,aa 4 12]) <|
  .ret) (.skip)) <|
  .seq (af [aa 13 1,aa 4 13]) <|
  .ret,
  [.tmp 4],14⟩
theorem vT:aC Tryz.prog 122 [2]=some s9:=by kernel_rfl
def z8:DC :=
  .seq (af [aF 57 .lss 56 55]) <|
  .seq (.cond (.tmp 57) (.skip) (.exit 2)) <|
  .seq (.block 3 (.seq (af [aa 58 56,aI 59 3 54 56,aG 60 3 59,((some 11),.op (.alloc [(.val (.int .i64 0)),(.emp 1),(.val (.int .i64 0))])),aa 10 58,(none,.op (.store 3 (.tmp 11) (.tmp 60)))]) <|
  .seq (af [al 61 0 11,ak 62 61,al 63 1 9,ak 64 63,aF 65 .eql 62 64]) <|
  .cond (.tmp 65) (.seq (af [aa 66 6,aG 67 2 9,aG 68 3 11,aB 69 131 [66,67,68],aa 70 10,((some 71),.op (.build [(.val (.int .i64 0)),(.val (.int .i64 0))] [(0,1,(.tmp 69)),(1,1,(.tmp 70))])),((some 12),.op (.alloc [(.val (.int .i64 0)),(.val (.int .i64 0))])),(none,.op (.store 2 (.tmp 12) (.tmp 71)))]) <|
  af [aa 72 7,aG 73 2 12,aa 75 8,((some 76),.op (.ba 1 1 [(.val (.int .i64 0))] [(0,(.tmp 75))])),((some 77),.op (.old (.mapEntry 188 (.tmp 72) (.tmp 73)) 0)),bA 74 0 77,((some 78),.op (.app 1 8 (.tmp 74) (.tmp 76))),bA 79 1 77,(none,.op (.old (.entryStore 188 (.tmp 72) (.tmp 79) (.tmp 78)) 0))]) (.skip))) <|
  af [aq 80 .add 56 1,aa 56 80]
def Af:DC :=
  .seq (af [aF 49 .lss 48 47]) <|
  .seq (.cond (.tmp 49) (.skip) (.exit 0)) <|
  .seq (.block 1 (.seq (af [aa 50 48,aI 51 2 46 48,aG 52 2 51,((some 9),.op (.alloc [(.val (.int .i64 0)),(.val (.int .i64 0))])),aa 8 50,(none,.op (.store 2 (.tmp 9) (.tmp 52)))]) <|
  .seq (af [al 53 2 1,ak 54 53,aH 55 54,ax 56 0]) <|
  .block 2 (.loop z8))) <|
  af [aq 81 .add 48 1,aa 48 81]
def zW:DC :=
  .seq (af [aF 111 .lss 110 109]) <|
  .seq (.cond (.tmp 111) (.skip) (.exit 8)) <|
  .seq (.block 9 (.seq (af [aI 112 1 108 110,ak 113 112,aa 19 113]) <|
  af [al 114 1 17,ak 115 114,aa 116 6,aO 117 116,al 118 8 117,ak 119 118,aa 120 19,aI 121 1 119 120,ak 122 121,aF 123 .or 115 122,al 124 1 17,(none,.op (.store 1 (.tmp 124) (.tmp 123)))])) <|
  af [aq 125 .add 110 1,aa 110 125]
def Ap:DC :=
  .seq (af [aF 96 .lss 95 94]) <|
  .seq (.cond (.tmp 96) (.skip) (.exit 6)) <|
  .seq (.block 7 (.seq (af [aa 97 95,aa 15 97]) <|
  .seq (af [aa 98 7,aa 99 14,aa 100 15,((some 101),.op (.build [(.val (.int .i64 0)),(.val (.int .i64 0))] [(0,1,(.tmp 99)),(1,1,(.tmp 100))])),((some 102),.op (.old (.lookup 188 (.tmp 98) (.tmp 101) false) 27)),aa 16 102]) <|
  .seq (.seq (af [aa 103 16,aH 104 103,aq 105 .eql 104 0]) <|
  .cond (.tmp 105) (.exit 7) (.skip)) <|
  .seq (af [aa 106 15,((some 107),.op (.build [(.val (.int .i64 0)),(.val (.int .u32 0))] [(0,1,(.tmp 106))])),((some 17),.op (.alloc [(.val (.int .i64 0)),(.val (.int .u32 0))])),(none,.op (.store 2 (.tmp 17) (.tmp 107)))]) <|
  .seq (.seq (af [aa 108 16,aH 109 108,ax 110 0]) <|
  .block 8 (.loop zW)) <|
  af [aa 126 13,aa 127 14,aa 128 13,aa 129 14,aI 130 1 128 129,ak 131 130,aG 132 2 17,((some 133),.op (.ba 1 2 [(.val (.int .i64 0)),(.val (.int .u32 0))] [(0,(.tmp 132))])),((some 134),.op (.app 2 16 (.tmp 131) (.tmp 133))),aI 135 1 126 127,(none,.op (.store 1 (.tmp 135) (.tmp 134)))])) <|
  af [aq 136 .add 95 1,aa 95 136]
def Ag:DC :=
  .seq (af [aF 90 .lss 89 88]) <|
  .seq (.cond (.tmp 90) (.skip) (.exit 4)) <|
  .seq (.block 5 (.seq (af [aa 91 89,aa 14 91]) <|
  .seq (af [al 92 2 1,ak 93 92,aH 94 93,ax 95 0]) <|
  .block 6 (.loop Ap))) <|
  af [aq 137 .add 89 1,aa 89 137]
def wW:DF:=⟨.seq (af [bu 1 0,((some 2),.op (.aV (.val (.emp 1)))),ax 3 0]) <|
  .seq (af [aG 21 4 1,aB 22 32 [21],aa 20 22,bA 23 0 20,bA 24 1 20,aa 4 23,aa 5 24]) <|
  .seq (.seq (af [aa 25 5,aq 26 .neq 25 0]) <|
  .cond (.tmp 26) (.seq (af [aa 27 5,((some 2),.op (.aV (.val (.emp 1)))),aa 3 27]) <|
  .ret) (.skip)) <|
  .seq (af [aG 28 4 1,aa 29 4,aB 30 129 [28,29],aa 6 30]) <|
  .seq (af [aa 31 6,aB 32 130 [31]]) <|
  .seq (af [aa 33 6,aa 34 6,aO 35 34,al 36 7 35,ak 37 36,aH 38 37,((some 39),.op (.make 1 24 [(.emp 1)] (.tmp 38) (.tmp 38))),aO 40 33,al 41 9 40,(none,.op (.store 1 (.tmp 41) (.tmp 39)))]) <|
  .seq (af [((some 42),.op (.iP)),aa 7 42]) <|
  .seq (.seq (af [aa 43 6,aO 44 43,al 45 7 44,ak 46 45,aH 47 46,ax 48 0]) <|
  .block 0 (.loop Af)) <|
  .seq (af [aa 82 6,aB 83 132 [82]]) <|
  .seq (af [aa 84 4,aH 85 84,((some 86),.op (.make 1 24 [(.emp 1)] (.tmp 85) (.tmp 85))),aa 13 86]) <|
  .seq (.seq (af [aa 87 4,aH 88 87,ax 89 0]) <|
  .block 4 (.loop Ag)) <|
  .seq (af [aa 138 13,aa 2 138,ax 3 0]) <|
  .ret,
  [.tmp 2,.tmp 3],139⟩
theorem zr:aC Tryz.prog 84 [1]=some wW:=by kernel_rfl
def rN:DC :=
  .seq (af [aF 17 .lss 16 15]) <|
  .seq (.cond (.tmp 17) (.skip) (.exit 0)) <|
  .seq (.block 1 (.seq (af [aa 18 16,aI 19 1 14 16,ak 20 19,aa 8 18,aa 9 20]) <|
  .seq (.seq (.region [] [⟨none,[aa 21 9,aq 22 .lss 21 0,aa 23 22]⟩,⟨(some (23,true)),[aa 24 0,al 25 1 5,ak 26 25,aa 27 8,aq 28 .add 27 1,((some 29),.op (.slice 1 (.tmp 26) (some (.tmp 28)) none)),aB 30 190 [24,29]]⟩,⟨none,[bf 31 23 30]⟩]) <|
  .cond (.tmp 31) (.seq (af [aa 32 0,aO 33 32,al 34 6 33,ak 35 34,aa 36 7,aa 37 9,((some 38),.op (.arith .sub (.val (.val (.int .i64 (-1)))) (.tmp 37))),((some 39),.op (.build [(.val (.int .i64 0)),(.val (.int .i64 0))] [(0,1,(.tmp 36)),(1,1,(.tmp 38))])),((some 40),.op (.old (.lookup 184 (.tmp 35) (.tmp 39) false) 3)),aa 10 40]) <|
  .region [(3,19)] [⟨none,[aa 41 0,aO 42 41,al 43 9 42,ak 44 43,aa 45 10,aa 46 0,aO 47 46,al 48 9 47,ak 49 48,aa 50 10,aI 51 1 49 50,ak 52 51,aa 53 0,aO 54 53,al 55 6 54,ak 56 55,aG 57 2 4,((some 58),.op (.old (.lookup 184 (.tmp 56) (.tmp 57) false) 3)),((some 59),.op (.ba 1 1 [(.val (.int .i64 0))] [(0,(.tmp 58))])),((some 60),.op (.app 1 8 (.tmp 52) (.tmp 59))),aI 61 1 44 45,(none,.op (.store 1 (.tmp 61) (.tmp 60)))]⟩]) (.skip)) <|
  af [aa 62 0,aa 63 7,aa 64 9,aB 65 188 [62,63,64],aa 7 65])) <|
  af [aq 66 .add 16 1,aa 16 66]
def me:DF:=⟨.seq (af [bu 4 1,bu 5 2,ax 6 0]) <|
  .seq (af [al 11 0 4,ak 12 11,aa 7 12]) <|
  .seq (.seq (af [al 13 1 5,ak 14 13,aH 15 14,ax 16 0]) <|
  .block 0 (.loop rN)) <|
  .seq (af [aa 67 7,aa 6 67]) <|
  .ret,
  [.tmp 6],68⟩
theorem qE:aC Tryz.prog 131 [4,5]=some me:=by kernel_rfl
def mr:DF:=⟨.seq (af [bu 2 0,aM 4 false]) <|
  .seq (af [aa 5 1,((some 6),.op (.ka 238 [] [(.tmp 2)])),aB 7 90 [5,6],bB 8 7,aa 4 8]) <|
  .ret,
  [.tmp 4],9⟩
theorem qM:aC Tryz.prog 190 [2]=some mr:=by kernel_rfl
def k8:DF:=⟨.seq (af [aM 3 false]) <|
  .seq (.region [] [⟨none,[aa 4 0,aq 5 .geq 4 0,aa 6 5]⟩,⟨(some (6,false)),[ak 7 1,aO 8 7,al 9 5 8,ak 10 9,aa 11 0,((some 12),.op (.arith .sub (.val (.val (.int .i64 (-1)))) (.tmp 11))),aI 13 1 10 12,ak 14 13,bB 15 14]⟩,⟨none,[aT 16 6 15,aa 3 16]⟩]) <|
  .ret,
  [.tmp 3],17⟩
theorem ow:aC Tryz.prog 238 []=some k8:=by kernel_rfl
def dU:DF:=⟨.seq (af [aM 4 false]) <|
  .seq (af [aa 5 0,aa 6 1,aB 7 137 [5,6],aq 8 .geq 7 0,aa 4 8]) <|
  .ret,
  [.tmp 4],9⟩
theorem gP:aC Tryz.prog 90 []=some dU:=by kernel_rfl
def iM:DC :=
  .seq (af [aF 9 .lss 8 7]) <|
  .seq (.cond (.tmp 9) (.skip) (.exit 0)) <|
  .seq (.block 1 (.seq (af [aa 10 8,aa 5 10]) <|
  .seq (af [aa 11 1,aa 12 0,aa 13 5,aI 14 1 12 13,ak 15 14,((some 16),.call (.tmp 11) [(.tmp 15)])]) <|
  .cond (.tmp 16) (.seq (af [aa 17 5,aa 4 17]) <|
  .ret) (.skip))) <|
  af [aq 18 .add 8 1,aa 8 18]
def eF:DF:=⟨.seq (af [ax 4 0]) <|
  .seq (.seq (af [aa 6 0,aH 7 6,ax 8 0]) <|
  .block 0 (.loop iM)) <|
  .seq (af [ax 4 (-1)]) <|
  .ret,
  [.tmp 4],19⟩
theorem ig:aC Tryz.prog 137 []=some eF:=by kernel_rfl
def qn:DF:=⟨.seq (af [ax 6 0]) <|
  .seq (af [aa 10 0,aO 11 10,al 12 4 11,ak 13 12,aa 14 1,aa 15 2,((some 16),.op (.ba 1 1 [(.val (.int .i64 0))] [(0,(.tmp 15))])),aB 17 36 [13,14,16],aa 9 17,bA 18 0 9,bA 19 1 9,aa 7 18,aa 8 19]) <|
  .seq (af [aa 20 7,aa 6 20]) <|
  .ret,
  [.tmp 6],21⟩
theorem tt:aC Tryz.prog 188 []=some qn:=by kernel_rfl
def xJ:DC :=
  .seq (af [aF 24 .lss 23 22]) <|
  .seq (.cond (.tmp 24) (.skip) (.exit 0)) <|
  .seq (.block 1 (.seq (af [aI 25 1 21 23,ak 26 25,((some 10),.op (.alloc [(.val (.int .i64 0))])),(none,.op (.store 1 (.tmp 10) (.tmp 26)))]) <|
  .seq (af [aa 27 0,aa 28 8,aI 29 2 27 28,al 30 1 29,ak 31 30,((some 32),.op (.ka 81 [] [(.tmp 10)])),aB 33 80 [31,32],aa 11 33]) <|
  .seq (.seq (af [aa 34 11,aq 35 .lss 34 0]) <|
  .cond (.tmp 35) (.seq (af [ax 6 0,aM 7 false]) <|
  .ret) (.skip)) <|
  .seq (af [aa 36 0,aa 37 8,aI 38 2 36 37,al 39 1 38,ak 40 39,aa 41 11,aI 42 2 40 41,al 43 1 42,ak 44 43,aa 8 44]) <|
  .seq (.region [] [⟨none,[aa 45 8,aq 46 .lss 45 0,aa 47 46]⟩,⟨(some (47,false)),[aa 48 8,aa 49 0,aH 50 49,aF 51 .geq 48 50]⟩,⟨none,[aT 52 47 51]⟩]) <|
  .cond (.tmp 52) (.seq (af [ax 6 0,aM 7 false]) <|
  .ret) (.skip))) <|
  af [aq 53 .add 23 1,aa 23 53]
def sP:DF:=⟨.seq (af [ax 6 0,aM 7 false]) <|
  .seq (af [aa 12 1,aa 8 12]) <|
  .seq (.seq (.region [] [⟨none,[aa 13 8,aq 14 .lss 13 0,aa 15 14]⟩,⟨(some (15,false)),[aa 16 8,aa 17 0,aH 18 17,aF 19 .geq 16 18]⟩,⟨none,[aT 20 15 19]⟩]) <|
  .cond (.tmp 20) (.seq (af [ax 6 0,aM 7 false]) <|
  .ret) (.skip)) <|
  .seq (.seq (af [aa 21 2,aH 22 21,ax 23 0]) <|
  .block 0 (.loop xJ)) <|
  .seq (af [aa 54 8,aa 6 54,aM 7 true]) <|
  .ret,
  [.tmp 6,.tmp 7],55⟩
theorem vC:aC Tryz.prog 36 []=some sP:=by kernel_rfl
def qh:DF:=⟨.seq (af [bu 2 0,aM 3 false]) <|
  .seq (af [al 4 0 2,ak 5 4,ak 6 1,aF 7 .eql 5 6,aa 3 7]) <|
  .ret,
  [.tmp 3],8⟩
theorem tA:aC Tryz.prog 81 [2]=some qh:=by kernel_rfl
def fc:DC :=
  .seq (af [aF 9 .lss 8 7]) <|
  .seq (.cond (.tmp 9) (.skip) (.exit 0)) <|
  .seq (.block 1 (.seq (af [aa 10 8,aa 5 10]) <|
  .seq (af [aa 11 1,aa 12 0,aa 13 5,aI 14 2 12 13,aG 15 2 14,((some 16),.call (.tmp 11) [(.tmp 15)])]) <|
  .cond (.tmp 16) (.seq (af [aa 17 5,aa 4 17]) <|
  .ret) (.skip))) <|
  af [aq 18 .add 8 1,aa 8 18]
def cY:DF:=⟨.seq (af [ax 4 0]) <|
  .seq (.seq (af [aa 6 0,aH 7 6,ax 8 0]) <|
  .block 0 (.loop fc)) <|
  .seq (af [ax 4 (-1)]) <|
  .ret,
  [.tmp 4],19⟩
theorem eV:aC Tryz.prog 80 []=some cY:=by kernel_rfl
def v7:DC :=
  .seq (af [aF 29 .lss 28 27]) <|
  .seq (.cond (.tmp 29) (.skip) (.exit 2)) <|
  .seq (.block 3 (.seq (af [aI 30 2 26 28,aG 31 2 30,((some 9),.op (.alloc [(.val (.int .i64 0)),(.val (.int .i64 0))])),(none,.op (.store 2 (.tmp 9) (.tmp 31)))]) <|
  .seq (af [al 32 0 9,ak 33 32,aq 34 .lss 33 0]) <|
  .cond (.tmp 34) (.seq (af [aa 35 6,al 36 0 9,ak 37 36,((some 38),.op (.arith .sub (.val (.val (.int .i64 (-1)))) (.tmp 37))),((some 39),.op (.build [(.val (.int .i64 0)),(.val (.int .i64 0))] [(0,1,(.tmp 35)),(1,1,(.tmp 38))])),((some 10),.op (.alloc [(.val (.int .i64 0)),(.val (.int .i64 0))])),(none,.op (.store 2 (.tmp 10) (.tmp 39)))]) <|
  .seq (af [aa 40 5,aO 41 40,al 42 6 41,ak 43 42,aG 44 2 10,aa 45 5,aO 46 45,al 47 7 46,ak 48 47,aH 49 48,(none,.op (.old (.mapUpdate 184 (.tmp 43) (.tmp 44) (.tmp 49)) 0))]) <|
  af [aa 50 5,aa 51 5,aO 52 51,al 53 7 52,ak 54 53,aG 55 2 10,((some 56),.op (.ba 1 2 [(.val (.int .i64 0)),(.val (.int .i64 0))] [(0,(.tmp 55))])),((some 57),.op (.app 2 16 (.tmp 54) (.tmp 56))),aO 58 50,al 59 7 58,(none,.op (.store 1 (.tmp 59) (.tmp 57)))]) (.skip))) <|
  af [aq 60 .add 28 1,aa 28 60]
def wm:DC :=
  .seq (af [aF 21 .lss 20 19]) <|
  .seq (.cond (.tmp 21) (.skip) (.exit 0)) <|
  .seq (.block 1 (.seq (af [aa 22 20,aI 23 2 18 20,aG 24 2 23,((some 7),.op (.alloc [(.emp 1),(.emp 1)])),aa 6 22,(none,.op (.store 2 (.tmp 7) (.tmp 24)))]) <|
  .seq (af [al 25 1 7,ak 26 25,aH 27 26,ax 28 0]) <|
  .block 2 (.loop v7))) <|
  af [aq 61 .add 20 1,aa 20 61]
def qV:DF:=⟨.seq (af [bu 2 0,((some 4),.op (.aV (.val (.val (.pointer none)))))]) <|
  .seq (.region [(0,3),(3,4)] [⟨none,[aG 11 4 2,aa 12 1,aG 13 4 2,aB 14 187 [13],((some 15),.op (.iP)),((some 16),.op (.build [(.emp 1),(.emp 1),(.emp 1),(.val (.int .i64 0)),(.emp 1),(.emp 1),(.val (.map none)),(.emp 1),(.emp 1),(.emp 1)] [(0,4,(.tmp 11)),(4,1,(.tmp 12)),(5,1,(.tmp 14)),(6,1,(.tmp 15))])),((some 17),.op (.box (.tmp 16))),aa 5 17]⟩]) <|
  .seq (.seq (af [aa 18 1,aH 19 18,ax 20 0]) <|
  .block 0 (.loop wm)) <|
  .seq (af [aa 62 5,aa 63 5,aO 64 63,al 65 7 64,ak 66 65,aH 67 66,((some 68),.op (.make 1 4 [(.val (.int .u32 0))] (.tmp 67) (.tmp 67))),aO 69 62,al 70 8 69,(none,.op (.store 1 (.tmp 70) (.tmp 68)))]) <|
  .seq (af [aa 71 5,aa 72 5,aO 73 72,al 74 7 73,ak 75 74,aH 76 75,((some 77),.op (.make 1 24 [(.emp 1)] (.tmp 76) (.tmp 76))),aO 78 71,al 79 9 78,(none,.op (.store 1 (.tmp 79) (.tmp 77)))]) <|
  .seq (af [aa 80 5,aa 4 80]) <|
  .ret,
  [.tmp 4],81⟩
theorem uw:aC Tryz.prog 129 [2]=some qV:=by kernel_rfl
def sF:DC :=
  .seq (af [aF 73 .lss 72 71]) <|
  .seq (.cond (.tmp 73) (.skip) (.exit 2)) <|
  .seq (.block 3 (.seq (af [aI 74 2 70 72,aG 75 2 74,((some 6),.op (.alloc [(.val (.int .i64 0)),(.val (.int .i64 0))])),(none,.op (.store 2 (.tmp 6) (.tmp 75)))]) <|
  .seq (af [al 76 0 6,ak 77 76,aq 78 .geq 77 0]) <|
  .cond (.tmp 78) (.region [(3,10),(6,10)] [⟨none,[aa 79 0,aO 80 79,al 81 8 80,ak 82 81,aa 83 2,aI 84 1 82 83,ak 85 84,al 86 0 6,ak 87 86,((some 88),.op (.ba 1 1 [(.val (.int .i64 0))] [(0,(.tmp 87))])),aB 89 189 [88],aF 90 .or 85 89,aI 91 1 82 83,(none,.op (.store 1 (.tmp 91) (.tmp 90)))]⟩]) (.seq (af [aa 92 0,aO 93 92,al 94 5 93,ak 95 94,al 96 0 6,ak 97 96,((some 98),.op (.arith .sub (.val (.val (.int .i64 (-1)))) (.tmp 97))),aI 99 1 95 98,ak 100 99]) <|
  .cond (.tmp 100) (.region [(3,23)] [⟨none,[aa 101 0,aO 102 101,al 103 9 102,ak 104 103,aa 105 2,aa 106 0,aO 107 106,al 108 9 107,ak 109 108,aa 110 2,aI 111 1 109 110,ak 112 111,aa 113 0,aO 114 113,al 115 6 114,ak 116 115,aa 117 4,al 118 0 6,ak 119 118,((some 120),.op (.arith .sub (.val (.val (.int .i64 (-1)))) (.tmp 119))),((some 121),.op (.build [(.val (.int .i64 0)),(.val (.int .i64 0))] [(0,1,(.tmp 117)),(1,1,(.tmp 120))])),((some 122),.op (.old (.lookup 184 (.tmp 116) (.tmp 121) false) 3)),((some 123),.op (.ba 1 1 [(.val (.int .i64 0))] [(0,(.tmp 122))])),((some 124),.op (.app 1 8 (.tmp 112) (.tmp 123))),aI 125 1 104 105,(none,.op (.store 1 (.tmp 125) (.tmp 124)))]⟩]) (.skip)))) <|
  af [aq 126 .add 72 1,aa 72 126]
def sD:DC :=
  .seq (af [aF 22 .lss 21 20]) <|
  .seq (.cond (.tmp 22) (.skip) (.exit 0)) <|
  .seq (.block 1 (.seq (af [aa 23 21,aI 24 2 19 21,aG 25 2 24,((some 3),.op (.alloc [(.val (.int .i64 0)),(.val (.int .i64 0))])),aa 2 23,(none,.op (.store 2 (.tmp 3) (.tmp 25)))]) <|
  .seq (af [aa 26 0,al 27 0 3,ak 28 27,al 29 1 3,ak 30 29,((some 31),.op (.arith .sub (.val (.val (.int .i64 (-1)))) (.tmp 30))),aB 32 188 [26,28,31],aa 4 32]) <|
  .seq (.seq (.region [] [⟨none,[al 33 0 3,ak 34 33,aq 35 .eql 34 0,aa 36 35]⟩,⟨(some (36,true)),[al 37 1 3,ak 38 37,aa 39 0,aO 40 39,al 41 0 40,al 42 3 41,ak 43 42,aF 44 .eql 38 43]⟩,⟨none,[bf 45 36 44]⟩]) <|
  .cond (.tmp 45) (.region [(3,14),(6,14)] [⟨none,[aa 46 0,aO 47 46,al 48 8 47,ak 49 48,aa 50 2,aI 51 1 49 50,ak 52 51,aa 53 0,aO 54 53,al 55 0 54,al 56 0 55,ak 57 56,aH 58 57,((some 59),.op (.ba 1 1 [(.val (.int .i64 0))] [(0,(.tmp 58))])),aB 60 189 [59],aF 61 .or 52 60,aI 62 1 49 50,(none,.op (.store 1 (.tmp 62) (.tmp 61)))]⟩]) (.skip)) <|
  .seq (af [aa 63 0,aO 64 63,al 65 4 64,ak 66 65,aa 67 4,aI 68 2 66 67,al 69 1 68,ak 70 69,aH 71 70,ax 72 0]) <|
  .block 2 (.loop sF))) <|
  af [aq 127 .add 21 1,aa 21 127]
def nt:DF:=⟨.seq (af [aa 7 0,aa 8 0,aO 9 8,al 10 7 9,ak 11 10,aH 12 11,((some 13),.op (.make 1 24 [(.emp 1)] (.tmp 12) (.tmp 12))),aO 14 7,al 15 9 14,(none,.op (.store 1 (.tmp 15) (.tmp 13)))]) <|
  .seq (.seq (af [aa 16 0,aO 17 16,al 18 7 17,ak 19 18,aH 20 19,ax 21 0]) <|
  .block 0 (.loop sD)) <|
  af [aa 128 0,aB 129 132 [128]],
  [],130⟩
theorem qX:aC Tryz.prog 130 []=some nt:=by kernel_rfl
def Cj:DC :=
  .seq (af [aF 8 .lss 7 6]) <|
  .seq (.cond (.tmp 8) (.skip) (.exit 0)) <|
  .seq (.block 1 (.seq (af [aI 9 1 5 7,ak 10 9,aa 4 10]) <|
  af [aa 11 2,aa 12 4,aB 13 237 [12],aF 14 .or 11 13,aa 2 14])) <|
  af [aq 15 .add 7 1,aa 7 15]
def yC:DF:=⟨.seq (af [((some 2),.op (.aV (.val (.val (.int .u32 0)))))]) <|
  .seq (.seq (af [aa 5 0,aH 6 5,ax 7 0]) <|
  .block 0 (.loop Cj)) <|
  .seq (af [aa 16 2,aa 2 16]) <|
  .ret,
  [.tmp 2],17⟩
theorem Al:aC Tryz.prog 189 []=some yC:=by kernel_rfl
def qD:DC :=
  .seq (af [aF 19 .lss 18 17]) <|
  .seq (.cond (.tmp 19) (.skip) (.exit 0)) <|
  .seq (.block 1 (.seq (af [aa 20 18,aa 5 20]) <|
  .seq (af [ak 21 2,aa 22 5,aI 23 1 21 22,ak 24 23,aq 25 .eql 24 0]) <|
  .cond (.tmp 25) (af [ak 26 4,aa 27 5,((some 28),.call (.tmp 26) [(.tmp 27)])]) (.skip))) <|
  af [aq 29 .add 18 1,aa 18 29]
def lD:DF:=⟨.seq (af [bu 1 0]) <|
  .seq (af [ak 6 1,aO 7 6,al 8 7 7,ak 9 8,aH 10 9,((some 11),.op (.make 1 8 [(.val (.int .i64 0))] (.tmp 10) (.tmp 10))),((some 2),.op (.alloc [(.emp 1)])),(none,.op (.store 1 (.tmp 2) (.tmp 11)))]) <|
  .seq (af [((some 3),.op (.alloc [(.emp 1)]))]) <|
  .seq (af [((some 4),.op (.alloc [(.val .nilFunc)]))]) <|
  .seq (af [((some 12),.op (.ka 191 [] [(.tmp 3),(.tmp 2),(.tmp 1),(.tmp 4)])),(none,.op (.store 1 (.tmp 4) (.tmp 12)))]) <|
  .seq (af [ak 13 1,aO 14 13,al 15 7 14,ak 16 15,aH 17 16,ax 18 0]) <|
  .block 0 (.loop qD),
  [],30⟩
theorem pO:aC Tryz.prog 132 [1]=some lD:=by kernel_rfl
def o6:DC :=
  .seq (af [aF 30 .lss 29 28]) <|
  .seq (.cond (.tmp 30) (.skip) (.exit 0)) <|
  .seq (.block 1 (.seq (af [aI 31 1 27 29,ak 32 31,aa 8 32]) <|
  .seq (.seq (af [ak 33 2,aa 34 8,aI 35 1 33 34,ak 36 35,aq 37 .eql 36 0]) <|
  .cond (.tmp 37) (af [ak 38 4,aa 39 8,((some 40),.call (.tmp 38) [(.tmp 39)])]) (.skip)) <|
  .seq (af [ak 41 2,aa 42 0,ak 43 2,aa 44 0,aI 45 1 43 44,ak 46 45,ak 47 2,aa 48 8,aI 49 1 47 48,ak 50 49,((some 51),.op (.mm false (.tmp 46) (.tmp 50))),aI 52 1 41 42,(none,.op (.store 1 (.tmp 52) (.tmp 51)))]) <|
  af [ak 53 3,aO 54 53,al 55 8 54,ak 56 55,aa 57 0,aI 58 1 56 57,ak 59 58,ak 60 3,aO 61 60,al 62 8 61,ak 63 62,aa 64 8,aI 65 1 63 64,ak 66 65,aF 67 .or 59 66,aI 68 1 56 57,(none,.op (.store 1 (.tmp 68) (.tmp 67)))])) <|
  af [aq 69 .add 29 1,aa 29 69]
def od:DC :=
  .seq (af [aF 82 .lss 81 80]) <|
  .seq (.cond (.tmp 82) (.skip) (.exit 2)) <|
  .seq (.block 3 (.seq (af [aI 83 1 79 81,ak 84 83,aa 10 84]) <|
  .seq (af [ak 85 2,aa 86 10,aI 87 1 85 86,(none,.op (.store 1 (.tmp 87) (.val (.val (.int .i64 1073741824)))))]) <|
  af [ak 88 3,aO 89 88,al 90 8 89,ak 91 90,aa 92 10,ak 93 3,aO 94 93,al 95 8 94,ak 96 95,aa 97 0,aI 98 1 96 97,ak 99 98,aI 100 1 91 92,(none,.op (.store 1 (.tmp 100) (.tmp 99)))])) <|
  af [aq 101 .add 81 1,aa 81 101]
def jG:DF:=⟨.seq (af [ak 11 1,aa 12 0,((some 13),.op (.ba 1 1 [(.val (.int .i64 0))] [(0,(.tmp 12))])),((some 14),.op (.app 1 8 (.tmp 11) (.tmp 13))),(none,.op (.store 1 (.tmp 1) (.tmp 14)))]) <|
  .seq (af [ak 15 1,aH 16 15,aa 6 16]) <|
  .seq (af [ak 17 2,aa 18 0,aa 19 6,aI 20 1 17 18,(none,.op (.store 1 (.tmp 20) (.tmp 19)))]) <|
  .seq (.seq (af [ak 21 3,aO 22 21,al 23 9 22,ak 24 23,aa 25 0,aI 26 1 24 25,ak 27 26,aH 28 27,ax 29 0]) <|
  .block 0 (.loop o6)) <|
  .seq (.seq (af [ak 70 2,aa 71 0,aI 72 1 70 71,ak 73 72,aa 74 6,aF 75 .neq 73 74]) <|
  .cond (.tmp 75) (.ret) (.skip)) <|
  .seq (.seq (af [ak 76 1,aa 77 6,aq 78 .sub 77 1,((some 79),.op (.slice 1 (.tmp 76) (some (.tmp 78)) none)),aH 80 79,ax 81 0]) <|
  .block 2 (.loop od)) <|
  af [ak 102 1,aa 103 6,aq 104 .sub 103 1,((some 105),.op (.slice 1 (.tmp 102) none (some (.tmp 104)))),(none,.op (.store 1 (.tmp 1) (.tmp 105)))],
  [],106⟩
theorem nK:aC Tryz.prog 191 []=some jG:=by kernel_rfl
def vc:DC :=
  .seq (af [aF 33 .lss 32 31]) <|
  .seq (.cond (.tmp 33) (.skip) (.exit 0)) <|
  .seq (.block 1 (.seq (af [aa 34 32,aI 35 1 30 32,ak 36 35,aa 6 34,aa 7 36]) <|
  .seq (.seq (.region [] [⟨none,[aa 37 7,aH 38 37,al 39 0 2,ak 40 39,aH 41 40,aq 42 .add 41 1,aF 43 .neq 38 42,aa 44 43]⟩,⟨(some (44,false)),[al 45 1 3,ak 46 45,aa 47 6,aI 48 1 46 47,ak 49 48,aH 50 49,al 51 1 2,ak 52 51,aH 53 52,aF 54 .neq 50 53]⟩,⟨none,[aT 55 44 54]⟩]) <|
  .cond (.tmp 55) (.seq (af [aM 4 false]) <|
  .ret) (.skip)) <|
  .seq (.seq (af [aa 56 7,((some 57),.op (.ka 88 [] [(.tmp 5),(.tmp 2)])),aB 58 87 [56,57]]) <|
  .cond (.tmp 58) (.seq (af [aM 4 false]) <|
  .ret) (.skip)) <|
  .seq (af [al 59 1 3,ak 60 59,aa 61 6,aI 62 1 60 61,ak 63 62,((some 64),.op (.ka 91 [] [(.tmp 5)])),aB 65 90 [63,64]]) <|
  .cond (.tmp 65) (.seq (af [aM 4 false]) <|
  .ret) (.skip))) <|
  af [aq 66 .add 32 1,aa 32 66]
def qf:DF:=⟨.seq (af [bu 2 0,bu 3 1,aM 4 false]) <|
  .seq (af [al 8 0 3,ak 9 8,aH 10 9,((some 5),.op (.alloc [(.val (.int .i64 0))])),(none,.op (.store 1 (.tmp 5) (.tmp 10)))]) <|
  .seq (.seq (.region [] [⟨none,[aG 11 4 2,aB 12 64 [11],bB 13 12,aa 14 13]⟩,⟨(some (14,false)),[ak 15 5,aq 16 .lss 15 1]⟩,⟨none,[aT 17 14 16,aa 18 17]⟩,⟨(some (18,false)),[ak 19 5,aq 20 .gtr 19 300]⟩,⟨none,[aT 21 18 20,aa 22 21]⟩,⟨(some (22,false)),[al 23 1 3,ak 24 23,aH 25 24,ak 26 5,aF 27 .neq 25 26]⟩,⟨none,[aT 28 22 27]⟩]) <|
  .cond (.tmp 28) (.seq (af [aM 4 false]) <|
  .ret) (.skip)) <|
  .seq (.seq (af [al 29 0 3,ak 30 29,aH 31 30,ax 32 0]) <|
  .block 0 (.loop vc)) <|
  .seq (af [aM 4 true]) <|
  .ret,
  [.tmp 4],67⟩
theorem th:aC Tryz.prog 46 [2,3]=some qf:=by kernel_rfl
def mV:DF:=⟨.seq (af [bu 3 0,aM 4 false]) <|
  .seq (af [aG 5 2 3,ak 6 1,al 7 2 2,ak 8 7,aH 9 8,aB 10 89 [5,6,9],bB 11 10,aa 4 11]) <|
  .ret,
  [.tmp 4],12⟩
theorem sd:aC Tryz.prog 88 [3]=some mV:=by kernel_rfl
def rb:DF:=⟨.seq (af [bu 3 0,aM 6 false]) <|
  .seq (af [ax 7 1]) <|
  .seq (.seq (af [al 8 0 3,ak 9 8]) <|
  .block 0 (.seq (.seq (af [aq 11 .eql 9 0,aa 10 11]) <|
  .cond (.tmp 10) (.skip) (af [aq 12 .eql 9 3,aa 10 12])) <|
  .cond (.tmp 10) (.skip) (.seq (af [aq 14 .eql 9 1,aa 13 14]) <|
  .cond (.tmp 13) (af [aa 15 1,aa 7 15]) (.seq (af [aq 17 .eql 9 2,aa 16 17]) <|
  .cond (.tmp 16) (af [aa 18 2,aa 7 18]) (.seq (af [aM 6 false]) <|
  .ret))))) <|
  .seq (.region [] [⟨none,[al 19 1 3,ak 20 19,aq 21 .geq 20 0,aa 22 21]⟩,⟨(some (22,true)),[al 23 1 3,ak 24 23,aa 25 7,aF 26 .lss 24 25]⟩,⟨none,[bf 27 22 26,aa 6 27]⟩]) <|
  .ret,
  [.tmp 6],28⟩
theorem ub:aC Tryz.prog 89 [3]=some rb:=by kernel_rfl
def cL:DF:=⟨.seq (af [aM 4 false]) <|
  .seq (af [aa 5 0,aa 6 1,aB 7 136 [5,6],aq 8 .geq 7 0,aa 4 8]) <|
  .ret,
  [.tmp 4],9⟩
theorem eo:aC Tryz.prog 87 []=some cL:=by kernel_rfl
def fb:DC :=
  .seq (af [aF 9 .lss 8 7]) <|
  .seq (.cond (.tmp 9) (.skip) (.exit 0)) <|
  .seq (.block 1 (.seq (af [aa 10 8,aa 5 10]) <|
  .seq (af [aa 11 1,aa 12 0,aa 13 5,aI 14 2 12 13,aG 15 2 14,((some 16),.call (.tmp 11) [(.tmp 15)])]) <|
  .cond (.tmp 16) (.seq (af [aa 17 5,aa 4 17]) <|
  .ret) (.skip))) <|
  af [aq 18 .add 8 1,aa 8 18]
def cZ:DF:=⟨.seq (af [ax 4 0]) <|
  .seq (.seq (af [aa 6 0,aH 7 6,ax 8 0]) <|
  .block 0 (.loop fb)) <|
  .seq (af [ax 4 (-1)]) <|
  .ret,
  [.tmp 4],19⟩
theorem eX:aC Tryz.prog 136 []=some cZ:=by kernel_rfl
def ng:DF:=⟨.seq (af [aM 3 false]) <|
  .seq (.region [] [⟨none,[aa 4 0,aq 5 .lss 4 (-1),aa 6 5]⟩,⟨(some (6,false)),[aa 7 0,ak 8 1,aF 9 .geq 7 8]⟩,⟨none,[aT 10 6 9,aa 3 10]⟩]) <|
  .ret,
  [.tmp 3],11⟩
theorem q7:aC Tryz.prog 91 []=some ng:=by kernel_rfl
def AY:List (FuncId × DF):=[(39,jR),(41,qx),(85,iK),(135,re),(194,wC),(237,wY),(134,iX),(193,hE),(48,oL),(93,kQ),(138,mL),(106,fB),(157,ni),(210,lH),(211,lJ),(133,db),(192,dz),(32,rG),(76,tb),(123,c8),(184,nr),(233,lF),(234,lE),(183,dN),(225,c3),(124,qR),(185,qv),(125,dg),(74,uT),(68,o4),(62,ta),(65,rh),(70,dA),(75,rr),(122,s9),(84,wW),(131,me),(190,mr),(238,k8),(90,dU),(137,eF),(188,qn),(36,sP),(81,qh),(80,cY),(129,qV),(130,nt),(189,yC),(132,lD),(191,jG),(46,qf),(88,mV),(89,rb),(87,cL),(136,cZ),(91,ng)]
theorem B6:px Tryz.prog AY:=by
  intro p hp
  simp only[AY,List.mem_cons,List.not_mem_nil,or_false] at hp
  rcases hp with rfl | rfl | rfl | rfl | rfl | rfl | rfl | rfl | rfl | rfl | rfl | rfl | rfl | rfl | rfl | rfl | rfl | rfl | rfl | rfl | rfl | rfl | rfl | rfl | rfl | rfl | rfl | rfl | rfl | rfl | rfl | rfl | rfl | rfl | rfl | rfl | rfl | rfl | rfl | rfl | rfl | rfl | rfl | rfl | rfl | rfl | rfl | rfl | rfl | rfl | rfl | rfl | rfl | rfl | rfl | rfl
  · exact ⟨_,nI⟩
  · exact ⟨_,tx⟩
  · exact ⟨_,mF⟩
  · exact ⟨_,uc⟩
  · exact ⟨_,y7⟩
  · exact ⟨_,zG⟩
  · exact ⟨_,mT⟩
  · exact ⟨_,lT⟩
  · exact ⟨_,sE⟩
  · exact ⟨_,oN⟩
  · exact ⟨_,qL⟩
  · exact ⟨_,jx⟩
  · exact ⟨_,rX⟩
  · exact ⟨_,pE⟩
  · exact ⟨_,pG⟩
  · exact ⟨_,eZ⟩
  · exact ⟨_,fJ⟩
  · exact ⟨_,vg⟩
  · exact ⟨_,wc⟩
  · exact ⟨_,ff⟩
  · exact ⟨_,rp⟩
  · exact ⟨_,pe⟩
  · exact ⟨_,pB⟩
  · exact ⟨_,gw⟩
  · exact ⟨_,eQ⟩
  · exact ⟨_,uQ⟩
  · exact ⟨_,tq⟩
  · exact ⟨_,fi⟩
  · exact ⟨_,xP⟩
  · exact ⟨_,sH⟩
  · exact ⟨_,wo⟩
  · exact ⟨_,tZ⟩
  · exact ⟨_,fK⟩
  · exact ⟨_,uz⟩
  · exact ⟨_,vT⟩
  · exact ⟨_,zr⟩
  · exact ⟨_,qE⟩
  · exact ⟨_,qM⟩
  · exact ⟨_,ow⟩
  · exact ⟨_,gP⟩
  · exact ⟨_,ig⟩
  · exact ⟨_,tt⟩
  · exact ⟨_,vC⟩
  · exact ⟨_,tA⟩
  · exact ⟨_,eV⟩
  · exact ⟨_,uw⟩
  · exact ⟨_,qX⟩
  · exact ⟨_,Al⟩
  · exact ⟨_,pO⟩
  · exact ⟨_,nK⟩
  · exact ⟨_,th⟩
  · exact ⟨_,sd⟩
  · exact ⟨_,ub⟩
  · exact ⟨_,eo⟩
  · exact ⟨_,eX⟩
  · exact ⟨_,q7⟩
theorem Hb:cF Tryz.prog 52 [tn CO] (l5 gZ):=AL (by kernel_rfl)
theorem gC:gZ.Ok∧gZ.Small:=Eh (by kernel_rfl)
def Ga:List pz:=[(52,[tn CO],l5 gZ,false),(52,[tn FU],l5 kz,false),(73,[.agg (aw kz)],gb true,false),(73,[.agg (aw gZ)],gb true,false),(73,[.agg (aw qp)],gb false,false),(64,[.agg (aw kz)],gb true,false),(64,[.agg (aw gZ)],gb true,false),
  (187,[.agg (aw kz)],.aS [[gb true]],false),(187,[.agg (aw gZ)],.aS [[gb false]],false)]
theorem Fk:∀ x∈Ga,x.Ok Tryz.prog:=by
  have hi:∀ (g:aE),g.Ok→g.Small→∀ b,isRed g=b→pz.Ok Tryz.prog (73,[.agg (aw g)],gb b,false):=fun g h1 h2 b e=>⟨by kernel_rfl,by simp only[Bool.false_eq_true,if_false]; exact .inr ⟨e ▸ GV g h1 h2,.val _⟩⟩
  have hr:∀ (g:aE),g.Ok→g.Small→∀ b,bo g=b→pz.Ok Tryz.prog (64,[.agg (aw g)],gb b,false):=fun g h1 h2 b e=>⟨by kernel_rfl,by simp only[Bool.false_eq_true,if_false]; exact .inr ⟨e ▸ iC g h1 h2.names,.val _⟩⟩
  have hn:∀ (g:aE),g.Ok→g.Small→∀ b,cA (bh g false)=b→pz.Ok Tryz.prog (187,[.agg (aw g)],b,false):=fun g h1 h2 b e=>⟨by kernel_rfl,by simp only[Bool.false_eq_true,if_false]; exact .inl (e ▸ zI g h1 h2)⟩
  intro x hx
  simp only[Ga,List.mem_cons,List.not_mem_nil,or_false] at hx
  rcases hx with rfl | rfl | rfl | rfl | rfl | rfl | rfl | rfl | rfl
  · exact ⟨by kernel_rfl,by simp only[Bool.false_eq_true,if_false]; exact .inl Hb⟩
  · exact ⟨by kernel_rfl,by simp only[Bool.false_eq_true,if_false]; exact .inl Hv⟩
  · exact hi kz ix.1 ix.2 true (by kernel_rfl)
  · exact hi gZ gC.1 gC.2 true (by kernel_rfl)
  · exact hi qp Ha ⟨by decide⟩ false (by kernel_rfl)
  · exact hr kz ix.1 ix.2 true (by kernel_rfl)
  · exact hr gZ gC.1 gC.2 true (by kernel_rfl)
  · exact hn kz ix.1 ix.2 _ (by kernel_rfl)
  · exact hn gZ gC.1 gC.2 _ (by kernel_rfl)
theorem BN:aA Tryz.prog 39 [] (gb true) :=
  (pS mixed B6 (EY Fk) (by simp) (by kernel_rfl)).pure
end Gv
