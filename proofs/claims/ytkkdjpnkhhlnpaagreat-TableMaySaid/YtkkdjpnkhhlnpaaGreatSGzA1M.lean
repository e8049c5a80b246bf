/-
  Part 13 of the proof: what the machine does and what the functions answer.
  Conditions: those that each lemma names.
-/
import Derived.Test.YtkkdjpnkhhlnpaaGreatSGzA1L
set_option linter.unusedSimpArgs false
set_option linter.unusedVariables false
set_option maxRecDepth 100000
namespace Gv
open Go Go.Proofs
def DG:List Int:=[37,108,101,102,116,32,39,43,39,32,37,37,32,101,32,58,32,101,32,39,43,39,32,101,32,124,32,39,110,39,32,59]
def ik:aH:=⟨[⟨⟨#[39,43,39]⟩,1,1⟩,⟨⟨#[39,110,39]⟩,0,0⟩],[⟨#[101]⟩],[⟨0,[-1,0,-1],0⟩,⟨0,[1],1⟩],0⟩
def jT:DF:=⟨.seq (af [aL 0 false]) <|
  .seq (af [((some 17),.op (.bf 32 1 [(.val (.int .u8 0))] [(0,(.val (.val (.int .u8 37)))),(1,(.val (.val (.int .u8 108)))),(2,(.val (.val (.int .u8 101)))),(3,(.val (.val (.int .u8 102)))),(4,(.val (.val (.int .u8 116)))),(5,(.val (.val (.int .u8 32)))),(6,(.val (.val (.int .u8 39)))),(7,(.val (.val (.int .u8 43)))),(8,(.val (.val (.int .u8 39)))),(9,(.val (.val (.int .u8 32)))),(10,(.val (.val (.int .u8 37)))),(11,(.val (.val (.int .u8 37)))),(12,(.val (.val (.int .u8 32)))),(13,(.val (.val (.int .u8 101)))),(14,(.val (.val (.int .u8 32)))),(15,(.val (.val (.int .u8 58)))),(16,(.val (.val (.int .u8 32)))),(17,(.val (.val (.int .u8 101)))),(18,(.val (.val (.int .u8 32)))),(19,(.val (.val (.int .u8 39)))),(20,(.val (.val (.int .u8 43)))),(21,(.val (.val (.int .u8 39)))),(22,(.val (.val (.int .u8 32)))),(23,(.val (.val (.int .u8 101)))),(24,(.val (.val (.int .u8 32)))),(25,(.val (.val (.int .u8 124)))),(26,(.val (.val (.int .u8 32)))),(27,(.val (.val (.int .u8 39)))),(28,(.val (.val (.int .u8 110)))),(29,(.val (.val (.int .u8 39)))),(30,(.val (.val (.int .u8 32)))),(31,(.val (.val (.int .u8 59))))])),((some 18),.op (.old (.convert 96 96 (.tmp 17)) 96)),aB 19 52 [18],aa 16 19,bE 20 0 16,bE 21 1 16,bE 22 2 16,((some 1),.op (.alloc [(.emp 1),(.emp 1),(.emp 1),(.val (.int .i64 0))])),(none,.op (.store 4 (.tmp 1) (.tmp 20))),aa 2 21,aa 3 22]) <|
  .seq (af [aG 24 4 1,aB 25 41 [24],aa 23 25,bE 26 0 23,bE 27 1 23,bE 28 2 23,((some 4),.op (.alloc [(.emp 1),(.emp 1)])),(none,.op (.store 2 (.tmp 4) (.tmp 26))),aa 5 27,aa 6 28]) <|
  .seq (af [((some 30),.op (.bf 16 1 [(.val (.int .u8 0))] [(0,(.val (.val (.int .u8 37)))),(1,(.val (.val (.int .u8 37)))),(2,(.val (.val (.int .u8 32)))),(3,(.val (.val (.int .u8 115)))),(4,(.val (.val (.int .u8 32)))),(5,(.val (.val (.int .u8 58)))),(6,(.val (.val (.int .u8 32)))),(7,(.val (.val (.int .u8 39)))),(8,(.val (.val (.int .u8 97)))),(9,(.val (.val (.int .u8 39)))),(10,(.val (.val (.int .u8 32)))),(11,(.val (.val (.int .u8 115)))),(12,(.val (.val (.int .u8 32)))),(13,(.val (.val (.int .u8 124)))),(14,(.val (.val (.int .u8 32)))),(15,(.val (.val (.int .u8 59))))])),((some 31),.op (.old (.convert 96 96 (.tmp 30)) 96)),aB 32 52 [31],aa 29 32,bE 33 0 29,bE 34 1 29,bE 35 2 29,((some 7),.op (.alloc [(.emp 1),(.emp 1),(.emp 1),(.val (.int .i64 0))])),(none,.op (.store 4 (.tmp 7) (.tmp 33))),aa 8 34,aa 9 35]) <|
  .seq (af [aG 37 4 7,aB 38 41 [37],aa 36 38,bE 39 0 36,bE 40 1 36,bE 41 2 36,((some 10),.op (.alloc [(.emp 1),(.emp 1)])),(none,.op (.store 2 (.tmp 10) (.tmp 39))),aa 11 40,aa 12 41]) <|
  .seq (af [((some 43),.op (.build [(.emp 1),(.emp 1),(.emp 1),(.val (.int .i64 0))] [])),aB 44 41 [43],aa 42 44,bE 45 0 42,bE 46 1 42,bE 47 2 42,((some 13),.op (.alloc [(.emp 1),(.emp 1)])),(none,.op (.store 2 (.tmp 13) (.tmp 45))),aa 14 46,aa 15 47]) <|
  .seq (.seq (.region [] [⟨none,[aa 48 6,aq 49 .neq 48 0,aa 50 49]⟩,⟨(some (50,false)),[aa 51 12,aq 52 .neq 51 0]⟩,⟨none,[aX 53 50 52,aa 54 53]⟩,⟨(some (54,false)),[aa 55 15,aq 56 .neq 55 1]⟩,⟨none,[aX 57 54 56,aa 58 57]⟩,⟨(some (58,false)),[aa 59 5,aC 60 59,aq 61 .neq 60 1]⟩,⟨none,[aX 62 58 61,aa 63 62]⟩,⟨(some (63,false)),[aa 64 11,aC 65 64,aq 66 .neq 65 0]⟩,⟨none,[aX 67 63 66,aa 68 67]⟩,⟨(some (68,false)),[al 69 0 4,ak 70 69,aC 71 70,aq 72 .neq 71 5]⟩,⟨none,[aX 73 68 72,aa 74 73]⟩,⟨(some (74,false)),[al 75 0 10,ak 76 75,aC 77 76,aq 78 .neq 77 4]⟩,⟨none,[aX 79 74 78,aa 80 79]⟩,⟨(some (80,false)),[al 81 0 10,ak 82 81,((some 83),.op (.idx 1 (.tmp 82) (.val (.val (.int .i64 2))))),ak 84 83,aC 85 84,aq 86 .neq 85 2]⟩,⟨none,[aX 87 80 86,aa 88 87]⟩,⟨(some (88,false)),[al 89 1 10,ak 90 89,((some 91),.op (.idx 1 (.tmp 90) (.val (.val (.int .i64 0))))),ak 92 91,aC 93 92,aq 94 .neq 93 1]⟩,⟨none,[aX 95 88 94]⟩]) <|
  .cond (.tmp 95) (.seq (af [aL 0 false]) <|
  .ret) (.skip)) <|
  .seq (.region [] [⟨none,[aa 96 5,((some 97),.op (.idx 5 (.tmp 96) (.val (.val (.int .i64 0))))),aG 98 5 97,((some 99),.op (.build [(.val (.int .i64 0)),(.val (.int .i64 0)),(.val (.int .i64 0)),(.val (.int .i64 0)),(.val (.int .i64 0))] [(0,1,(.val (.val (.int .i64 4)))),(1,1,(.val (.val (.int .i64 0)))),(2,1,(.val (.val (.int .i64 1)))),(3,1,(.val (.val (.int .i64 0)))),(4,1,(.val (.val (.int .i64 (-1)))))])),((some 100),.op (.old (.binOp .eql 92 (.tmp 98) (.tmp 99) 92) 4)),aa 101 100]⟩,⟨(some (101,true)),[al 102 0 10,ak 103 102,((some 104),.op (.idx 1 (.tmp 103) (.val (.val (.int .i64 2))))),ak 105 104,((some 106),.op (.idx 2 (.tmp 105) (.val (.val (.int .i64 1))))),al 107 0 106,ak 108 107,aq 109 .eql 108 3]⟩,⟨none,[bh 110 101 109,aa 111 110]⟩,⟨(some (111,true)),[al 112 0 10,ak 113 112,((some 114),.op (.idx 1 (.tmp 113) (.val (.val (.int .i64 0))))),ak 115 114,((some 116),.op (.idx 2 (.tmp 115) (.val (.val (.int .i64 1))))),aG 117 2 116,((some 118),.op (.build [(.val (.int .i64 0)),(.val (.int .i64 0))] [(0,1,(.val (.val (.int .i64 2)))),(1,1,(.val (.val (.int .i64 1))))])),((some 119),.op (.old (.binOp .eql 89 (.tmp 117) (.tmp 118) 89) 4))]⟩,⟨none,[bh 120 111 119,aa 121 120]⟩,⟨(some (121,true)),[al 122 1 10,ak 123 122,((some 124),.op (.idx 1 (.tmp 123) (.val (.val (.int .i64 0))))),ak 125 124,((some 126),.op (.idx 1 (.tmp 125) (.val (.val (.int .i64 0))))),ak 127 126,aq 128 .eql 127 2]⟩,⟨none,[bh 129 121 128,aa 130 129]⟩,⟨(some (130,true)),[aG 131 4 7,aG 132 2 10,aB 133 46 [131,132]]⟩,⟨none,[bh 134 130 133,aa 135 134]⟩,⟨(some (135,true)),[aG 136 4 7,aG 137 2 4,aB 138 46 [136,137],bC 139 138]⟩,⟨none,[bh 140 135 139,aa 141 140]⟩,⟨(some (141,true)),[aG 142 4 1,bT 143 48 [(.tmp 142),(.val (.val (.int .i64 0))),(.val (.val (.int .i64 0)))],aq 144 .eql 143 1]⟩,⟨none,[bh 145 141 144,aa 146 145]⟩,⟨(some (146,true)),[aG 147 4 1,bT 148 48 [(.tmp 147),(.val (.val (.int .i64 1))),(.val (.val (.int .i64 0)))],aq 149 .eql 148 4]⟩,⟨none,[bh 150 146 149,aa 151 150]⟩,⟨(some (151,true)),[aG 152 4 1,bT 153 48 [(.tmp 152),(.val (.val (.int .i64 2))),(.val (.val (.int .i64 0)))],aq 154 .eql 153 0]⟩,⟨none,[bh 155 151 154,aa 0 155]⟩]) <|
  .ret,
  [.tmp 0],156⟩
theorem om:aD Tryz.prog 39 []=some jT:=by kernel_rfl
def vB:DC :=
  .seq (af [aF 35 .lss 34 33]) <|
  .seq (.cond (.tmp 35) (.skip) (.exit 0)) <|
  .seq (.block 1 (.seq (af [aa 36 34,aJ 37 2 32 34,aG 38 2 37,((some 10),.op (.alloc [(.emp 1),(.emp 1)])),aa 9 36,(none,.op (.store 2 (.tmp 10) (.tmp 38)))]) <|
  af [aa 39 8,aa 40 9,aG 41 2 10,aa 42 7,aa 43 9,aJ 44 1 42 43,ak 45 44,aB 46 85 [39,40,41,45]])) <|
  af [aq 47 .add 34 1,aa 34 47]
def qN:DF:=⟨.seq (af [bo 1 0,((some 2),.op (.alloc [(.emp 1),(.emp 1)])),((some 3),.op (.aW (.val (.emp 1)))),ay 4 0]) <|
  .seq (af [aG 12 4 1,aB 13 32 [12],aa 11 13,bE 14 0 11,bE 15 1 11,aa 5 14,aa 6 15]) <|
  .seq (.seq (af [aa 16 6,aq 17 .neq 16 0]) <|
  .cond (.tmp 17) (.seq (af [((some 18),.op (.build [(.emp 1),(.emp 1)] [])),aa 19 6,(none,.op (.store 2 (.tmp 2) (.tmp 18))),((some 3),.op (.aW (.val (.emp 1)))),aa 4 19]) <|
  .ret) (.skip)) <|
  .seq (af [aG 21 4 1,aB 22 84 [21],aa 20 22,bE 23 0 20,bE 24 1 20,aa 7 23,aa 6 24]) <|
  .seq (.seq (af [aa 25 6,aq 26 .neq 25 0]) <|
  .cond (.tmp 26) (.seq (af [((some 27),.op (.build [(.emp 1),(.emp 1)] [])),aa 28 6,(none,.op (.store 2 (.tmp 2) (.tmp 27))),((some 3),.op (.aW (.val (.emp 1)))),aa 4 28]) <|
  .ret) (.skip)) <|
  .seq (af [aG 29 4 1,((some 30),.op (.build [(.emp 1),(.emp 1),(.emp 1),(.val (.int .i64 0)),(.emp 1),(.emp 1),(.emp 1)] [(0,4,(.tmp 29))])),((some 31),.op (.box (.tmp 30))),aa 8 31]) <|
  .seq (.seq (af [aa 32 5,aC 33 32,ay 34 0]) <|
  .block 0 (.loop vB)) <|
  .seq (.region [(7,8)] [⟨none,[aa 48 8,aR 49 48,al 50 4 49,aG 51 2 50,aa 52 8,aR 53 52,al 54 6 53,ak 55 54,(none,.op (.store 2 (.tmp 2) (.tmp 51))),aa 3 55,ay 4 0]⟩]) <|
  .ret,
  [.cell 2 (some 2),.tmp 3,.tmp 4],56⟩
theorem tL:aD Tryz.prog 41 [1]=some qN:=by kernel_rfl
def nd:DC :=
  .seq (af [aF 35 .lss 34 33]) <|
  .seq (.cond (.tmp 35) (.skip) (.exit 0)) <|
  .seq (.block 1 (.seq (af [aJ 36 2 32 34,aG 37 2 36,((some 11),.op (.alloc [(.val (.int .i64 0)),(.val (.int .i64 0))])),(none,.op (.store 2 (.tmp 11) (.tmp 37)))]) <|
  .seq (af [al 38 0 11,ak 39 38,aq 40 .lss 39 0]) <|
  .cond (.tmp 40) (af [aa 41 9,al 42 0 11,ak 43 42,((some 44),.op (.arith .sub (.val (.val (.int .i64 (-1)))) (.tmp 43))),al 45 1 11,ak 46 45,aJ 47 1 41 44,(none,.op (.store 1 (.tmp 47) (.tmp 46)))]) (af [aa 48 8,al 49 0 11,ak 50 49,al 51 1 11,ak 52 51,((some 53),.op (.build [(.val (.int .i64 0)),(.val (.int .i64 0))] [(0,1,(.val (.val (.int .i64 1)))),(1,1,(.tmp 52))])),aJ 54 2 48 50,(none,.op (.store 2 (.tmp 54) (.tmp 53)))]))) <|
  af [aq 55 .add 34 1,aa 34 55]
def nb:DC :=
  .seq (af [aF 75 .lss 74 73]) <|
  .seq (.cond (.tmp 75) (.skip) (.exit 2)) <|
  .seq (.block 3 (.seq (af [aa 76 74,aJ 77 2 72 74,aG 78 2 77,((some 14),.op (.alloc [(.val (.int .i64 0)),(.val (.int .i64 0))])),aa 13 76,(none,.op (.store 2 (.tmp 14) (.tmp 78)))]) <|
  .region [(7,8)] [⟨none,[aa 79 12,aa 80 13,aa 81 0,aa 82 1,aa 83 13,aa 84 3,aa 85 13,aB 86 135 [84,85],aG 87 2 14,aB 88 134 [81,82,83,86,87],aJ 89 2 79 80,(none,.op (.store 2 (.tmp 89) (.tmp 88)))]⟩])) <|
  af [aq 90 .add 74 1,aa 74 90]
def iI:DF:=⟨.seq (af [bo 6 2]) <|
  .seq (af [aa 15 0,aR 16 15,al 17 0 16,al 18 0 17,ak 19 18,aC 20 19,aq 21 .add 20 1,((some 22),.op (.make 2 16 [(.val (.int .i64 0)),(.val (.int .i64 0))] (.tmp 21) (.tmp 21))),aa 8 22]) <|
  .seq (af [((some 23),.op (.bf 1 1 [(.val (.int .i64 0))] [(0,(.val (.val (.int .i64 (-1)))))])),aa 24 0,aR 25 24,al 26 0 25,al 27 1 26,ak 28 27,aC 29 28,aB 30 106 [23,29],aa 9 30]) <|
  .seq (.seq (af [al 31 1 6,ak 32 31,aC 33 32,ay 34 0]) <|
  .block 0 (.loop nd)) <|
  .seq (.seq (af [al 56 0 6,ak 57 56,((some 58),.op (.build [(.val (.int .i64 0)),(.val (.int .i64 0))] [(0,1,(.val (.val (.int .i64 (-1))))),(1,1,(.val (.val (.int .i64 1))))])),aB 59 133 [57,58]]) <|
  .cond (.tmp 59) (af [aa 60 8,aa 61 0,aR 62 61,al 63 0 62,al 64 0 63,ak 65 64,aC 66 65,((some 67),.op (.build [(.val (.int .i64 0)),(.val (.int .i64 0))] [(0,1,(.val (.val (.int .i64 3))))])),aJ 68 2 60 66,(none,.op (.store 2 (.tmp 68) (.tmp 67)))]) (.skip)) <|
  .seq (af [aa 69 8,aC 70 69,((some 71),.op (.make 2 16 [(.val (.int .i64 0)),(.val (.int .i64 0))] (.tmp 70) (.tmp 70))),aa 12 71]) <|
  .seq (.seq (af [aa 72 8,aC 73 72,ay 74 0]) <|
  .block 2 (.loop nb)) <|
  .region [(9,14),(9,16)] [⟨none,[aa 91 0,aa 92 0,aa 93 0,aR 94 93,al 95 4 94,al 96 0 95,ak 97 96,aa 98 12,((some 99),.op (.bf 1 1 [(.emp 1)] [(0,(.tmp 98))])),((some 100),.op (.app 1 24 (.tmp 97) (.tmp 99))),aa 101 0,aR 102 101,al 103 4 102,al 104 1 103,ak 105 104,aa 106 9,((some 107),.op (.bf 1 1 [(.emp 1)] [(0,(.tmp 106))])),((some 108),.op (.app 1 24 (.tmp 105) (.tmp 107))),aR 109 91,al 110 4 109,al 111 0 110,(none,.op (.store 1 (.tmp 111) (.tmp 100))),aR 112 92,al 113 4 112,al 114 1 113,(none,.op (.store 1 (.tmp 114) (.tmp 108)))]⟩],
  [],115⟩
theorem mW:aD Tryz.prog 85 [6,100000]=some iI:=by kernel_rfl
def wL:DC :=
  .seq (af [aF 10 .lss 9 8]) <|
  .seq (.cond (.tmp 10) (.skip) (.exit 0)) <|
  .seq (.block 1 (.seq (af [aJ 11 2 7 9,aG 12 2 11,((some 6),.op (.alloc [(.val (.int .i64 0)),(.val (.int .u32 0))])),(none,.op (.store 2 (.tmp 6) (.tmp 12)))]) <|
  .seq (af [al 13 1 6,ak 14 13,aa 15 1,aB 16 194 [14,15]]) <|
  .cond (.tmp 16) (af [aa 17 4,al 18 0 6,ak 19 18,((some 20),.op (.bf 1 1 [(.val (.int .i64 0))] [(0,(.tmp 19))])),((some 21),.op (.app 1 8 (.tmp 17) (.tmp 20))),aa 4 21]) (.skip))) <|
  af [aq 22 .add 9 1,aa 9 22]
def rZ:DF:=⟨.seq (af [((some 4),.op (.aW (.val (.emp 1))))]) <|
  .seq (.seq (af [aa 7 0,aC 8 7,ay 9 0]) <|
  .block 0 (.loop wL)) <|
  .seq (af [aa 23 4,aa 4 23]) <|
  .ret,
  [.tmp 4],24⟩
theorem u4:aD Tryz.prog 135 []=some rZ:=by kernel_rfl
def x5:DF:=⟨.seq (af [aL 4 false]) <|
  .seq (af [aa 5 0,aa 6 1,aB 7 237 [6],aF 8 .and 5 7,((some 9),.op (.arith .neq (.tmp 8) (.val (.val (.int .u32 0))))),aa 4 9]) <|
  .ret,
  [.tmp 4],10⟩
theorem yM:aD Tryz.prog 194 []=some x5:=by kernel_rfl
def xW:DF:=⟨.seq (af [((some 2),.op (.aW (.val (.val (.int .u32 0)))))]) <|
  .seq (.seq (.region [] [⟨none,[aa 3 0,aq 4 .lss 3 0,aa 5 4]⟩,⟨(some (5,false)),[aa 6 0,aq 7 .geq 6 32]⟩,⟨none,[aX 8 5 7]⟩]) <|
  .cond (.tmp 8) (.seq (af [((some 2),.op (.aW (.val (.val (.int .u32 0)))))]) <|
  .ret) (.skip)) <|
  .seq (af [aa 9 0,((some 10),.op (.sh true (.val (.val (.int .u32 1))) (.tmp 9))),aa 2 10]) <|
  .ret,
  [.tmp 2],11⟩
theorem zG:aD Tryz.prog 237 []=some xW:=by kernel_rfl
def ow:DC :=
  .seq (af [aF 21 .lss 20 19]) <|
  .seq (.cond (.tmp 21) (.skip) (.exit 0)) <|
  .seq (.block 1 (.seq (af [aJ 22 1 18 20,ak 23 22,aa 12 23]) <|
  af [aa 24 0,aa 25 0,aR 26 25,al 27 6 26,ak 28 27,aa 29 1,aa 30 2,aa 31 12,aa 32 3,((some 33),.op (.idx 1 (.tmp 32) (.val (.val (.int .i64 0))))),ak 34 33,((some 35),.op (.build [(.val (.int .i64 0)),(.val (.int .i64 0)),(.val (.int .i64 0)),(.val (.int .i64 0)),(.val (.int .i64 0))] [(0,1,(.tmp 29)),(1,1,(.tmp 30)),(2,1,(.val (.val (.int .i64 5)))),(3,1,(.tmp 31)),(4,1,(.tmp 34))])),((some 36),.op (.bf 1 5 [(.val (.int .i64 0)),(.val (.int .i64 0)),(.val (.int .i64 0)),(.val (.int .i64 0)),(.val (.int .i64 0))] [(0,(.tmp 35))])),((some 37),.op (.app 5 40 (.tmp 28) (.tmp 36))),aR 38 24,al 39 6 38,(none,.op (.store 1 (.tmp 39) (.tmp 37)))])) <|
  af [aq 40 .add 20 1,aa 20 40]
def je:DF:=⟨.seq (af [bo 9 4,((some 10),.op (.alloc [(.val (.int .i64 0)),(.val (.int .i64 0))]))]) <|
  .seq (.seq (af [aa 13 3,aC 14 13,aq 15 .eql 14 0]) <|
  .cond (.tmp 15) (.seq (af [aG 16 2 9,(none,.op (.store 2 (.tmp 10) (.tmp 16)))]) <|
  .ret) (.skip)) <|
  .seq (.seq (af [aa 17 3,((some 18),.op (.slice 1 (.tmp 17) (some (.val (.val (.int .i64 1)))) none)),aC 19 18,ay 20 0]) <|
  .block 0 (.loop ow)) <|
  .seq (.seq (af [al 41 0 9,ak 42 41,aq 43 .eql 42 0]) <|
  .cond (.tmp 43) (.seq (af [aa 44 3,((some 45),.op (.idx 1 (.tmp 44) (.val (.val (.int .i64 0))))),ak 46 45,((some 47),.op (.build [(.val (.int .i64 0)),(.val (.int .i64 0))] [(0,1,(.val (.val (.int .i64 2)))),(1,1,(.tmp 46))])),(none,.op (.store 2 (.tmp 10) (.tmp 47)))]) <|
  .ret) (.skip)) <|
  .seq (af [aa 48 0,aa 49 1,aa 50 2,aa 51 3,((some 52),.op (.idx 1 (.tmp 51) (.val (.val (.int .i64 0))))),ak 53 52,aG 54 2 9,aB 55 193 [48,49,50,53,54],(none,.op (.store 2 (.tmp 10) (.tmp 55)))]) <|
  .ret,
  [.cell 10 (some 2)],56⟩
theorem m7:aD Tryz.prog 134 [9]=some je:=by kernel_rfl
def ia:DF:=⟨.seq (af [bo 9 4,((some 10),.op (.alloc [(.val (.int .i64 0)),(.val (.int .i64 0))]))]) <|
  .seq (af [aa 12 0,aR 13 12,al 14 0 13,aG 15 4 14,aa 16 3,aa 17 2,aB 18 48 [15,16,17],aa 11 18]) <|
  .seq (af [aa 19 0,aa 20 0,aR 21 20,al 22 6 21,ak 23 22,aa 24 1,aa 25 2,aa 26 11,aa 27 3,((some 28),.op (.build [(.val (.int .i64 0)),(.val (.int .i64 0)),(.val (.int .i64 0)),(.val (.int .i64 0)),(.val (.int .i64 0))] [(0,1,(.tmp 24)),(1,1,(.tmp 25)),(2,1,(.tmp 26)),(3,1,(.tmp 27)),(4,1,(.val (.val (.int .i64 (-1)))))])),((some 29),.op (.bf 1 5 [(.val (.int .i64 0)),(.val (.int .i64 0)),(.val (.int .i64 0)),(.val (.int .i64 0)),(.val (.int .i64 0))] [(0,(.tmp 28))])),((some 30),.op (.app 5 40 (.tmp 23) (.tmp 29))),aR 31 19,al 32 6 31,(none,.op (.store 1 (.tmp 32) (.tmp 30)))]) <|
  .seq (.seq (af [aa 33 11]) <|
  .block 0 (.seq (af [aq 35 .eql 33 1,aa 34 35]) <|
  .cond (.tmp 34) (.seq (af [aa 36 3,((some 37),.op (.build [(.val (.int .i64 0)),(.val (.int .i64 0))] [(0,1,(.val (.val (.int .i64 2)))),(1,1,(.tmp 36))])),(none,.op (.store 2 (.tmp 10) (.tmp 37)))]) <|
  .ret) (.seq (af [aq 39 .eql 33 3,aa 38 39]) <|
  .cond (.tmp 38) (.seq (af [((some 40),.op (.build [(.val (.int .i64 0)),(.val (.int .i64 0))] [])),(none,.op (.store 2 (.tmp 10) (.tmp 40)))]) <|
  .ret) (.skip)))) <|
  .seq (af [aG 41 2 9,(none,.op (.store 2 (.tmp 10) (.tmp 41)))]) <|
  .ret,
  [.cell 10 (some 2)],42⟩
theorem mh:aD Tryz.prog 193 [9]=some ia:=by kernel_rfl
def oY:DF:=⟨.seq (af [bo 3 0,ay 6 0]) <|
  .seq (.block 0 (.seq (.region [] [⟨none,[aG 11 4 3,aB 12 64 [11],bC 13 12,aa 14 13]⟩,⟨(some (14,false)),[aa 15 1,aq 16 .lss 15 0]⟩,⟨none,[aX 17 14 16,aa 18 17]⟩,⟨(some (18,false)),[aa 19 1,al 20 2 3,ak 21 20,aC 22 21,aF 23 .geq 19 22]⟩,⟨none,[aX 24 18 23,aa 25 24]⟩,⟨(some (25,false)),[aa 26 2,aq 27 .lss 26 0]⟩,⟨none,[aX 28 25 27,aa 29 28]⟩,⟨(some (29,false)),[aa 30 2,al 31 0 3,ak 32 31,aC 33 32,aF 34 .gtr 30 33]⟩,⟨none,[aX 35 29 34,aa 10 35]⟩]) <|
  .cond (.tmp 10) (.seq (af [ay 6 0]) <|
  .ret) (.seq (.region [] [⟨none,[aa 37 2,al 38 0 3,ak 39 38,aC 40 39,aF 41 .eql 37 40,aa 42 41]⟩,⟨(some (42,false)),[al 43 2 3,ak 44 43,aa 45 1,aJ 46 3 44 45,al 47 2 46,ak 48 47,aq 49 .lss 48 0]⟩,⟨none,[aX 50 42 49,aa 36 50]⟩]) <|
  .cond (.tmp 36) (.seq (af [ay 6 4]) <|
  .ret) (.skip)))) <|
  .seq (.region [(11,17),(14,17)] [⟨none,[al 51 0 3,ak 52 51,al 53 2 3,ak 54 53,aa 55 1,aJ 56 3 54 55,al 57 2 56,ak 58 57,aJ 59 3 52 58,aG 60 3 59,al 61 0 3,ak 62 61,aa 63 2,aJ 64 3 62 63,aG 65 3 64,((some 7),.op (.alloc [(.val (.string ⟨#[]⟩)),(.val (.int .i64 0)),(.val (.int .i64 0))])),((some 8),.op (.alloc [(.val (.string ⟨#[]⟩)),(.val (.int .i64 0)),(.val (.int .i64 0))])),(none,.op (.store 3 (.tmp 7) (.tmp 60))),(none,.op (.store 3 (.tmp 8) (.tmp 65)))]⟩]) <|
  .seq (.seq (.region [] [⟨none,[al 66 1 7,ak 67 66,aq 68 .eql 67 0,aa 69 68]⟩,⟨(some (69,false)),[al 70 1 8,ak 71 70,aq 72 .eql 71 0]⟩,⟨none,[aX 73 69 72]⟩]) <|
  .cond (.tmp 73) (.seq (af [ay 6 4]) <|
  .ret) (.skip)) <|
  .seq (.seq (af [al 74 1 7,ak 75 74,al 76 1 8,ak 77 76,aB 78 93 [75,77],aa 9 78]) <|
  .block 1 (.seq (af [aa 80 9,aq 81 .gtr 80 0,aa 79 81]) <|
  .cond (.tmp 79) (.seq (af [ay 6 1]) <|
  .ret) (.seq (af [aa 83 9,aq 84 .lss 83 0,aa 82 84]) <|
  .cond (.tmp 82) (.seq (af [ay 6 2]) <|
  .ret) (.skip)))) <|
  .seq (.seq (af [al 85 2 8,ak 86 85]) <|
  .block 2 (.seq (af [aq 88 .eql 86 1,aa 87 88]) <|
  .cond (.tmp 87) (.seq (af [ay 6 1]) <|
  .ret) (.seq (af [aq 90 .eql 86 2,aa 89 90]) <|
  .cond (.tmp 89) (.seq (af [ay 6 2]) <|
  .ret) (.skip)))) <|
  .seq (af [ay 6 3]) <|
  .ret,
  [.tmp 6],91⟩
theorem s7:aD Tryz.prog 48 [3]=some oY:=by kernel_rfl
def k9:DF:=⟨.seq (af [ay 4 0]) <|
  .seq (af [aa 7 0,aB 8 138 [7],aa 5 8]) <|
  .seq (af [aa 9 1,aB 10 138 [9],aa 6 10]) <|
  .seq (.seq (af [aa 11 5]) <|
  .cond (.tmp 11) (.seq (.seq (af [aa 12 6]) <|
  .cond (.tmp 12) (.seq (af [ay 4 0]) <|
  .ret) (.skip)) <|
  .seq (af [ay 4 (-1)]) <|
  .ret) (.skip)) <|
  .seq (.seq (af [aa 13 6]) <|
  .cond (.tmp 13) (.seq (af [ay 4 1]) <|
  .ret) (.skip)) <|
  .seq (.seq (af [aa 14 0,aa 15 1,aF 16 .lss 14 15]) <|
  .cond (.tmp 16) (.seq (af [ay 4 (-1)]) <|
  .ret) (.skip)) <|
  .seq (.seq (af [aa 17 0,aa 18 1,aF 19 .gtr 17 18]) <|
  .cond (.tmp 19) (.seq (af [ay 4 1]) <|
  .ret) (.skip)) <|
  .seq (af [ay 4 0]) <|
  .ret,
  [.tmp 4],20⟩
theorem o9:aD Tryz.prog 93 []=some k9:=by kernel_rfl
def mL:DF:=⟨.seq (af [aL 2 false]) <|
  .seq (af [aa 3 0,aa 4 0,aF 5 .neq 3 4,aa 2 5]) <|
  .ret,
  [.tmp 2],6⟩
theorem qY:aD Tryz.prog 138 []=some mL:=by kernel_rfl
def kz:DC :=
  .seq (.seq (af [aa 34 8,aa 35 7,aC 36 35,aF 37 .lss 34 36]) <|
  .cond (.tmp 37) (.skip) (.exit 0)) <|
  .block 1 (af [aa 38 8,aa 39 7,aa 40 8,((some 41),.op (.slice 1 (.tmp 39) (some (.tmp 40)) none)),aa 42 7,aa 43 8,((some 44),.op (.slice 1 (.tmp 42) none (some (.tmp 43)))),((some 45),.op (.old (.call { callee:=.builtin .copy,args:=#[(.tmp 41),(.tmp 44)],argTypes:=#[27,27] }) 3)),aF 46 .add 38 45,aa 8 46])
def fJ:DF:=⟨.seq (af [((some 4),.op (.aW (.val (.emp 1))))]) <|
  .seq (.seq (af [aa 9 1,aq 10 .lss 9 0]) <|
  .cond (.tmp 10) (.region [] [⟨none,[((some 11),.op (.old (.makeInterface 9 (.const (.string ⟨#[99,97,110,110,111,116,32,98,101,32,110,101,103,97,116,105,118,101]⟩))) 20)),(none,.op (.old (.panic (.tmp 11)) 0))]⟩]) (.skip)) <|
  .seq (af [aa 13 0,aC 14 13,((some 15),.op (.conv .u64 (.tmp 14))),aa 16 1,((some 17),.op (.conv .u64 (.tmp 16))),aB 18 157 [15,17],aa 12 18,bE 19 0 12,bE 20 1 12,aa 5 19,aa 6 20]) <|
  .seq (.seq (.region [] [⟨none,[aa 21 5,((some 22),.op (.arith .gtr (.tmp 21) (.val (.val (.int .u64 0))))),aa 23 22]⟩,⟨(some (23,false)),[aa 24 6,((some 25),.op (.arith .gtr (.tmp 24) (.val (.val (.int .u64 9223372036854775807)))))]⟩,⟨none,[aX 26 23 25]⟩]) <|
  .cond (.tmp 26) (.region [] [⟨none,[((some 27),.op (.old (.makeInterface 9 (.const (.string ⟨#[116,104,101,32,114,101,115,117,108,116,32,111,102,32,40,108,101,110,40,120,41,32,42,32,99,111,117,110,116,41,32,111,118,101,114,102,108,111,119,115]⟩))) 20)),(none,.op (.old (.panic (.tmp 27)) 0))]⟩]) (.skip)) <|
  .seq (af [aa 28 6,((some 29),.op (.conv .i64 (.tmp 28))),((some 30),.op (.make 1 8 [(.val (.int .i64 0))] (.tmp 29) (.tmp 29))),aa 7 30]) <|
  .seq (af [aa 31 7,aa 32 0,((some 33),.op (.old (.call { callee:=.builtin .copy,args:=#[(.tmp 31),(.tmp 32)],argTypes:=#[27,27] }) 3)),aa 8 33]) <|
  .seq (.block 0 (.loop kz)) <|
  .seq (af [aa 47 7,aa 4 47]) <|
  .ret,
  [.tmp 4],48⟩
theorem jM:aD Tryz.prog 106 []=some fJ:=by kernel_rfl
def nO:DF:=⟨.seq (af [((some 4),.op (.aW (.val (.val (.int .u64 0))))),((some 5),.op (.aW (.val (.val (.int .u64 0)))))]) <|
  .seq (.cond (.val (.val (.bool false))) (.seq (af [aa 11 0,((some 12),.op (.conv .u32 (.tmp 11))),aa 13 1,((some 14),.op (.conv .u32 (.tmp 13))),aB 15 210 [12,14],aa 10 15,bE 16 0 10,bE 17 1 10,aa 6 16,aa 7 17]) <|
  .seq (af [aa 18 6,((some 19),.op (.conv .u64 (.tmp 18))),aa 20 7,((some 21),.op (.conv .u64 (.tmp 20))),aa 4 19,aa 5 21]) <|
  .ret) (.skip)) <|
  .seq (af [aa 23 0,aa 24 1,aB 25 211 [23,24],aa 22 25,bE 26 0 22,bE 27 1 22,aa 8 26,aa 9 27]) <|
  .seq (af [aa 28 8,aa 29 9,aa 4 28,aa 5 29]) <|
  .ret,
  [.tmp 4,.tmp 5],30⟩
theorem sH:aD Tryz.prog 157 []=some nO:=by kernel_rfl
def lZ:DF:=⟨.seq (af [((some 4),.op (.aW (.val (.val (.int .u32 0))))),((some 5),.op (.aW (.val (.val (.int .u32 0)))))]) <|
  .seq (af [aa 7 0,((some 8),.op (.conv .u64 (.tmp 7))),aa 9 1,((some 10),.op (.conv .u64 (.tmp 9))),aF 11 .mul 8 10,aa 6 11]) <|
  .seq (af [aa 12 6,((some 13),.op (.sh false (.tmp 12) (.val (.val (.int .u64 32))))),((some 14),.op (.conv .u32 (.tmp 13))),aa 15 6,((some 16),.op (.conv .u32 (.tmp 15))),aa 4 14,aa 5 16]) <|
  .ret,
  [.tmp 4,.tmp 5],17⟩
theorem qn:aD Tryz.prog 210 []=some lZ:=by kernel_rfl
def lV:DF:=⟨.seq (af [((some 4),.op (.aW (.val (.val (.int .u64 0))))),((some 5),.op (.aW (.val (.val (.int .u64 0)))))]) <|
  .seq (af [aa 14 0,((some 15),.op (.arith .and (.tmp 14) (.val (.val (.int .u64 4294967295))))),aa 6 15]) <|
  .seq (af [aa 16 0,((some 17),.op (.sh false (.tmp 16) (.val (.val (.int .u64 32))))),aa 7 17]) <|
  .seq (af [aa 18 1,((some 19),.op (.arith .and (.tmp 18) (.val (.val (.int .u64 4294967295))))),aa 8 19]) <|
  .seq (af [aa 20 1,((some 21),.op (.sh false (.tmp 20) (.val (.val (.int .u64 32))))),aa 9 21]) <|
  .seq (af [aa 22 6,aa 23 8,aF 24 .mul 22 23,aa 10 24]) <|
  .seq (af [aa 25 7,aa 26 8,aF 27 .mul 25 26,aa 28 10,((some 29),.op (.sh false (.tmp 28) (.val (.val (.int .u64 32))))),aF 30 .add 27 29,aa 11 30]) <|
  .seq (af [aa 31 11,((some 32),.op (.arith .and (.tmp 31) (.val (.val (.int .u64 4294967295))))),aa 12 32]) <|
  .seq (af [aa 33 11,((some 34),.op (.sh false (.tmp 33) (.val (.val (.int .u64 32))))),aa 13 34]) <|
  .seq (af [aa 35 12,aa 36 6,aa 37 9,aF 38 .mul 36 37,aF 39 .add 35 38,aa 12 39]) <|
  .seq (af [aa 40 7,aa 41 9,aF 42 .mul 40 41,aa 43 13,aF 44 .add 42 43,aa 45 12,((some 46),.op (.sh false (.tmp 45) (.val (.val (.int .u64 32))))),aF 47 .add 44 46,aa 4 47]) <|
  .seq (af [aa 48 0,aa 49 1,aF 50 .mul 48 49,aa 5 50]) <|
  .ret,
  [.tmp 4,.tmp 5],51⟩
theorem qa:aD Tryz.prog 211 []=some lV:=by kernel_rfl
def dh:DF:=⟨.seq (af [bo 3 1,aL 4 false]) <|
  .seq (af [aa 5 0,aG 6 2 3,aB 7 192 [5,6],aq 8 .geq 7 0,aa 4 8]) <|
  .ret,
  [.tmp 4],9⟩
theorem fo:aD Tryz.prog 133 [3]=some dh:=by kernel_rfl
def gn:DC :=
  .seq (af [aF 9 .lss 8 7]) <|
  .seq (.cond (.tmp 9) (.skip) (.exit 0)) <|
  .seq (.block 1 (.seq (af [aa 10 8,aa 5 10]) <|
  .seq (af [aG 11 2 3,aa 12 0,aa 13 5,aJ 14 2 12 13,aG 15 2 14,((some 16),.op (.old (.binOp .eql 55 (.tmp 11) (.tmp 15) 55) 4))]) <|
  .cond (.tmp 16) (.seq (af [aa 17 5,aa 4 17]) <|
  .ret) (.skip))) <|
  af [aq 18 .add 8 1,aa 8 18]
def dM:DF:=⟨.seq (af [bo 3 1,ay 4 0]) <|
  .seq (.seq (af [aa 6 0,aC 7 6,ay 8 0]) <|
  .block 0 (.loop gn)) <|
  .seq (af [ay 4 (-1)]) <|
  .ret,
  [.tmp 4],19⟩
theorem fT:aD Tryz.prog 192 [3]=some dM:=by kernel_rfl
def wh:DC :=
  .seq (af [aF 49 .lss 48 47]) <|
  .seq (.cond (.tmp 49) (.skip) (.exit 2)) <|
  .seq (.block 3 (.seq (af [aa 50 48,aa 9 50]) <|
  .seq (af [aa 51 8,aa 52 9,((some 53),.op (.old (.lookup 119 (.tmp 51) (.tmp 52) false) 51)),aB 54 76 [53],aa 10 54]) <|
  .seq (.seq (af [aa 55 10,aC 56 55,aq 57 .eql 56 0]) <|
  .cond (.tmp 57) (.exit 3) (.skip)) <|
  .seq (af [aa 58 9,aa 11 58]) <|
  .seq (.seq (af [aa 59 9,al 60 0 1,ak 61 60,aC 62 61,aF 63 .geq 59 62]) <|
  .cond (.tmp 63) (af [al 64 0 1,ak 65 64,aC 66 65,aq 67 .sub 66 1,aa 68 9,aF 69 .sub 67 68,aa 11 69]) (.skip)) <|
  .seq (af [aa 71 6,aa 72 10,aB 73 74 [72],((some 74),.op (.old (.lookup 118 (.tmp 71) (.tmp 73) true) 52)),aa 70 74,bE 75 0 70,bE 76 1 70,aa 12 75,aa 13 76]) <|
  .seq (.seq (af [aa 77 13,bC 78 77]) <|
  .cond (.tmp 78) (.seq (af [aa 79 5,aC 80 79,aa 12 80]) <|
  .seq (af [aa 81 6,aa 82 10,aB 83 74 [82],aa 84 12,(none,.op (.old (.mapUpdate 118 (.tmp 81) (.tmp 83) (.tmp 84)) 0))]) <|
  af [aa 85 5,aa 86 10,((some 87),.op (.build [(.emp 1),(.emp 1)] [(0,1,(.tmp 86))])),((some 88),.op (.bf 1 2 [(.emp 1),(.emp 1)] [(0,(.tmp 87))])),((some 89),.op (.app 2 48 (.tmp 85) (.tmp 88))),aa 5 89]) (.skip)) <|
  af [aa 90 5,aa 91 7,aa 92 5,aa 93 7,aJ 94 2 92 93,al 95 1 94,ak 96 95,aa 97 11,aa 98 12,((some 99),.op (.build [(.val (.int .i64 0)),(.val (.int .i64 0))] [(0,1,(.tmp 97)),(1,1,(.tmp 98))])),((some 100),.op (.bf 1 2 [(.val (.int .i64 0)),(.val (.int .i64 0))] [(0,(.tmp 99))])),((some 101),.op (.app 2 16 (.tmp 96) (.tmp 100))),aJ 102 2 90 91,al 103 1 102,(none,.op (.store 1 (.tmp 103) (.tmp 101)))])) <|
  af [aq 104 .add 48 1,aa 48 104]
def wo:DC :=
  .seq (.seq (af [aa 26 7,aa 27 5,aC 28 27,aF 29 .lss 26 28]) <|
  .cond (.tmp 29) (.skip) (.exit 0)) <|
  .seq (.block 1 (.seq (.region [(0,7)] [⟨none,[aG 32 4 1,aG 33 4 1,aa 34 5,aa 35 7,aJ 36 2 34 35,al 37 0 36,ak 38 37,aB 39 68 [33,38],aB 40 75 [32,39],aa 8 40]⟩]) <|
  .seq (.seq (af [al 41 0 1,ak 42 41,aC 43 42,al 44 1 1,ak 45 44,aC 46 45,aF 47 .add 43 46,ay 48 0]) <|
  .block 2 (.loop wh)) <|
  .seq (af [aa 105 5,aC 106 105,aq 107 .gtr 106 300]) <|
  .cond (.tmp 107) (.seq (af [((some 2),.op (.aW (.val (.emp 1)))),ay 3 5]) <|
  .ret) (.skip))) <|
  af [aa 30 7,aq 31 .add 30 1,aa 7 31]
def sJ:DF:=⟨.seq (af [bo 1 0,((some 2),.op (.aW (.val (.emp 1)))),ay 3 0]) <|
  .seq (.seq (af [aG 14 4 1,aB 15 73 [14],bC 16 15]) <|
  .cond (.tmp 16) (.seq (af [((some 2),.op (.aW (.val (.emp 1)))),ay 3 1]) <|
  .ret) (.skip)) <|
  .seq (af [((some 17),.op (.build [(.val (.int .i64 0)),(.val (.int .i64 0))] [(0,1,(.val (.val (.int .i64 (-1)))))])),((some 18),.op (.bf 1 2 [(.val (.int .i64 0)),(.val (.int .i64 0))] [(0,(.tmp 17))])),aa 4 18]) <|
  .seq (af [aa 19 4,((some 20),.op (.build [(.emp 1),(.emp 1)] [(0,1,(.tmp 19))])),((some 21),.op (.bf 1 2 [(.emp 1),(.emp 1)] [(0,(.tmp 20))])),aa 5 21]) <|
  .seq (af [((some 22),.op (.ju)),aa 23 4,aB 24 74 [23],(none,.op (.old (.insert 118 (.tmp 22) (.tmp 24) (.const (.int .i64 0))) 0)),aa 25 22,aa 6 25]) <|
  .seq (.seq (af [ay 7 0]) <|
  .block 0 (.loop wo)) <|
  .seq (af [aa 108 5,aa 2 108,ay 3 0]) <|
  .ret,
  [.tmp 2,.tmp 3],109⟩
theorem uz:aD Tryz.prog 32 [1]=some sJ:=by kernel_rfl
def tG:DF:=⟨.seq (af [((some 2),.op (.aW (.val (.emp 1))))]) <|
  .seq (af [aa 3 0,bT 4 123 [(.tmp 3),(.val (.fn 124 [] []))]]) <|
  .seq (af [aa 5 0,aB 6 125 [5],aa 2 6]) <|
  .ret,
  [.tmp 2],7⟩
theorem vU:aD Tryz.prog 76 []=some tG:=by kernel_rfl
def di:DF:=⟨.seq (af [aa 5 0,aC 6 5,aa 4 6]) <|
  af [aa 7 0,aa 8 4,aa 9 4,((some 10),.op (.conv .u64 (.tmp 9))),aB 11 184 [10],aa 12 1,bT 13 183 [(.tmp 7),(.val (.val (.int .i64 0))),(.tmp 8),(.tmp 11),(.tmp 12)]],
  [],14⟩
theorem fv:aD Tryz.prog 123 []=some di:=by kernel_rfl
def nu:DF:=⟨.seq (af [ay 2 0]) <|
  .seq (.cond (.val (.val (.bool false))) (.seq (af [aa 3 0,((some 4),.op (.conv .u32 (.tmp 3))),aB 5 233 [4],aa 2 5]) <|
  .ret) (.skip)) <|
  .seq (af [aa 6 0,aB 7 234 [6],aa 2 7]) <|
  .ret,
  [.tmp 2],8⟩
theorem r8:aD Tryz.prog 184 []=some nu:=by kernel_rfl
def lS:DF:=⟨.seq (af [ay 2 0]) <|
  .seq (.seq (af [aa 3 0,((some 4),.op (.arith .geq (.tmp 3) (.val (.val (.int .u32 65536)))))]) <|
  .cond (.tmp 4) (.seq (af [aa 5 0,((some 6),.op (.sh false (.tmp 5) (.val (.val (.int .u64 16))))),aa 0 6]) <|
  af [ay 2 16]) (.skip)) <|
  .seq (.seq (af [aa 7 0,((some 8),.op (.arith .geq (.tmp 7) (.val (.val (.int .u32 256)))))]) <|
  .cond (.tmp 8) (.seq (af [aa 9 0,((some 10),.op (.sh false (.tmp 9) (.val (.val (.int .u64 8))))),aa 0 10]) <|
  af [aa 11 2,aq 12 .add 11 8,aa 2 12]) (.skip)) <|
  .seq (.region [] [⟨none,[aa 13 2,aa 14 0,((some 15),.op (.conv .u8 (.tmp 14))),((some 16),.op (.b4 (.val (.val (.string ⟨#[0,1,2,2,3,3,3,3,4,4,4,4,4,4,4,4,5,5,5,5,5,5,5,5,5,5,5,5,5,5,5,5,6,6,6,6,6,6,6,6,6,6,6,6,6,6,6,6,6,6,6,6,6,6,6,6,6,6,6,6,6,6,6,6,7,7,7,7,7,7,7,7,7,7,7,7,7,7,7,7,7,7,7,7,7,7,7,7,7,7,7,7,7,7,7,7,7,7,7,7,7,7,7,7,7,7,7,7,7,7,7,7,7,7,7,7,7,7,7,7,7,7,7,7,7,7,7,7,8,8,8,8,8,8,8,8,8,8,8,8,8,8,8,8,8,8,8,8,8,8,8,8,8,8,8,8,8,8,8,8,8,8,8,8,8,8,8,8,8,8,8,8,8,8,8,8,8,8,8,8,8,8,8,8,8,8,8,8,8,8,8,8,8,8,8,8,8,8,8,8,8,8,8,8,8,8,8,8,8,8,8,8,8,8,8,8,8,8,8,8,8,8,8,8,8,8,8,8,8,8,8,8,8,8,8,8,8,8,8,8,8,8,8,8,8,8,8,8,8,8,8,8,8,8,8,8]⟩))) (.tmp 15))),((some 17),.op (.conv .i64 (.tmp 16))),aF 18 .add 13 17,aa 2 18]⟩]) <|
  .ret,
  [.tmp 2],19⟩
theorem pP:aD Tryz.prog 233 []=some lS:=by kernel_rfl
def lW:DF:=⟨.seq (af [ay 2 0]) <|
  .seq (.seq (af [aa 3 0,((some 4),.op (.arith .geq (.tmp 3) (.val (.val (.int .u64 4294967296)))))]) <|
  .cond (.tmp 4) (.seq (af [aa 5 0,((some 6),.op (.sh false (.tmp 5) (.val (.val (.int .u64 32))))),aa 0 6]) <|
  af [ay 2 32]) (.skip)) <|
  .seq (.seq (af [aa 7 0,((some 8),.op (.arith .geq (.tmp 7) (.val (.val (.int .u64 65536)))))]) <|
  .cond (.tmp 8) (.seq (af [aa 9 0,((some 10),.op (.sh false (.tmp 9) (.val (.val (.int .u64 16))))),aa 0 10]) <|
  af [aa 11 2,aq 12 .add 11 16,aa 2 12]) (.skip)) <|
  .seq (.seq (af [aa 13 0,((some 14),.op (.arith .geq (.tmp 13) (.val (.val (.int .u64 256)))))]) <|
  .cond (.tmp 14) (.seq (af [aa 15 0,((some 16),.op (.sh false (.tmp 15) (.val (.val (.int .u64 8))))),aa 0 16]) <|
  af [aa 17 2,aq 18 .add 17 8,aa 2 18]) (.skip)) <|
  .seq (.region [] [⟨none,[aa 19 2,aa 20 0,((some 21),.op (.conv .u8 (.tmp 20))),((some 22),.op (.b4 (.val (.val (.string ⟨#[0,1,2,2,3,3,3,3,4,4,4,4,4,4,4,4,5,5,5,5,5,5,5,5,5,5,5,5,5,5,5,5,6,6,6,6,6,6,6,6,6,6,6,6,6,6,6,6,6,6,6,6,6,6,6,6,6,6,6,6,6,6,6,6,7,7,7,7,7,7,7,7,7,7,7,7,7,7,7,7,7,7,7,7,7,7,7,7,7,7,7,7,7,7,7,7,7,7,7,7,7,7,7,7,7,7,7,7,7,7,7,7,7,7,7,7,7,7,7,7,7,7,7,7,7,7,7,7,8,8,8,8,8,8,8,8,8,8,8,8,8,8,8,8,8,8,8,8,8,8,8,8,8,8,8,8,8,8,8,8,8,8,8,8,8,8,8,8,8,8,8,8,8,8,8,8,8,8,8,8,8,8,8,8,8,8,8,8,8,8,8,8,8,8,8,8,8,8,8,8,8,8,8,8,8,8,8,8,8,8,8,8,8,8,8,8,8,8,8,8,8,8,8,8,8,8,8,8,8,8,8,8,8,8,8,8,8,8,8,8,8,8,8,8,8,8,8,8,8,8,8,8,8,8,8,8]⟩))) (.tmp 21))),((some 23),.op (.conv .i64 (.tmp 22))),aF 24 .add 19 23,aa 2 24]⟩]) <|
  .ret,
  [.tmp 2],25⟩
theorem qe:aD Tryz.prog 234 []=some lW:=by kernel_rfl
def gI:DC :=
  .block 1 (.seq (af [aa 21 2,aa 22 1,aF 23 .sub 21 22,aa 12 23]) <|
  .seq (.seq (af [aa 24 12,aq 25 .leq 24 12]) <|
  .cond (.tmp 25) (.seq (af [aa 26 0,aa 27 1,aa 28 2,aa 29 4,aB 30 225 [26,27,28,29]]) <|
  .ret) (.skip)) <|
  .seq (.seq (af [aa 31 3,aq 32 .eql 31 0]) <|
  .cond (.tmp 32) (.seq (af [aa 33 0,aa 34 1,aa 35 2,aa 36 4,aB 37 226 [33,34,35,36]]) <|
  .ret) (.skip)) <|
  .seq (.seq (af [aa 38 10,bC 39 38]) <|
  .cond (.tmp 39) (.seq (af [aa 40 0,aa 41 1,aa 42 2,aa 43 4,aB 44 227 [40,41,42,43]]) <|
  af [aa 45 3,aq 46 .sub 45 1,aa 3 46]) (.skip)) <|
  .seq (af [aa 48 0,aa 49 1,aa 50 2,aa 51 4,aB 52 228 [48,49,50,51],aa 47 52,bE 53 0 47,bE 54 1 47,aa 13 53,aa 14 54]) <|
  .seq (.seq (af [aa 55 14,aq 56 .eql 55 2]) <|
  .cond (.tmp 56) (.seq (af [aa 57 0,aa 58 1,aa 59 2,aa 60 4,aB 61 229 [57,58,59,60]]) <|
  .seq (af [aa 62 2,aq 63 .sub 62 1,aa 64 13,aa 65 1,aF 66 .sub 64 65,aF 67 .sub 63 66,aa 13 67]) <|
  af [ay 14 1]) (.skip)) <|
  .seq (.seq (.region [] [⟨none,[aa 68 10,aa 69 68]⟩,⟨(some (69,true)),[aa 70 11]⟩,⟨none,[bh 71 69 70,aa 72 71]⟩,⟨(some (72,true)),[aa 73 14,aq 74 .eql 73 1]⟩,⟨none,[bh 75 72 74]⟩]) <|
  .cond (.tmp 75) (.seq (af [aa 76 0,aa 77 1,aa 78 2,aa 79 4,aB 80 230 [76,77,78,79]]) <|
  .cond (.tmp 80) (.ret) (.skip)) (.skip)) <|
  .seq (.seq (.region [] [⟨none,[aa 81 1,aq 82 .gtr 81 0,aa 83 82]⟩,⟨(some (83,true)),[aa 84 4,aa 85 0,aa 86 1,aq 87 .sub 86 1,aJ 88 2 85 87,aG 89 2 88,aa 90 0,aa 91 13,aJ 92 2 90 91,aG 93 2 92,((some 94),.call (.tmp 84) [(.tmp 89),(.tmp 93)]),aq 95 .lss 94 0,bC 96 95]⟩,⟨none,[bh 97 83 96]⟩]) <|
  .cond (.tmp 97) (.seq (af [aa 98 0,aa 99 1,aa 100 2,aa 101 13,aa 102 4,aB 103 231 [98,99,100,101,102],aa 15 103]) <|
  .seq (af [aa 104 15,aa 1 104]) <|
  .exit 1) (.skip)) <|
  .seq (af [aa 106 0,aa 107 1,aa 108 2,aa 109 13,aa 110 4,aB 111 232 [106,107,108,109,110],aa 105 111,bE 112 0 105,bE 113 1 105,aa 16 112,aa 17 113]) <|
  .seq (af [aa 114 17,aa 11 114]) <|
  .seq (af [aa 115 16,aa 116 1,aF 117 .sub 115 116,aa 118 2,aa 119 16,aF 120 .sub 118 119,aa 18 117,aa 19 120]) <|
  .seq (af [aa 121 12,aq 122 .quo 121 8,aa 20 122]) <|
  .seq (af [aa 123 18,aa 124 19,aF 125 .lss 123 124]) <|
  .cond (.tmp 125) (.seq (af [aa 126 18,aa 127 20,aF 128 .geq 126 127,aa 10 128]) <|
  .seq (af [aa 129 0,aa 130 1,aa 131 16,aa 132 3,aa 133 4,aB 134 183 [129,130,131,132,133]]) <|
  af [aa 135 16,aq 136 .add 135 1,aa 1 136]) (.seq (af [aa 137 19,aa 138 20,aF 139 .geq 137 138,aa 10 139]) <|
  .seq (af [aa 140 0,aa 141 16,aq 142 .add 141 1,aa 143 2,aa 144 3,aa 145 4,aB 146 183 [140,142,143,144,145]]) <|
  af [aa 147 16,aa 2 147]))
def dW:DF:=⟨.seq (af [aL 10 true]) <|
  .seq (af [aL 11 true]) <|
  .block 0 (.loop gI),
  [],148⟩
theorem gC:aD Tryz.prog 183 []=some dW:=by kernel_rfl
def fk:DC :=
  .seq (.seq (.region [] [⟨none,[aa 18 9,aa 19 1,aF 20 .gtr 18 19,aa 21 20]⟩,⟨(some (21,true)),[aa 22 3,aa 23 0,aa 24 9,aJ 25 2 23 24,aG 26 2 25,aa 27 0,aa 28 9,aq 29 .sub 28 1,aJ 30 2 27 29,aG 31 2 30,((some 32),.call (.tmp 22) [(.tmp 26),(.tmp 31)]),aq 33 .lss 32 0]⟩,⟨none,[bh 34 21 33]⟩]) <|
  .cond (.tmp 34) (.skip) (.exit 2)) <|
  .seq (.block 3 (af [aa 37 0,aa 38 9,aa 39 0,aa 40 9,aq 41 .sub 40 1,aa 42 0,aa 43 9,aq 44 .sub 43 1,aJ 45 2 42 44,aG 46 2 45,aa 47 0,aa 48 9,aJ 49 2 47 48,aG 50 2 49,aJ 51 2 37 38,(none,.op (.store 2 (.tmp 51) (.tmp 46))),aJ 52 2 39 41,(none,.op (.store 2 (.tmp 52) (.tmp 50)))])) <|
  af [aa 35 9,aq 36 .sub 35 1,aa 9 36]
def fq:DC :=
  .seq (.seq (af [aa 12 8,aa 13 2,aF 14 .lss 12 13]) <|
  .cond (.tmp 14) (.skip) (.exit 0)) <|
  .seq (.block 1 (.seq (af [aa 17 8,aa 9 17]) <|
  .block 2 (.loop fk))) <|
  af [aa 15 8,aq 16 .add 15 1,aa 8 16]
def c9:DF:=⟨.seq (af [aa 10 1,aq 11 .add 10 1,aa 8 11]) <|
  .block 0 (.loop fq),
  [],53⟩
theorem eY:aD Tryz.prog 225 []=some c9:=by kernel_rfl
def rn:DF:=⟨.seq (af [bo 2 0,bo 3 1,ay 4 0]) <|
  .seq (.region [(4,6),(4,8)] [⟨none,[al 5 0 2,ak 6 5,al 7 0 3,ak 8 7,aB 9 93 [6,8],al 10 1 2,ak 11 10,al 12 1 3,ak 13 12,aB 14 93 [11,13],((some 15),.op (.bf 2 1 [(.val (.int .i64 0))] [(0,(.tmp 9)),(1,(.tmp 14))])),aB 16 185 [15],aa 4 16]⟩]) <|
  .ret,
  [.tmp 4],17⟩
theorem uR:aD Tryz.prog 124 [2,3]=some rn:=by kernel_rfl
def vM:DC :=
  .seq (af [aF 9 .lss 8 7]) <|
  .seq (.cond (.tmp 9) (.skip) (.exit 0)) <|
  .seq (.block 1 (.seq (af [aJ 10 1 6 8,ak 11 10,aa 5 11]) <|
  .seq (af [aa 12 5,aa 13 3,aF 14 .neq 12 13]) <|
  .cond (.tmp 14) (.seq (af [aa 15 5,aa 2 15]) <|
  .ret) (.skip))) <|
  af [aq 16 .add 8 1,aa 8 16]
def qT:DF:=⟨.seq (af [ay 2 0]) <|
  .seq (af [ay 3 0]) <|
  .seq (.seq (af [aa 6 0,aC 7 6,ay 8 0]) <|
  .block 0 (.loop vM)) <|
  .seq (af [aa 17 3,aa 2 17]) <|
  .ret,
  [.tmp 2],18⟩
theorem tS:aD Tryz.prog 185 []=some qT:=by kernel_rfl
def fH:DC :=
  .seq (.seq (af [aa 29 5,aa 30 4,aC 31 30,aF 32 .lss 29 31]) <|
  .cond (.tmp 32) (.skip) (.exit 2)) <|
  .seq (.block 3 (.seq (af [aa 35 4,aa 36 5,aJ 37 2 35 36,aG 38 2 37,aa 39 4,aa 40 5,aq 41 .sub 40 1,aJ 42 2 39 41,aG 43 2 42,((some 44),.op (.old (.binOp .neq 55 (.tmp 38) (.tmp 43) 55) 4))]) <|
  .cond (.tmp 44) (.seq (af [aa 45 0,aa 46 3,aa 47 4,aa 48 5,aJ 49 2 47 48,aG 50 2 49,aJ 51 2 45 46,(none,.op (.store 2 (.tmp 51) (.tmp 50)))]) <|
  af [aa 52 3,aq 53 .add 52 1,aa 3 53]) (.skip))) <|
  af [aa 33 5,aq 34 .add 33 1,aa 5 34]
def fK:DC :=
  .seq (.seq (af [aa 10 3,aa 11 0,aC 12 11,aF 13 .lss 10 12]) <|
  .cond (.tmp 13) (.skip) (.exit 0)) <|
  .seq (.block 1 (.seq (af [aa 16 0,aa 17 3,aJ 18 2 16 17,aG 19 2 18,aa 20 0,aa 21 3,aq 22 .sub 21 1,aJ 23 2 20 22,aG 24 2 23,((some 25),.op (.old (.binOp .eql 55 (.tmp 19) (.tmp 24) 55) 4))]) <|
  .cond (.tmp 25) (.seq (af [aa 26 0,aa 27 3,((some 28),.op (.slice 2 (.tmp 26) (some (.tmp 27)) none)),aa 4 28]) <|
  .seq (.seq (af [ay 5 1]) <|
  .block 2 (.loop fH)) <|
  .seq (af [aa 54 0,aa 55 3,((some 56),.op (.slice 2 (.tmp 54) (some (.tmp 55)) none)),(none,.op (.old (.call { callee:=.builtin .clear,args:=#[(.tmp 56)],argTypes:=#[51] }) 0))]) <|
  .seq (af [aa 57 0,aa 58 3,((some 59),.op (.slice 2 (.tmp 57) none (some (.tmp 58)))),aa 2 59]) <|
  .ret) (.skip))) <|
  af [aa 14 3,aq 15 .add 14 1,aa 3 15]
def dt:DF:=⟨.seq (af [((some 2),.op (.aW (.val (.emp 1))))]) <|
  .seq (.seq (af [aa 6 0,aC 7 6,aq 8 .lss 7 2]) <|
  .cond (.tmp 8) (.seq (af [aa 9 0,aa 2 9]) <|
  .ret) (.skip)) <|
  .seq (.seq (af [ay 3 1]) <|
  .block 0 (.loop fK)) <|
  .seq (af [aa 60 0,aa 2 60]) <|
  .ret,
  [.tmp 2],61⟩
theorem fE:aD Tryz.prog 125 []=some dt:=by kernel_rfl
def An:DC :=
  .seq (af [aF 9 .lss 8 7]) <|
  .seq (.cond (.tmp 9) (.skip) (.exit 0)) <|
  .seq (.block 1 (.seq (af [aJ 10 2 6 8,aG 11 2 10,((some 5),.op (.alloc [(.val (.int .i64 0)),(.val (.int .i64 0))])),(none,.op (.store 2 (.tmp 5) (.tmp 11)))]) <|
  af [aa 12 3,al 13 0 5,ak 14 13,aq 15 .add 14 1,((some 16),.op (.conv .u8 (.tmp 15))),al 17 1 5,ak 18 17,((some 19),.op (.conv .u8 (.tmp 18))),((some 20),.op (.bf 2 1 [(.val (.int .u8 0))] [(0,(.tmp 16)),(1,(.tmp 19))])),((some 21),.op (.app 1 1 (.tmp 12) (.tmp 20))),aa 3 21])) <|
  af [aq 22 .add 8 1,aa 8 22]
def uN:DF:=⟨.seq (.region [] [⟨none,[((some 2),.op (.aW (.val (.val (.string ⟨#[]⟩)))))]⟩]) <|
  .seq (af [((some 3),.op (.aW (.val (.emp 1))))]) <|
  .seq (.seq (af [aa 6 0,aC 7 6,ay 8 0]) <|
  .block 0 (.loop An)) <|
  .seq (af [aa 23 3,((some 24),.op (.old (.convert 96 9 (.tmp 23)) 9)),aa 2 24]) <|
  .ret,
  [.tmp 2],25⟩
theorem yj:aD Tryz.prog 74 []=some uN:=by kernel_rfl
def tX:DC :=
  .seq (af [aF 54 .lss 53 52]) <|
  .seq (.cond (.tmp 54) (.skip) (.exit 2)) <|
  .seq (.block 3 (.seq (af [aa 55 53,aJ 56 3 51 53,aG 57 3 56,((some 11),.op (.alloc [(.val (.int .i64 0)),(.emp 1),(.val (.int .i64 0))])),aa 10 55,(none,.op (.store 3 (.tmp 11) (.tmp 57)))]) <|
  .seq (af [al 58 0 11,ak 59 58,aa 60 8,((some 61),.op (.arith .sub (.val (.val (.int .i64 (-1)))) (.tmp 60))),aF 62 .eql 59 61]) <|
  .cond (.tmp 62) (af [aa 63 5,aa 64 10,((some 65),.op (.build [(.val (.int .i64 0)),(.val (.int .i64 0))] [(0,1,(.tmp 64))])),((some 66),.op (.bf 1 2 [(.val (.int .i64 0)),(.val (.int .i64 0))] [(0,(.tmp 65))])),((some 67),.op (.app 2 16 (.tmp 63) (.tmp 66))),aa 5 67]) (.skip))) <|
  af [aq 68 .add 53 1,aa 53 68]
def tH:DC :=
  .seq (.seq (af [aa 18 7,aa 19 5,aC 20 19,aF 21 .lss 18 20]) <|
  .cond (.tmp 21) (.skip) (.exit 0)) <|
  .seq (.block 1 (.seq (af [aG 25 4 2,aa 26 5,aa 27 7,aJ 28 2 26 27,aG 29 2 28,aB 30 62 [25,29],aa 24 30,bE 31 0 24,bE 32 1 24,aa 8 31,aa 9 32]) <|
  .seq (.seq (.region [] [⟨none,[aa 33 9,bC 34 33,aa 35 34]⟩,⟨(some (35,false)),[aa 36 8,aq 37 .geq 36 0]⟩,⟨none,[aX 38 35 37,aa 39 38]⟩,⟨(some (39,false)),[aa 40 6,aa 41 8,((some 42),.op (.arith .sub (.val (.val (.int .i64 (-1)))) (.tmp 41))),aJ 43 1 40 42,ak 44 43]⟩,⟨none,[aX 45 39 44]⟩]) <|
  .cond (.tmp 45) (.exit 1) (.skip)) <|
  .seq (af [aa 46 6,aa 47 8,((some 48),.op (.arith .sub (.val (.val (.int .i64 (-1)))) (.tmp 47))),aJ 49 1 46 48,(none,.op (.store 1 (.tmp 49) (.val (.val (.bool true)))))]) <|
  .seq (af [al 50 2 2,ak 51 50,aC 52 51,ay 53 0]) <|
  .block 2 (.loop tX))) <|
  af [aa 22 7,aq 23 .add 22 1,aa 7 23]
def o4:DF:=⟨.seq (af [bo 2 0,((some 4),.op (.aW (.val (.emp 1))))]) <|
  .seq (af [aa 12 1,aB 13 70 [12],aa 5 13]) <|
  .seq (af [al 14 1 2,ak 15 14,aC 16 15,((some 17),.op (.make 1 1 [(.val (.bool false))] (.tmp 16) (.tmp 16))),aa 6 17]) <|
  .seq (.seq (af [ay 7 0]) <|
  .block 0 (.loop tH)) <|
  .seq (af [aa 69 5,aB 70 76 [69],aa 4 70]) <|
  .ret,
  [.tmp 4],71⟩
theorem s9:aD Tryz.prog 68 [2]=some o4:=by kernel_rfl
def tt:DF:=⟨.seq (af [bo 2 0,bo 3 1,ay 4 0,aL 5 false]) <|
  .seq (.seq (af [aG 7 4 2,al 8 0 3,ak 9 8,aB 10 65 [7,9],aa 6 10]) <|
  .seq (af [al 11 1 3,ak 12 11,aa 13 6,aC 14 13,aF 15 .lss 12 14]) <|
  .cond (.tmp 15) (.seq (af [aa 16 6,al 17 1 3,ak 18 17,aJ 19 1 16 18,ak 20 19,aa 4 20,aL 5 true]) <|
  .ret) (.skip)) <|
  .seq (af [ay 4 0,aL 5 false]) <|
  .ret,
  [.tmp 4,.tmp 5],21⟩
theorem wH:aD Tryz.prog 62 [2,3]=some tt:=by kernel_rfl
def rU:DF:=⟨.seq (af [bo 2 0,((some 4),.op (.aW (.val (.emp 1))))]) <|
  .seq (.seq (af [aa 5 1,aq 6 .eql 5 (-1)]) <|
  .cond (.tmp 6) (.seq (af [al 7 3 2,ak 8 7,((some 9),.op (.arith .sub (.val (.val (.int .i64 (-1)))) (.tmp 8))),((some 10),.op (.bf 1 1 [(.val (.int .i64 0))] [(0,(.tmp 9))])),aa 4 10]) <|
  .ret) (.skip)) <|
  .seq (af [al 11 2 2,ak 12 11,aa 13 1,aJ 14 3 12 13,al 15 1 14,ak 16 15,aa 4 16]) <|
  .ret,
  [.tmp 4],17⟩
theorem uI:aD Tryz.prog 65 [2]=some rU:=by kernel_rfl
def dJ:DF:=⟨.seq (af [((some 2),.op (.aW (.val (.emp 1))))]) <|
  .seq (.seq (af [aa 3 0,((some 4),.op (.nil true 0 (.tmp 3) (.val (.emp 1))))]) <|
  .cond (.tmp 4) (.seq (af [((some 2),.op (.aW (.val (.emp 1))))]) <|
  .ret) (.skip)) <|
  .seq (af [((some 5),.op (.aW (.val (.emp 2)))),aa 6 0,((some 7),.op (.app 2 16 (.tmp 5) (.tmp 6))),aa 2 7]) <|
  .ret,
  [.tmp 2],8⟩
theorem fU:aD Tryz.prog 70 []=some dJ:=by kernel_rfl
def vX:DC :=
  .seq (af [aF 15 .lss 14 13]) <|
  .seq (.cond (.tmp 15) (.skip) (.exit 0)) <|
  .seq (.block 1 (.seq (af [aJ 16 2 12 14,aG 17 2 16,((some 7),.op (.alloc [(.val (.int .i64 0)),(.val (.int .i64 0))])),(none,.op (.store 2 (.tmp 7) (.tmp 17)))]) <|
  .seq (af [aG 19 4 2,aG 20 2 7,aB 21 62 [19,20],aa 18 21,bE 22 0 18,bE 23 1 18,aa 8 22,aa 9 23]) <|
  .seq (af [aa 24 9]) <|
  .cond (.tmp 24) (.seq (af [aG 25 4 2,aa 26 8,aB 27 122 [25,26],aa 10 27]) <|
  af [aa 28 5,aa 29 10,aa 30 5,aa 31 10,((some 32),.op (.old (.lookup 119 (.tmp 30) (.tmp 31) false) 51)),al 33 0 7,ak 34 33,al 35 1 7,ak 36 35,aq 37 .add 36 1,((some 38),.op (.build [(.val (.int .i64 0)),(.val (.int .i64 0))] [(0,1,(.tmp 34)),(1,1,(.tmp 37))])),((some 39),.op (.bf 1 2 [(.val (.int .i64 0)),(.val (.int .i64 0))] [(0,(.tmp 38))])),((some 40),.op (.app 2 16 (.tmp 32) (.tmp 39))),(none,.op (.old (.mapUpdate 119 (.tmp 28) (.tmp 29) (.tmp 40)) 0))]) (.skip))) <|
  af [aq 41 .add 14 1,aa 14 41]
def rP:DF:=⟨.seq (af [bo 2 0,((some 4),.op (.aW (.val (.val (.map none)))))]) <|
  .seq (af [((some 11),.op (.ju)),aa 5 11]) <|
  .seq (.seq (af [aa 12 1,aC 13 12,ay 14 0]) <|
  .block 0 (.loop vX)) <|
  .seq (af [aa 42 5,aa 4 42]) <|
  .ret,
  [.tmp 4],43⟩
theorem vd:aD Tryz.prog 75 [2]=some rP:=by kernel_rfl
def tb:DF:=⟨.seq (af [bo 2 0,ay 4 0]) <|
  .seq (.seq (af [aa 5 1,aq 6 .lss 5 0]) <|
  .cond (.tmp 6) (.seq (af [al 7 0 2,ak 8 7,aC 9 8,aq 10 .sub 9 1,aa 11 1,aF 12 .sub 10 11,aa 4 12]) <|
  .ret) (.skip)) <|
  .seq (af [aa 13 1,aa 4 13]) <|
  .ret,
  [.tmp 4],14⟩
theorem wC:aD Tryz.prog 122 [2]=some tb:=by kernel_rfl
def AL:DC :=
  .seq (af [aF 57 .lss 56 55]) <|
  .seq (.cond (.tmp 57) (.skip) (.exit 2)) <|
  .seq (.block 3 (.seq (af [aa 58 56,aJ 59 3 54 56,aG 60 3 59,((some 11),.op (.alloc [(.val (.int .i64 0)),(.emp 1),(.val (.int .i64 0))])),aa 10 58,(none,.op (.store 3 (.tmp 11) (.tmp 60)))]) <|
  .seq (af [al 61 0 11,ak 62 61,al 63 1 9,ak 64 63,aF 65 .eql 62 64]) <|
  .cond (.tmp 65) (.seq (af [aa 66 6,aG 67 2 9,aG 68 3 11,aB 69 131 [66,67,68],aa 70 10,((some 71),.op (.build [(.val (.int .i64 0)),(.val (.int .i64 0))] [(0,1,(.tmp 69)),(1,1,(.tmp 70))])),((some 12),.op (.alloc [(.val (.int .i64 0)),(.val (.int .i64 0))])),(none,.op (.store 2 (.tmp 12) (.tmp 71)))]) <|
  af [aa 72 7,aG 73 2 12,aa 75 8,((some 76),.op (.bf 1 1 [(.val (.int .i64 0))] [(0,(.tmp 75))])),((some 77),.op (.old (.mapEntry 188 (.tmp 72) (.tmp 73)) 0)),bE 74 0 77,((some 78),.op (.app 1 8 (.tmp 74) (.tmp 76))),bE 79 1 77,(none,.op (.old (.entryStore 188 (.tmp 72) (.tmp 79) (.tmp 78)) 0))]) (.skip))) <|
  af [aq 80 .add 56 1,aa 56 80]
def AE:DC :=
  .seq (af [aF 49 .lss 48 47]) <|
  .seq (.cond (.tmp 49) (.skip) (.exit 0)) <|
  .seq (.block 1 (.seq (af [aa 50 48,aJ 51 2 46 48,aG 52 2 51,((some 9),.op (.alloc [(.val (.int .i64 0)),(.val (.int .i64 0))])),aa 8 50,(none,.op (.store 2 (.tmp 9) (.tmp 52)))]) <|
  .seq (af [al 53 2 1,ak 54 53,aC 55 54,ay 56 0]) <|
  .block 2 (.loop AL))) <|
  af [aq 81 .add 48 1,aa 48 81]
def AB:DC :=
  .seq (af [aF 111 .lss 110 109]) <|
  .seq (.cond (.tmp 111) (.skip) (.exit 8)) <|
  .seq (.block 9 (.seq (af [aJ 112 1 108 110,ak 113 112,aa 19 113]) <|
  af [al 114 1 17,ak 115 114,aa 116 6,aR 117 116,al 118 8 117,ak 119 118,aa 120 19,aJ 121 1 119 120,ak 122 121,aF 123 .or 115 122,al 124 1 17,(none,.op (.store 1 (.tmp 124) (.tmp 123)))])) <|
  af [aq 125 .add 110 1,aa 110 125]
def AF:DC :=
  .seq (af [aF 96 .lss 95 94]) <|
  .seq (.cond (.tmp 96) (.skip) (.exit 6)) <|
  .seq (.block 7 (.seq (af [aa 97 95,aa 15 97]) <|
  .seq (af [aa 98 7,aa 99 14,aa 100 15,((some 101),.op (.build [(.val (.int .i64 0)),(.val (.int .i64 0))] [(0,1,(.tmp 99)),(1,1,(.tmp 100))])),((some 102),.op (.old (.lookup 188 (.tmp 98) (.tmp 101) false) 27)),aa 16 102]) <|
  .seq (.seq (af [aa 103 16,aC 104 103,aq 105 .eql 104 0]) <|
  .cond (.tmp 105) (.exit 7) (.skip)) <|
  .seq (af [aa 106 15,((some 107),.op (.build [(.val (.int .i64 0)),(.val (.int .u32 0))] [(0,1,(.tmp 106))])),((some 17),.op (.alloc [(.val (.int .i64 0)),(.val (.int .u32 0))])),(none,.op (.store 2 (.tmp 17) (.tmp 107)))]) <|
  .seq (.seq (af [aa 108 16,aC 109 108,ay 110 0]) <|
  .block 8 (.loop AB)) <|
  af [aa 126 13,aa 127 14,aa 128 13,aa 129 14,aJ 130 1 128 129,ak 131 130,aG 132 2 17,((some 133),.op (.bf 1 2 [(.val (.int .i64 0)),(.val (.int .u32 0))] [(0,(.tmp 132))])),((some 134),.op (.app 2 16 (.tmp 131) (.tmp 133))),aJ 135 1 126 127,(none,.op (.store 1 (.tmp 135) (.tmp 134)))])) <|
  af [aq 136 .add 95 1,aa 95 136]
def Au:DC :=
  .seq (af [aF 90 .lss 89 88]) <|
  .seq (.cond (.tmp 90) (.skip) (.exit 4)) <|
  .seq (.block 5 (.seq (af [aa 91 89,aa 14 91]) <|
  .seq (af [al 92 2 1,ak 93 92,aC 94 93,ay 95 0]) <|
  .block 6 (.loop AF))) <|
  af [aq 137 .add 89 1,aa 89 137]
def xU:DF:=⟨.seq (af [bo 1 0,((some 2),.op (.aW (.val (.emp 1)))),ay 3 0]) <|
  .seq (af [aG 21 4 1,aB 22 32 [21],aa 20 22,bE 23 0 20,bE 24 1 20,aa 4 23,aa 5 24]) <|
  .seq (.seq (af [aa 25 5,aq 26 .neq 25 0]) <|
  .cond (.tmp 26) (.seq (af [aa 27 5,((some 2),.op (.aW (.val (.emp 1)))),aa 3 27]) <|
  .ret) (.skip)) <|
  .seq (af [aG 28 4 1,aa 29 4,aB 30 129 [28,29],aa 6 30]) <|
  .seq (af [aa 31 6,aB 32 130 [31]]) <|
  .seq (af [aa 33 6,aa 34 6,aR 35 34,al 36 7 35,ak 37 36,aC 38 37,((some 39),.op (.make 1 24 [(.emp 1)] (.tmp 38) (.tmp 38))),aR 40 33,al 41 9 40,(none,.op (.store 1 (.tmp 41) (.tmp 39)))]) <|
  .seq (af [((some 42),.op (.ju)),aa 7 42]) <|
  .seq (.seq (af [aa 43 6,aR 44 43,al 45 7 44,ak 46 45,aC 47 46,ay 48 0]) <|
  .block 0 (.loop AE)) <|
  .seq (af [aa 82 6,aB 83 132 [82]]) <|
  .seq (af [aa 84 4,aC 85 84,((some 86),.op (.make 1 24 [(.emp 1)] (.tmp 85) (.tmp 85))),aa 13 86]) <|
  .seq (.seq (af [aa 87 4,aC 88 87,ay 89 0]) <|
  .block 4 (.loop Au)) <|
  .seq (af [aa 138 13,aa 2 138,ay 3 0]) <|
  .ret,
  [.tmp 2,.tmp 3],139⟩
theorem zQ:aD Tryz.prog 84 [1]=some xU:=by kernel_rfl
def r0:DC :=
  .seq (af [aF 17 .lss 16 15]) <|
  .seq (.cond (.tmp 17) (.skip) (.exit 0)) <|
  .seq (.block 1 (.seq (af [aa 18 16,aJ 19 1 14 16,ak 20 19,aa 8 18,aa 9 20]) <|
  .seq (.seq (.region [] [⟨none,[aa 21 9,aq 22 .lss 21 0,aa 23 22]⟩,⟨(some (23,true)),[aa 24 0,al 25 1 5,ak 26 25,aa 27 8,aq 28 .add 27 1,((some 29),.op (.slice 1 (.tmp 26) (some (.tmp 28)) none)),aB 30 190 [24,29]]⟩,⟨none,[bh 31 23 30]⟩]) <|
  .cond (.tmp 31) (.seq (af [aa 32 0,aR 33 32,al 34 6 33,ak 35 34,aa 36 7,aa 37 9,((some 38),.op (.arith .sub (.val (.val (.int .i64 (-1)))) (.tmp 37))),((some 39),.op (.build [(.val (.int .i64 0)),(.val (.int .i64 0))] [(0,1,(.tmp 36)),(1,1,(.tmp 38))])),((some 40),.op (.old (.lookup 184 (.tmp 35) (.tmp 39) false) 3)),aa 10 40]) <|
  .region [(3,19)] [⟨none,[aa 41 0,aR 42 41,al 43 9 42,ak 44 43,aa 45 10,aa 46 0,aR 47 46,al 48 9 47,ak 49 48,aa 50 10,aJ 51 1 49 50,ak 52 51,aa 53 0,aR 54 53,al 55 6 54,ak 56 55,aG 57 2 4,((some 58),.op (.old (.lookup 184 (.tmp 56) (.tmp 57) false) 3)),((some 59),.op (.bf 1 1 [(.val (.int .i64 0))] [(0,(.tmp 58))])),((some 60),.op (.app 1 8 (.tmp 52) (.tmp 59))),aJ 61 1 44 45,(none,.op (.store 1 (.tmp 61) (.tmp 60)))]⟩]) (.skip)) <|
  af [aa 62 0,aa 63 7,aa 64 9,aB 65 188 [62,63,64],aa 7 65])) <|
  af [aq 66 .add 16 1,aa 16 66]
def mG:DF:=⟨.seq (af [bo 4 1,bo 5 2,ay 6 0]) <|
  .seq (af [al 11 0 4,ak 12 11,aa 7 12]) <|
  .seq (.seq (af [al 13 1 5,ak 14 13,aC 15 14,ay 16 0]) <|
  .block 0 (.loop r0)) <|
  .seq (af [aa 67 7,aa 6 67]) <|
  .ret,
  [.tmp 6],68⟩
theorem q8:aD Tryz.prog 131 [4,5]=some mG:=by kernel_rfl
def mC:DF:=⟨.seq (af [bo 2 0,aL 4 false]) <|
  .seq (af [aa 5 1,((some 6),.op (.iA 238 [] [(.tmp 2)])),aB 7 90 [5,6],bC 8 7,aa 4 8]) <|
  .ret,
  [.tmp 4],9⟩
theorem qX:aD Tryz.prog 190 [2]=some mC:=by kernel_rfl
def k7:DF:=⟨.seq (af [aL 3 false]) <|
  .seq (.region [] [⟨none,[aa 4 0,aq 5 .geq 4 0,aa 6 5]⟩,⟨(some (6,false)),[ak 7 1,aR 8 7,al 9 5 8,ak 10 9,aa 11 0,((some 12),.op (.arith .sub (.val (.val (.int .i64 (-1)))) (.tmp 11))),aJ 13 1 10 12,ak 14 13,bC 15 14]⟩,⟨none,[aX 16 6 15,aa 3 16]⟩]) <|
  .ret,
  [.tmp 3],17⟩
theorem oP:aD Tryz.prog 238 []=some k7:=by kernel_rfl
def ef:DF:=⟨.seq (af [aL 4 false]) <|
  .seq (af [aa 5 0,aa 6 1,aB 7 137 [5,6],aq 8 .geq 7 0,aa 4 8]) <|
  .ret,
  [.tmp 4],9⟩
theorem gU:aD Tryz.prog 90 []=some ef:=by kernel_rfl
def jb:DC :=
  .seq (af [aF 9 .lss 8 7]) <|
  .seq (.cond (.tmp 9) (.skip) (.exit 0)) <|
  .seq (.block 1 (.seq (af [aa 10 8,aa 5 10]) <|
  .seq (af [aa 11 1,aa 12 0,aa 13 5,aJ 14 1 12 13,ak 15 14,((some 16),.call (.tmp 11) [(.tmp 15)])]) <|
  .cond (.tmp 16) (.seq (af [aa 17 5,aa 4 17]) <|
  .ret) (.skip))) <|
  af [aq 18 .add 8 1,aa 8 18]
def eP:DF:=⟨.seq (af [ay 4 0]) <|
  .seq (.seq (af [aa 6 0,aC 7 6,ay 8 0]) <|
  .block 0 (.loop jb)) <|
  .seq (af [ay 4 (-1)]) <|
  .ret,
  [.tmp 4],19⟩
theorem iz:aD Tryz.prog 137 []=some eP:=by kernel_rfl
def qz:DF:=⟨.seq (af [ay 6 0]) <|
  .seq (af [aa 10 0,aR 11 10,al 12 4 11,ak 13 12,aa 14 1,aa 15 2,((some 16),.op (.bf 1 1 [(.val (.int .i64 0))] [(0,(.tmp 15))])),aB 17 36 [13,14,16],aa 9 17,bE 18 0 9,bE 19 1 9,aa 7 18,aa 8 19]) <|
  .seq (af [aa 20 7,aa 6 20]) <|
  .ret,
  [.tmp 6],21⟩
theorem uj:aD Tryz.prog 188 []=some qz:=by kernel_rfl
def ye:DC :=
  .seq (af [aF 24 .lss 23 22]) <|
  .seq (.cond (.tmp 24) (.skip) (.exit 0)) <|
  .seq (.block 1 (.seq (af [aJ 25 1 21 23,ak 26 25,((some 10),.op (.alloc [(.val (.int .i64 0))])),(none,.op (.store 1 (.tmp 10) (.tmp 26)))]) <|
  .seq (af [aa 27 0,aa 28 8,aJ 29 2 27 28,al 30 1 29,ak 31 30,((some 32),.op (.iA 81 [] [(.tmp 10)])),aB 33 80 [31,32],aa 11 33]) <|
  .seq (.seq (af [aa 34 11,aq 35 .lss 34 0]) <|
  .cond (.tmp 35) (.seq (af [ay 6 0,aL 7 false]) <|
  .ret) (.skip)) <|
  .seq (af [aa 36 0,aa 37 8,aJ 38 2 36 37,al 39 1 38,ak 40 39,aa 41 11,aJ 42 2 40 41,al 43 1 42,ak 44 43,aa 8 44]) <|
  .seq (.region [] [⟨none,[aa 45 8,aq 46 .lss 45 0,aa 47 46]⟩,⟨(some (47,false)),[aa 48 8,aa 49 0,aC 50 49,aF 51 .geq 48 50]⟩,⟨none,[aX 52 47 51]⟩]) <|
  .cond (.tmp 52) (.seq (af [ay 6 0,aL 7 false]) <|
  .ret) (.skip))) <|
  af [aq 53 .add 23 1,aa 23 53]
def th:DF:=⟨.seq (af [ay 6 0,aL 7 false]) <|
  .seq (af [aa 12 1,aa 8 12]) <|
  .seq (.seq (.region [] [⟨none,[aa 13 8,aq 14 .lss 13 0,aa 15 14]⟩,⟨(some (15,false)),[aa 16 8,aa 17 0,aC 18 17,aF 19 .geq 16 18]⟩,⟨none,[aX 20 15 19]⟩]) <|
  .cond (.tmp 20) (.seq (af [ay 6 0,aL 7 false]) <|
  .ret) (.skip)) <|
  .seq (.seq (af [aa 21 2,aC 22 21,ay 23 0]) <|
  .block 0 (.loop ye)) <|
  .seq (af [aa 54 8,aa 6 54,aL 7 true]) <|
  .ret,
  [.tmp 6,.tmp 7],55⟩
theorem wJ:aD Tryz.prog 36 []=some th:=by kernel_rfl
def qE:DF:=⟨.seq (af [bo 2 0,aL 3 false]) <|
  .seq (af [al 4 0 2,ak 5 4,ak 6 1,aF 7 .eql 5 6,aa 3 7]) <|
  .ret,
  [.tmp 3],8⟩
theorem tV:aD Tryz.prog 81 [2]=some qE:=by kernel_rfl
def fj:DC :=
  .seq (af [aF 9 .lss 8 7]) <|
  .seq (.cond (.tmp 9) (.skip) (.exit 0)) <|
  .seq (.block 1 (.seq (af [aa 10 8,aa 5 10]) <|
  .seq (af [aa 11 1,aa 12 0,aa 13 5,aJ 14 2 12 13,aG 15 2 14,((some 16),.call (.tmp 11) [(.tmp 15)])]) <|
  .cond (.tmp 16) (.seq (af [aa 17 5,aa 4 17]) <|
  .ret) (.skip))) <|
  af [aq 18 .add 8 1,aa 8 18]
def c7:DF:=⟨.seq (af [ay 4 0]) <|
  .seq (.seq (af [aa 6 0,aC 7 6,ay 8 0]) <|
  .block 0 (.loop fj)) <|
  .seq (af [ay 4 (-1)]) <|
  .ret,
  [.tmp 4],19⟩
theorem fa:aD Tryz.prog 80 []=some c7:=by kernel_rfl
def vV:DC :=
  .seq (af [aF 29 .lss 28 27]) <|
  .seq (.cond (.tmp 29) (.skip) (.exit 2)) <|
  .seq (.block 3 (.seq (af [aJ 30 2 26 28,aG 31 2 30,((some 9),.op (.alloc [(.val (.int .i64 0)),(.val (.int .i64 0))])),(none,.op (.store 2 (.tmp 9) (.tmp 31)))]) <|
  .seq (af [al 32 0 9,ak 33 32,aq 34 .lss 33 0]) <|
  .cond (.tmp 34) (.seq (af [aa 35 6,al 36 0 9,ak 37 36,((some 38),.op (.arith .sub (.val (.val (.int .i64 (-1)))) (.tmp 37))),((some 39),.op (.build [(.val (.int .i64 0)),(.val (.int .i64 0))] [(0,1,(.tmp 35)),(1,1,(.tmp 38))])),((some 10),.op (.alloc [(.val (.int .i64 0)),(.val (.int .i64 0))])),(none,.op (.store 2 (.tmp 10) (.tmp 39)))]) <|
  .seq (af [aa 40 5,aR 41 40,al 42 6 41,ak 43 42,aG 44 2 10,aa 45 5,aR 46 45,al 47 7 46,ak 48 47,aC 49 48,(none,.op (.old (.mapUpdate 184 (.tmp 43) (.tmp 44) (.tmp 49)) 0))]) <|
  af [aa 50 5,aa 51 5,aR 52 51,al 53 7 52,ak 54 53,aG 55 2 10,((some 56),.op (.bf 1 2 [(.val (.int .i64 0)),(.val (.int .i64 0))] [(0,(.tmp 55))])),((some 57),.op (.app 2 16 (.tmp 54) (.tmp 56))),aR 58 50,al 59 7 58,(none,.op (.store 1 (.tmp 59) (.tmp 57)))]) (.skip))) <|
  af [aq 60 .add 28 1,aa 28 60]
def wW:DC :=
  .seq (af [aF 21 .lss 20 19]) <|
  .seq (.cond (.tmp 21) (.skip) (.exit 0)) <|
  .seq (.block 1 (.seq (af [aa 22 20,aJ 23 2 18 20,aG 24 2 23,((some 7),.op (.alloc [(.emp 1),(.emp 1)])),aa 6 22,(none,.op (.store 2 (.tmp 7) (.tmp 24)))]) <|
  .seq (af [al 25 1 7,ak 26 25,aC 27 26,ay 28 0]) <|
  .block 2 (.loop vV))) <|
  af [aq 61 .add 20 1,aa 20 61]
def rj:DF:=⟨.seq (af [bo 2 0,((some 4),.op (.aW (.val (.val (.pointer none)))))]) <|
  .seq (.region [(0,3),(3,4)] [⟨none,[aG 11 4 2,aa 12 1,aG 13 4 2,aB 14 187 [13],((some 15),.op (.ju)),((some 16),.op (.build [(.emp 1),(.emp 1),(.emp 1),(.val (.int .i64 0)),(.emp 1),(.emp 1),(.val (.map none)),(.emp 1),(.emp 1),(.emp 1)] [(0,4,(.tmp 11)),(4,1,(.tmp 12)),(5,1,(.tmp 14)),(6,1,(.tmp 15))])),((some 17),.op (.box (.tmp 16))),aa 5 17]⟩]) <|
  .seq (.seq (af [aa 18 1,aC 19 18,ay 20 0]) <|
  .block 0 (.loop wW)) <|
  .seq (af [aa 62 5,aa 63 5,aR 64 63,al 65 7 64,ak 66 65,aC 67 66,((some 68),.op (.make 1 4 [(.val (.int .u32 0))] (.tmp 67) (.tmp 67))),aR 69 62,al 70 8 69,(none,.op (.store 1 (.tmp 70) (.tmp 68)))]) <|
  .seq (af [aa 71 5,aa 72 5,aR 73 72,al 74 7 73,ak 75 74,aC 76 75,((some 77),.op (.make 1 24 [(.emp 1)] (.tmp 76) (.tmp 76))),aR 78 71,al 79 9 78,(none,.op (.store 1 (.tmp 79) (.tmp 77)))]) <|
  .seq (af [aa 80 5,aa 4 80]) <|
  .ret,
  [.tmp 4],81⟩
theorem uy:aD Tryz.prog 129 [2]=some rj:=by kernel_rfl
def ta:DC :=
  .seq (af [aF 73 .lss 72 71]) <|
  .seq (.cond (.tmp 73) (.skip) (.exit 2)) <|
  .seq (.block 3 (.seq (af [aJ 74 2 70 72,aG 75 2 74,((some 6),.op (.alloc [(.val (.int .i64 0)),(.val (.int .i64 0))])),(none,.op (.store 2 (.tmp 6) (.tmp 75)))]) <|
  .seq (af [al 76 0 6,ak 77 76,aq 78 .geq 77 0]) <|
  .cond (.tmp 78) (.region [(3,10),(6,10)] [⟨none,[aa 79 0,aR 80 79,al 81 8 80,ak 82 81,aa 83 2,aJ 84 1 82 83,ak 85 84,al 86 0 6,ak 87 86,((some 88),.op (.bf 1 1 [(.val (.int .i64 0))] [(0,(.tmp 87))])),aB 89 189 [88],aF 90 .or 85 89,aJ 91 1 82 83,(none,.op (.store 1 (.tmp 91) (.tmp 90)))]⟩]) (.seq (af [aa 92 0,aR 93 92,al 94 5 93,ak 95 94,al 96 0 6,ak 97 96,((some 98),.op (.arith .sub (.val (.val (.int .i64 (-1)))) (.tmp 97))),aJ 99 1 95 98,ak 100 99]) <|
  .cond (.tmp 100) (.region [(3,23)] [⟨none,[aa 101 0,aR 102 101,al 103 9 102,ak 104 103,aa 105 2,aa 106 0,aR 107 106,al 108 9 107,ak 109 108,aa 110 2,aJ 111 1 109 110,ak 112 111,aa 113 0,aR 114 113,al 115 6 114,ak 116 115,aa 117 4,al 118 0 6,ak 119 118,((some 120),.op (.arith .sub (.val (.val (.int .i64 (-1)))) (.tmp 119))),((some 121),.op (.build [(.val (.int .i64 0)),(.val (.int .i64 0))] [(0,1,(.tmp 117)),(1,1,(.tmp 120))])),((some 122),.op (.old (.lookup 184 (.tmp 116) (.tmp 121) false) 3)),((some 123),.op (.bf 1 1 [(.val (.int .i64 0))] [(0,(.tmp 122))])),((some 124),.op (.app 1 8 (.tmp 112) (.tmp 123))),aJ 125 1 104 105,(none,.op (.store 1 (.tmp 125) (.tmp 124)))]⟩]) (.skip)))) <|
  af [aq 126 .add 72 1,aa 72 126]
def s8:DC :=
  .seq (af [aF 22 .lss 21 20]) <|
  .seq (.cond (.tmp 22) (.skip) (.exit 0)) <|
  .seq (.block 1 (.seq (af [aa 23 21,aJ 24 2 19 21,aG 25 2 24,((some 3),.op (.alloc [(.val (.int .i64 0)),(.val (.int .i64 0))])),aa 2 23,(none,.op (.store 2 (.tmp 3) (.tmp 25)))]) <|
  .seq (af [aa 26 0,al 27 0 3,ak 28 27,al 29 1 3,ak 30 29,((some 31),.op (.arith .sub (.val (.val (.int .i64 (-1)))) (.tmp 30))),aB 32 188 [26,28,31],aa 4 32]) <|
  .seq (.seq (.region [] [⟨none,[al 33 0 3,ak 34 33,aq 35 .eql 34 0,aa 36 35]⟩,⟨(some (36,true)),[al 37 1 3,ak 38 37,aa 39 0,aR 40 39,al 41 0 40,al 42 3 41,ak 43 42,aF 44 .eql 38 43]⟩,⟨none,[bh 45 36 44]⟩]) <|
  .cond (.tmp 45) (.region [(3,14),(6,14)] [⟨none,[aa 46 0,aR 47 46,al 48 8 47,ak 49 48,aa 50 2,aJ 51 1 49 50,ak 52 51,aa 53 0,aR 54 53,al 55 0 54,al 56 0 55,ak 57 56,aC 58 57,((some 59),.op (.bf 1 1 [(.val (.int .i64 0))] [(0,(.tmp 58))])),aB 60 189 [59],aF 61 .or 52 60,aJ 62 1 49 50,(none,.op (.store 1 (.tmp 62) (.tmp 61)))]⟩]) (.skip)) <|
  .seq (af [aa 63 0,aR 64 63,al 65 4 64,ak 66 65,aa 67 4,aJ 68 2 66 67,al 69 1 68,ak 70 69,aC 71 70,ay 72 0]) <|
  .block 2 (.loop ta))) <|
  af [aq 127 .add 21 1,aa 21 127]
def nH:DF:=⟨.seq (af [aa 7 0,aa 8 0,aR 9 8,al 10 7 9,ak 11 10,aC 12 11,((some 13),.op (.make 1 24 [(.emp 1)] (.tmp 12) (.tmp 12))),aR 14 7,al 15 9 14,(none,.op (.store 1 (.tmp 15) (.tmp 13)))]) <|
  .seq (.seq (af [aa 16 0,aR 17 16,al 18 7 17,ak 19 18,aC 20 19,ay 21 0]) <|
  .block 0 (.loop s8)) <|
  af [aa 128 0,aB 129 132 [128]],
  [],130⟩
theorem rv:aD Tryz.prog 130 []=some nH:=by kernel_rfl
def CR:DC :=
  .seq (af [aF 8 .lss 7 6]) <|
  .seq (.cond (.tmp 8) (.skip) (.exit 0)) <|
  .seq (.block 1 (.seq (af [aJ 9 1 5 7,ak 10 9,aa 4 10]) <|
  af [aa 11 2,aa 12 4,aB 13 237 [12],aF 14 .or 11 13,aa 2 14])) <|
  af [aq 15 .add 7 1,aa 7 15]
def zJ:DF:=⟨.seq (af [((some 2),.op (.aW (.val (.val (.int .u32 0)))))]) <|
  .seq (.seq (af [aa 5 0,aC 6 5,ay 7 0]) <|
  .block 0 (.loop CR)) <|
  .seq (af [aa 16 2,aa 2 16]) <|
  .ret,
  [.tmp 2],17⟩
theorem AS:aD Tryz.prog 189 []=some zJ:=by kernel_rfl
def q4:DC :=
  .seq (af [aF 19 .lss 18 17]) <|
  .seq (.cond (.tmp 19) (.skip) (.exit 0)) <|
  .seq (.block 1 (.seq (af [aa 20 18,aa 5 20]) <|
  .seq (af [ak 21 2,aa 22 5,aJ 23 1 21 22,ak 24 23,aq 25 .eql 24 0]) <|
  .cond (.tmp 25) (af [ak 26 4,aa 27 5,((some 28),.call (.tmp 26) [(.tmp 27)])]) (.skip))) <|
  af [aq 29 .add 18 1,aa 18 29]
def lT:DF:=⟨.seq (af [bo 1 0]) <|
  .seq (af [ak 6 1,aR 7 6,al 8 7 7,ak 9 8,aC 10 9,((some 11),.op (.make 1 8 [(.val (.int .i64 0))] (.tmp 10) (.tmp 10))),((some 2),.op (.alloc [(.emp 1)])),(none,.op (.store 1 (.tmp 2) (.tmp 11)))]) <|
  .seq (af [((some 3),.op (.alloc [(.emp 1)]))]) <|
  .seq (af [((some 4),.op (.alloc [(.val .nilFunc)]))]) <|
  .seq (af [((some 12),.op (.iA 191 [] [(.tmp 3),(.tmp 2),(.tmp 1),(.tmp 4)])),(none,.op (.store 1 (.tmp 4) (.tmp 12)))]) <|
  .seq (af [ak 13 1,aR 14 13,al 15 7 14,ak 16 15,aC 17 16,ay 18 0]) <|
  .block 0 (.loop q4),
  [],30⟩
theorem pI:aD Tryz.prog 132 [1]=some lT:=by kernel_rfl
def oR:DC :=
  .seq (af [aF 30 .lss 29 28]) <|
  .seq (.cond (.tmp 30) (.skip) (.exit 0)) <|
  .seq (.block 1 (.seq (af [aJ 31 1 27 29,ak 32 31,aa 8 32]) <|
  .seq (.seq (af [ak 33 2,aa 34 8,aJ 35 1 33 34,ak 36 35,aq 37 .eql 36 0]) <|
  .cond (.tmp 37) (af [ak 38 4,aa 39 8,((some 40),.call (.tmp 38) [(.tmp 39)])]) (.skip)) <|
  .seq (af [ak 41 2,aa 42 0,ak 43 2,aa 44 0,aJ 45 1 43 44,ak 46 45,ak 47 2,aa 48 8,aJ 49 1 47 48,ak 50 49,((some 51),.op (.mm false (.tmp 46) (.tmp 50))),aJ 52 1 41 42,(none,.op (.store 1 (.tmp 52) (.tmp 51)))]) <|
  af [ak 53 3,aR 54 53,al 55 8 54,ak 56 55,aa 57 0,aJ 58 1 56 57,ak 59 58,ak 60 3,aR 61 60,al 62 8 61,ak 63 62,aa 64 8,aJ 65 1 63 64,ak 66 65,aF 67 .or 59 66,aJ 68 1 56 57,(none,.op (.store 1 (.tmp 68) (.tmp 67)))])) <|
  af [aq 69 .add 29 1,aa 29 69]
def oZ:DC :=
  .seq (af [aF 82 .lss 81 80]) <|
  .seq (.cond (.tmp 82) (.skip) (.exit 2)) <|
  .seq (.block 3 (.seq (af [aJ 83 1 79 81,ak 84 83,aa 10 84]) <|
  .seq (af [ak 85 2,aa 86 10,aJ 87 1 85 86,(none,.op (.store 1 (.tmp 87) (.val (.val (.int .i64 1073741824)))))]) <|
  af [ak 88 3,aR 89 88,al 90 8 89,ak 91 90,aa 92 10,ak 93 3,aR 94 93,al 95 8 94,ak 96 95,aa 97 0,aJ 98 1 96 97,ak 99 98,aJ 100 1 91 92,(none,.op (.store 1 (.tmp 100) (.tmp 99)))])) <|
  af [aq 101 .add 81 1,aa 81 101]
def jY:DF:=⟨.seq (af [ak 11 1,aa 12 0,((some 13),.op (.bf 1 1 [(.val (.int .i64 0))] [(0,(.tmp 12))])),((some 14),.op (.app 1 8 (.tmp 11) (.tmp 13))),(none,.op (.store 1 (.tmp 1) (.tmp 14)))]) <|
  .seq (af [ak 15 1,aC 16 15,aa 6 16]) <|
  .seq (af [ak 17 2,aa 18 0,aa 19 6,aJ 20 1 17 18,(none,.op (.store 1 (.tmp 20) (.tmp 19)))]) <|
  .seq (.seq (af [ak 21 3,aR 22 21,al 23 9 22,ak 24 23,aa 25 0,aJ 26 1 24 25,ak 27 26,aC 28 27,ay 29 0]) <|
  .block 0 (.loop oR)) <|
  .seq (.seq (af [ak 70 2,aa 71 0,aJ 72 1 70 71,ak 73 72,aa 74 6,aF 75 .neq 73 74]) <|
  .cond (.tmp 75) (.ret) (.skip)) <|
  .seq (.seq (af [ak 76 1,aa 77 6,aq 78 .sub 77 1,((some 79),.op (.slice 1 (.tmp 76) (some (.tmp 78)) none)),aC 80 79,ay 81 0]) <|
  .block 2 (.loop oZ)) <|
  af [ak 102 1,aa 103 6,aq 104 .sub 103 1,((some 105),.op (.slice 1 (.tmp 102) none (some (.tmp 104)))),(none,.op (.store 1 (.tmp 1) (.tmp 105)))],
  [],106⟩
theorem ot:aD Tryz.prog 191 []=some jY:=by kernel_rfl
def vQ:DC :=
  .seq (af [aF 33 .lss 32 31]) <|
  .seq (.cond (.tmp 33) (.skip) (.exit 0)) <|
  .seq (.block 1 (.seq (af [aa 34 32,aJ 35 1 30 32,ak 36 35,aa 6 34,aa 7 36]) <|
  .seq (.seq (.region [] [⟨none,[aa 37 7,aC 38 37,al 39 0 2,ak 40 39,aC 41 40,aq 42 .add 41 1,aF 43 .neq 38 42,aa 44 43]⟩,⟨(some (44,false)),[al 45 1 3,ak 46 45,aa 47 6,aJ 48 1 46 47,ak 49 48,aC 50 49,al 51 1 2,ak 52 51,aC 53 52,aF 54 .neq 50 53]⟩,⟨none,[aX 55 44 54]⟩]) <|
  .cond (.tmp 55) (.seq (af [aL 4 false]) <|
  .ret) (.skip)) <|
  .seq (.seq (af [aa 56 7,((some 57),.op (.iA 88 [] [(.tmp 5),(.tmp 2)])),aB 58 87 [56,57]]) <|
  .cond (.tmp 58) (.seq (af [aL 4 false]) <|
  .ret) (.skip)) <|
  .seq (af [al 59 1 3,ak 60 59,aa 61 6,aJ 62 1 60 61,ak 63 62,((some 64),.op (.iA 91 [] [(.tmp 5)])),aB 65 90 [63,64]]) <|
  .cond (.tmp 65) (.seq (af [aL 4 false]) <|
  .ret) (.skip))) <|
  af [aq 66 .add 32 1,aa 32 66]
def qx:DF:=⟨.seq (af [bo 2 0,bo 3 1,aL 4 false]) <|
  .seq (af [al 8 0 3,ak 9 8,aC 10 9,((some 5),.op (.alloc [(.val (.int .i64 0))])),(none,.op (.store 1 (.tmp 5) (.tmp 10)))]) <|
  .seq (.seq (.region [] [⟨none,[aG 11 4 2,aB 12 64 [11],bC 13 12,aa 14 13]⟩,⟨(some (14,false)),[ak 15 5,aq 16 .lss 15 1]⟩,⟨none,[aX 17 14 16,aa 18 17]⟩,⟨(some (18,false)),[ak 19 5,aq 20 .gtr 19 300]⟩,⟨none,[aX 21 18 20,aa 22 21]⟩,⟨(some (22,false)),[al 23 1 3,ak 24 23,aC 25 24,ak 26 5,aF 27 .neq 25 26]⟩,⟨none,[aX 28 22 27]⟩]) <|
  .cond (.tmp 28) (.seq (af [aL 4 false]) <|
  .ret) (.skip)) <|
  .seq (.seq (af [al 29 0 3,ak 30 29,aC 31 30,ay 32 0]) <|
  .block 0 (.loop vQ)) <|
  .seq (af [aL 4 true]) <|
  .ret,
  [.tmp 4],67⟩
theorem ua:aD Tryz.prog 46 [2,3]=some qx:=by kernel_rfl
def nE:DF:=⟨.seq (af [bo 3 0,aL 4 false]) <|
  .seq (af [aG 5 2 3,ak 6 1,al 7 2 2,ak 8 7,aC 9 8,aB 10 89 [5,6,9],bC 11 10,aa 4 11]) <|
  .ret,
  [.tmp 4],12⟩
theorem rh:aD Tryz.prog 88 [3]=some nE:=by kernel_rfl
def rE:DF:=⟨.seq (af [bo 3 0,aL 6 false]) <|
  .seq (af [ay 7 1]) <|
  .seq (.seq (af [al 8 0 3,ak 9 8]) <|
  .block 0 (.seq (.seq (af [aq 11 .eql 9 0,aa 10 11]) <|
  .cond (.tmp 10) (.skip) (af [aq 12 .eql 9 3,aa 10 12])) <|
  .cond (.tmp 10) (.skip) (.seq (af [aq 14 .eql 9 1,aa 13 14]) <|
  .cond (.tmp 13) (af [aa 15 1,aa 7 15]) (.seq (af [aq 17 .eql 9 2,aa 16 17]) <|
  .cond (.tmp 16) (af [aa 18 2,aa 7 18]) (.seq (af [aL 6 false]) <|
  .ret))))) <|
  .seq (.region [] [⟨none,[al 19 1 3,ak 20 19,aq 21 .geq 20 0,aa 22 21]⟩,⟨(some (22,true)),[al 23 1 3,ak 24 23,aa 25 7,aF 26 .lss 24 25]⟩,⟨none,[bh 27 22 26,aa 6 27]⟩]) <|
  .ret,
  [.tmp 6],28⟩
theorem vJ:aD Tryz.prog 89 [3]=some rE:=by kernel_rfl
def cR:DF:=⟨.seq (af [aL 4 false]) <|
  .seq (af [aa 5 0,aa 6 1,aB 7 136 [5,6],aq 8 .geq 7 0,aa 4 8]) <|
  .ret,
  [.tmp 4],9⟩
theorem eC:aD Tryz.prog 87 []=some cR:=by kernel_rfl
def fu:DC :=
  .seq (af [aF 9 .lss 8 7]) <|
  .seq (.cond (.tmp 9) (.skip) (.exit 0)) <|
  .seq (.block 1 (.seq (af [aa 10 8,aa 5 10]) <|
  .seq (af [aa 11 1,aa 12 0,aa 13 5,aJ 14 2 12 13,aG 15 2 14,((some 16),.call (.tmp 11) [(.tmp 15)])]) <|
  .cond (.tmp 16) (.seq (af [aa 17 5,aa 4 17]) <|
  .ret) (.skip))) <|
  af [aq 18 .add 8 1,aa 8 18]
def c8:DF:=⟨.seq (af [ay 4 0]) <|
  .seq (.seq (af [aa 6 0,aC 7 6,ay 8 0]) <|
  .block 0 (.loop fu)) <|
  .seq (af [ay 4 (-1)]) <|
  .ret,
  [.tmp 4],19⟩
theorem eW:aD Tryz.prog 136 []=some c8:=by kernel_rfl
def nW:DF:=⟨.seq (af [aL 3 false]) <|
  .seq (.region [] [⟨none,[aa 4 0,aq 5 .lss 4 (-1),aa 6 5]⟩,⟨(some (6,false)),[aa 7 0,ak 8 1,aF 9 .geq 7 8]⟩,⟨none,[aX 10 6 9,aa 3 10]⟩]) <|
  .ret,
  [.tmp 3],11⟩
theorem rT:aD Tryz.prog 91 []=some nW:=by kernel_rfl
def B0:List (FuncId × DF):=[(39,jT),(41,qN),(85,iI),(135,rZ),(194,x5),(237,xW),(134,je),(193,ia),(48,oY),(93,k9),(138,mL),(106,fJ),(157,nO),(210,lZ),(211,lV),(133,dh),(192,dM),(32,sJ),(76,tG),(123,di),(184,nu),(233,lS),(234,lW),(183,dW),(225,c9),(124,rn),(185,qT),(125,dt),(74,uN),(68,o4),(62,tt),(65,rU),(70,dJ),(75,rP),(122,tb),(84,xU),(131,mG),(190,mC),(238,k7),(90,ef),(137,eP),(188,qz),(36,th),(81,qE),(80,c7),(129,rj),(130,nH),(189,zJ),(132,lT),(191,jY),(46,qx),(88,nE),(89,rE),(87,cR),(136,c8),(91,nW)]
theorem CA:pE Tryz.prog B0:=by
  intro p hp
  simp only[B0,List.mem_cons,List.not_mem_nil,or_false] at hp
  rcases hp with rfl | rfl | rfl | rfl | rfl | rfl | rfl | rfl | rfl | rfl | rfl | rfl | rfl | rfl | rfl | rfl | rfl | rfl | rfl | rfl | rfl | rfl | rfl | rfl | rfl | rfl | rfl | rfl | rfl | rfl | rfl | rfl | rfl | rfl | rfl | rfl | rfl | rfl | rfl | rfl | rfl | rfl | rfl | rfl | rfl | rfl | rfl | rfl | rfl | rfl | rfl | rfl | rfl | rfl | rfl | rfl
  · exact ⟨_,om⟩
  · exact ⟨_,tL⟩
  · exact ⟨_,mW⟩
  · exact ⟨_,u4⟩
  · exact ⟨_,yM⟩
  · exact ⟨_,zG⟩
  · exact ⟨_,m7⟩
  · exact ⟨_,mh⟩
  · exact ⟨_,s7⟩
  · exact ⟨_,o9⟩
  · exact ⟨_,qY⟩
  · exact ⟨_,jM⟩
  · exact ⟨_,sH⟩
  · exact ⟨_,qn⟩
  · exact ⟨_,qa⟩
  · exact ⟨_,fo⟩
  · exact ⟨_,fT⟩
  · exact ⟨_,uz⟩
  · exact ⟨_,vU⟩
  · exact ⟨_,fv⟩
  · exact ⟨_,r8⟩
  · exact ⟨_,pP⟩
  · exact ⟨_,qe⟩
  · exact ⟨_,gC⟩
  · exact ⟨_,eY⟩
  · exact ⟨_,uR⟩
  · exact ⟨_,tS⟩
  · exact ⟨_,fE⟩
  · exact ⟨_,yj⟩
  · exact ⟨_,s9⟩
  · exact ⟨_,wH⟩
  · exact ⟨_,uI⟩
  · exact ⟨_,fU⟩
  · exact ⟨_,vd⟩
  · exact ⟨_,wC⟩
  · exact ⟨_,zQ⟩
  · exact ⟨_,q8⟩
  · exact ⟨_,qX⟩
  · exact ⟨_,oP⟩
  · exact ⟨_,gU⟩
  · exact ⟨_,iz⟩
  · exact ⟨_,uj⟩
  · exact ⟨_,wJ⟩
  · exact ⟨_,tV⟩
  · exact ⟨_,fa⟩
  · exact ⟨_,uy⟩
  · exact ⟨_,rv⟩
  · exact ⟨_,AS⟩
  · exact ⟨_,pI⟩
  · exact ⟨_,ot⟩
  · exact ⟨_,ua⟩
  · exact ⟨_,rh⟩
  · exact ⟨_,vJ⟩
  · exact ⟨_,eC⟩
  · exact ⟨_,eW⟩
  · exact ⟨_,rT⟩
theorem Hq:cI Tryz.prog 52 [uc DG] (mw ik):=BE (by kernel_rfl)
theorem gL:ik.Ok∧ik.Small:=Dx (by kernel_rfl)
def GJ:List pL:=[(52,[uc DG],mw ik,false),(52,[uc GG],mw kJ,false),(73,[.agg (aw kJ)],gb true,false),(73,[.agg (aw ik)],gb true,false),(73,[.agg (aw qP)],gb false,false),(64,[.agg (aw kJ)],gb true,false),(64,[.agg (aw ik)],gb true,false),
  (187,[.agg (aw kJ)],.aP [[gb true]],false),(187,[.agg (aw ik)],.aP [[gb false]],false)]
theorem F5:∀ x∈GJ,x.Ok Tryz.prog:=by
  have hi:∀ (g:aH),g.Ok→g.Small→∀ b,isRed g=b→pL.Ok Tryz.prog (73,[.agg (aw g)],gb b,false):=fun g h1 h2 b e=>⟨by kernel_rfl,by simp only[Bool.false_eq_true,if_false]; exact .inr ⟨e ▸ Hs g h1 h2,.val _⟩⟩
  have hr:∀ (g:aH),g.Ok→g.Small→∀ b,bq g=b→pL.Ok Tryz.prog (64,[.agg (aw g)],gb b,false):=fun g h1 h2 b e=>⟨by kernel_rfl,by simp only[Bool.false_eq_true,if_false]; exact .inr ⟨e ▸ iU g h1 h2.names,.val _⟩⟩
  have hn:∀ (g:aH),g.Ok→g.Small→∀ b,cB (bj g false)=b→pL.Ok Tryz.prog (187,[.agg (aw g)],b,false):=fun g h1 h2 b e=>⟨by kernel_rfl,by simp only[Bool.false_eq_true,if_false]; exact .inl (e ▸ zH g h1 h2)⟩
  intro x hx
  simp only[GJ,List.mem_cons,List.not_mem_nil,or_false] at hx
  rcases hx with rfl | rfl | rfl | rfl | rfl | rfl | rfl | rfl | rfl
  · exact ⟨by kernel_rfl,by simp only[Bool.false_eq_true,if_false]; exact .inl Hq⟩
  · exact ⟨by kernel_rfl,by simp only[Bool.false_eq_true,if_false]; exact .inl H8⟩
  · exact hi kJ iG.1 iG.2 true (by kernel_rfl)
  · exact hi ik gL.1 gL.2 true (by kernel_rfl)
  · exact hi qP HR ⟨by decide⟩ false (by kernel_rfl)
  · exact hr kJ iG.1 iG.2 true (by kernel_rfl)
  · exact hr ik gL.1 gL.2 true (by kernel_rfl)
  · exact hn kJ iG.1 iG.2 _ (by kernel_rfl)
  · exact hn ik gL.1 gL.2 _ (by kernel_rfl)
theorem CN:az Tryz.prog 39 [] (gb true) :=
  (qb mixed CA (FO F5) (by simp) (by kernel_rfl)).pure
end Gv
