/-
  Part 16 of the proof: what the machine does and what the functions answer.
  Conditions: those that each lemma names.
-/
import Derived.Test.YtkkdjpnkhhlnpaaGreatSGzZO
set_option linter.unusedSimpArgs false
set_option linter.unusedVariables false
set_option maxRecDepth 100000
namespace Gv
open Go Go.Proofs
def textP:List Int:=[37,114,105,103,104,116,32,39,97,39,32,37,108,101,102,116,32,39,104,39,32,37,37,32,115,32,58,32,110,32,115,32,124,32,39,97,39,32,59,32,110,32,58,32,37,112,114,101,99,32,39,104,39,32,59]
def textQ:List Int:=[37,37,32,115,32,58,32,39,97,39,32,39,98,39,32,59]
def gramP:Gram:=⟨[⟨⟨#[39,97,39]⟩,1,2⟩,⟨⟨#[39,104,39]⟩,2,1⟩],[⟨#[115]⟩,⟨#[110]⟩],[⟨0,[-2,-1],-1⟩,⟨0,[0],0⟩,⟨1,[],1⟩],0⟩
def gramQ:Gram:=⟨[⟨⟨#[39,97,39]⟩,0,0⟩,⟨⟨#[39,98,39]⟩,0,0⟩],[⟨#[115]⟩],[⟨0,[0,1],1⟩],0⟩
def D_gerundlaw19_alive:DF:=⟨.seq (ag [aw 0 false]) <|
  .seq (ag [((some 37),.op (.bslice 16 1 [(.val (.int .u8 0))] [(0,(.val (.val (.int .u8 37)))),(1,(.val (.val (.int .u8 37)))),(2,(.val (.val (.int .u8 32)))),(3,(.val (.val (.int .u8 115)))),(4,(.val (.val (.int .u8 32)))),(5,(.val (.val (.int .u8 58)))),(6,(.val (.val (.int .u8 32)))),(7,(.val (.val (.int .u8 39)))),(8,(.val (.val (.int .u8 97)))),(9,(.val (.val (.int .u8 39)))),(10,(.val (.val (.int .u8 32)))),(11,(.val (.val (.int .u8 115)))),(12,(.val (.val (.int .u8 32)))),(13,(.val (.val (.int .u8 124)))),(14,(.val (.val (.int .u8 32)))),(15,(.val (.val (.int .u8 59))))])),((some 38),.op (.old (.convert 96 96 (.tmp 37)) 96)),ao 39 52 [38],aa 36 39,aA 40 0 36,aA 41 1 36,aA 42 2 36,((some 1),.op (.alloc [(.emp 1),(.emp 1),(.emp 1),(.val (.int .i64 0))])),(none,.op (.store 4 (.tmp 1) (.tmp 40))),aa 2 41,aa 3 42]) <|
  .seq (ag [au 44 4 1,ao 45 17 [44],aa 43 45,aA 46 0 43,aA 47 1 43,aA 48 2 43,((some 4),.op (.alloc [(.emp 1),(.emp 1)])),(none,.op (.store 2 (.tmp 4) (.tmp 46))),aa 5 47,aa 6 48]) <|
  .seq (ag [au 50 2 4,ao 51 18 [50],aa 49 51,aA 52 0 49,aA 53 1 49,((some 7),.op (.alloc [(.val (.int .i64 0)),(.val (.int .i64 0)),(.emp 1),(.emp 1),(.emp 1),(.emp 1)])),(none,.op (.store 6 (.tmp 7) (.tmp 52))),aa 8 53]) <|
  .seq (ag [au 55 4 1,au 56 2 4,((some 57),.op (.bslice 2 1 [(.val (.int .i64 0))] [(0,(.val (.val (.int .i64 0)))),(1,(.val (.val (.int .i64 0))))])),ao 58 19 [55,56,57],aa 54 58,aA 59 0 54,aA 60 1 54,aA 61 2 54,aa 9 59,aa 10 60,aa 11 61]) <|
  .seq (ag [au 63 4 1,au 64 6 7,((some 65),.op (.bslice 2 1 [(.val (.int .i64 0))] [(0,(.val (.val (.int .i64 0)))),(1,(.val (.val (.int .i64 0))))])),ao 66 20 [63,64,65],aa 62 66,aA 67 0 62,aA 68 1 62,aA 69 2 62,aa 12 67,aa 13 68,aa 14 69]) <|
  .seq (ag [au 71 4 1,au 72 2 4,((some 73),.op (.bslice 1 1 [(.val (.int .i64 0))] [(0,(.val (.val (.int .i64 1))))])),ao 74 19 [71,72,73],aa 70 74,aA 75 0 70,aA 76 1 70,aA 77 2 70,aa 15 75,aa 16 76,aa 17 77]) <|
  .seq (ag [((some 79),.op (.bslice 55 1 [(.val (.int .u8 0))] [(0,(.val (.val (.int .u8 37)))),(1,(.val (.val (.int .u8 114)))),(2,(.val (.val (.int .u8 105)))),(3,(.val (.val (.int .u8 103)))),(4,(.val (.val (.int .u8 104)))),(5,(.val (.val (.int .u8 116)))),(6,(.val (.val (.int .u8 32)))),(7,(.val (.val (.int .u8 39)))),(8,(.val (.val (.int .u8 97)))),(9,(.val (.val (.int .u8 39)))),(10,(.val (.val (.int .u8 32)))),(11,(.val (.val (.int .u8 37)))),(12,(.val (.val (.int .u8 108)))),(13,(.val (.val (.int .u8 101)))),(14,(.val (.val (.int .u8 102)))),(15,(.val (.val (.int .u8 116)))),(16,(.val (.val (.int .u8 32)))),(17,(.val (.val (.int .u8 39)))),(18,(.val (.val (.int .u8 104)))),(19,(.val (.val (.int .u8 39)))),(20,(.val (.val (.int .u8 32)))),(21,(.val (.val (.int .u8 37)))),(22,(.val (.val (.int .u8 37)))),(23,(.val (.val (.int .u8 32)))),(24,(.val (.val (.int .u8 115)))),(25,(.val (.val (.int .u8 32)))),(26,(.val (.val (.int .u8 58)))),(27,(.val (.val (.int .u8 32)))),(28,(.val (.val (.int .u8 110)))),(29,(.val (.val (.int .u8 32)))),(30,(.val (.val (.int .u8 115)))),(31,(.val (.val (.int .u8 32)))),(32,(.val (.val (.int .u8 124)))),(33,(.val (.val (.int .u8 32)))),(34,(.val (.val (.int .u8 39)))),(35,(.val (.val (.int .u8 97)))),(36,(.val (.val (.int .u8 39)))),(37,(.val (.val (.int .u8 32)))),(38,(.val (.val (.int .u8 59)))),(39,(.val (.val (.int .u8 32)))),(40,(.val (.val (.int .u8 110)))),(41,(.val (.val (.int .u8 32)))),(42,(.val (.val (.int .u8 58)))),(43,(.val (.val (.int .u8 32)))),(44,(.val (.val (.int .u8 37)))),(45,(.val (.val (.int .u8 112)))),(46,(.val (.val (.int .u8 114)))),(47,(.val (.val (.int .u8 101)))),(48,(.val (.val (.int .u8 99)))),(49,(.val (.val (.int .u8 32)))),(50,(.val (.val (.int .u8 39)))),(51,(.val (.val (.int .u8 104)))),(52,(.val (.val (.int .u8 39)))),(53,(.val (.val (.int .u8 32)))),(54,(.val (.val (.int .u8 59))))])),((some 80),.op (.old (.convert 96 96 (.tmp 79)) 96)),ao 81 52 [80],aa 78 81,aA 82 0 78,aA 83 1 78,aA 84 2 78,((some 18),.op (.alloc [(.emp 1),(.emp 1),(.emp 1),(.val (.int .i64 0))])),(none,.op (.store 4 (.tmp 18) (.tmp 82))),aa 19 83,aa 20 84]) <|
  .seq (ag [au 86 4 18,ao 87 17 [86],aa 85 87,aA 88 0 85,aA 89 1 85,aA 90 2 85,((some 21),.op (.alloc [(.emp 1),(.emp 1)])),(none,.op (.store 2 (.tmp 21) (.tmp 88))),aa 22 89,aa 23 90]) <|
  .seq (ag [au 92 4 18,au 93 2 21,((some 94),.op (.bslice 1 1 [(.val (.int .i64 0))] [(0,(.val (.val (.int .i64 0))))])),ao 95 19 [92,93,94],aa 91 95,aA 96 0 91,aA 97 1 91,aA 98 2 91,aa 24 96,aa 25 97,aa 26 98]) <|
  .seq (ag [((some 100),.op (.bslice 16 1 [(.val (.int .u8 0))] [(0,(.val (.val (.int .u8 37)))),(1,(.val (.val (.int .u8 37)))),(2,(.val (.val (.int .u8 32)))),(3,(.val (.val (.int .u8 115)))),(4,(.val (.val (.int .u8 32)))),(5,(.val (.val (.int .u8 58)))),(6,(.val (.val (.int .u8 32)))),(7,(.val (.val (.int .u8 39)))),(8,(.val (.val (.int .u8 97)))),(9,(.val (.val (.int .u8 39)))),(10,(.val (.val (.int .u8 32)))),(11,(.val (.val (.int .u8 39)))),(12,(.val (.val (.int .u8 98)))),(13,(.val (.val (.int .u8 39)))),(14,(.val (.val (.int .u8 32)))),(15,(.val (.val (.int .u8 59))))])),((some 101),.op (.old (.convert 96 96 (.tmp 100)) 96)),ao 102 52 [101],aa 99 102,aA 103 0 99,aA 104 1 99,aA 105 2 99,((some 27),.op (.alloc [(.emp 1),(.emp 1),(.emp 1),(.val (.int .i64 0))])),(none,.op (.store 4 (.tmp 27) (.tmp 103))),aa 28 104,aa 29 105]) <|
  .seq (ag [au 107 4 27,ao 108 17 [107],aa 106 108,aA 109 0 106,aA 110 1 106,aA 111 2 106,((some 30),.op (.alloc [(.emp 1),(.emp 1)])),(none,.op (.store 2 (.tmp 30) (.tmp 109))),aa 31 110,aa 32 111]) <|
  .seq (ag [au 113 4 27,au 114 2 30,((some 115),.op (.bslice 2 1 [(.val (.int .i64 0))] [(0,(.val (.val (.int .i64 0)))),(1,(.val (.val (.int .i64 0))))])),ao 116 19 [113,114,115],aa 112 116,aA 117 0 112,aA 118 1 112,aA 119 2 112,aa 33 117,aa 34 118,aa 35 119]) <|
  .seq (.region [] [⟨none,[aa 120 11,ah 121 .eql 120 0,aa 122 121]⟩,⟨(some (122,true)),[aa 123 14,ah 124 .eql 123 0]⟩,⟨none,[az 125 122 124,aa 126 125]⟩,⟨(some (126,true)),[aa 127 17,ah 128 .eql 127 1]⟩,⟨none,[az 129 126 128,aa 130 129]⟩,⟨(some (130,true)),[aa 131 26,ah 132 .eql 131 14]⟩,⟨none,[az 133 130 132,aa 134 133]⟩,⟨(some (134,true)),[aa 135 35,ah 136 .eql 135 3]⟩,⟨none,[az 137 134 136,aa 138 137]⟩,⟨(some (138,true)),[aa 139 10,ah 140 .eql 139 2]⟩,⟨none,[az 141 138 140,aa 142 141]⟩,⟨(some (142,true)),[aa 143 13,ah 144 .eql 143 2]⟩,⟨none,[az 145 142 144,aa 146 145]⟩,⟨(some (146,true)),[aa 147 34,ah 148 .eql 147 1]⟩,⟨none,[az 149 146 148,aa 150 149]⟩,⟨(some (150,true)),[aa 151 9,((some 152),.op (.bslice 3 1 [(.val (.int .i64 0))] [(0,(.val (.val (.int .i64 1)))),(1,(.val (.val (.int .i64 0)))),(2,(.val (.val (.int .i64 0))))])),ao 153 21 [151,152]]⟩,⟨none,[az 154 150 153,aa 155 154]⟩,⟨(some (155,true)),[aa 156 12,aa 157 9,ao 158 21 [156,157]]⟩,⟨none,[az 159 155 158,aa 160 159]⟩,⟨(some (160,true)),[au 161 4 1,((some 162),.op (.bslice 1 1 [(.val (.int .i64 0))] [(0,(.val (.val (.int .i64 0))))])),ao 163 53 [161,162]]⟩,⟨none,[az 164 160 163,aa 165 164]⟩,⟨(some (165,true)),[au 166 4 1,((some 167),.op (.bslice 1 1 [(.val (.int .i64 0))] [(0,(.val (.val (.int .i64 (-1)))))])),ao 168 53 [166,167],aB 169 168]⟩,⟨none,[az 170 165 169,aa 0 170]⟩]) <|
  .ret,
  [.tmp 0],171⟩
theorem D_gerundlaw19_alive_ok:compDF Tryz.prog 15 []=some D_gerundlaw19_alive:=by kernel_rfl
def E_gerundref18_Pack_0:DC :=
  .seq (.seq (.region [] [⟨none,[aa 45 8,af 46 2 4,ae 47 46,aj 48 47,ak 49 .lss 45 48,aa 50 49]⟩,⟨(some (50,true)),[af 51 2 4,ae 52 51,aa 53 8,av 54 1 52 53,ae 55 54,aa 56 6,ao 57 58 [55,56],aB 58 57]⟩,⟨none,[az 59 50 58]⟩]) <|
  .cond (.tmp 59) (.skip) (.exit 2)) <|
  .block 3 (ag [aa 60 8,ah 61 .add 60 1,aa 8 61])
def E_gerundref18_Pack_1:DC :=
  .seq (.seq (.region [] [⟨none,[aa 62 9,af 63 4 4,ae 64 63,aj 65 64,ak 66 .lss 62 65,aa 67 66]⟩,⟨(some (67,true)),[af 68 4 4,ae 69 68,aa 70 9,av 71 1 69 70,ae 72 71,aa 73 7,ao 74 59 [72,73],aB 75 74]⟩,⟨none,[az 76 67 75]⟩]) <|
  .cond (.tmp 76) (.skip) (.exit 4)) <|
  .block 5 (ag [aa 77 9,ah 78 .add 77 1,aa 9 78])
def E_gerundref18_Pack_2:DC :=
  .seq (.seq (ag [aa 26 5,af 27 0 1,ae 28 27,aj 29 28,ak 30 .lss 26 29]) <|
  .cond (.tmp 30) (.skip) (.exit 0)) <|
  .seq (.block 1 (.seq (.region [(5,7),(5,10)] [⟨none,[af 33 0 1,ae 34 33,aa 35 5,av 36 1 34 35,ae 37 36,ao 38 56 [37],af 39 1 1,ae 40 39,aa 41 5,av 42 1 40 41,ae 43 42,ao 44 57 [43],aa 6 38,aa 7 44]⟩]) <|
  .seq (ag [ai 8 0,ai 9 0]) <|
  .seq (.block 2 (.loop E_gerundref18_Pack_0)) <|
  .seq (.block 4 (.loop E_gerundref18_Pack_1)) <|
  .seq (.seq (ag [aa 79 8,af 80 2 4,ae 81 80,aj 82 81,ak 83 .eql 79 82]) <|
  .cond (.tmp 83) (ag [af 84 2 4,ae 85 84,aa 86 6,((some 87),.op (.bslice 1 1 [(.emp 1)] [(0,(.tmp 86))])),((some 88),.op (.app 1 24 (.tmp 85) (.tmp 87))),af 89 2 4,(none,.op (.store 1 (.tmp 89) (.tmp 88)))]) (.skip)) <|
  .seq (.seq (ag [aa 90 9,af 91 4 4,ae 92 91,aj 93 92,ak 94 .eql 90 93]) <|
  .cond (.tmp 94) (ag [af 95 4 4,ae 96 95,aa 97 7,((some 98),.op (.bslice 1 1 [(.emp 1)] [(0,(.tmp 97))])),((some 99),.op (.app 1 24 (.tmp 96) (.tmp 98))),af 100 4 4,(none,.op (.store 1 (.tmp 100) (.tmp 99)))]) (.skip)) <|
  .region [(4,6),(4,8)] [⟨none,[af 101 3 4,ae 102 101,aa 103 8,((some 104),.op (.bslice 1 1 [(.val (.int .i64 0))] [(0,(.tmp 103))])),((some 105),.op (.app 1 8 (.tmp 102) (.tmp 104))),af 106 5 4,ae 107 106,aa 108 9,((some 109),.op (.bslice 1 1 [(.val (.int .i64 0))] [(0,(.tmp 108))])),((some 110),.op (.app 1 8 (.tmp 107) (.tmp 109))),af 111 3 4,(none,.op (.store 1 (.tmp 111) (.tmp 105))),af 112 5 4,(none,.op (.store 1 (.tmp 112) (.tmp 110)))]⟩])) <|
  ag [aa 31 5,ah 32 .add 31 1,aa 5 32]
def D_gerundref18_Pack:DF:=⟨.seq (ag [aC 1 0,((some 2),.op (.alloc [(.val (.int .i64 0)),(.val (.int .i64 0)),(.emp 1),(.emp 1),(.emp 1),(.emp 1)])),ai 3 0]) <|
  .seq (.seq (ag [au 10 2 1,ao 11 55 [10],aB 12 11]) <|
  .cond (.tmp 12) (.seq (ag [((some 13),.op (.build [(.val (.int .i64 0)),(.val (.int .i64 0)),(.emp 1),(.emp 1),(.emp 1),(.emp 1)] [])),(none,.op (.store 6 (.tmp 2) (.tmp 13))),ai 3 1]) <|
  .ret) (.skip)) <|
  .seq (ag [af 14 0 1,ae 15 14,((some 16),.op (.idx 1 (.tmp 15) (.val (.val (.int .i64 0))))),ae 17 16,aj 18 17,ah 19 .sub 18 1,af 20 1 1,ae 21 20,((some 22),.op (.idx 1 (.tmp 21) (.val (.val (.int .i64 0))))),ae 23 22,aj 24 23,((some 25),.op (.build [(.val (.int .i64 0)),(.val (.int .i64 0)),(.emp 1),(.emp 1),(.emp 1),(.emp 1)] [(0,1,(.tmp 19)),(1,1,(.tmp 24))])),((some 4),.op (.alloc [(.val (.int .i64 0)),(.val (.int .i64 0)),(.emp 1),(.emp 1),(.emp 1),(.emp 1)])),(none,.op (.store 6 (.tmp 4) (.tmp 25)))]) <|
  .seq (.seq (ag [ai 5 0]) <|
  .block 0 (.loop E_gerundref18_Pack_2)) <|
  .seq (ag [au 113 6 4,(none,.op (.store 6 (.tmp 2) (.tmp 113))),ai 3 0]) <|
  .ret,
  [.cell 2 (some 6),.tmp 3],114⟩
theorem D_gerundref18_Pack_ok:compDF Tryz.prog 18 [1,100000]=some D_gerundref18_Pack:=by kernel_rfl
def E_gerundref18_entries_0:DC :=
  .seq (.seq (ag [aa 11 5,aa 12 0,aj 13 12,ak 14 .lss 11 13]) <|
  .cond (.tmp 14) (.skip) (.exit 0)) <|
  .seq (.block 1 (.seq (ag [aa 17 0,aa 18 5,av 19 3 17 18,au 20 3 19,aa 21 1,aa 22 5,av 23 3 21 22,au 24 3 23,((some 25),.op (.old (.binOp .neq 164 (.tmp 20) (.tmp 24) 164) 4))]) <|
  .cond (.tmp 25) (.seq (ag [aw 4 false]) <|
  .ret) (.skip))) <|
  ag [aa 15 5,ah 16 .add 15 1,aa 5 16]
def D_gerundref18_entries:DF:=⟨.seq (ag [aw 4 false]) <|
  .seq (.seq (ag [aa 6 0,aj 7 6,aa 8 1,aj 9 8,ak 10 .neq 7 9]) <|
  .cond (.tmp 10) (.seq (ag [aw 4 false]) <|
  .ret) (.skip)) <|
  .seq (.seq (ag [ai 5 0]) <|
  .block 0 (.loop E_gerundref18_entries_0)) <|
  .seq (ag [aw 4 true]) <|
  .ret,
  [.tmp 4],26⟩
theorem D_gerundref18_entries_ok:compDF Tryz.prog 58 []=some D_gerundref18_entries:=by kernel_rfl
def E_gerundref18_edges_0:DC :=
  .seq (.seq (ag [aa 11 5,aa 12 0,aj 13 12,ak 14 .lss 11 13]) <|
  .cond (.tmp 14) (.skip) (.exit 0)) <|
  .seq (.block 1 (.seq (ag [aa 17 0,aa 18 5,av 19 2 17 18,au 20 2 19,aa 21 1,aa 22 5,av 23 2 21 22,au 24 2 23,((some 25),.op (.old (.binOp .neq 72 (.tmp 20) (.tmp 24) 72) 4))]) <|
  .cond (.tmp 25) (.seq (ag [aw 4 false]) <|
  .ret) (.skip))) <|
  ag [aa 15 5,ah 16 .add 15 1,aa 5 16]
def D_gerundref18_edges:DF:=⟨.seq (ag [aw 4 false]) <|
  .seq (.seq (ag [aa 6 0,aj 7 6,aa 8 1,aj 9 8,ak 10 .neq 7 9]) <|
  .cond (.tmp 10) (.seq (ag [aw 4 false]) <|
  .ret) (.skip)) <|
  .seq (.seq (ag [ai 5 0]) <|
  .block 0 (.loop E_gerundref18_edges_0)) <|
  .seq (ag [aw 4 true]) <|
  .ret,
  [.tmp 4],26⟩
theorem D_gerundref18_edges_ok:compDF Tryz.prog 59 []=some D_gerundref18_edges:=by kernel_rfl
def E_gerundref18_row_0:DC :=
  .seq (.seq (ag [aa 5 4,aa 6 0,aj 7 6,ak 8 .lss 5 7]) <|
  .cond (.tmp 8) (.skip) (.exit 0)) <|
  .seq (.block 1 (.seq (ag [aa 11 0,aa 12 4,av 13 2 11 12,au 14 2 13,((some 15),.op (.build [(.val (.int .i64 0)),(.val (.int .i64 0))] [])),((some 16),.op (.old (.binOp .neq 89 (.tmp 14) (.tmp 15) 89) 4))]) <|
  .cond (.tmp 16) (ag [aa 17 3,aa 18 4,aa 19 0,aa 20 4,av 21 2 19 20,au 22 2 21,((some 23),.op (.build [(.val (.int .i64 0)),(.val (.int .i64 0)),(.val (.int .i64 0))] [(0,1,(.tmp 18)),(1,2,(.tmp 22))])),((some 24),.op (.bslice 1 3 [(.val (.int .i64 0)),(.val (.int .i64 0)),(.val (.int .i64 0))] [(0,(.tmp 23))])),((some 25),.op (.app 3 24 (.tmp 17) (.tmp 24))),aa 3 25]) (.skip))) <|
  ag [aa 9 4,ah 10 .add 9 1,aa 4 10]
def D_gerundref18_row:DF:=⟨.seq (ag [((some 2),.op (.mov (.val (.emp 1))))]) <|
  .seq (ag [((some 3),.op (.mov (.val (.emp 1))))]) <|
  .seq (.seq (ag [ai 4 0]) <|
  .block 0 (.loop E_gerundref18_row_0)) <|
  .seq (ag [aa 26 3,aa 2 26]) <|
  .ret,
  [.tmp 2],27⟩
theorem D_gerundref18_row_ok:compDF Tryz.prog 56 []=some D_gerundref18_row:=by kernel_rfl
def E_gerundref18_gotos_0:DC :=
  .seq (.seq (ag [aa 5 4,aa 6 0,aj 7 6,ak 8 .lss 5 7]) <|
  .cond (.tmp 8) (.skip) (.exit 0)) <|
  .seq (.block 1 (.seq (ag [aa 11 0,aa 12 4,av 13 1 11 12,ae 14 13,ah 15 .neq 14 (-1)]) <|
  .cond (.tmp 15) (ag [aa 16 3,aa 17 4,aa 18 0,aa 19 4,av 20 1 18 19,ae 21 20,((some 22),.op (.build [(.val (.int .i64 0)),(.val (.int .i64 0))] [(0,1,(.tmp 17)),(1,1,(.tmp 21))])),((some 23),.op (.bslice 1 2 [(.val (.int .i64 0)),(.val (.int .i64 0))] [(0,(.tmp 22))])),((some 24),.op (.app 2 16 (.tmp 16) (.tmp 23))),aa 3 24]) (.skip))) <|
  ag [aa 9 4,ah 10 .add 9 1,aa 4 10]
def D_gerundref18_gotos:DF:=⟨.seq (ag [((some 2),.op (.mov (.val (.emp 1))))]) <|
  .seq (ag [((some 3),.op (.mov (.val (.emp 1))))]) <|
  .seq (.seq (ag [ai 4 0]) <|
  .block 0 (.loop E_gerundref18_gotos_0)) <|
  .seq (ag [aa 25 3,aa 2 25]) <|
  .ret,
  [.tmp 2],26⟩
theorem D_gerundref18_gotos_ok:compDF Tryz.prog 57 []=some D_gerundref18_gotos:=by kernel_rfl
def E_gerundref18_shaped_0:DC :=
  .seq (.seq (ag [aa 35 5,af 36 0 1,ae 37 36,aj 38 37,ak 39 .lss 35 38]) <|
  .cond (.tmp 39) (.skip) (.exit 0)) <|
  .seq (.block 1 (.seq (.region [] [⟨none,[af 42 0 1,ae 43 42,aa 44 5,av 45 1 43 44,ae 46 45,aj 47 46,aa 48 3,ak 49 .neq 47 48,aa 50 49]⟩,⟨(some (50,false)),[af 51 1 1,ae 52 51,aa 53 5,av 54 1 52 53,ae 55 54,aj 56 55,aa 57 4,ak 58 .neq 56 57]⟩,⟨none,[ay 59 50 58]⟩]) <|
  .cond (.tmp 59) (.seq (ag [aw 2 false]) <|
  .ret) (.skip))) <|
  ag [aa 40 5,ah 41 .add 40 1,aa 5 41]
def D_gerundref18_shaped:DF:=⟨.seq (ag [aC 1 0,aw 2 false]) <|
  .seq (.seq (.region [] [⟨none,[af 6 0 1,ae 7 6,aj 8 7,ah 9 .lss 8 1,aa 10 9]⟩,⟨(some (10,false)),[af 11 0 1,ae 12 11,aj 13 12,ah 14 .gtr 13 300]⟩,⟨none,[ay 15 10 14,aa 16 15]⟩,⟨(some (16,false)),[af 17 1 1,ae 18 17,aj 19 18,af 20 0 1,ae 21 20,aj 22 21,ak 23 .neq 19 22]⟩,⟨none,[ay 24 16 23]⟩]) <|
  .cond (.tmp 24) (.seq (ag [aw 2 false]) <|
  .ret) (.skip)) <|
  .seq (ag [af 25 0 1,ae 26 25,((some 27),.op (.idx 1 (.tmp 26) (.val (.val (.int .i64 0))))),ae 28 27,aj 29 28,af 30 1 1,ae 31 30,((some 32),.op (.idx 1 (.tmp 31) (.val (.val (.int .i64 0))))),ae 33 32,aj 34 33,aa 3 29,aa 4 34]) <|
  .seq (.seq (ag [ai 5 0]) <|
  .block 0 (.loop E_gerundref18_shaped_0)) <|
  .seq (.region [] [⟨none,[aa 60 3,ah 61 .geq 60 1,aa 62 61]⟩,⟨(some (62,true)),[aa 63 3,ah 64 .leq 63 25]⟩,⟨none,[az 65 62 64,aa 66 65]⟩,⟨(some (66,true)),[aa 67 4,ah 68 .leq 67 16]⟩,⟨none,[az 69 66 68,aa 2 69]⟩]) <|
  .ret,
  [.tmp 2],70⟩
theorem D_gerundref18_shaped_ok:compDF Tryz.prog 55 [1]=some D_gerundref18_shaped:=by kernel_rfl
def D_drive_Run:DF:=⟨.seq (ag [aC 3 0,aC 4 1,((some 6),.op (.mov (.val (.emp 1)))),ai 7 0,ai 8 0]) <|
  .seq (ag [au 12 6 4,ao 13 61 [12],aa 11 13,aA 14 0 11,aA 15 1 11,((some 9),.op (.alloc [(.emp 1),(.emp 1)])),(none,.op (.store 2 (.tmp 9) (.tmp 14))),aa 10 15]) <|
  .seq (.seq (ag [aa 16 10,ah 17 .neq 16 0]) <|
  .cond (.tmp 17) (.seq (ag [aa 18 10,((some 6),.op (.mov (.val (.emp 1)))),ai 7 0,aa 8 18]) <|
  .ret) (.skip)) <|
  .seq (ag [au 19 4 3,au 20 2 9,aa 21 2,ao 22 19 [19,20,21],aA 23 0 22,aA 24 1 22,aA 25 2 22,aa 6 23,aa 7 24,aa 8 25]) <|
  .ret,
  [.tmp 6,.tmp 7,.tmp 8],26⟩
theorem D_drive_Run_ok:compDF Tryz.prog 20 [3,4]=some D_drive_Run:=by kernel_rfl
def E_pack_Unpack_0:DC :=
  .seq (ag [ak 36 .lss 35 34]) <|
  .seq (.cond (.tmp 36) (.skip) (.exit 2)) <|
  .seq (.block 3 (.seq (ag [av 37 3 33 35,au 38 3 37,((some 7),.op (.alloc [(.val (.int .i64 0)),(.val (.int .i64 0)),(.val (.int .i64 0))])),(none,.op (.store 3 (.tmp 7) (.tmp 38)))]) <|
  ag [aa 39 5,af 40 0 7,ae 41 40,af 42 1 7,au 43 2 42,av 44 2 39 41,(none,.op (.store 2 (.tmp 44) (.tmp 43)))])) <|
  ag [ah 45 .add 35 1,aa 35 45]
def E_pack_Unpack_1:DC :=
  .seq (ag [ak 61 .lss 60 59]) <|
  .seq (.cond (.tmp 61) (.skip) (.exit 4)) <|
  .seq (.block 5 (.seq (ag [av 62 2 58 60,au 63 2 62,((some 10),.op (.alloc [(.val (.int .i64 0)),(.val (.int .i64 0))])),(none,.op (.store 2 (.tmp 10) (.tmp 63)))]) <|
  ag [aa 64 8,af 65 0 10,ae 66 65,af 67 1 10,ae 68 67,av 69 1 64 66,(none,.op (.store 1 (.tmp 69) (.tmp 68)))])) <|
  ag [ah 70 .add 60 1,aa 60 70]
def E_pack_Unpack_2:DC :=
  .seq (ag [ak 19 .lss 18 17]) <|
  .seq (.cond (.tmp 19) (.skip) (.exit 0)) <|
  .seq (.block 1 (.seq (ag [aa 20 18,aa 4 20]) <|
  .seq (ag [af 21 0 1,ae 22 21,ah 23 .add 22 1,((some 24),.op (.make 2 16 [(.val (.int .i64 0)),(.val (.int .i64 0))] (.tmp 23) (.tmp 23))),aa 5 24]) <|
  .seq (.seq (ag [af 25 2 1,ae 26 25,af 27 3 1,ae 28 27,aa 29 4,av 30 1 28 29,ae 31 30,av 32 1 26 31,ae 33 32,aj 34 33,ai 35 0]) <|
  .block 2 (.loop E_pack_Unpack_0)) <|
  .seq (ag [((some 46),.op (.bslice 1 1 [(.val (.int .i64 0))] [(0,(.val (.val (.int .i64 (-1)))))])),af 47 1 1,ae 48 47,ao 49 106 [46,48],aa 8 49]) <|
  .seq (.seq (ag [af 50 4 1,ae 51 50,af 52 5 1,ae 53 52,aa 54 4,av 55 1 53 54,ae 56 55,av 57 1 51 56,ae 58 57,aj 59 58,ai 60 0]) <|
  .block 4 (.loop E_pack_Unpack_1)) <|
  .region [(4,6),(4,8)] [⟨none,[af 71 0 2,ae 72 71,aa 73 5,((some 74),.op (.bslice 1 1 [(.emp 1)] [(0,(.tmp 73))])),((some 75),.op (.app 1 24 (.tmp 72) (.tmp 74))),af 76 1 2,ae 77 76,aa 78 8,((some 79),.op (.bslice 1 1 [(.emp 1)] [(0,(.tmp 78))])),((some 80),.op (.app 1 24 (.tmp 77) (.tmp 79))),af 81 0 2,(none,.op (.store 1 (.tmp 81) (.tmp 75))),af 82 1 2,(none,.op (.store 1 (.tmp 82) (.tmp 80)))]⟩])) <|
  ag [ah 83 .add 18 1,aa 18 83]
def D_pack_Unpack:DF:=⟨.seq (ag [aC 1 0,((some 2),.op (.alloc [(.emp 1),(.emp 1)])),ai 3 0]) <|
  .seq (.seq (ag [au 11 6 1,ao 12 105 [11],aB 13 12]) <|
  .cond (.tmp 13) (.seq (ag [au 14 2 2,(none,.op (.store 2 (.tmp 2) (.tmp 14))),ai 3 1]) <|
  .ret) (.skip)) <|
  .seq (.seq (ag [af 15 3 1,ae 16 15,aj 17 16,ai 18 0]) <|
  .block 0 (.loop E_pack_Unpack_2)) <|
  .seq (ag [au 84 2 2,(none,.op (.store 2 (.tmp 2) (.tmp 84))),ai 3 0]) <|
  .ret,
  [.cell 2 (some 2),.tmp 3],85⟩
theorem D_pack_Unpack_ok:compDF Tryz.prog 61 [1,100000]=some D_pack_Unpack:=by kernel_rfl
def E_slices_Repeat___int_int__0:DC :=
  .seq (.seq (ag [aa 34 8,aa 35 7,aj 36 35,ak 37 .lss 34 36]) <|
  .cond (.tmp 37) (.skip) (.exit 0)) <|
  .block 1 (ag [aa 38 8,aa 39 7,aa 40 8,((some 41),.op (.slice 1 (.tmp 39) (some (.tmp 40)) none)),aa 42 7,aa 43 8,((some 44),.op (.slice 1 (.tmp 42) none (some (.tmp 43)))),((some 45),.op (.old (.call { callee:=.builtin .copy,args:=#[(.tmp 41),(.tmp 44)],argTypes:=#[27,27] }) 3)),ak 46 .add 38 45,aa 8 46])
def D_slices_Repeat___int_int_:DF:=⟨.seq (ag [((some 4),.op (.mov (.val (.emp 1))))]) <|
  .seq (.seq (ag [aa 9 1,ah 10 .lss 9 0]) <|
  .cond (.tmp 10) (.region [] [⟨none,[((some 11),.op (.old (.makeInterface 9 (.const (.string ⟨#[99,97,110,110,111,116,32,98,101,32,110,101,103,97,116,105,118,101]⟩))) 20)),(none,.op (.old (.panic (.tmp 11)) 0))]⟩]) (.skip)) <|
  .seq (ag [aa 13 0,aj 14 13,((some 15),.op (.conv .u64 (.tmp 14))),aa 16 1,((some 17),.op (.conv .u64 (.tmp 16))),ao 18 157 [15,17],aa 12 18,aA 19 0 12,aA 20 1 12,aa 5 19,aa 6 20]) <|
  .seq (.seq (.region [] [⟨none,[aa 21 5,((some 22),.op (.arith .gtr (.tmp 21) (.val (.val (.int .u64 0))))),aa 23 22]⟩,⟨(some (23,false)),[aa 24 6,((some 25),.op (.arith .gtr (.tmp 24) (.val (.val (.int .u64 9223372036854775807)))))]⟩,⟨none,[ay 26 23 25]⟩]) <|
  .cond (.tmp 26) (.region [] [⟨none,[((some 27),.op (.old (.makeInterface 9 (.const (.string ⟨#[116,104,101,32,114,101,115,117,108,116,32,111,102,32,40,108,101,110,40,120,41,32,42,32,99,111,117,110,116,41,32,111,118,101,114,102,108,111,119,115]⟩))) 20)),(none,.op (.old (.panic (.tmp 27)) 0))]⟩]) (.skip)) <|
  .seq (ag [aa 28 6,((some 29),.op (.conv .i64 (.tmp 28))),((some 30),.op (.make 1 8 [(.val (.int .i64 0))] (.tmp 29) (.tmp 29))),aa 7 30]) <|
  .seq (ag [aa 31 7,aa 32 0,((some 33),.op (.old (.call { callee:=.builtin .copy,args:=#[(.tmp 31),(.tmp 32)],argTypes:=#[27,27] }) 3)),aa 8 33]) <|
  .seq (.block 0 (.loop E_slices_Repeat___int_int__0)) <|
  .seq (ag [aa 47 7,aa 4 47]) <|
  .ret,
  [.tmp 4],48⟩
theorem D_slices_Repeat___int_int__ok:compDF Tryz.prog 106 []=some D_slices_Repeat___int_int_:=by kernel_rfl
def D_math_bits_Mul:DF:=⟨.seq (ag [((some 4),.op (.mov (.val (.val (.int .u64 0))))),((some 5),.op (.mov (.val (.val (.int .u64 0)))))]) <|
  .seq (.cond (.val (.val (.bool false))) (.seq (ag [aa 11 0,((some 12),.op (.conv .u32 (.tmp 11))),aa 13 1,((some 14),.op (.conv .u32 (.tmp 13))),ao 15 210 [12,14],aa 10 15,aA 16 0 10,aA 17 1 10,aa 6 16,aa 7 17]) <|
  .seq (ag [aa 18 6,((some 19),.op (.conv .u64 (.tmp 18))),aa 20 7,((some 21),.op (.conv .u64 (.tmp 20))),aa 4 19,aa 5 21]) <|
  .ret) (.skip)) <|
  .seq (ag [aa 23 0,aa 24 1,ao 25 211 [23,24],aa 22 25,aA 26 0 22,aA 27 1 22,aa 8 26,aa 9 27]) <|
  .seq (ag [aa 28 8,aa 29 9,aa 4 28,aa 5 29]) <|
  .ret,
  [.tmp 4,.tmp 5],30⟩
theorem D_math_bits_Mul_ok:compDF Tryz.prog 157 []=some D_math_bits_Mul:=by kernel_rfl
def D_math_bits_Mul32:DF:=⟨.seq (ag [((some 4),.op (.mov (.val (.val (.int .u32 0))))),((some 5),.op (.mov (.val (.val (.int .u32 0)))))]) <|
  .seq (ag [aa 7 0,((some 8),.op (.conv .u64 (.tmp 7))),aa 9 1,((some 10),.op (.conv .u64 (.tmp 9))),ak 11 .mul 8 10,aa 6 11]) <|
  .seq (ag [aa 12 6,((some 13),.op (.sh false (.tmp 12) (.val (.val (.int .u64 32))))),((some 14),.op (.conv .u32 (.tmp 13))),aa 15 6,((some 16),.op (.conv .u32 (.tmp 15))),aa 4 14,aa 5 16]) <|
  .ret,
  [.tmp 4,.tmp 5],17⟩
theorem D_math_bits_Mul32_ok:compDF Tryz.prog 210 []=some D_math_bits_Mul32:=by kernel_rfl
def D_math_bits_Mul64:DF:=⟨.seq (ag [((some 4),.op (.mov (.val (.val (.int .u64 0))))),((some 5),.op (.mov (.val (.val (.int .u64 0)))))]) <|
  .seq (ag [aa 14 0,((some 15),.op (.arith .and (.tmp 14) (.val (.val (.int .u64 4294967295))))),aa 6 15]) <|
  .seq (ag [aa 16 0,((some 17),.op (.sh false (.tmp 16) (.val (.val (.int .u64 32))))),aa 7 17]) <|
  .seq (ag [aa 18 1,((some 19),.op (.arith .and (.tmp 18) (.val (.val (.int .u64 4294967295))))),aa 8 19]) <|
  .seq (ag [aa 20 1,((some 21),.op (.sh false (.tmp 20) (.val (.val (.int .u64 32))))),aa 9 21]) <|
  .seq (ag [aa 22 6,aa 23 8,ak 24 .mul 22 23,aa 10 24]) <|
  .seq (ag [aa 25 7,aa 26 8,ak 27 .mul 25 26,aa 28 10,((some 29),.op (.sh false (.tmp 28) (.val (.val (.int .u64 32))))),ak 30 .add 27 29,aa 11 30]) <|
  .seq (ag [aa 31 11,((some 32),.op (.arith .and (.tmp 31) (.val (.val (.int .u64 4294967295))))),aa 12 32]) <|
  .seq (ag [aa 33 11,((some 34),.op (.sh false (.tmp 33) (.val (.val (.int .u64 32))))),aa 13 34]) <|
  .seq (ag [aa 35 12,aa 36 6,aa 37 9,ak 38 .mul 36 37,ak 39 .add 35 38,aa 12 39]) <|
  .seq (ag [aa 40 7,aa 41 9,ak 42 .mul 40 41,aa 43 13,ak 44 .add 42 43,aa 45 12,((some 46),.op (.sh false (.tmp 45) (.val (.val (.int .u64 32))))),ak 47 .add 44 46,aa 4 47]) <|
  .seq (ag [aa 48 0,aa 49 1,ak 50 .mul 48 49,aa 5 50]) <|
  .ret,
  [.tmp 4,.tmp 5],51⟩
theorem D_math_bits_Mul64_ok:compDF Tryz.prog 211 []=some D_math_bits_Mul64:=by kernel_rfl
def E_pack_Right_0:DC :=
  .seq (ag [ak 78 .lss 77 76]) <|
  .seq (.cond (.tmp 78) (.skip) (.exit 1)) <|
  .seq (.block 2 (.seq (ag [av 79 1 75 77,ae 80 79,aa 4 80]) <|
  .seq (.region [] [⟨none,[aa 81 4,af 82 0 1,ae 83 82,ah 84 .add 83 1,aD 85 149 [(.tmp 81),(.tmp 84),(.val (.fn 150 [] []))],aB 86 85,aa 87 86]⟩,⟨(some (87,false)),[aa 88 4,aD 89 151 [(.tmp 88),(.val (.fn 152 [] []))]]⟩,⟨none,[ay 90 87 89]⟩]) <|
  .cond (.tmp 90) (.seq (ag [aw 2 false]) <|
  .ret) (.skip))) <|
  ag [ah 91 .add 77 1,aa 77 91]
def E_pack_Right_1:DC :=
  .seq (ag [ak 96 .lss 95 94]) <|
  .seq (.cond (.tmp 96) (.skip) (.exit 3)) <|
  .seq (.block 4 (.seq (ag [av 97 1 93 95,ae 98 97,aa 6 98]) <|
  .seq (.region [] [⟨none,[aa 99 6,af 100 1 1,ae 101 100,aD 102 153 [(.tmp 99),(.tmp 101),(.val (.fn 154 [] []))],aB 103 102,aa 104 103]⟩,⟨(some (104,false)),[aa 105 6,aD 106 155 [(.tmp 105),(.val (.fn 156 [] []))]]⟩,⟨none,[ay 107 104 106]⟩]) <|
  .cond (.tmp 107) (.seq (ag [aw 2 false]) <|
  .ret) (.skip))) <|
  ag [ah 108 .add 95 1,aa 95 108]
def D_pack_Right:DF:=⟨.seq (ag [aC 1 0,aw 2 false]) <|
  .seq (.block 0 (.seq (.region [] [⟨none,[af 8 0 1,ae 9 8,ah 10 .lss 9 0,aa 11 10]⟩,⟨(some (11,false)),[af 12 0 1,ae 13 12,ah 14 .gtr 13 24]⟩,⟨none,[ay 15 11 14,aa 16 15]⟩,⟨(some (16,false)),[af 17 1 1,ae 18 17,ah 19 .lss 18 0]⟩,⟨none,[ay 20 16 19,aa 21 20]⟩,⟨(some (21,false)),[af 22 1 1,ae 23 22,ah 24 .gtr 23 16]⟩,⟨none,[ay 25 21 24,aa 7 25]⟩]) <|
  .cond (.tmp 7) (.seq (ag [aw 2 false]) <|
  .ret) (.seq (.region [] [⟨none,[af 27 3 1,ae 28 27,aj 29 28,ah 30 .lss 29 1,aa 31 30]⟩,⟨(some (31,false)),[af 32 3 1,ae 33 32,aj 34 33,ah 35 .gtr 34 300]⟩,⟨none,[ay 36 31 35,aa 37 36]⟩,⟨(some (37,false)),[af 38 5 1,ae 39 38,aj 40 39,af 41 3 1,ae 42 41,aj 43 42,ak 44 .neq 40 43]⟩,⟨none,[ay 45 37 44,aa 26 45]⟩]) <|
  .cond (.tmp 26) (.seq (ag [aw 2 false]) <|
  .ret) (.seq (.region [] [⟨none,[af 47 2 1,ae 48 47,aj 49 48,ah 50 .gtr 49 300,aa 51 50]⟩,⟨(some (51,false)),[af 52 4 1,ae 53 52,aj 54 53,ah 55 .gtr 54 300]⟩,⟨none,[ay 56 51 55,aa 46 56]⟩]) <|
  .cond (.tmp 46) (.seq (ag [aw 2 false]) <|
  .ret) (.seq (.region [] [⟨none,[af 58 3 1,ae 59 58,af 60 2 1,ae 61 60,aj 62 61,ao 63 148 [59,62],aB 64 63,aa 65 64]⟩,⟨(some (65,false)),[af 66 5 1,ae 67 66,af 68 4 1,ae 69 68,aj 70 69,ao 71 148 [67,70],aB 72 71]⟩,⟨none,[ay 73 65 72,aa 57 73]⟩]) <|
  .cond (.tmp 57) (.seq (ag [aw 2 false]) <|
  .ret) (.skip)))))) <|
  .seq (.seq (ag [af 74 2 1,ae 75 74,aj 76 75,ai 77 0]) <|
  .block 1 (.loop E_pack_Right_0)) <|
  .seq (.seq (ag [af 92 4 1,ae 93 92,aj 94 93,ai 95 0]) <|
  .block 3 (.loop E_pack_Right_1)) <|
  .seq (ag [aw 2 true]) <|
  .ret,
  [.tmp 2],109⟩
theorem D_pack_Right_ok:compDF Tryz.prog 105 [1]=some D_pack_Right:=by kernel_rfl
def E_pack_rising_api_Entry__0:DC :=
  .seq (ag [ak 13 .lss 12 11]) <|
  .seq (.cond (.tmp 13) (.skip) (.exit 0)) <|
  .seq (.block 1 (.seq (ag [av 14 3 10 12,au 15 3 14,((some 9),.op (.alloc [(.val (.int .i64 0)),(.val (.int .i64 0)),(.val (.int .i64 0))])),(none,.op (.store 3 (.tmp 9) (.tmp 15)))]) <|
  .seq (.seq (.region [] [⟨none,[aa 16 2,au 17 3 9,((some 18),.call (.tmp 16) [(.tmp 17)]),aa 19 7,ak 20 .leq 18 19,aa 21 20]⟩,⟨(some (21,false)),[aa 22 2,au 23 3 9,((some 24),.call (.tmp 22) [(.tmp 23)]),aa 25 1,ak 26 .geq 24 25]⟩,⟨none,[ay 27 21 26]⟩]) <|
  .cond (.tmp 27) (.seq (ag [aw 6 false]) <|
  .ret) (.skip)) <|
  ag [aa 28 2,au 29 3 9,((some 30),.call (.tmp 28) [(.tmp 29)]),aa 7 30])) <|
  ag [ah 31 .add 12 1,aa 12 31]
def D_pack_rising_api_Entry_:DF:=⟨.seq (ag [aw 6 false]) <|
  .seq (ag [ai 7 (-1)]) <|
  .seq (.seq (ag [aa 10 0,aj 11 10,ai 12 0]) <|
  .block 0 (.loop E_pack_rising_api_Entry__0)) <|
  .seq (ag [aw 6 true]) <|
  .ret,
  [.tmp 6],32⟩
theorem D_pack_rising_api_Entry__ok:compDF Tryz.prog 149 []=some D_pack_rising_api_Entry_:=by kernel_rfl
def D_pack_Right_1:DF:=⟨.seq (ag [aC 1 0,ai 2 0]) <|
  .seq (ag [af 3 0 1,ae 4 3,aa 2 4]) <|
  .ret,
  [.tmp 2],5⟩
theorem D_pack_Right_1_ok:compDF Tryz.prog 150 [1]=some D_pack_Right_1:=by kernel_rfl
def D_slices_ContainsFunc___api_Entry_api_Entry_:DF:=⟨.seq (ag [aw 4 false]) <|
  .seq (ag [aa 5 0,aa 6 1,ao 7 209 [5,6],ah 8 .geq 7 0,aa 4 8]) <|
  .ret,
  [.tmp 4],9⟩
theorem D_slices_ContainsFunc___api_Entry_api_Entry__ok:compDF Tryz.prog 151 []=some D_slices_ContainsFunc___api_Entry_api_Entry_:=by kernel_rfl
def E_slices_IndexFunc___api_Entry_api_Entry__0:DC :=
  .seq (ag [ak 9 .lss 8 7]) <|
  .seq (.cond (.tmp 9) (.skip) (.exit 0)) <|
  .seq (.block 1 (.seq (ag [aa 10 8,aa 5 10]) <|
  .seq (ag [aa 11 1,aa 12 0,aa 13 5,av 14 3 12 13,au 15 3 14,((some 16),.call (.tmp 11) [(.tmp 15)])]) <|
  .cond (.tmp 16) (.seq (ag [aa 17 5,aa 4 17]) <|
  .ret) (.skip))) <|
  ag [ah 18 .add 8 1,aa 8 18]
def D_slices_IndexFunc___api_Entry_api_Entry_:DF:=⟨.seq (ag [ai 4 0]) <|
  .seq (.seq (ag [aa 6 0,aj 7 6,ai 8 0]) <|
  .block 0 (.loop E_slices_IndexFunc___api_Entry_api_Entry__0)) <|
  .seq (ag [ai 4 (-1)]) <|
  .ret,
  [.tmp 4],19⟩
theorem D_slices_IndexFunc___api_Entry_api_Entry__ok:compDF Tryz.prog 209 []=some D_slices_IndexFunc___api_Entry_api_Entry_:=by kernel_rfl
def D_pack_Right_2:DF:=⟨.seq (ag [aC 1 0,aw 2 false]) <|
  .seq (ag [af 3 1 1,au 4 2 3,((some 5),.op (.build [(.val (.int .i64 0)),(.val (.int .i64 0))] [])),((some 6),.op (.old (.binOp .eql 89 (.tmp 4) (.tmp 5) 89) 4)),aa 2 6]) <|
  .ret,
  [.tmp 2],7⟩
theorem D_pack_Right_2_ok:compDF Tryz.prog 152 [1]=some D_pack_Right_2:=by kernel_rfl
def E_pack_rising_api_Edge__0:DC :=
  .seq (ag [ak 13 .lss 12 11]) <|
  .seq (.cond (.tmp 13) (.skip) (.exit 0)) <|
  .seq (.block 1 (.seq (ag [av 14 2 10 12,au 15 2 14,((some 9),.op (.alloc [(.val (.int .i64 0)),(.val (.int .i64 0))])),(none,.op (.store 2 (.tmp 9) (.tmp 15)))]) <|
  .seq (.seq (.region [] [⟨none,[aa 16 2,au 17 2 9,((some 18),.call (.tmp 16) [(.tmp 17)]),aa 19 7,ak 20 .leq 18 19,aa 21 20]⟩,⟨(some (21,false)),[aa 22 2,au 23 2 9,((some 24),.call (.tmp 22) [(.tmp 23)]),aa 25 1,ak 26 .geq 24 25]⟩,⟨none,[ay 27 21 26]⟩]) <|
  .cond (.tmp 27) (.seq (ag [aw 6 false]) <|
  .ret) (.skip)) <|
  ag [aa 28 2,au 29 2 9,((some 30),.call (.tmp 28) [(.tmp 29)]),aa 7 30])) <|
  ag [ah 31 .add 12 1,aa 12 31]
def D_pack_rising_api_Edge_:DF:=⟨.seq (ag [aw 6 false]) <|
  .seq (ag [ai 7 (-1)]) <|
  .seq (.seq (ag [aa 10 0,aj 11 10,ai 12 0]) <|
  .block 0 (.loop E_pack_rising_api_Edge__0)) <|
  .seq (ag [aw 6 true]) <|
  .ret,
  [.tmp 6],32⟩
theorem D_pack_rising_api_Edge__ok:compDF Tryz.prog 153 []=some D_pack_rising_api_Edge_:=by kernel_rfl
def D_pack_Right_3:DF:=⟨.seq (ag [aC 1 0,ai 2 0]) <|
  .seq (ag [af 3 0 1,ae 4 3,aa 2 4]) <|
  .ret,
  [.tmp 2],5⟩
theorem D_pack_Right_3_ok:compDF Tryz.prog 154 [1]=some D_pack_Right_3:=by kernel_rfl
def D_slices_ContainsFunc___api_Edge_api_Edge_:DF:=⟨.seq (ag [aw 4 false]) <|
  .seq (ag [aa 5 0,aa 6 1,ao 7 80 [5,6],ah 8 .geq 7 0,aa 4 8]) <|
  .ret,
  [.tmp 4],9⟩
theorem D_slices_ContainsFunc___api_Edge_api_Edge__ok:compDF Tryz.prog 155 []=some D_slices_ContainsFunc___api_Edge_api_Edge_:=by kernel_rfl
def E_slices_IndexFunc___api_Edge_api_Edge__0:DC :=
  .seq (ag [ak 9 .lss 8 7]) <|
  .seq (.cond (.tmp 9) (.skip) (.exit 0)) <|
  .seq (.block 1 (.seq (ag [aa 10 8,aa 5 10]) <|
  .seq (ag [aa 11 1,aa 12 0,aa 13 5,av 14 2 12 13,au 15 2 14,((some 16),.call (.tmp 11) [(.tmp 15)])]) <|
  .cond (.tmp 16) (.seq (ag [aa 17 5,aa 4 17]) <|
  .ret) (.skip))) <|
  ag [ah 18 .add 8 1,aa 8 18]
def D_slices_IndexFunc___api_Edge_api_Edge_:DF:=⟨.seq (ag [ai 4 0]) <|
  .seq (.seq (ag [aa 6 0,aj 7 6,ai 8 0]) <|
  .block 0 (.loop E_slices_IndexFunc___api_Edge_api_Edge__0)) <|
  .seq (ag [ai 4 (-1)]) <|
  .ret,
  [.tmp 4],19⟩
theorem D_slices_IndexFunc___api_Edge_api_Edge__ok:compDF Tryz.prog 80 []=some D_slices_IndexFunc___api_Edge_api_Edge_:=by kernel_rfl
def D_pack_Right_4:DF:=⟨.seq (ag [aC 1 0,aw 2 false]) <|
  .seq (ag [af 3 1 1,ae 4 3,ah 5 .eql 4 (-1),aa 2 5]) <|
  .ret,
  [.tmp 2],6⟩
theorem D_pack_Right_4_ok:compDF Tryz.prog 156 [1]=some D_pack_Right_4:=by kernel_rfl
def D_pack_numbers:DF:=⟨.seq (ag [aC 3 1,aw 4 false]) <|
  .seq (ag [aa 5 0,((some 6),.op (.mkfn 208 [] [(.tmp 3)])),ao 7 90 [5,6],aB 8 7,aa 4 8]) <|
  .ret,
  [.tmp 4],9⟩
theorem D_pack_numbers_ok:compDF Tryz.prog 148 [3]=some D_pack_numbers:=by kernel_rfl
def D_pack_numbers_1:DF:=⟨.seq (ag [aw 3 false]) <|
  .seq (.region [] [⟨none,[aa 4 0,ah 5 .lss 4 0,aa 6 5]⟩,⟨(some (6,false)),[aa 7 0,ae 8 1,ak 9 .geq 7 8]⟩,⟨none,[ay 10 6 9,aa 3 10]⟩]) <|
  .ret,
  [.tmp 3],11⟩
theorem D_pack_numbers_1_ok:compDF Tryz.prog 208 []=some D_pack_numbers_1:=by kernel_rfl
def D_slices_ContainsFunc___int_int_:DF:=⟨.seq (ag [aw 4 false]) <|
  .seq (ag [aa 5 0,aa 6 1,ao 7 137 [5,6],ah 8 .geq 7 0,aa 4 8]) <|
  .ret,
  [.tmp 4],9⟩
theorem D_slices_ContainsFunc___int_int__ok:compDF Tryz.prog 90 []=some D_slices_ContainsFunc___int_int_:=by kernel_rfl
def E_slices_IndexFunc___int_int__0:DC :=
  .seq (ag [ak 9 .lss 8 7]) <|
  .seq (.cond (.tmp 9) (.skip) (.exit 0)) <|
  .seq (.block 1 (.seq (ag [aa 10 8,aa 5 10]) <|
  .seq (ag [aa 11 1,aa 12 0,aa 13 5,av 14 1 12 13,ae 15 14,((some 16),.call (.tmp 11) [(.tmp 15)])]) <|
  .cond (.tmp 16) (.seq (ag [aa 17 5,aa 4 17]) <|
  .ret) (.skip))) <|
  ag [ah 18 .add 8 1,aa 8 18]
def D_slices_IndexFunc___int_int_:DF:=⟨.seq (ag [ai 4 0]) <|
  .seq (.seq (ag [aa 6 0,aj 7 6,ai 8 0]) <|
  .block 0 (.loop E_slices_IndexFunc___int_int__0)) <|
  .seq (ag [ai 4 (-1)]) <|
  .ret,
  [.tmp 4],19⟩
theorem D_slices_IndexFunc___int_int__ok:compDF Tryz.prog 137 []=some D_slices_IndexFunc___int_int_:=by kernel_rfl
def tabAl19:List (FuncId × DF):=[(15,D_gerundlaw19_alive),(18,D_gerundref18_Pack),(58,D_gerundref18_entries),(59,D_gerundref18_edges),(56,D_gerundref18_row),(57,D_gerundref18_gotos),(55,D_gerundref18_shaped),(20,D_drive_Run),(61,D_pack_Unpack),(106,D_slices_Repeat___int_int_),(157,D_math_bits_Mul),(210,D_math_bits_Mul32),(211,D_math_bits_Mul64),(105,D_pack_Right),(149,D_pack_rising_api_Entry_),(150,D_pack_Right_1),(151,D_slices_ContainsFunc___api_Entry_api_Entry_),(209,D_slices_IndexFunc___api_Entry_api_Entry_),(152,D_pack_Right_2),(153,D_pack_rising_api_Edge_),(154,D_pack_Right_3),(155,D_slices_ContainsFunc___api_Edge_api_Edge_),(80,D_slices_IndexFunc___api_Edge_api_Edge_),(156,D_pack_Right_4),(148,D_pack_numbers),(208,D_pack_numbers_1),(90,D_slices_ContainsFunc___int_int_),(137,D_slices_IndexFunc___int_int_)]
theorem tabAl19_ok:TabOk Tryz.prog tabAl19:=by
  intro p hp
  simp only[tabAl19,List.mem_cons,List.not_mem_nil,or_false] at hp
  rcases hp with rfl | rfl | rfl | rfl | rfl | rfl | rfl | rfl | rfl | rfl | rfl | rfl | rfl | rfl | rfl | rfl | rfl | rfl | rfl | rfl | rfl | rfl | rfl | rfl | rfl | rfl | rfl | rfl
  · exact ⟨_,D_gerundlaw19_alive_ok⟩
  · exact ⟨_,D_gerundref18_Pack_ok⟩
  · exact ⟨_,D_gerundref18_entries_ok⟩
  · exact ⟨_,D_gerundref18_edges_ok⟩
  · exact ⟨_,D_gerundref18_row_ok⟩
  · exact ⟨_,D_gerundref18_gotos_ok⟩
  · exact ⟨_,D_gerundref18_shaped_ok⟩
  · exact ⟨_,D_drive_Run_ok⟩
  · exact ⟨_,D_pack_Unpack_ok⟩
  · exact ⟨_,D_slices_Repeat___int_int__ok⟩
  · exact ⟨_,D_math_bits_Mul_ok⟩
  · exact ⟨_,D_math_bits_Mul32_ok⟩
  · exact ⟨_,D_math_bits_Mul64_ok⟩
  · exact ⟨_,D_pack_Right_ok⟩
  · exact ⟨_,D_pack_rising_api_Entry__ok⟩
  · exact ⟨_,D_pack_Right_1_ok⟩
  · exact ⟨_,D_slices_ContainsFunc___api_Entry_api_Entry__ok⟩
  · exact ⟨_,D_slices_IndexFunc___api_Entry_api_Entry__ok⟩
  · exact ⟨_,D_pack_Right_2_ok⟩
  · exact ⟨_,D_pack_rising_api_Edge__ok⟩
  · exact ⟨_,D_pack_Right_3_ok⟩
  · exact ⟨_,D_slices_ContainsFunc___api_Edge_api_Edge__ok⟩
  · exact ⟨_,D_slices_IndexFunc___api_Edge_api_Edge__ok⟩
  · exact ⟨_,D_pack_Right_4_ok⟩
  · exact ⟨_,D_pack_numbers_ok⟩
  · exact ⟨_,D_pack_numbers_1_ok⟩
  · exact ⟨_,D_slices_ContainsFunc___int_int__ok⟩
  · exact ⟨_,D_slices_IndexFunc___int_int__ok⟩
section
variable {P:Program} {T:Env} {H:View} {K:V→View→Prop} {w:Veil (T,H,K)} {t t1 e ty:TypeId}
end
def begC (g:Gram) (s:Int) (n:Nat) (o:List LrI):List LrI:=(List.range n).foldl (fun o (k:Nat)=>if (ruleD g k).left = -1 - s then putLr o ⟨k,0⟩ else o) o
def step1C (g:Gram) (p:List LrI) (x:LrI):List LrI:=if (nextLr g x).2=true∧(nextLr g x).1 < 0 then begC g (nextLr g x).1 g.rules.length p else p
def closC (g:Gram) (l:List LrI):List LrI:=iter (fun o=>o.foldl (step1C g) o) g.rules.length l
def okC (g:Gram) (l o:List LrI):Bool:=l.all (fun x=>decide (x∈o)) && o.all fun x=>!(nextLr g x).2 || decide (0≤(nextLr g x).1) || (List.range g.rules.length).all fun (k:Nat)=>!decide ((ruleD g k).left = -1 - (nextLr g x).1) || decide ((⟨k,0⟩:LrI)∈o)
def CloS (g:Gram) (l o:List LrI):Prop:=SortLr o∧∀ x∈o,CloM g l x
theorem rule_at {g:Gram} {k:Nat} (h:k < g.rules.length):g.rules[k]?=some (ruleD g k):=by unfold ruleD; rw[Int.toNat_natCast]; exact getD_some h
theorem begC_ok {g:Gram} {l:List LrI} {x:LrI} {s:Int} (hx:CloM g l x) (hn:nextLr g x=(s,true)) (hs:s < 0):∀ (n:Nat) (o:List LrI),n≤g.rules.length→CloS g l o→CloS g l (begC g s n o)
  | 0,_,_,h=>h
  | n+1,o,hn1,h=>by
    have ih:=begC_ok hx hn hs n o (by omega) h
    unfold begC at ih ⊢
    rw[List.range_succ,List.foldl_append]
    simp only[List.foldl_cons,List.foldl_nil]
    split
    · rename_i hL
      refine ⟨putLr_sort ih.1,fun y hy=>?_⟩
      rcases mem_putLr.1 hy with rfl | hy
      · exact .step hx hn hs (rule_at (by omega)) hL
      · exact ih.2 y hy
    · exact ih
theorem step1C_fold {g:Gram} {l:List LrI} : ∀ (q o:List LrI),(∀ x∈q,CloM g l x)→CloS g l o→CloS g l (q.foldl (step1C g) o)
  | [],_,_,h=>h
  | x :: q,o,hq,h=>by
    rw[List.foldl_cons]
    refine step1C_fold q _ (fun y hy=>hq y (by simp[hy])) ?_
    unfold step1C
    split
    · rename_i hc
      exact begC_ok (hq x (by simp)) (Prod.ext rfl hc.1) hc.2 _ _ (Nat.le_refl _) h
    · exact h
theorem iter_keeps {α:Type} {p:α→Prop} {f:α→α} (h:∀ x,p x→p (f x)):∀ (n:Nat) (x:α),p x→p (iter f n x)
  | 0,_,hx=>hx
  | n+1,x,hx=>iter_keeps h n (f x) (h x hx)
theorem closC_is {g:Gram} (hf:g.Fine) {l:List LrI} (hs:SortLr l) (hl:∀ x∈l,HasLr g x) (h:okC g l (closC g l)=true):closD g l=closC g l:=by
  have hc:CloS g l (closC g l):=iter_keeps (fun o ho=>step1C_fold o o ho.2 ho) _ l ⟨hs,fun x hx=>.base hx⟩
  simp only[okC,Bool.and_eq_true,List.all_eq_true,decide_eq_true_eq] at h
  refine closD_is hf hl hc.1 hc.2 h.1 fun x hx s k R hn hneg hk hL=>?_
  have h1:=h.2 x hx
  obtain ⟨hkl,hR⟩:=List.getElem?_eq_some_iff.1 hk
  rw[rule_at hkl] at hk
  simp only[Option.some.injEq] at hk
  simp only[hn,Bool.not_true,Bool.false_or,Bool.or_eq_true,decide_eq_true_eq,List.all_eq_true,List.mem_range,Bool.not_eq_true',decide_eq_false_iff_not] at h1
  rcases h1 with h1 | h1
  · omega
  · rcases h1 k hkl with h2 | h2
    · exact absurd (by rw[hk]; exact hL) h2
    · exact h2
def rowAC (g:Gram) (at_:Nat) (out:List StP):List StP:=(List.range (g.terms.length+g.nons.length)).foldl (stepA g (closC g (out.getD at_ noSt).ker) at_) out
def loopC (g:Gram):Nat→Nat→List StP→Option (List StP)
  | 0,_,_=>none
  | f+1,at_,out=>if at_ < out.length then
      (if okC g (out.getD at_ noSt).ker (closC g (out.getD at_ noSt).ker)=true∧(rowAC g at_ out).length≤300 then loopC g f (at_+1) (rowAC g at_ out) else none)
    else some out
theorem loopC_is {g:Gram} (hf:g.Fine):∀ (f at_:Nat) (out a:List StP),AutI g at_ 0 out→loopC g f at_ out=some a→∀ k:Nat,f≤k→loopA g k at_ out=(a,0)
  | 0,_,_,_,_,h,_,_=>by simp[loopC] at h
  | f+1,at_,out,a,hI,h,k,hk=>by
    obtain ⟨j,rfl⟩:∃ j,k=j+1:=⟨k - 1,by omega⟩
    rw[loopC] at h
    rw[loopA]
    split at h
    · rename_i ha
      rw[if_pos ha]
      split at h
      · rename_i hc
        have hm:=List.mem_of_getElem? (getD_some (d:=noSt) ha)
        have hk1:=hI.ker _ hm
        have e:rowA g at_ out (g.terms.length+g.nons.length)=rowAC g at_ out:=by
          unfold rowA rowAC
          rw[closC_is hf hk1.1 hk1.2.2 hc.1]
        have hr:=AutI.row (hI.clos hf ha).1 (hI.clos hf ha).2 hI (g.terms.length+g.nons.length) (by have:=hf.terms; have:=hf.nons; omega)
        rw[show (List.range (g.terms.length+g.nons.length)).foldl (stepA g (closD g (out.getD at_ noSt).ker) at_) out=rowA g at_ out (g.terms.length+g.nons.length) from rfl] at hr
        rw[e] at hr ⊢
        rw[if_neg (by omega)]
        exact loopC_is hf f (at_+1) _ a hr.1.next h j (by omega)
      · simp at h
    · rename_i ha
      rw[if_neg ha]
      simp only[Option.some.injEq] at h
      rw[h]
def cloLC (g:Gram) (a:List StP):List (List LrI):=a.map fun s=>closC g s.ker
def sweepC (g:Gram) (null:List Bool) (a:List StP) (ls:List (List LrI)) (ss:Sets):Sets:=(List.range ls.length).foldl (fun ss (i:Nat)=>(List.range (ls.getD i []).length).foldl (fun ss (k:Nat)=>passD g null a ls i k ss) ss) ss
def startC (g:Gram) (ls:List (List LrI)):Sets:=giveD ls (zeroS ls) 0 ⟨-1,0⟩ (bitD g.terms.length)
def fixC (g:Gram) (null:List Bool) (a:List StP) (ls:List (List LrI)) (ss:Sets):Bool:=(List.range ls.length).all fun (i:Nat)=>(List.range (ls.getD i []).length).all fun (k:Nat)=>decide (passD g null a ls i k ss=ss)
def lookC (g:Gram) (ls:List (List LrI)) (ss:Sets) (i:Nat):List PLook:=(List.range (ls.getD i []).length).filterMap fun (k:Nat)=>if (nextLr g ((ls.getD i []).getD k ⟨0,0⟩)).2=false∧0≤((ls.getD i []).getD k ⟨0,0⟩).rule then some ⟨((ls.getD i []).getD k ⟨0,0⟩).rule,getS ss i k⟩ else none
theorem fold_keeps {α β:Type} {p:β→Prop} {f:β→α→β} : ∀ (l:List α) (b:β),(∀ x∈l,∀ b,p b→p (f b x))→p b→p (l.foldl f b)
  | [],_,_,h=>h
  | x :: l,b,hf,h=>by
    rw[List.foldl_cons]
    exact fold_keeps l _ (fun y hy=>hf y (by simp[hy])) (hf x (by simp) b h)
def SetK (g:Gram) (a:List StP) (ss:Sets):Prop:=Shp (closL g a) ss∧SoundS g (grown09 g false) a (closL g a) ss∧∀ k,((closL g a).getD 0 [])[k]?=some ⟨-1,0⟩→(getS ss 0 k).getLsbD g.terms.length=true
theorem startC_ok {g:Gram} {a:List StP} (hf:g.Fine) (h1:1≤a.length):SetK g a (startC g (closL g a)):=by
  have hzs:=zeroS_shp (closL g a)
  have hl0:0 < (closL g a).length:=by simp[closL]; omega
  have hbit:∀ t,(bitD (g.terms.length:Int)).getLsbD t=true↔t=g.terms.length:=fun t=>by
    have:=hf.terms
    rw[bitD,if_pos (by omega),BitVec.getLsbD_twoPow]
    simp only[Int.toNat_natCast,Bool.and_eq_true,decide_eq_true_eq]
    omega
  refine ⟨giveD_shp hzs hl0 ⟨-1,0⟩ (bitD g.terms.length),giveD_sound hzs (fun i k x t _ h=>by rw[zeroS_get] at h; simp at h) hl0 fun t ht hm=>?_,fun k hk=>?_⟩
  · rw[(hbit t).1 ht]
    exact .start hm
  · rw[startC,giveD_get hzs hl0,if_pos ⟨rfl,hk⟩,BitVec.getLsbD_or,(hbit _).2 rfl,Bool.or_true]
theorem sweepC_ok {g:Gram} {a:List StP} (h1:1≤a.length) (ss:Sets) (h:SetK g a ss):SetK g a (sweepC g (grown09 g false) a (closL g a) ss):=by
  have hla:(closL g a).length=a.length:=by simp[closL]
  unfold sweepC
  refine fold_keeps _ _ (fun i hi ss hs=>?_) h
  refine fold_keeps _ _ (fun k hk ss hs=>?_) hs
  simp only[List.mem_range] at hi hk
  obtain ⟨h2,h3,h4⟩:=hs
  have hp:=passD_ok (g:=g) (null:=grown09 g false) hla h1 hi k h2
  exact ⟨hp.1,passD_sound hla h1 hi hk h2 h3,fun k hk=>hp.2.2.2 0 k _ (h4 k hk)⟩
theorem range_getD {α:Type} (l:List α) (d:α):l=(List.range l.length).map fun k=>l.getD k d:=by
  refine List.ext_getElem (by simp) fun i h1 h2=>?_
  simp[List.getD_eq_getElem?_getD,h1]
theorem fm_congr {α β:Type} {f h:α→Option β} : ∀ (l:List α),(∀ x∈l,f x=h x)→l.filterMap f=l.filterMap h
  | [],_=>rfl
  | x :: l,hx=>by rw[List.filterMap_cons,List.filterMap_cons,hx x (by simp),fm_congr l fun y hy=>hx y (by simp[hy])]
theorem lookC_is {g:Gram} {a:List StP} {ss:Sets} (h:∀ (i k:Nat) (x:LrI),((closL g a).getD i [])[k]?=some x→getS ss i k=setL g a i x) (i:Nat):lookR g a i=lookC g (closL g a) ss i:=by
  have e:∀ (l:List LrI) (f:LrI→Option PLook),l.filterMap f=(List.range l.length).filterMap fun k=>f (l.getD k ⟨0,0⟩):=fun l f=>by
    rw[show l.filterMap f=((List.range l.length).map fun k=>l.getD k ⟨0,0⟩).filterMap f from congrArg (List.filterMap f) (range_getD l ⟨0,0⟩),List.filterMap_map]; rfl
  unfold lookR lookC
  rw[e]
  refine fm_congr _ fun k hk=>?_
  simp only[List.mem_range] at hk
  rw[h i k _ (getD_some hk)]
def buildC (g:Gram) (a:List StP) (null:List Bool) (ls:List (List LrI)) (ss:Sets):Tab × List PConf :=
  (tabD g a ((List.range a.length).map (lookC g ls ss)) a.length,conD g a ((List.range a.length).map (lookC g ls ss)) a.length)
theorem buildC_is {g:Gram} (hr:isRed g=true) {f n:Nat} {a:List StP} {null:List Bool} {ls:List (List LrI)} {ss:Sets} {t:Tab} {c:List PConf} (ha:loopC g f 0 startA=some a) (hf302:f≤302) (hok:(a.all fun s=>okC g s.ker (closC g s.ker))=true)
    (hls:cloLC g a=ls) (hn:grown09 g false=null) (hss:iter (sweepC g null a ls) n (startC g ls)=ss) (hfx:fixC g null a ls ss=true) (ht:buildC g a null ls ss=(t,c)):buildD g=(t,c,0):=by
  have hf:=isRed_fine hr
  have hA:autoD g=(a,0):=by
    unfold autoD
    rw[if_pos hr]
    exact loopC_is hf f 0 startA a startA_ok ha 302 hf302
  have h0:(autoD g).2=0:=by rw[hA]
  obtain ⟨hO,h1,_⟩:=autoD_ok hf h0
  rw[hA] at hO h1
  have hcl:closL g a=ls:=by
    rw[← hls]
    unfold closL cloLC
    refine List.map_congr_left fun s hs=>?_
    have hk:=hO.ker s hs
    exact closC_is hf hk.1 hk.2.2 (List.all_eq_true.1 hok s hs)
  subst hn
  subst hcl
  have hla:(closL g a).length=a.length:=by simp[closL]
  have hK:SetK g a ss:=by
    rw[← hss]
    exact iter_keeps (fun ss h=>sweepC_ok h1 ss h) n _ (startC_ok hf h1)
  obtain ⟨k1,k2,k3⟩:=hK
  have hfix:∀ i k,i < (closL g a).length→k < ((closL g a).getD i []).length→passD g (grown09 g false) a (closL g a) i k ss=ss:=fun i k hi hk=>by
    have:=List.all_eq_true.1 (List.all_eq_true.1 hfx i (List.mem_range.2 hi)) k (List.mem_range.2 hk)
    exact of_decide_eq_true this
  have hL:lookL g a=(List.range a.length).map (lookC g (closL g a) ss):=by
    unfold lookL
    refine List.map_congr_left fun i _=>?_
    exact lookC_is (fun i k x hx=>sets_are hla h1 k1 k2 k3 hfix hx) i
  unfold buildC at ht
  rw[← hL] at ht
  simp only[Prod.mk.injEq] at ht
  unfold buildD
  simp only[hA,if_pos,lookD,ht.1,ht.2]
def tabOkB (t:Tab):Bool:=decide (t.actions.length≤900) && decide (t.gotos.length≤900) && t.actions.all (fun r=>decide (r.length≤900) && r.all fun c=>in64B c.kind && in64B c.n) && t.gotos.all fun r=>decide (r.length≤900) && r.all in64B
theorem tabOkB_ok {t:Tab} (h:tabOkB t=true):t.Ok:=by
  unfold tabOkB at h
  simp only[Bool.and_eq_true,decide_eq_true_eq,List.all_eq_true] at h
  obtain ⟨⟨⟨h1,h2⟩,h3⟩,h4⟩:=h
  exact ⟨by unfold Short; omega,by unfold Short; omega,fun r hr=>⟨by unfold Short; have:=(h3 r hr).1; omega,fun c hc=>⟨in64B_ok ((h3 r hr).2 c hc).1,in64B_ok ((h3 r hr).2 c hc).2⟩⟩,fun r hr=>⟨by unfold Short; have:=(h4 r hr).1; omega,fun x hx=>in64B_ok ((h4 r hr).2 x hx)⟩⟩
theorem ExtE.Ok.new {P:Program} {f:FuncId} {vs:List V} {t:V} (hc:PNew P f vs t) (hk:calleeOk P f=true):ExtE.Ok P (f,vs,t,false):=⟨hk,by simp only[Bool.false_eq_true,if_false]; exact .inl hc⟩
theorem ExtE.Ok.truth {P:Program} {f:FuncId} {vs:List V} {b:Bool} (hc:PCall P f vs (gb b)) (hk:calleeOk P f=true):ExtE.Ok P (f,vs,gb b,false):=⟨hk,by simp only[Bool.false_eq_true,if_false]; exact .inr ⟨hc,.val _⟩⟩
theorem ext_cons {P:Program} {x:ExtE} {l:List ExtE} (h:x.Ok P) (hl:∀ y∈l,y.Ok P):∀ y∈x :: l,y.Ok P:=fun y hy=>by
  rcases List.mem_cons.1 hy with rfl | hy
  · exact h
  · exact hl y hy
def tab5:Tab:=⟨[[⟨1,1⟩,⟨2,1⟩],[⟨1,1⟩,⟨2,1⟩],[⟨0,0⟩,⟨3,0⟩],[⟨0,0⟩,⟨2,0⟩]],[[2],[3],[-1],[-1]]⟩
theorem tab5_ok:tab5.Ok:=tabOkB_ok (by kernel_rfl)
theorem bD5:buildD gram5=(tab5,[],0) :=
  buildC_is (f:=10) (n:=2) (a:=[⟨[⟨-1,0⟩],[⟨0,1⟩,⟨-1,2⟩]⟩,⟨[⟨0,1⟩],[⟨0,1⟩,⟨-1,3⟩]⟩,⟨[⟨-1,1⟩],[]⟩,⟨[⟨0,2⟩],[]⟩]) (null:=[true]) (ls:=[[⟨-1,0⟩,⟨0,0⟩,⟨1,0⟩],[⟨0,0⟩,⟨0,1⟩,⟨1,0⟩],[⟨-1,1⟩],[⟨0,2⟩]]) (ss:=[[2,2,2],[2,2,2],[2],[2]]) (by kernel_rfl) (by kernel_rfl) (by decide) (by kernel_rfl) (by kernel_rfl) (by kernel_rfl) (by kernel_rfl) (by kernel_rfl) (by kernel_rfl)
def build5:V:=.tup [.agg (encTab tab5),.fro (cfE []),gi 0]
theorem build5_ok:PNew Tryz.prog 17 [.agg (encG gram5)] build5:=by
  have h:=pn_Build17 gram5 gram5_okB.1
  rw[bD5] at h
  exact h
theorem readP:PNew Tryz.prog 52 [encY textP] (readOut gramP):=read_of (by kernel_rfl)
theorem gramP_okB:gramP.Ok∧gramP.Small:=okB_ok (by kernel_rfl)
def tabP:Tab:=⟨[[⟨2,2⟩,⟨0,0⟩,⟨0,0⟩],[⟨0,0⟩,⟨0,0⟩,⟨2,1⟩],[⟨0,0⟩,⟨0,0⟩,⟨3,0⟩],[⟨2,2⟩,⟨0,0⟩,⟨0,0⟩],[⟨0,0⟩,⟨0,0⟩,⟨2,0⟩]],[[2,3],[-1,-1],[-1,-1],[4,3],[-1,-1]]⟩
theorem tabP_ok:tabP.Ok:=tabOkB_ok (by kernel_rfl)
theorem bDP:buildD gramP=(tabP,[⟨0,0,1,2,-1⟩,⟨3,0,1,2,-1⟩],0) :=
  buildC_is (f:=10) (n:=2) (a:=[⟨[⟨-1,0⟩],[⟨0,1⟩,⟨-1,2⟩,⟨-2,3⟩]⟩,⟨[⟨1,1⟩],[]⟩,⟨[⟨-1,1⟩],[]⟩,⟨[⟨0,1⟩],[⟨0,1⟩,⟨-1,4⟩,⟨-2,3⟩]⟩,⟨[⟨0,2⟩],[]⟩]) (null:=[false,true]) (ls:=[[⟨-1,0⟩,⟨0,0⟩,⟨1,0⟩,⟨2,0⟩],[⟨1,1⟩],[⟨-1,1⟩],[⟨0,0⟩,⟨0,1⟩,⟨1,0⟩,⟨2,0⟩],[⟨0,2⟩]]) (ss:=[[4,4,4,1],[4],[4],[4,4,4,1],[4]]) (by kernel_rfl) (by kernel_rfl) (by decide) (by kernel_rfl) (by kernel_rfl) (by kernel_rfl) (by kernel_rfl) (by kernel_rfl) (by kernel_rfl)
def buildP:V:=.tup [.agg (encTab tabP),.fro (cfE [⟨0,0,1,2,-1⟩,⟨3,0,1,2,-1⟩]),gi 0]
theorem buildP_ok:PNew Tryz.prog 17 [.agg (encG gramP)] buildP:=by
  have h:=pn_Build17 gramP gramP_okB.1
  rw[bDP] at h
  exact h
theorem readQ:PNew Tryz.prog 52 [encY textQ] (readOut gramQ):=read_of (by kernel_rfl)
theorem gramQ_okB:gramQ.Ok∧gramQ.Small:=okB_ok (by kernel_rfl)
def tabQ:Tab:=⟨[[⟨1,1⟩,⟨0,0⟩,⟨0,0⟩],[⟨0,0⟩,⟨1,3⟩,⟨0,0⟩],[⟨0,0⟩,⟨0,0⟩,⟨3,0⟩],[⟨0,0⟩,⟨0,0⟩,⟨2,0⟩]],[[2],[-1],[-1],[-1]]⟩
theorem tabQ_ok:tabQ.Ok:=tabOkB_ok (by kernel_rfl)
theorem bDQ:buildD gramQ=(tabQ,[],0) :=
  buildC_is (f:=10) (n:=2) (a:=[⟨[⟨-1,0⟩],[⟨0,1⟩,⟨-1,2⟩]⟩,⟨[⟨0,1⟩],[⟨1,3⟩]⟩,⟨[⟨-1,1⟩],[]⟩,⟨[⟨0,2⟩],[]⟩]) (null:=[false]) (ls:=[[⟨-1,0⟩,⟨0,0⟩],[⟨0,1⟩],[⟨-1,1⟩],[⟨0,2⟩]]) (ss:=[[4,4],[4],[4],[4]]) (by kernel_rfl) (by kernel_rfl) (by decide) (by kernel_rfl) (by kernel_rfl) (by kernel_rfl) (by kernel_rfl) (by kernel_rfl) (by kernel_rfl)
def buildQ:V:=.tup [.agg (encTab tabQ),.fro (cfE []),gi 0]
theorem buildQ_ok:PNew Tryz.prog 17 [.agg (encG gramQ)] buildQ:=by
  have h:=pn_Build17 gramQ gramQ_okB.1
  rw[bDQ] at h
  exact h
theorem loopP:∀ (k:Nat) (st rs:List Int),0 < st.length→topS st=3→runD gramP tabP [0] k st rs 0=([],0,14):=by
  have hc:cellA tabP 3 (aheadT gramP [0] 0)=⟨2,2⟩:=by kernel_rfl
  have hr:(ruleD gramP 2).right=[]:=by kernel_rfl
  have hg:gotoA tabP 3 (ruleD gramP 2).left=3:=by kernel_rfl
  intro k
  induction k with
  | zero =>
    intro st rs hs ht
    rw[runD_eq,ht,hc]
    rfl
  | succ k ih =>
    intro st rs hs ht
    rw[runD_eq,ht,hc]
    simp only[hr,List.length_nil,Nat.sub_zero,List.take_length,ht,hg]
    rw[if_neg (by decide),if_neg (by decide),if_neg (by decide),if_neg (by omega),if_neg (by decide)]
    exact ih _ _ (by simp) (by simp[topS,List.getD_eq_getElem?_getD])
theorem plainP:plainA gramP tabP [0]=([],0,14):=by
  have hc:cellA tabP 0 (aheadT gramP [0] 0)=⟨2,2⟩:=by kernel_rfl
  have hr:(ruleD gramP 2).right=[]:=by kernel_rfl
  have hg:gotoA tabP 0 (ruleD gramP 2).left=3:=by kernel_rfl
  have ht:topS [0]=0:=rfl
  rw[plainA_eq,if_pos (by kernel_rfl),show (2000:Nat)=1999+1 from rfl,runD_eq,ht,hc]
  simp only[hr,List.length_cons,List.length_nil,Nat.sub_zero,Nat.zero_add,List.take_succ_cons,List.take_zero,ht,hg]
  rw[if_neg (by decide),if_neg (by decide),if_neg (by decide),if_neg (by omega),if_neg (by decide)]
  exact loopP 1999 _ _ (by simp) rfl
theorem plain5:plainA gram5 tab5 [0,0]=([1,0,0],2,0):=by
  rw[plainA_eq,if_pos (by kernel_rfl)]; kernel_rfl
theorem plain5n:plainA gram5 tab5 [1]=([],0,1):=by
  rw[plainA_eq,if_neg (by rw[show (wordB gram5 [1] && rightT gram5 tab5)=false by kernel_rfl]; simp)]
theorem plainQ:plainA gramQ tabQ [0,0]=([],1,3):=by
  rw[plainA_eq,if_pos (by kernel_rfl)]; kernel_rfl
theorem in64_le {w:List Int} (h:w.all in64B=true):∀ x∈w,In64 x:=fun x hx=>in64B_ok (List.all_eq_true.1 h x hx)
theorem short_le {w:List Int} (h:w.length≤100):Short w:=by unfold Short; omega
def pack5:List V:=[gi 1,gi 1,.fro [[.fro [[.val (.int .i64 (0)),.val (.int .i64 (1)),.val (.int .i64 (1))],[.val (.int .i64 (1)),.val (.int .i64 (2)),.val (.int .i64 (1))]]],[.fro [[.val (.int .i64 (1)),.val (.int .i64 (3)),.val (.int .i64 (0))]]],[.fro [[.val (.int .i64 (1)),.val (.int .i64 (2)),.val (.int .i64 (0))]]]],.fro [[.val (.int .i64 (0))],[.val (.int .i64 (0))],[.val (.int .i64 (1))],[.val (.int .i64 (2))]],.fro [[.fro [[.val (.int .i64 (0)),.val (.int .i64 (2))]]],[.fro [[.val (.int .i64 (0)),.val (.int .i64 (3))]]],[.fro []]],.fro [[.val (.int .i64 (0))],[.val (.int .i64 (1))],[.val (.int .i64 (2))],[.val (.int .i64 (2))]]]
theorem pack5_ok:PNew Tryz.prog 18 [.agg (encTab tab5)] (.tup [.agg pack5,gi 0]) :=
  eClosed_ok mixed tabAl19_ok (extOf_ok (l:=[]) (by simp)) (tab_args tab5) (by kernel_rfl)
def exPl5:List ExtE:=[(19,[.agg (encG gram5),.agg (encTab tab5),encI [0,0]],outD ([1,0,0],2,0),false)]
theorem exPl5_ok:∀ x∈exPl5,x.Ok Tryz.prog :=
  ext_cons (.new (plain5 ▸ pn_dPlain gram5 gram5_okB.1 gram5_okB.2 tab5 tab5_ok [0,0] (short_le (by decide)) (in64_le (by kernel_rfl))) (by kernel_rfl)) (by simp)
def ext19:List ExtE:=(52,[encY text5],readOut gram5,false) :: (52,[encY textP],readOut gramP,false) :: (52,[encY textQ],readOut gramQ,false) ::
  (17,[.agg (encG gram5)],build5,false) :: (17,[.agg (encG gramP)],buildP,false) :: (17,[.agg (encG gramQ)],buildQ,false) ::
  (18,[.agg (encTab tab5)],.tup [.agg pack5,gi 0],false) ::
  (19,[.agg (encG gram5),.agg (encTab tab5),encI [1]],outD ([],0,1),false) :: (19,[.agg (encG gramP),.agg (encTab tabP),encI [0]],outD ([],0,14),false) :: (19,[.agg (encG gramQ),.agg (encTab tabQ),encI [0,0]],outD ([],1,3),false) ::
  (21,[encI [1,0,0],encI [1,0,0]],gb true,false) :: (53,[.agg (encG gram5),encI [0]],gb true,false) :: (53,[.agg (encG gram5),encI [-1]],gb false,false) :: exPl5
theorem ext19_ok:∀ x∈ext19,x.Ok Tryz.prog :=
  ext_cons (.new read5 (by kernel_rfl)) <| ext_cons (.new readP (by kernel_rfl)) <| ext_cons (.new readQ (by kernel_rfl)) <|
  ext_cons (.new build5_ok (by kernel_rfl)) <| ext_cons (.new buildP_ok (by kernel_rfl)) <| ext_cons (.new buildQ_ok (by kernel_rfl)) <|
  ext_cons (.new pack5_ok (by kernel_rfl)) <|
  ext_cons (.new (plain5n ▸ pn_dPlain gram5 gram5_okB.1 gram5_okB.2 tab5 tab5_ok [1] (short_le (by decide)) (in64_le (by kernel_rfl))) (by kernel_rfl)) <|
  ext_cons (.new (plainP ▸ pn_dPlain gramP gramP_okB.1 gramP_okB.2 tabP tabP_ok [0] (short_le (by decide)) (in64_le (by kernel_rfl))) (by kernel_rfl)) <|
  ext_cons (.new (plainQ ▸ pn_dPlain gramQ gramQ_okB.1 gramQ_okB.2 tabQ tabQ_ok [0,0] (short_le (by decide)) (in64_le (by kernel_rfl))) (by kernel_rfl)) <|
  ext_cons (.truth ((show ([1,0,0]:List Int) == [1,0,0] by kernel_rfl) ▸ pc_Ints [1,0,0] [1,0,0] (short_le (by decide))) (by kernel_rfl)) <|
  ext_cons (.truth ((show wordB gram5 [0]=true by kernel_rfl) ▸ pc_dWord gram5 gram5_okB.1 gram5_okB.2 [0] (short_le (by decide)) (in64_le (by kernel_rfl))) (by kernel_rfl)) <|
  ext_cons (.truth ((show wordB gram5 [-1]=false by kernel_rfl) ▸ pc_dWord gram5 gram5_okB.1 gram5_okB.2 [-1] (short_le (by decide)) (in64_le (by kernel_rfl))) (by kernel_rfl)) exPl5_ok
theorem pc_alive19:PCall Tryz.prog 15 [] (gb true) :=
  (eClosed_ok mixed tabAl19_ok (extOf_ok ext19_ok) (by simp) (by kernel_rfl)).pure
theorem look_is {g:Gram} {a:List StP} : ∀ i:Nat,∀ p∈(lookL g a).getD i [],∃ x∈closD g (a.getD i noSt).ker,(nextLr g x).2=false∧0≤x.rule∧p.rule=x.rule:=by
  intro i p hp
  rcases Nat.lt_or_ge i a.length with hi | hi
  · have e:(lookL g a).getD i []=lookR g a i:=by rw[lookL,List.getD_eq_getElem?_getD,List.getElem?_map,List.getElem?_range hi]; rfl
    rw[e,lookR,List.mem_filterMap] at hp
    obtain ⟨x,hx,h⟩:=hp
    have hc:(closL g a).getD i []=closD g (a.getD i noSt).ker:=by
      rw[List.getD_eq_getElem?_getD,closL_get (getD_some (d:=noSt) hi)]; rfl
    rw[hc] at hx
    split at h
    · rename_i hcnd
      simp only[Option.some.injEq] at h
      subst h
      exact ⟨x,hx,hcnd.1,hcnd.2,rfl⟩
    · simp at h
  · rw[lookL,List.getD_eq_getElem?_getD,List.getElem?_eq_none (by simp; omega)] at hp
    simp at hp
structure BuiltT (g:Gram) (a:List StP):Prop where
  fine:g.Fine
  ok:AutOk g a
  edge:AutE g a
  len1:1≤a.length
  len:a.length≤300
  tab:(buildD g).1=tabD g a (lookL g a) a.length
  shape:ShapeT (buildD g).1 g.terms.length g.nons.length
  tok:(buildD g).1.Ok
  con:(buildD g).2.1=conD g a (lookL g a) a.length
theorem gotoD_in {a:List StP} (h1:1≤a.length) (i k:Int) : -1≤gotoD a i k∧gotoD a i k < a.length:=by
  unfold gotoD
  split
  · unfold walkD
    split
    · simp only; omega
    · have:=walkS1_in (a:=a) [-1 - k] i (by omega) (by omega)
      omega
  · omega
theorem build_is {g:Gram} (hg:g.Ok) (h:(buildD g).2.2=0):BuiltT g (autoD g).1:=by
  have hz:(autoD g).2=0:=by
    unfold buildD at h
    split at h
    · assumption
    · exact h
  obtain ⟨hW,hA⟩:=autoD_work hg hz
  have hf:=right09_fine hW.right
  have hE:=autoD_edge hf hz
  have hl1:=hW.len1
  have hl3:=hW.short
  have hN:=hf.nons; have hT:=hf.terms; have hR:=hf.rules
  have ht:(buildD g).1=tabD g (autoD g).1 (lookL g (autoD g).1) (autoD g).1.length:=by
    unfold buildD
    rw[if_pos hz]
    simp only[lookD,if_pos hz]
  have hc:(buildD g).2.1=conD g (autoD g).1 (lookL g (autoD g).1) (autoD g).1.length:=by
    unfold buildD
    rw[if_pos hz]
    simp only[lookD,if_pos hz]
  refine ⟨hf,hA,hE,hl1,hl3,ht,?_,?_,hc⟩
  · rw[ht]
    refine ⟨hT,hN,by simp[tabD]; omega,by simp[tabD]; omega,by simp[tabD],fun r hr=>?_,fun r hr=>?_⟩
    · simp only[tabD,List.mem_map] at hr
      obtain ⟨i,_,rfl⟩:=hr
      simp[rowTb]
    · simp only[tabD,List.mem_map] at hr
      obtain ⟨i,_,rfl⟩:=hr
      simp[gorD]
  · rw[ht]
    refine ⟨by simp[tabD,Short]; omega,by simp[tabD,Short]; omega,fun r hr=>?_,fun r hr=>?_⟩
    · simp only[tabD,List.mem_map,List.mem_range] at hr
      obtain ⟨i,hi,rfl⟩:=hr
      refine ⟨by simp[rowTb,Short]; omega,fun c hc=>?_⟩
      simp only[rowTb,List.mem_map,List.mem_range] at hc
      obtain ⟨k,hk,rfl⟩:=hc
      have hm:=List.mem_of_getElem? (getD_some (d:=noSt) hi)
      rcases cellTb_is g ((autoD g).1.getD i noSt) ((lookL g (autoD g).1).getD i []) i k with ⟨e,he,_,h⟩ | ⟨p,hp,h⟩ | ⟨_,_,h⟩ | h
      · have:=hA.to _ hm e he
        rw[h]; simp only[In64]; omega
      · obtain ⟨x,hx,_,h0,hr⟩:=look_is i p hp
        have hxH:=((mem_closD hf (hA.ker _ hm).2.2).1 hx).has (hA.ker _ hm).2.2
        have:=hxH.1
        rw[h]; simp only[In64]; omega
      · rw[h]; simp only[In64]; omega
      · rw[h]; simp only[In64]; omega
    · simp only[tabD,List.mem_map,List.mem_range] at hr
      obtain ⟨i,hi,rfl⟩:=hr
      refine ⟨by simp[gorD,Short]; omega,fun x hx=>?_⟩
      simp only[gorD,List.mem_map,List.mem_range] at hx
      obtain ⟨k,hk,rfl⟩:=hx
      have:=gotoD_in (a:=(autoD g).1) hl1 i k
      simp only[In64]; omega
theorem gw_args2 (g:Gram) (w:List Int):∀ v∈[V.agg (encG g),encI w],Tree v:=by
  intro v hv; simp at hv
  rcases hv with rfl | rfl
  · exact tree_agg _ (encG_tree g)
  · exact encI_tree w
end Gv
