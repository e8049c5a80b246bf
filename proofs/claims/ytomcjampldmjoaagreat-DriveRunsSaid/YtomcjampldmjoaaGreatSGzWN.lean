/-
  Part 14 of the proof: what the machine does and what the functions answer.
  Conditions: those that each lemma names.
-/
import Derived.Test.YtomcjampldmjoaaGreatSGzWM
set_option linter.unusedSimpArgs false
set_option linter.unusedVariables false
set_option maxRecDepth 100000
namespace Gv
open Go Go.Proofs
def Lg:List Int:=[37,114,105,103,104,116,32,39,97,39,32,37,108,101,102,116,32,39,104,39,32,37,37,32,115,32,58,32,110,32,115,32,124,32,39,97,39,32,59,32,110,32,58,32,37,112,114,101,99,32,39,104,39,32,59]
def KZ:List Int:=[37,37,32,115,32,58,32,39,97,39,32,39,98,39,32,59]
def c9:aw:=⟨[⟨⟨#[39,97,39]⟩,1,2⟩,⟨⟨#[39,104,39]⟩,2,1⟩],[⟨#[115]⟩,⟨#[110]⟩],[⟨0,[-2,-1],-1⟩,⟨0,[0],0⟩,⟨1,[],1⟩],0⟩
def eK:aw:=⟨[⟨⟨#[39,97,39]⟩,0,0⟩,⟨⟨#[39,98,39]⟩,0,0⟩],[⟨#[115]⟩],[⟨0,[0,1],1⟩],0⟩
def lB:DF:=⟨.seq (ah [aN 0 false]) <|
  .seq (ah [((some 37),.op (.aS 16 1 [(.val (.int .u8 0))] [(0,(.val (.val (.int .u8 37)))),(1,(.val (.val (.int .u8 37)))),(2,(.val (.val (.int .u8 32)))),(3,(.val (.val (.int .u8 115)))),(4,(.val (.val (.int .u8 32)))),(5,(.val (.val (.int .u8 58)))),(6,(.val (.val (.int .u8 32)))),(7,(.val (.val (.int .u8 39)))),(8,(.val (.val (.int .u8 97)))),(9,(.val (.val (.int .u8 39)))),(10,(.val (.val (.int .u8 32)))),(11,(.val (.val (.int .u8 115)))),(12,(.val (.val (.int .u8 32)))),(13,(.val (.val (.int .u8 124)))),(14,(.val (.val (.int .u8 32)))),(15,(.val (.val (.int .u8 59))))])),((some 38),.op (.old (.convert 73 73 (.tmp 37)) 73)),aI 39 41 [38],aa 36 39,bq 40 0 36,bq 41 1 36,bq 42 2 36,((some 1),.op (.alloc [(.emp 1),(.emp 1),(.emp 1),(.val (.int .i64 0))])),(none,.op (.store 4 (.tmp 1) (.tmp 40))),aa 2 41,aa 3 42]) <|
  .seq (ah [aH 44 4 1,aI 45 23 [44],aa 43 45,bq 46 0 43,bq 47 1 43,bq 48 2 43,((some 4),.op (.alloc [(.emp 1),(.emp 1)])),(none,.op (.store 2 (.tmp 4) (.tmp 46))),aa 5 47,aa 6 48]) <|
  .seq (ah [aH 50 2 4,aI 51 24 [50],aa 49 51,bq 52 0 49,bq 53 1 49,((some 7),.op (.alloc [(.val (.int .i64 0)),(.val (.int .i64 0)),(.emp 1),(.emp 1),(.emp 1),(.emp 1)])),(none,.op (.store 6 (.tmp 7) (.tmp 52))),aa 8 53]) <|
  .seq (ah [aH 55 4 1,aH 56 2 4,((some 57),.op (.aS 2 1 [(.val (.int .i64 0))] [(0,(.val (.val (.int .i64 0)))),(1,(.val (.val (.int .i64 0))))])),aI 58 15 [55,56,57],aa 54 58,bq 59 0 54,bq 60 1 54,bq 61 2 54,aa 9 59,aa 10 60,aa 11 61]) <|
  .seq (ah [aH 63 4 1,aH 64 6 7,((some 65),.op (.aS 2 1 [(.val (.int .i64 0))] [(0,(.val (.val (.int .i64 0)))),(1,(.val (.val (.int .i64 0))))])),aI 66 21 [63,64,65],aa 62 66,bq 67 0 62,bq 68 1 62,bq 69 2 62,aa 12 67,aa 13 68,aa 14 69]) <|
  .seq (ah [aH 71 4 1,aH 72 2 4,((some 73),.op (.aS 1 1 [(.val (.int .i64 0))] [(0,(.val (.val (.int .i64 1))))])),aI 74 15 [71,72,73],aa 70 74,bq 75 0 70,bq 76 1 70,bq 77 2 70,aa 15 75,aa 16 76,aa 17 77]) <|
  .seq (ah [((some 79),.op (.aS 55 1 [(.val (.int .u8 0))] [(0,(.val (.val (.int .u8 37)))),(1,(.val (.val (.int .u8 114)))),(2,(.val (.val (.int .u8 105)))),(3,(.val (.val (.int .u8 103)))),(4,(.val (.val (.int .u8 104)))),(5,(.val (.val (.int .u8 116)))),(6,(.val (.val (.int .u8 32)))),(7,(.val (.val (.int .u8 39)))),(8,(.val (.val (.int .u8 97)))),(9,(.val (.val (.int .u8 39)))),(10,(.val (.val (.int .u8 32)))),(11,(.val (.val (.int .u8 37)))),(12,(.val (.val (.int .u8 108)))),(13,(.val (.val (.int .u8 101)))),(14,(.val (.val (.int .u8 102)))),(15,(.val (.val (.int .u8 116)))),(16,(.val (.val (.int .u8 32)))),(17,(.val (.val (.int .u8 39)))),(18,(.val (.val (.int .u8 104)))),(19,(.val (.val (.int .u8 39)))),(20,(.val (.val (.int .u8 32)))),(21,(.val (.val (.int .u8 37)))),(22,(.val (.val (.int .u8 37)))),(23,(.val (.val (.int .u8 32)))),(24,(.val (.val (.int .u8 115)))),(25,(.val (.val (.int .u8 32)))),(26,(.val (.val (.int .u8 58)))),(27,(.val (.val (.int .u8 32)))),(28,(.val (.val (.int .u8 110)))),(29,(.val (.val (.int .u8 32)))),(30,(.val (.val (.int .u8 115)))),(31,(.val (.val (.int .u8 32)))),(32,(.val (.val (.int .u8 124)))),(33,(.val (.val (.int .u8 32)))),(34,(.val (.val (.int .u8 39)))),(35,(.val (.val (.int .u8 97)))),(36,(.val (.val (.int .u8 39)))),(37,(.val (.val (.int .u8 32)))),(38,(.val (.val (.int .u8 59)))),(39,(.val (.val (.int .u8 32)))),(40,(.val (.val (.int .u8 110)))),(41,(.val (.val (.int .u8 32)))),(42,(.val (.val (.int .u8 58)))),(43,(.val (.val (.int .u8 32)))),(44,(.val (.val (.int .u8 37)))),(45,(.val (.val (.int .u8 112)))),(46,(.val (.val (.int .u8 114)))),(47,(.val (.val (.int .u8 101)))),(48,(.val (.val (.int .u8 99)))),(49,(.val (.val (.int .u8 32)))),(50,(.val (.val (.int .u8 39)))),(51,(.val (.val (.int .u8 104)))),(52,(.val (.val (.int .u8 39)))),(53,(.val (.val (.int .u8 32)))),(54,(.val (.val (.int .u8 59))))])),((some 80),.op (.old (.convert 73 73 (.tmp 79)) 73)),aI 81 41 [80],aa 78 81,bq 82 0 78,bq 83 1 78,bq 84 2 78,((some 18),.op (.alloc [(.emp 1),(.emp 1),(.emp 1),(.val (.int .i64 0))])),(none,.op (.store 4 (.tmp 18) (.tmp 82))),aa 19 83,aa 20 84]) <|
  .seq (ah [aH 86 4 18,aI 87 23 [86],aa 85 87,bq 88 0 85,bq 89 1 85,bq 90 2 85,((some 21),.op (.alloc [(.emp 1),(.emp 1)])),(none,.op (.store 2 (.tmp 21) (.tmp 88))),aa 22 89,aa 23 90]) <|
  .seq (ah [aH 92 4 18,aH 93 2 21,((some 94),.op (.aS 1 1 [(.val (.int .i64 0))] [(0,(.val (.val (.int .i64 0))))])),aI 95 15 [92,93,94],aa 91 95,bq 96 0 91,bq 97 1 91,bq 98 2 91,aa 24 96,aa 25 97,aa 26 98]) <|
  .seq (ah [((some 100),.op (.aS 16 1 [(.val (.int .u8 0))] [(0,(.val (.val (.int .u8 37)))),(1,(.val (.val (.int .u8 37)))),(2,(.val (.val (.int .u8 32)))),(3,(.val (.val (.int .u8 115)))),(4,(.val (.val (.int .u8 32)))),(5,(.val (.val (.int .u8 58)))),(6,(.val (.val (.int .u8 32)))),(7,(.val (.val (.int .u8 39)))),(8,(.val (.val (.int .u8 97)))),(9,(.val (.val (.int .u8 39)))),(10,(.val (.val (.int .u8 32)))),(11,(.val (.val (.int .u8 39)))),(12,(.val (.val (.int .u8 98)))),(13,(.val (.val (.int .u8 39)))),(14,(.val (.val (.int .u8 32)))),(15,(.val (.val (.int .u8 59))))])),((some 101),.op (.old (.convert 73 73 (.tmp 100)) 73)),aI 102 41 [101],aa 99 102,bq 103 0 99,bq 104 1 99,bq 105 2 99,((some 27),.op (.alloc [(.emp 1),(.emp 1),(.emp 1),(.val (.int .i64 0))])),(none,.op (.store 4 (.tmp 27) (.tmp 103))),aa 28 104,aa 29 105]) <|
  .seq (ah [aH 107 4 27,aI 108 23 [107],aa 106 108,bq 109 0 106,bq 110 1 106,bq 111 2 106,((some 30),.op (.alloc [(.emp 1),(.emp 1)])),(none,.op (.store 2 (.tmp 30) (.tmp 109))),aa 31 110,aa 32 111]) <|
  .seq (ah [aH 113 4 27,aH 114 2 30,((some 115),.op (.aS 2 1 [(.val (.int .i64 0))] [(0,(.val (.val (.int .i64 0)))),(1,(.val (.val (.int .i64 0))))])),aI 116 15 [113,114,115],aa 112 116,bq 117 0 112,bq 118 1 112,bq 119 2 112,aa 33 117,aa 34 118,aa 35 119]) <|
  .seq (.region [] [⟨none,[aa 120 11,au 121 .eql 120 0,aa 122 121]⟩,⟨(some (122,true)),[aa 123 14,au 124 .eql 123 0]⟩,⟨none,[bj 125 122 124,aa 126 125]⟩,⟨(some (126,true)),[aa 127 17,au 128 .eql 127 1]⟩,⟨none,[bj 129 126 128,aa 130 129]⟩,⟨(some (130,true)),[aa 131 26,au 132 .eql 131 14]⟩,⟨none,[bj 133 130 132,aa 134 133]⟩,⟨(some (134,true)),[aa 135 35,au 136 .eql 135 3]⟩,⟨none,[bj 137 134 136,aa 138 137]⟩,⟨(some (138,true)),[aa 139 10,au 140 .eql 139 2]⟩,⟨none,[bj 141 138 140,aa 142 141]⟩,⟨(some (142,true)),[aa 143 13,au 144 .eql 143 2]⟩,⟨none,[bj 145 142 144,aa 146 145]⟩,⟨(some (146,true)),[aa 147 34,au 148 .eql 147 1]⟩,⟨none,[bj 149 146 148,aa 150 149]⟩,⟨(some (150,true)),[aa 151 9,((some 152),.op (.aS 3 1 [(.val (.int .i64 0))] [(0,(.val (.val (.int .i64 1)))),(1,(.val (.val (.int .i64 0)))),(2,(.val (.val (.int .i64 0))))])),aI 153 17 [151,152]]⟩,⟨none,[bj 154 150 153,aa 155 154]⟩,⟨(some (155,true)),[aa 156 12,aa 157 9,aI 158 17 [156,157]]⟩,⟨none,[bj 159 155 158,aa 160 159]⟩,⟨(some (160,true)),[aH 161 4 1,((some 162),.op (.aS 1 1 [(.val (.int .i64 0))] [(0,(.val (.val (.int .i64 0))))])),aI 163 18 [161,162]]⟩,⟨none,[bj 164 160 163,aa 165 164]⟩,⟨(some (165,true)),[aH 166 4 1,((some 167),.op (.aS 1 1 [(.val (.int .i64 0))] [(0,(.val (.val (.int .i64 (-1)))))])),aI 168 18 [166,167],bB 169 168]⟩,⟨none,[bj 170 165 169,aa 0 170]⟩]) <|
  .ret,
  [.tmp 0],171⟩
theorem q7:aK Tryz.prog 11 []=some lB:=by kernel_rfl
def rE:DC :=
  .seq (.seq (ah [aa 40 13,an 41 0 1,ak 42 41,aC 43 42,aF 44 .leq 40 43]) <|
  .cond (.tmp 44) (.skip) (.exit 2)) <|
  .seq (.block 3 (.seq (.region [(11,15)] [⟨none,[aH 48 4 1,aa 49 5,aa 50 11,aG 51 2 49 50,aH 52 2 51,aa 53 7,aa 54 11,aG 55 1 53 54,ak 56 55,aa 57 11,aa 58 13,aI 59 53 [48,52,56,57,58],aa 47 59,bq 60 0 47,bq 61 1 47,((some 14),.op (.alloc [(.val (.int .i64 0)),(.val (.int .i64 0))])),(none,.op (.store 2 (.tmp 14) (.tmp 60))),aa 15 61]⟩]) <|
  .seq (ah [aa 62 12,aH 63 2 14,((some 64),.op (.aS 1 2 [(.val (.int .i64 0)),(.val (.int .i64 0))] [(0,(.tmp 63))])),((some 65),.op (.app 2 16 (.tmp 62) (.tmp 64))),aa 12 65]) <|
  ah [aa 66 10,aa 67 15,((some 68),.op (.app 5 40 (.tmp 66) (.tmp 67))),aa 10 68])) <|
  ah [aa 45 13,au 46 .add 45 1,aa 13 46]
def sD:DC :=
  .seq (.seq (ah [aa 69 17,an 70 1 1,ak 71 70,aC 72 71,aF 73 .lss 69 72]) <|
  .cond (.tmp 73) (.skip) (.exit 4)) <|
  .seq (.block 5 (.seq (ah [aa 77 5,aa 78 11,aa 79 17,((some 80),.op (.arith .sub (.val (.val (.int .i64 (-1)))) (.tmp 79))),((some 81),.op (.aS 1 1 [(.val (.int .i64 0))] [(0,(.tmp 80))])),aI 82 54 [77,78,81],aa 76 82,bq 83 0 76,bq 84 1 76,aa 18 83,aa 19 84]) <|
  .seq (.seq (ah [aa 85 19,bB 86 85]) <|
  .cond (.tmp 86) (ah [aA 18 (-1)]) (.skip)) <|
  ah [aa 87 16,aa 88 18,((some 89),.op (.aS 1 1 [(.val (.int .i64 0))] [(0,(.tmp 88))])),((some 90),.op (.app 1 8 (.tmp 87) (.tmp 89))),aa 16 90])) <|
  ah [aa 74 17,au 75 .add 74 1,aa 17 75]
def sG:DC :=
  .seq (.seq (ah [aa 34 11,aa 35 5,aC 36 35,aF 37 .lss 34 36]) <|
  .cond (.tmp 37) (.skip) (.exit 0)) <|
  .seq (.block 1 (.seq (ah [((some 12),.op (.aW (.val (.emp 1))))]) <|
  .seq (.seq (ah [aA 13 0]) <|
  .block 2 (.loop rE)) <|
  .seq (ah [((some 16),.op (.aW (.val (.emp 1))))]) <|
  .seq (.seq (ah [aA 17 0]) <|
  .block 4 (.loop sD)) <|
  .region [(4,6),(4,8)] [⟨none,[an 91 0 9,ak 92 91,aa 93 12,((some 94),.op (.aS 1 1 [(.emp 1)] [(0,(.tmp 93))])),((some 95),.op (.app 1 24 (.tmp 92) (.tmp 94))),an 96 1 9,ak 97 96,aa 98 16,((some 99),.op (.aS 1 1 [(.emp 1)] [(0,(.tmp 98))])),((some 100),.op (.app 1 24 (.tmp 97) (.tmp 99))),an 101 0 9,(none,.op (.store 1 (.tmp 101) (.tmp 95))),an 102 1 9,(none,.op (.store 1 (.tmp 102) (.tmp 100)))]⟩])) <|
  ah [aa 38 11,au 39 .add 38 1,aa 11 39]
def lp:DF:=⟨.seq (ah [bA 1 0,((some 2),.op (.alloc [(.emp 1),(.emp 1)])),((some 3),.op (.aW (.val (.emp 1)))),aA 4 0]) <|
  .seq (ah [aH 21 4 1,aI 22 51 [21],aa 20 22,bq 23 0 20,bq 24 1 20,aa 5 23,aa 6 24]) <|
  .seq (.seq (ah [aa 25 6,au 26 .neq 25 0]) <|
  .cond (.tmp 26) (.seq (ah [((some 27),.op (.build [(.emp 1),(.emp 1)] [])),aa 28 6,(none,.op (.store 2 (.tmp 2) (.tmp 27))),((some 3),.op (.aW (.val (.emp 1)))),aa 4 28]) <|
  .ret) (.skip)) <|
  .seq (ah [aH 30 4 1,aI 31 52 [30],aa 29 31,bq 32 0 29,bq 33 1 29,aa 7 32,aa 8 33]) <|
  .seq (ah [((some 9),.op (.alloc [(.emp 1),(.emp 1)]))]) <|
  .seq (ah [((some 10),.op (.aW (.val (.emp 1))))]) <|
  .seq (.seq (ah [aA 11 0]) <|
  .block 0 (.loop sG)) <|
  .seq (ah [aH 103 2 9,aa 104 10,(none,.op (.store 2 (.tmp 2) (.tmp 103))),aa 3 104,aA 4 0]) <|
  .ret,
  [.cell 2 (some 2),.tmp 3,.tmp 4],105⟩
theorem qT:aK Tryz.prog 23 [1,100000]=some lp:=by kernel_rfl
def tc:DC :=
  .seq (.seq (ah [aa 29 15,aa 30 13,aC 31 30,aF 32 .lss 29 31]) <|
  .cond (.tmp 32) (.skip) (.exit 0)) <|
  .seq (.block 1 (ah [aa 35 14,aa 36 3,aa 37 4,aa 38 13,aa 39 15,aG 40 1 38 39,ak 41 40,aa 42 13,((some 43),.op (.idx 1 (.tmp 42) (.val (.val (.int .i64 0))))),ak 44 43,((some 45),.op (.build [(.val (.int .i64 0)),(.val (.int .i64 0)),(.val (.int .i64 0)),(.val (.int .i64 0)),(.val (.int .i64 0))] [(0,1,(.tmp 36)),(1,1,(.tmp 37)),(2,1,(.val (.val (.int .i64 5)))),(3,1,(.tmp 41)),(4,1,(.tmp 44))])),((some 46),.op (.aS 1 5 [(.val (.int .i64 0)),(.val (.int .i64 0)),(.val (.int .i64 0)),(.val (.int .i64 0)),(.val (.int .i64 0))] [(0,(.tmp 45))])),((some 47),.op (.app 5 40 (.tmp 35) (.tmp 46))),aa 14 47])) <|
  ah [aa 33 15,au 34 .add 33 1,aa 15 34]
def m3:DF:=⟨.seq (ah [bA 5 0,bA 6 1,((some 10),.op (.alloc [(.val (.int .i64 0)),(.val (.int .i64 0))])),((some 11),.op (.aW (.val (.emp 1))))]) <|
  .seq (ah [aH 18 4 5,aH 19 2 6,aa 20 4,aI 21 104 [18,19,20],((some 12),.op (.alloc [(.val (.int .i64 0)),(.val (.int .i64 0))])),(none,.op (.store 2 (.tmp 12) (.tmp 21)))]) <|
  .seq (ah [aa 22 2,aa 23 4,aI 24 105 [22,23],aa 13 24]) <|
  .seq (.seq (ah [aa 25 13,aC 26 25,au 27 .eql 26 0]) <|
  .cond (.tmp 27) (.seq (ah [aH 28 2 12,(none,.op (.store 2 (.tmp 10) (.tmp 28))),((some 11),.op (.aW (.val (.emp 1))))]) <|
  .ret) (.skip)) <|
  .seq (ah [((some 14),.op (.aW (.val (.emp 1))))]) <|
  .seq (.seq (ah [aA 15 1]) <|
  .block 0 (.loop tc)) <|
  .seq (ah [aa 48 13,((some 49),.op (.idx 1 (.tmp 48) (.val (.val (.int .i64 0))))),ak 50 49,((some 51),.op (.build [(.val (.int .i64 0)),(.val (.int .i64 0))] [(0,1,(.val (.val (.int .i64 2)))),(1,1,(.tmp 50))])),((some 16),.op (.alloc [(.val (.int .i64 0)),(.val (.int .i64 0))])),(none,.op (.store 2 (.tmp 16) (.tmp 51)))]) <|
  .seq (.seq (ah [an 52 0 12,ak 53 52,au 54 .eql 53 0]) <|
  .cond (.tmp 54) (.seq (ah [aH 55 2 16,aa 56 14,(none,.op (.store 2 (.tmp 10) (.tmp 55))),aa 11 56]) <|
  .ret) (.skip)) <|
  .seq (ah [aH 57 4 5,aa 58 13,((some 59),.op (.idx 1 (.tmp 58) (.val (.val (.int .i64 0))))),ak 60 59,aa 61 4,aI 62 106 [57,60,61],aa 17 62]) <|
  .seq (ah [aa 63 14,aa 64 3,aa 65 4,aa 66 17,aa 67 13,((some 68),.op (.idx 1 (.tmp 67) (.val (.val (.int .i64 0))))),ak 69 68,((some 70),.op (.build [(.val (.int .i64 0)),(.val (.int .i64 0)),(.val (.int .i64 0)),(.val (.int .i64 0)),(.val (.int .i64 0))] [(0,1,(.tmp 64)),(1,1,(.tmp 65)),(2,1,(.tmp 66)),(3,1,(.tmp 69)),(4,1,(.val (.val (.int .i64 (-1)))))])),((some 71),.op (.aS 1 5 [(.val (.int .i64 0)),(.val (.int .i64 0)),(.val (.int .i64 0)),(.val (.int .i64 0)),(.val (.int .i64 0))] [(0,(.tmp 70))])),((some 72),.op (.app 5 40 (.tmp 63) (.tmp 71))),aa 14 72]) <|
  .seq (.seq (ah [aa 73 17]) <|
  .block 2 (.seq (ah [au 75 .eql 73 1,aa 74 75]) <|
  .cond (.tmp 74) (.seq (ah [aH 76 2 16,aa 77 14,(none,.op (.store 2 (.tmp 10) (.tmp 76))),aa 11 77]) <|
  .ret) (.seq (ah [au 79 .eql 73 3,aa 78 79]) <|
  .cond (.tmp 78) (.seq (ah [((some 80),.op (.build [(.val (.int .i64 0)),(.val (.int .i64 0))] [])),aa 81 14,(none,.op (.store 2 (.tmp 10) (.tmp 80))),aa 11 81]) <|
  .ret) (.skip)))) <|
  .seq (ah [aH 82 2 12,aa 83 14,(none,.op (.store 2 (.tmp 10) (.tmp 82))),aa 11 83]) <|
  .ret,
  [.cell 10 (some 2),.tmp 11],84⟩
theorem sA:aK Tryz.prog 53 [5,6]=some m3:=by kernel_rfl
def rY:DC :=
  .seq (.seq (ah [aa 9 7,an 10 1 4,ak 11 10,aC 12 11,aF 13 .lss 9 12]) <|
  .cond (.tmp 13) (.skip) (.exit 0)) <|
  .seq (.block 1 (.seq (ah [an 16 1 4,ak 17 16,aa 18 7,aG 19 2 17 18,an 20 0 19,ak 21 20,aa 22 2,aF 23 .eql 21 22]) <|
  .cond (.tmp 23) (.seq (ah [an 24 1 4,ak 25 24,aa 26 7,aG 27 2 25 26,an 28 1 27,ak 29 28,((some 30),.op (.build [(.val (.int .i64 0)),(.val (.int .i64 0))] [(0,1,(.val (.val (.int .i64 1)))),(1,1,(.tmp 29))])),(none,.op (.store 2 (.tmp 6) (.tmp 30)))]) <|
  .ret) (.skip))) <|
  ah [aa 14 7,au 15 .add 14 1,aa 7 15]
def sW:DC :=
  .seq (.seq (ah [aa 31 8,an 32 0 4,ak 33 32,aC 34 33,aF 35 .lss 31 34]) <|
  .cond (.tmp 35) (.skip) (.exit 2)) <|
  .seq (.block 3 (.seq (.region [] [⟨none,[aa 38 2,an 39 0 3,ak 40 39,aC 41 40,aF 42 .eql 38 41,aa 43 42]⟩,⟨(some (43,true)),[an 44 0 4,ak 45 44,aa 46 8,aG 47 2 45 46,aH 48 2 47,((some 49),.op (.build [(.val (.int .i64 0)),(.val (.int .i64 0))] [(0,1,(.val (.val (.int .i64 (-1))))),(1,1,(.val (.val (.int .i64 1))))])),((some 50),.op (.old (.binOp .eql 152 (.tmp 48) (.tmp 49) 152) 4))]⟩,⟨none,[bj 51 43 50]⟩]) <|
  .cond (.tmp 51) (.seq (ah [((some 52),.op (.build [(.val (.int .i64 0)),(.val (.int .i64 0))] [(0,1,(.val (.val (.int .i64 3))))])),(none,.op (.store 2 (.tmp 6) (.tmp 52)))]) <|
  .ret) (.skip))) <|
  ah [aa 36 8,au 37 .add 36 1,aa 8 37]
def lC:DF:=⟨.seq (ah [bA 3 0,bA 4 1,((some 6),.op (.alloc [(.val (.int .i64 0)),(.val (.int .i64 0))]))]) <|
  .seq (.seq (ah [aA 7 0]) <|
  .block 0 (.loop rY)) <|
  .seq (.seq (ah [aA 8 0]) <|
  .block 2 (.loop sW)) <|
  .seq (ah [((some 53),.op (.build [(.val (.int .i64 0)),(.val (.int .i64 0))] [])),(none,.op (.store 2 (.tmp 6) (.tmp 53)))]) <|
  .ret,
  [.cell 6 (some 2)],54⟩
theorem q5:aK Tryz.prog 104 [3,4]=some lC:=by kernel_rfl
def rM:DC :=
  .seq (.seq (ah [aa 7 6,aa 8 0,aC 9 8,aF 10 .lss 7 9]) <|
  .cond (.tmp 10) (.skip) (.exit 0)) <|
  .seq (.block 1 (.seq (ah [aa 13 0,aa 14 6,aG 15 2 13 14,an 16 1 15,ak 17 16,aa 18 1,aI 19 159 [17,18]]) <|
  .cond (.tmp 19) (ah [aa 20 5,aa 21 0,aa 22 6,aG 23 2 21 22,an 24 0 23,ak 25 24,((some 26),.op (.aS 1 1 [(.val (.int .i64 0))] [(0,(.tmp 25))])),((some 27),.op (.app 1 8 (.tmp 20) (.tmp 26))),aa 5 27]) (.skip))) <|
  ah [aa 11 6,au 12 .add 11 1,aa 6 12]
def lu:DF:=⟨.seq (ah [((some 4),.op (.aW (.val (.emp 1))))]) <|
  .seq (ah [((some 5),.op (.aW (.val (.emp 1))))]) <|
  .seq (.seq (ah [aA 6 0]) <|
  .block 0 (.loop rM)) <|
  .seq (ah [aa 28 5,aa 4 28]) <|
  .ret,
  [.tmp 4],29⟩
theorem qV:aK Tryz.prog 105 []=some lu:=by kernel_rfl
def nW:DF:=⟨.seq (ah [aN 4 false]) <|
  .seq (ah [aa 5 0,aa 6 1,aI 7 101 [6],aF 8 .and 5 7,((some 9),.op (.arith .neq (.tmp 8) (.val (.val (.int .u32 0))))),aa 4 9]) <|
  .ret,
  [.tmp 4],10⟩
theorem tx:aK Tryz.prog 159 []=some nW:=by kernel_rfl
def uY:DC :=
  .seq (.seq (ah [aa 11 4,aa 12 0,aF 13 .lss 11 12]) <|
  .cond (.tmp 13) (.skip) (.exit 0)) <|
  .seq (.block 1 (ah [aa 16 3,((some 17),.op (.arith .mul (.tmp 16) (.val (.val (.int .u32 2))))),aa 3 17])) <|
  ah [aa 14 4,au 15 .add 14 1,aa 4 15]
def n0:DF:=⟨.seq (ah [((some 2),.op (.aW (.val (.val (.int .u32 0)))))]) <|
  .seq (.seq (.region [] [⟨none,[aa 5 0,au 6 .lss 5 0,aa 7 6]⟩,⟨(some (7,false)),[aa 8 0,au 9 .gtr 8 31]⟩,⟨none,[aX 10 7 9]⟩]) <|
  .cond (.tmp 10) (.seq (ah [((some 2),.op (.aW (.val (.val (.int .u32 0)))))]) <|
  .ret) (.skip)) <|
  .seq (ah [((some 3),.op (.aW (.val (.val (.int .u32 1)))))]) <|
  .seq (.seq (ah [aA 4 0]) <|
  .block 0 (.loop uY)) <|
  .seq (ah [aa 18 3,aa 2 18]) <|
  .ret,
  [.tmp 2],19⟩
theorem ud:aK Tryz.prog 101 []=some n0:=by kernel_rfl
def kq:DF:=⟨.seq (ah [bA 3 0,aA 6 0]) <|
  .seq (.seq (.region [] [⟨none,[aH 11 4 3,aI 12 48 [11],bB 13 12,aa 14 13]⟩,⟨(some (14,false)),[aa 15 1,au 16 .lss 15 0]⟩,⟨none,[aX 17 14 16,aa 18 17]⟩,⟨(some (18,false)),[aa 19 1,an 20 2 3,ak 21 20,aC 22 21,aF 23 .geq 19 22]⟩,⟨none,[aX 24 18 23,aa 25 24]⟩,⟨(some (25,false)),[aa 26 2,au 27 .lss 26 0]⟩,⟨none,[aX 28 25 27,aa 29 28]⟩,⟨(some (29,false)),[aa 30 2,an 31 0 3,ak 32 31,aC 33 32,aF 34 .gtr 30 33]⟩,⟨none,[aX 35 29 34]⟩]) <|
  .cond (.tmp 35) (.seq (ah [aA 6 0]) <|
  .ret) (.skip)) <|
  .seq (ah [an 36 2 3,ak 37 36,aa 38 1,aG 39 3 37 38,an 40 2 39,ak 41 40,aa 7 41]) <|
  .seq (.seq (.region [] [⟨none,[aa 42 2,an 43 0 3,ak 44 43,aC 45 44,aF 46 .eql 42 45,aa 47 46]⟩,⟨(some (47,false)),[aa 48 7,au 49 .lss 48 0]⟩,⟨none,[aX 50 47 49,aa 51 50]⟩,⟨(some (51,false)),[an 52 0 3,ak 53 52,aa 54 7,aG 55 3 53 54,an 56 1 55,ak 57 56,au 58 .eql 57 0]⟩,⟨none,[aX 59 51 58,aa 60 59]⟩,⟨(some (60,false)),[an 61 0 3,ak 62 61,aa 63 2,aG 64 3 62 63,an 65 1 64,ak 66 65,au 67 .eql 66 0]⟩,⟨none,[aX 68 60 67]⟩]) <|
  .cond (.tmp 68) (.seq (ah [aA 6 4]) <|
  .ret) (.skip)) <|
  .seq (ah [an 69 0 3,ak 70 69,aa 71 7,aG 72 3 70 71,an 73 1 72,ak 74 73,an 75 0 3,ak 76 75,aa 77 2,aG 78 3 76 77,an 79 1 78,ak 80 79,aa 8 74,aa 9 80]) <|
  .seq (ah [an 81 0 3,ak 82 81,aa 83 2,aG 84 3 82 83,an 85 2 84,ak 86 85,aa 10 86]) <|
  .seq (.block 0 (.seq (.region [] [⟨none,[aa 88 8,aa 89 9,aF 90 .gtr 88 89,aa 91 90]⟩,⟨(some (91,false)),[aa 92 8,aa 93 9,aF 94 .eql 92 93,aa 95 94]⟩,⟨(some (95,true)),[aa 96 10,au 97 .eql 96 1]⟩,⟨(some (91,false)),[bj 98 95 97]⟩,⟨none,[aX 99 91 98,aa 87 99]⟩]) <|
  .cond (.tmp 87) (.seq (ah [aA 6 1]) <|
  .ret) (.seq (.region [] [⟨none,[aa 101 8,aa 102 9,aF 103 .lss 101 102,aa 104 103]⟩,⟨(some (104,false)),[aa 105 10,au 106 .eql 105 2]⟩,⟨none,[aX 107 104 106,aa 100 107]⟩]) <|
  .cond (.tmp 100) (.seq (ah [aA 6 2]) <|
  .ret) (.skip)))) <|
  .seq (ah [aA 6 3]) <|
  .ret,
  [.tmp 6],108⟩
theorem pQ:aK Tryz.prog 106 [3]=some kq:=by kernel_rfl
def th:DC :=
  .seq (.seq (.region [] [⟨none,[aa 26 11,aa 27 0,aa 28 1,aG 29 2 27 28,an 30 1 29,ak 31 30,aC 32 31,aF 33 .lss 26 32,aa 34 33]⟩,⟨(some (34,true)),[aa 35 10,bB 36 35]⟩,⟨none,[bj 37 34 36]⟩]) <|
  .cond (.tmp 37) (.skip) (.exit 2)) <|
  .seq (.block 3 (.seq (ah [aa 40 0,aa 41 1,aG 42 2 40 41,an 43 1 42,ak 44 43,aa 45 11,aG 46 2 44 45,an 47 0 46,ak 48 47,aa 49 2,aa 50 8,aG 51 1 49 50,ak 52 51,aF 53 .eql 48 52]) <|
  .cond (.tmp 53) (ah [aa 54 0,aa 55 1,aG 56 2 54 55,an 57 1 56,ak 58 57,aa 59 11,aG 60 2 58 59,an 61 1 60,ak 62 61,aa 9 62,aN 10 true]) (.skip))) <|
  ah [aa 38 11,au 39 .add 38 1,aa 11 39]
def tN:DC :=
  .seq (.seq (ah [aa 20 8,aa 21 2,aC 22 21,aF 23 .lss 20 22]) <|
  .cond (.tmp 23) (.skip) (.exit 0)) <|
  .seq (.block 1 (.seq (ah [aA 9 (-1),aN 10 false]) <|
  .seq (.seq (ah [aA 11 0]) <|
  .block 2 (.loop th)) <|
  .seq (.seq (.region [] [⟨none,[aa 63 9,au 64 .lss 63 0,aa 65 64]⟩,⟨(some (65,false)),[aa 66 9,aa 67 0,aC 68 67,aF 69 .geq 66 68]⟩,⟨none,[aX 70 65 69]⟩]) <|
  .cond (.tmp 70) (.seq (ah [aA 6 0,aN 7 false]) <|
  .ret) (.skip)) <|
  ah [aa 71 9,aa 1 71])) <|
  ah [aa 24 8,au 25 .add 24 1,aa 8 25]
def m5:DF:=⟨.seq (ah [aA 6 0,aN 7 false]) <|
  .seq (.seq (.region [] [⟨none,[aa 12 1,au 13 .lss 12 0,aa 14 13]⟩,⟨(some (14,false)),[aa 15 1,aa 16 0,aC 17 16,aF 18 .geq 15 17]⟩,⟨none,[aX 19 14 18]⟩]) <|
  .cond (.tmp 19) (.seq (ah [aA 6 0,aN 7 false]) <|
  .ret) (.skip)) <|
  .seq (.seq (ah [aA 8 0]) <|
  .block 0 (.loop tN)) <|
  .seq (ah [aa 72 1,aa 6 72,aN 7 true]) <|
  .ret,
  [.tmp 6,.tmp 7],73⟩
theorem sy:aK Tryz.prog 54 []=some m5:=by kernel_rfl
def rH:DC :=
  .seq (.seq (ah [aa 31 7,an 32 0 1,ak 33 32,aC 34 33,an 35 1 1,ak 36 35,aC 37 36,aF 38 .add 34 37,aF 39 .lss 31 38]) <|
  .cond (.tmp 39) (.skip) (.exit 2)) <|
  .seq (.block 3 (.seq (ah [aH 42 4 1,aa 43 7,aI 44 96 [42,43],aa 8 44]) <|
  .seq (ah [aH 45 4 1,aa 46 6,aa 47 8,aI 48 97 [45,46,47],aa 9 48]) <|
  .seq (.seq (ah [aa 49 9,aC 50 49,au 51 .eql 50 0]) <|
  .cond (.tmp 51) (.exit 3) (.skip)) <|
  .seq (ah [aa 52 4,aa 53 9,aI 54 98 [52,53],aa 10 54]) <|
  .seq (.seq (ah [aa 55 10,au 56 .lss 55 0]) <|
  .cond (.tmp 56) (.seq (ah [aa 57 4,aC 58 57,aa 10 58]) <|
  ah [aa 59 4,aa 60 9,((some 61),.op (.build [(.emp 1),(.emp 1)] [(0,1,(.tmp 60))])),((some 62),.op (.aS 1 2 [(.emp 1),(.emp 1)] [(0,(.tmp 61))])),((some 63),.op (.app 2 48 (.tmp 59) (.tmp 62))),aa 4 63]) (.skip)) <|
  ah [aa 64 4,aa 65 5,aa 66 4,aa 67 5,aG 68 2 66 67,an 69 1 68,ak 70 69,aa 71 8,aa 72 10,((some 73),.op (.build [(.val (.int .i64 0)),(.val (.int .i64 0))] [(0,1,(.tmp 71)),(1,1,(.tmp 72))])),((some 74),.op (.aS 1 2 [(.val (.int .i64 0)),(.val (.int .i64 0))] [(0,(.tmp 73))])),((some 75),.op (.app 2 16 (.tmp 70) (.tmp 74))),aG 76 2 64 65,an 77 1 76,(none,.op (.store 1 (.tmp 77) (.tmp 75)))])) <|
  ah [aa 40 7,au 41 .add 40 1,aa 7 41]
def rq:DC :=
  .seq (.seq (ah [aa 18 5,aa 19 4,aC 20 19,aF 21 .lss 18 20]) <|
  .cond (.tmp 21) (.skip) (.exit 0)) <|
  .seq (.block 1 (.seq (ah [aH 24 4 1,aa 25 4,aa 26 5,aG 27 2 25 26,an 28 0 27,ak 29 28,aI 30 95 [24,29],aa 6 30]) <|
  .seq (.seq (ah [aA 7 0]) <|
  .block 2 (.loop rH)) <|
  .seq (ah [aa 78 4,aC 79 78,au 80 .gtr 79 300]) <|
  .cond (.tmp 80) (.seq (ah [((some 2),.op (.aW (.val (.emp 1)))),aA 3 5]) <|
  .ret) (.skip))) <|
  ah [aa 22 5,au 23 .add 22 1,aa 5 23]
def k6:DF:=⟨.seq (ah [bA 1 0,((some 2),.op (.aW (.val (.emp 1)))),aA 3 0]) <|
  .seq (.seq (ah [aH 11 4 1,aI 12 38 [11],bB 13 12]) <|
  .cond (.tmp 13) (.seq (ah [((some 2),.op (.aW (.val (.emp 1)))),aA 3 1]) <|
  .ret) (.skip)) <|
  .seq (ah [((some 14),.op (.build [(.val (.int .i64 0)),(.val (.int .i64 0))] [(0,1,(.val (.val (.int .i64 (-1)))))])),((some 15),.op (.aS 1 2 [(.val (.int .i64 0)),(.val (.int .i64 0))] [(0,(.tmp 14))])),((some 16),.op (.build [(.emp 1),(.emp 1)] [(0,1,(.tmp 15))])),((some 17),.op (.aS 1 2 [(.emp 1),(.emp 1)] [(0,(.tmp 16))])),aa 4 17]) <|
  .seq (.seq (ah [aA 5 0]) <|
  .block 0 (.loop rq)) <|
  .seq (ah [aa 81 4,aa 2 81,aA 3 0]) <|
  .ret,
  [.tmp 2,.tmp 3],82⟩
theorem qO:aK Tryz.prog 51 [1]=some k6:=by kernel_rfl
def kN:DF:=⟨.seq (ah [bA 2 0,aA 4 0]) <|
  .seq (.seq (ah [aa 5 1,an 6 0 2,ak 7 6,aC 8 7,aF 9 .lss 5 8]) <|
  .cond (.tmp 9) (.seq (ah [aa 10 1,aa 4 10]) <|
  .ret) (.skip)) <|
  .seq (ah [aa 11 1,an 12 0 2,ak 13 12,aC 14 13,aF 15 .sub 11 14,((some 16),.op (.arith .sub (.val (.val (.int .i64 (-1)))) (.tmp 15))),aa 4 16]) <|
  .ret,
  [.tmp 4],17⟩
theorem pN:aK Tryz.prog 96 [2]=some kN:=by kernel_rfl
def rR:DC :=
  .seq (.seq (ah [aa 11 8,aa 12 1,aC 13 12,aF 14 .lss 11 13]) <|
  .cond (.tmp 14) (.skip) (.exit 0)) <|
  .seq (.block 1 (.seq (ah [aH 18 4 3,aa 19 1,aa 20 8,aG 21 2 19 20,aH 22 2 21,aI 23 155 [18,22],aa 17 23,bq 24 0 17,bq 25 1 17,aa 9 24,aa 10 25]) <|
  .seq (.region [] [⟨none,[aa 26 10,aa 27 26]⟩,⟨(some (27,true)),[aa 28 9,aa 29 2,aF 30 .eql 28 29]⟩,⟨none,[bj 31 27 30]⟩]) <|
  .cond (.tmp 31) (ah [aa 32 7,aa 33 1,aa 34 8,aG 35 2 33 34,an 36 0 35,ak 37 36,aa 38 1,aa 39 8,aG 40 2 38 39,an 41 1 40,ak 42 41,au 43 .add 42 1,((some 44),.op (.build [(.val (.int .i64 0)),(.val (.int .i64 0))] [(0,1,(.tmp 37)),(1,1,(.tmp 43))])),aI 45 154 [32,44],aa 7 45]) (.skip))) <|
  ah [aa 15 8,au 16 .add 15 1,aa 8 16]
def lh:DF:=⟨.seq (ah [bA 3 0,((some 6),.op (.aW (.val (.emp 1))))]) <|
  .seq (ah [((some 7),.op (.aW (.val (.emp 1))))]) <|
  .seq (.seq (ah [aA 8 0]) <|
  .block 0 (.loop rR)) <|
  .seq (ah [aa 46 7,aa 6 46]) <|
  .ret,
  [.tmp 6],47⟩
theorem qz:aK Tryz.prog 97 [3]=some lh:=by kernel_rfl
def mZ:DF:=⟨.seq (ah [bA 2 0,bA 3 1,aA 4 0,aN 5 false]) <|
  .seq (ah [aH 7 4 2,an 8 0 3,ak 9 8,aI 10 200 [7,9],aa 6 10]) <|
  .seq (.seq (ah [an 11 1 3,ak 12 11,aa 13 6,aC 14 13,aF 15 .eql 12 14]) <|
  .cond (.tmp 15) (.seq (ah [aA 4 0,aN 5 false]) <|
  .ret) (.skip)) <|
  .seq (ah [aa 16 6,an 17 1 3,ak 18 17,aG 19 1 16 18,ak 20 19,aa 4 20,aN 5 true]) <|
  .ret,
  [.tmp 4,.tmp 5],21⟩
theorem rQ:aK Tryz.prog 155 [2,3]=some mZ:=by kernel_rfl
def lz:DF:=⟨.seq (ah [bA 2 0,((some 4),.op (.aW (.val (.emp 1))))]) <|
  .seq (.seq (ah [aa 5 1,au 6 .eql 5 (-1)]) <|
  .cond (.tmp 6) (.seq (ah [an 7 3 2,ak 8 7,((some 9),.op (.arith .sub (.val (.val (.int .i64 (-1)))) (.tmp 8))),((some 10),.op (.aS 1 1 [(.val (.int .i64 0))] [(0,(.tmp 9))])),aa 4 10]) <|
  .ret) (.skip)) <|
  .seq (ah [an 11 2 2,ak 12 11,aa 13 1,aG 14 3 12 13,an 15 1 14,ak 16 15,aa 4 16]) <|
  .ret,
  [.tmp 4],17⟩
theorem qB:aK Tryz.prog 200 [2]=some lz:=by kernel_rfl
def uZ:DC :=
  .seq (.seq (.region [] [⟨none,[aa 7 5,aa 8 0,aC 9 8,aF 10 .lss 7 9,aa 11 10]⟩,⟨(some (11,true)),[aa 12 0,aa 13 5,aG 14 2 12 13,aH 15 2 14,aH 16 2 3,aI 17 199 [15,16]]⟩,⟨none,[bj 18 11 17]⟩]) <|
  .cond (.tmp 18) (.skip) (.exit 0)) <|
  .block 1 (ah [aa 19 5,au 20 .add 19 1,aa 5 20])
def nP:DF:=⟨.seq (ah [bA 3 1,((some 4),.op (.aW (.val (.emp 1))))]) <|
  .seq (ah [aA 5 0]) <|
  .seq (.block 0 (.loop uZ)) <|
  .seq (.seq (.region [] [⟨none,[aa 21 5,aa 22 0,aC 23 22,aF 24 .lss 21 23,aa 25 24]⟩,⟨(some (25,true)),[aa 26 0,aa 27 5,aG 28 2 26 27,aH 29 2 28,aH 30 2 3,((some 31),.op (.old (.binOp .eql 152 (.tmp 29) (.tmp 30) 152) 4))]⟩,⟨none,[bj 32 25 31]⟩]) <|
  .cond (.tmp 32) (.seq (ah [aa 33 0,aa 4 33]) <|
  .ret) (.skip)) <|
  .seq (ah [((some 34),.op (.aW (.val (.emp 2)))),aa 35 0,aa 36 5,((some 37),.op (.slice 2 (.tmp 35) (some (.tmp 36)) none)),((some 38),.op (.app 2 16 (.tmp 34) (.tmp 37))),aa 6 38]) <|
  .seq (ah [aa 39 0,aa 40 5,((some 41),.op (.slice 2 (.tmp 39) none (some (.tmp 40)))),aH 42 2 3,((some 43),.op (.aS 1 2 [(.val (.int .i64 0)),(.val (.int .i64 0))] [(0,(.tmp 42))])),((some 44),.op (.app 2 16 (.tmp 41) (.tmp 43))),aa 45 6,((some 46),.op (.app 2 16 (.tmp 44) (.tmp 45))),aa 4 46]) <|
  .ret,
  [.tmp 4],47⟩
theorem uv:aK Tryz.prog 154 [3]=some nP:=by kernel_rfl
def nj:DF:=⟨.seq (ah [bA 2 0,bA 3 1,aN 4 false]) <|
  .seq (.region [] [⟨none,[an 5 0 2,ak 6 5,an 7 0 3,ak 8 7,aF 9 .lss 6 8,aa 10 9]⟩,⟨(some (10,false)),[an 11 0 2,ak 12 11,an 13 0 3,ak 14 13,aF 15 .eql 12 14,aa 16 15]⟩,⟨(some (16,true)),[an 17 1 2,ak 18 17,an 19 1 3,ak 20 19,aF 21 .lss 18 20]⟩,⟨(some (10,false)),[bj 22 16 21]⟩,⟨none,[aX 23 10 22,aa 4 23]⟩]) <|
  .ret,
  [.tmp 4],24⟩
theorem sP:aK Tryz.prog 199 [2,3]=some nj:=by kernel_rfl
def s8:DC :=
  .seq (.seq (ah [aa 6 5,aa 7 0,aC 8 7,aF 9 .lss 6 8]) <|
  .cond (.tmp 9) (.skip) (.exit 0)) <|
  .seq (.block 1 (.seq (ah [aa 12 0,aa 13 5,aG 14 2 12 13,an 15 0 14,ak 16 15,aa 17 1,aI 18 156 [16,17]]) <|
  .cond (.tmp 18) (.seq (ah [aa 19 5,aa 4 19]) <|
  .ret) (.skip))) <|
  ah [aa 10 5,au 11 .add 10 1,aa 5 11]
def mI:DF:=⟨.seq (ah [aA 4 0]) <|
  .seq (.seq (ah [aA 5 0]) <|
  .block 0 (.loop s8)) <|
  .seq (ah [aA 4 (-1)]) <|
  .ret,
  [.tmp 4],20⟩
theorem rv:aK Tryz.prog 98 []=some mI:=by kernel_rfl
def sx:DC :=
  .seq (.seq (ah [aa 11 5,aa 12 0,aC 13 12,aF 14 .lss 11 13]) <|
  .cond (.tmp 14) (.skip) (.exit 0)) <|
  .seq (.block 1 (.seq (ah [aa 17 0,aa 18 5,aG 19 2 17 18,aH 20 2 19,aa 21 1,aa 22 5,aG 23 2 21 22,aH 24 2 23,((some 25),.op (.old (.binOp .neq 152 (.tmp 20) (.tmp 24) 152) 4))]) <|
  .cond (.tmp 25) (.seq (ah [aN 4 false]) <|
  .ret) (.skip))) <|
  ah [aa 15 5,au 16 .add 15 1,aa 5 16]
def lE:DF:=⟨.seq (ah [aN 4 false]) <|
  .seq (.seq (ah [aa 6 0,aC 7 6,aa 8 1,aC 9 8,aF 10 .neq 7 9]) <|
  .cond (.tmp 10) (.seq (ah [aN 4 false]) <|
  .ret) (.skip)) <|
  .seq (.seq (ah [aA 5 0]) <|
  .block 0 (.loop sx)) <|
  .seq (ah [aN 4 true]) <|
  .ret,
  [.tmp 4],26⟩
theorem qE:aK Tryz.prog 156 []=some lE:=by kernel_rfl
def pM:DC :=
  .seq (.seq (ah [aa 12 6,aa 13 1,aC 14 13,aF 15 .lss 12 14]) <|
  .cond (.tmp 15) (.skip) (.exit 0)) <|
  .seq (.block 1 (ah [aa 18 5,aa 19 1,aa 20 6,aG 21 2 19 20,aH 22 2 21,aI 23 154 [18,22],aa 5 23])) <|
  ah [aa 16 6,au 17 .add 16 1,aa 6 17]
def pH:DC :=
  .seq (.seq (.region [] [⟨none,[aa 41 9,aa 42 41]⟩,⟨(some (42,true)),[aa 43 8,au 44 .lss 43 0]⟩,⟨none,[bj 45 42 44,aa 46 45]⟩,⟨(some (46,true)),[aa 47 11,an 48 2 2,ak 49 48,aC 50 49,aF 51 .lss 47 50]⟩,⟨none,[bj 52 46 51]⟩]) <|
  .cond (.tmp 52) (.skip) (.exit 4)) <|
  .seq (.block 5 (.seq (ah [an 55 2 2,ak 56 55,aa 57 11,aG 58 3 56 57,an 59 0 58,ak 60 59,aa 61 8,((some 62),.op (.arith .sub (.val (.val (.int .i64 (-1)))) (.tmp 61))),aF 63 .eql 60 62]) <|
  .cond (.tmp 63) (ah [aa 64 5,aa 65 11,((some 66),.op (.build [(.val (.int .i64 0)),(.val (.int .i64 0))] [(0,1,(.tmp 65))])),aI 67 154 [64,66],aa 5 67]) (.skip))) <|
  ah [aa 53 11,au 54 .add 53 1,aa 11 54]
def pL:DC :=
  .seq (.seq (ah [aa 24 7,aa 25 5,aC 26 25,aF 27 .lss 24 26]) <|
  .cond (.tmp 27) (.skip) (.exit 2)) <|
  .seq (.block 3 (.seq (ah [aH 31 4 2,aa 32 5,aa 33 7,aG 34 2 32 33,aH 35 2 34,aI 36 155 [31,35],aa 30 36,bq 37 0 30,bq 38 1 30,aa 8 37,aa 9 38]) <|
  .seq (ah [aa 39 5,aC 40 39,aa 10 40]) <|
  .seq (.seq (ah [aA 11 0]) <|
  .block 4 (.loop pH)) <|
  .seq (ah [aa 68 5,aC 69 68,aa 70 10,aF 71 .gtr 69 70]) <|
  .cond (.tmp 71) (ah [aA 7 (-1)]) (.skip))) <|
  ah [aa 28 7,au 29 .add 28 1,aa 7 29]
def jS:DF:=⟨.seq (ah [bA 2 0,((some 4),.op (.aW (.val (.emp 1))))]) <|
  .seq (ah [((some 5),.op (.aW (.val (.emp 1))))]) <|
  .seq (.seq (ah [aA 6 0]) <|
  .block 0 (.loop pM)) <|
  .seq (.seq (ah [aA 7 0]) <|
  .block 2 (.loop pL)) <|
  .seq (ah [aa 72 5,aa 4 72]) <|
  .ret,
  [.tmp 4],73⟩
theorem oT:aK Tryz.prog 95 [2]=some jS:=by kernel_rfl
def wv:DC :=
  .seq (.seq (ah [aa 29 7,aa 30 4,aC 31 30,aF 32 .lss 29 31]) <|
  .cond (.tmp 32) (.skip) (.exit 0)) <|
  .seq (.block 1 (.seq (ah [aH 35 4 1,aa 36 4,aa 37 7,aG 38 2 36 37,an 39 0 38,ak 40 39,aI 41 99 [35,40],aa 8 41]) <|
  .seq (ah [aa 42 6,aa 43 6,bb 44 43,an 45 5 44,ak 46 45,aa 47 8,((some 48),.op (.aS 1 1 [(.emp 1)] [(0,(.tmp 47))])),((some 49),.op (.app 1 24 (.tmp 46) (.tmp 48))),bb 50 42,an 51 5 50,(none,.op (.store 1 (.tmp 51) (.tmp 49)))]) <|
  ah [aa 52 6,aa 53 6,bb 54 53,an 55 6 54,ak 56 55,aa 57 8,aC 58 57,((some 59),.op (.make 1 4 [(.val (.int .u32 0))] (.tmp 58) (.tmp 58))),((some 60),.op (.aS 1 1 [(.emp 1)] [(0,(.tmp 59))])),((some 61),.op (.app 1 24 (.tmp 56) (.tmp 60))),bb 62 52,an 63 6 62,(none,.op (.store 1 (.tmp 63) (.tmp 61)))])) <|
  ah [aa 33 7,au 34 .add 33 1,aa 7 34]
def vl:DC :=
  .seq (.seq (ah [aa 84 10,aa 85 6,bb 86 85,an 87 5 86,ak 88 87,aa 89 9,aG 90 1 88 89,ak 91 90,aC 92 91,aF 93 .lss 84 92]) <|
  .cond (.tmp 93) (.skip) (.exit 6)) <|
  .seq (.block 7 (ah [aa 96 6,aa 97 9,aa 98 10,aI 99 102 [96,97,98]])) <|
  ah [aa 94 10,au 95 .add 94 1,aa 10 95]
def vT:DC :=
  .seq (.seq (ah [aa 78 9,aa 79 4,aC 80 79,aF 81 .lss 78 80]) <|
  .cond (.tmp 81) (.skip) (.exit 4)) <|
  .seq (.block 5 (.seq (ah [aA 10 0]) <|
  .block 6 (.loop vl))) <|
  ah [aa 82 9,au 83 .add 82 1,aa 9 83]
def wE:DC :=
  .seq (.seq (ah [aa 71 6,bb 72 71,an 73 7 72,ak 74 73]) <|
  .cond (.tmp 74) (.skip) (.exit 2)) <|
  .block 3 (.seq (ah [aa 75 6,bb 76 75,an 77 7 76,(none,.op (.store 1 (.tmp 77) (.val (.val (.bool false)))))]) <|
  .seq (ah [aA 9 0]) <|
  .block 4 (.loop vT))
def wb:DC :=
  .seq (.seq (ah [aa 106 14,aa 107 6,bb 108 107,an 109 5 108,ak 110 109,aa 111 12,aG 112 1 110 111,ak 113 112,aC 114 113,aF 115 .lss 106 114]) <|
  .cond (.tmp 115) (.skip) (.exit 10)) <|
  .seq (.block 11 (.seq (ah [aH 119 4 1,aa 120 6,bb 121 120,an 122 5 121,ak 123 122,aa 124 12,aG 125 1 123 124,ak 126 125,aa 127 14,aG 128 2 126 127,aH 129 2 128,aI 130 103 [119,129],aa 118 130,bq 131 0 118,bq 132 1 118,aa 15 131,aa 16 132]) <|
  .seq (.region [] [⟨none,[aa 133 16,bB 134 133,aa 135 134]⟩,⟨(some (135,true)),[aa 136 6,bb 137 136,an 138 5 137,ak 139 138,aa 140 12,aG 141 1 139 140,ak 142 141,aa 143 14,aG 144 2 142 143,an 145 0 144,ak 146 145,au 147 .geq 146 0]⟩,⟨none,[bj 148 135 147]⟩]) <|
  .cond (.tmp 148) (ah [aa 149 13,aa 150 6,bb 151 150,an 152 5 151,ak 153 152,aa 154 12,aG 155 1 153 154,ak 156 155,aa 157 14,aG 158 2 156 157,an 159 0 158,ak 160 159,aa 161 6,bb 162 161,an 163 6 162,ak 164 163,aa 165 12,aG 166 1 164 165,ak 167 166,aa 168 14,aG 169 1 167 168,ak 170 169,((some 171),.op (.build [(.val (.int .i64 0)),(.val (.int .u32 0))] [(0,1,(.tmp 160)),(1,1,(.tmp 170))])),((some 172),.op (.aS 1 2 [(.val (.int .i64 0)),(.val (.int .u32 0))] [(0,(.tmp 171))])),((some 173),.op (.app 2 16 (.tmp 149) (.tmp 172))),aa 13 173]) (.skip))) <|
  ah [aa 116 14,au 117 .add 116 1,aa 14 117]
def vJ:DC :=
  .seq (.seq (ah [aa 100 12,aa 101 4,aC 102 101,aF 103 .lss 100 102]) <|
  .cond (.tmp 103) (.skip) (.exit 8)) <|
  .seq (.block 9 (.seq (ah [((some 13),.op (.aW (.val (.emp 1))))]) <|
  .seq (.seq (ah [aA 14 0]) <|
  .block 10 (.loop wb)) <|
  ah [aa 174 11,aa 175 13,((some 176),.op (.aS 1 1 [(.emp 1)] [(0,(.tmp 175))])),((some 177),.op (.app 1 24 (.tmp 174) (.tmp 176))),aa 11 177])) <|
  ah [aa 104 12,au 105 .add 104 1,aa 12 105]
def o9:DF:=⟨.seq (ah [bA 1 0,((some 2),.op (.aW (.val (.emp 1)))),aA 3 0]) <|
  .seq (ah [aH 18 4 1,aI 19 51 [18],aa 17 19,bq 20 0 17,bq 21 1 17,aa 4 20,aa 5 21]) <|
  .seq (.seq (ah [aa 22 5,au 23 .neq 22 0]) <|
  .cond (.tmp 23) (.seq (ah [aa 24 5,((some 2),.op (.aW (.val (.emp 1)))),aa 3 24]) <|
  .ret) (.skip)) <|
  .seq (ah [aH 25 4 1,aa 26 4,((some 27),.op (.build [(.emp 1),(.emp 1),(.emp 1),(.val (.int .i64 0)),(.emp 1),(.emp 1),(.emp 1),(.val (.bool false))] [(0,4,(.tmp 25)),(4,1,(.tmp 26))])),((some 28),.op (.box (.tmp 27))),aa 6 28]) <|
  .seq (.seq (ah [aA 7 0]) <|
  .block 0 (.loop wv)) <|
  .seq (ah [aa 64 6,((some 65),.op (.build [(.val (.int .i64 0)),(.val (.int .i64 0))] [(0,1,(.val (.val (.int .i64 (-1)))))])),an 66 0 1,ak 67 66,aC 68 67,aI 69 101 [68],cp 70 100 [(.tmp 64),(.val (.val (.int .i64 0))),(.tmp 65),(.tmp 69)]]) <|
  .seq (.block 2 (.loop wE)) <|
  .seq (ah [((some 11),.op (.aW (.val (.emp 1))))]) <|
  .seq (.seq (ah [aA 12 0]) <|
  .block 8 (.loop vJ)) <|
  .seq (ah [aa 178 11,aa 2 178,aA 3 0]) <|
  .ret,
  [.tmp 2,.tmp 3],179⟩
theorem uV:aK Tryz.prog 52 [1]=some o9:=by kernel_rfl
def pI:DC :=
  .seq (.seq (ah [aa 7 6,aa 8 1,aC 9 8,aF 10 .lss 7 9]) <|
  .cond (.tmp 10) (.skip) (.exit 0)) <|
  .seq (.block 1 (.seq (ah [aH 13 4 2,aa 14 1,aa 15 6,aG 16 2 14 15,aH 17 2 16,aI 18 157 [13,17]]) <|
  .cond (.tmp 18) (ah [aa 19 5,aa 20 1,aa 21 6,aG 22 2 20 21,aH 23 2 22,((some 24),.op (.aS 1 2 [(.val (.int .i64 0)),(.val (.int .i64 0))] [(0,(.tmp 23))])),((some 25),.op (.app 2 16 (.tmp 19) (.tmp 24))),aa 5 25]) (.skip))) <|
  ah [aa 11 6,au 12 .add 11 1,aa 6 12]
def jO:DF:=⟨.seq (ah [bA 2 0,((some 4),.op (.aW (.val (.emp 1))))]) <|
  .seq (ah [((some 5),.op (.aW (.val (.emp 1))))]) <|
  .seq (.seq (ah [aA 6 0]) <|
  .block 0 (.loop pI)) <|
  .seq (.seq (ah [aa 26 5,aC 27 26,au 28 .eql 27 0]) <|
  .cond (.tmp 28) (.seq (ah [((some 4),.op (.aW (.val (.emp 1))))]) <|
  .ret) (.skip)) <|
  .seq (ah [aH 29 4 2,aa 30 5,aI 31 95 [29,30],aa 4 31]) <|
  .ret,
  [.tmp 4],32⟩
theorem oS:aK Tryz.prog 99 [2]=some jO:=by kernel_rfl
def nR:DF:=⟨.seq (ah [bA 2 0,bA 3 1,aN 4 false]) <|
  .seq (.region [(22,26)] [⟨none,[aH 5 4 2,aI 6 48 [5],aa 7 6]⟩,⟨(some (7,true)),[an 8 0 3,ak 9 8,au 10 .geq 9 (-1)]⟩,⟨none,[bj 11 7 10,aa 12 11]⟩,⟨(some (12,true)),[an 13 0 3,ak 14 13,an 15 2 2,ak 16 15,aC 17 16,aF 18 .lss 14 17]⟩,⟨none,[bj 19 12 18,aa 20 19]⟩,⟨(some (20,true)),[an 21 1 3,ak 22 21,au 23 .geq 22 0]⟩,⟨none,[bj 24 20 23,aa 25 24]⟩,⟨(some (25,true)),[an 26 1 3,ak 27 26,aH 28 4 2,an 29 0 3,ak 30 29,aI 31 200 [28,30],aC 32 31,aF 33 .leq 27 32]⟩,⟨none,[bj 34 25 33,aa 4 34]⟩]) <|
  .ret,
  [.tmp 4],35⟩
theorem te:aK Tryz.prog 157 [2,3]=some nR:=by kernel_rfl
def oq:DC :=
  .seq (.seq (ah [aa 96 13,aa 97 0,bb 98 97,an 99 0 98,an 100 2 99,ak 101 100,aC 102 101,aF 103 .lss 96 102]) <|
  .cond (.tmp 103) (.skip) (.exit 0)) <|
  .seq (.block 1 (.seq (ah [aa 106 0,bb 107 106,an 108 0 107,an 109 2 108,ak 110 109,aa 111 13,aG 112 3 110 111,an 113 0 112,ak 114 113,aa 115 8,((some 116),.op (.arith .sub (.val (.val (.int .i64 (-1)))) (.tmp 115))),aF 117 .eql 114 116]) <|
  .cond (.tmp 117) (ah [aa 118 0,aa 119 1,aa 120 13,((some 121),.op (.build [(.val (.int .i64 0)),(.val (.int .i64 0))] [(0,1,(.tmp 120))])),aa 122 7,aI 123 100 [118,119,121,122]]) (.skip))) <|
  ah [aa 104 13,au 105 .add 104 1,aa 13 105]
def iG:DF:=⟨.seq (.region [(13,21),(16,21),(19,21)] [⟨none,[aa 14 0,bb 15 14,an 16 5 15,ak 17 16,aa 18 1,aG 19 1 17 18,ak 20 19,aa 21 2,aG 22 2 20 21,aH 23 2 22,aa 24 0,bb 25 24,an 26 6 25,ak 27 26,aa 28 1,aG 29 1 27 28,ak 30 29,aa 31 2,aG 32 1 30 31,ak 33 32,((some 6),.op (.alloc [(.val (.int .i64 0)),(.val (.int .i64 0))])),(none,.op (.store 2 (.tmp 6) (.tmp 23))),aa 7 33]⟩]) <|
  .seq (ah [aa 35 0,bb 36 35,an 37 0 36,aH 38 4 37,aH 39 2 6,aI 40 103 [38,39],aa 34 40,bq 41 0 34,bq 42 1 34,aa 8 41,aa 9 42]) <|
  .seq (.seq (.region [] [⟨none,[aa 43 9,bB 44 43,aa 45 44]⟩,⟨(some (45,false)),[aa 46 7,((some 47),.op (.arith .eql (.tmp 46) (.val (.val (.int .u32 0)))))]⟩,⟨none,[aX 48 45 47]⟩]) <|
  .cond (.tmp 48) (.ret) (.skip)) <|
  .seq (ah [aa 50 0,bb 51 50,an 52 4 51,ak 53 52,aa 54 1,aa 55 8,((some 56),.op (.aS 1 1 [(.val (.int .i64 0))] [(0,(.tmp 55))])),aI 57 54 [53,54,56],aa 49 57,bq 58 0 49,bq 59 1 49,aa 10 58,aa 11 59]) <|
  .seq (ah [aa 60 0,aa 61 10,an 62 0 6,ak 63 62,an 64 1 6,ak 65 64,au 66 .add 65 1,((some 67),.op (.build [(.val (.int .i64 0)),(.val (.int .i64 0))] [(0,1,(.tmp 63)),(1,1,(.tmp 66))])),aa 68 7,aI 69 100 [60,61,67,68]]) <|
  .seq (.seq (ah [aa 70 8,au 71 .geq 70 0]) <|
  .cond (.tmp 71) (.ret) (.skip)) <|
  .seq (ah [((some 12),.op (.aW (.val (.emp 1))))]) <|
  .seq (.seq (ah [an 72 0 6,ak 73 72,au 74 .geq 73 0]) <|
  .cond (.tmp 74) (ah [aa 75 0,bb 76 75,an 77 0 76,an 78 2 77,ak 79 78,an 80 0 6,ak 81 80,aG 82 3 79 81,an 83 1 82,ak 84 83,an 85 1 6,ak 86 85,au 87 .add 86 1,((some 88),.op (.slice 1 (.tmp 84) (some (.tmp 87)) none)),aa 12 88]) (.skip)) <|
  .seq (ah [aa 89 0,bb 90 89,an 91 0 90,aH 92 4 91,aa 93 12,aa 94 7,aI 95 158 [92,93,94],aa 7 95]) <|
  .seq (ah [aA 13 0]) <|
  .block 0 (.loop oq),
  [],124⟩
theorem nC:aK Tryz.prog 102 []=some iG:=by kernel_rfl
def ow:DC :=
  .seq (.seq (ah [aa 9 8,aa 10 0,bb 11 10,an 12 5 11,ak 13 12,aa 14 1,aG 15 1 13 14,ak 16 15,aC 17 16,aF 18 .lss 9 17]) <|
  .cond (.tmp 18) (.skip) (.exit 0)) <|
  .seq (.block 1 (.seq (.region [] [⟨none,[aa 21 0,bb 22 21,an 23 5 22,ak 24 23,aa 25 1,aG 26 1 24 25,ak 27 26,aa 28 8,aG 29 2 27 28,aH 30 2 29,aH 31 2 6,((some 32),.op (.old (.binOp .eql 152 (.tmp 30) (.tmp 31) 152) 4)),aa 33 32]⟩,⟨(some (33,true)),[aa 34 3,aa 35 0,bb 36 35,an 37 6 36,ak 38 37,aa 39 1,aG 40 1 38 39,ak 41 40,aa 42 8,aG 43 1 41 42,ak 44 43,aF 45 .andNot 34 44,((some 46),.op (.arith .neq (.tmp 45) (.val (.val (.int .u32 0)))))]⟩,⟨none,[bj 47 33 46]⟩]) <|
  .cond (.tmp 47) (.seq (ah [aa 48 0,bb 49 48,an 50 6 49,ak 51 50,aa 52 1,aG 53 1 51 52,ak 54 53,aa 55 8,aa 56 0,bb 57 56,an 58 6 57,ak 59 58,aa 60 1,aG 61 1 59 60,ak 62 61,aa 63 8,aG 64 1 62 63,ak 65 64,aa 66 3,aF 67 .or 65 66,aG 68 1 54 55,(none,.op (.store 1 (.tmp 68) (.tmp 67)))]) <|
  ah [aa 69 0,bb 70 69,an 71 7 70,(none,.op (.store 1 (.tmp 71) (.val (.val (.bool true)))))]) (.skip))) <|
  ah [aa 19 8,au 20 .add 19 1,aa 8 20]
def iE:DF:=⟨.seq (ah [bA 6 2]) <|
  .seq (ah [aA 8 0]) <|
  .block 0 (.loop ow),
  [],72⟩
theorem nv:aK Tryz.prog 100 [6]=some iE:=by kernel_rfl
def mn:DF:=⟨.seq (ah [bA 2 0,bA 3 1,aA 4 0,aN 5 false]) <|
  .seq (.seq (ah [aH 6 4 2,aH 7 2 3,aI 8 157 [6,7],bB 9 8]) <|
  .cond (.tmp 9) (.seq (ah [aA 4 0,aN 5 false]) <|
  .ret) (.skip)) <|
  .seq (ah [aH 10 4 2,aH 11 2 3,aI 12 155 [10,11],bq 13 0 12,bq 14 1 12,aa 4 13,aa 5 14]) <|
  .ret,
  [.tmp 4,.tmp 5],15⟩
theorem sR:aK Tryz.prog 103 [2,3]=some mn:=by kernel_rfl
def vw:DC :=
  .seq (.seq (ah [aa 11 7,aa 12 1,aC 13 12,aF 14 .lss 11 13]) <|
  .cond (.tmp 14) (.skip) (.exit 0)) <|
  .seq (.block 1 (.seq (ah [aH 17 4 3,aa 18 1,aa 19 7,aG 20 1 18 19,ak 21 20,aI 22 143 [17,21],bB 23 22]) <|
  .cond (.tmp 23) (.seq (ah [((some 6),.op (.aW (.val (.val (.int .u32 0)))))]) <|
  .ret) (.skip))) <|
  ah [aa 15 7,au 16 .add 15 1,aa 7 16]
def pa:DF:=⟨.seq (ah [bA 3 0,((some 6),.op (.aW (.val (.val (.int .u32 0)))))]) <|
  .seq (.seq (ah [aH 8 4 3,aI 9 48 [8],bB 10 9]) <|
  .cond (.tmp 10) (.seq (ah [((some 6),.op (.aW (.val (.val (.int .u32 0)))))]) <|
  .ret) (.skip)) <|
  .seq (.seq (ah [aA 7 0]) <|
  .block 0 (.loop vw)) <|
  .seq (.region [(2,3)] [⟨none,[aa 24 1,aH 25 4 3,aI 26 202 [25],aH 27 4 3,aI 28 203 [27],aa 29 2,aI 30 201 [24,26,28,29],aa 6 30]⟩]) <|
  .ret,
  [.tmp 6],31⟩
theorem uT:aK Tryz.prog 158 [3]=some pa:=by kernel_rfl
def nY:DF:=⟨.seq (ah [bA 2 0,aN 4 false]) <|
  .seq (.seq (ah [aa 5 1,au 6 .geq 5 0]) <|
  .cond (.tmp 6) (.seq (ah [aa 7 1,an 8 0 2,ak 9 8,aC 10 9,aF 11 .lss 7 10,aa 4 11]) <|
  .ret) (.skip)) <|
  .seq (ah [aa 12 1,((some 13),.op (.arith .sub (.val (.val (.int .i64 (-1)))) (.tmp 12))),an 14 1 2,ak 15 14,aC 16 15,aF 17 .lss 13 16,aa 4 17]) <|
  .ret,
  [.tmp 4],18⟩
theorem ue:aK Tryz.prog 143 [2]=some nY:=by kernel_rfl
def iQ:DF:=⟨.seq (ah [bA 1 0,((some 2),.op (.aW (.val (.emp 1))))]) <|
  .seq (ah [aH 3 4 1,cp 4 174 [(.tmp 3),(.val (.val (.bool false)))],aa 2 4]) <|
  .ret,
  [.tmp 2],5⟩
theorem oz:aK Tryz.prog 202 [1]=some iQ:=by kernel_rfl
def sr:DC :=
  .seq (.seq (ah [aa 22 7,an 23 2 2,ak 24 23,aC 25 24,aF 26 .lss 22 25]) <|
  .cond (.tmp 26) (.skip) (.exit 2)) <|
  .seq (.block 3 (.seq (ah [an 29 2 2,ak 30 29,aa 31 7,aG 32 3 30 31,an 33 1 32,ak 34 33,aa 35 5,aa 36 1,aI 37 117 [34,35,36]]) <|
  .cond (.tmp 37) (ah [aa 38 5,an 39 2 2,ak 40 39,aa 41 7,aG 42 3 40 41,an 43 0 42,ak 44 43,aG 45 1 38 44,(none,.op (.store 1 (.tmp 45) (.val (.val (.bool true)))))]) (.skip))) <|
  ah [aa 27 7,au 28 .add 27 1,aa 7 28]
def rG:DC :=
  .seq (.seq (ah [aa 15 6,an 16 1 2,ak 17 16,aC 18 17,aF 19 .lss 15 18]) <|
  .cond (.tmp 19) (.skip) (.exit 0)) <|
  .seq (.block 1 (.seq (ah [aA 7 0]) <|
  .block 2 (.loop sr))) <|
  ah [aa 20 6,au 21 .add 20 1,aa 6 21]
def lF:DF:=⟨.seq (ah [bA 2 0,((some 4),.op (.aW (.val (.emp 1))))]) <|
  .seq (.seq (ah [aH 8 4 2,aI 9 48 [8],bB 10 9]) <|
  .cond (.tmp 10) (.seq (ah [((some 4),.op (.aW (.val (.emp 1))))]) <|
  .ret) (.skip)) <|
  .seq (ah [an 11 1 2,ak 12 11,aC 13 12,((some 14),.op (.make 1 1 [(.val (.bool false))] (.tmp 13) (.tmp 13))),aa 5 14]) <|
  .seq (.seq (ah [aA 6 0]) <|
  .block 0 (.loop rG)) <|
  .seq (ah [aa 46 5,aa 4 46]) <|
  .ret,
  [.tmp 4],47⟩
theorem q0:aK Tryz.prog 174 [2]=some lF:=by kernel_rfl
def u4:DC :=
  .seq (.seq (ah [aa 8 7,aa 9 0,aC 10 9,aF 11 .lss 8 10]) <|
  .cond (.tmp 11) (.skip) (.exit 0)) <|
  .seq (.block 1 (.seq (.region [] [⟨none,[aa 14 0,aa 15 7,aG 16 1 14 15,ak 17 16,au 18 .geq 17 0,aa 19 18]⟩,⟨(some (19,true)),[aa 20 2,bB 21 20]⟩,⟨none,[bj 22 19 21,aa 23 22]⟩,⟨(some (23,false)),[aa 24 0,aa 25 7,aG 26 1 24 25,ak 27 26,au 28 .lss 27 0,aa 29 28]⟩,⟨(some (29,true)),[aa 30 1,aa 31 0,aa 32 7,aG 33 1 31 32,ak 34 33,((some 35),.op (.arith .sub (.val (.val (.int .i64 (-1)))) (.tmp 34))),aG 36 1 30 35,ak 37 36,bB 38 37]⟩,⟨(some (23,false)),[bj 39 29 38]⟩,⟨none,[aX 40 23 39]⟩]) <|
  .cond (.tmp 40) (.seq (ah [aN 6 false]) <|
  .ret) (.skip))) <|
  ah [aa 12 7,au 13 .add 12 1,aa 7 13]
def nM:DF:=⟨.seq (ah [aN 6 false]) <|
  .seq (.seq (ah [aA 7 0]) <|
  .block 0 (.loop u4)) <|
  .seq (ah [aN 6 true]) <|
  .ret,
  [.tmp 6],41⟩
theorem tM:aK Tryz.prog 117 []=some nM:=by kernel_rfl
def rP:DC :=
  .seq (.seq (ah [aa 24 6,an 25 2 1,ak 26 25,aC 27 26,aF 28 .lss 24 27]) <|
  .cond (.tmp 28) (.skip) (.exit 2)) <|
  .seq (.block 3 (.seq (ah [an 31 2 1,ak 32 31,aa 33 6,aG 34 3 32 33,aH 35 3 34,((some 7),.op (.alloc [(.val (.int .i64 0)),(.emp 1),(.val (.int .i64 0))])),(none,.op (.store 3 (.tmp 7) (.tmp 35)))]) <|
  .region [(2,12),(5,12),(7,12)] [⟨none,[aa 36 4,an 37 0 7,ak 38 37,aa 39 4,an 40 0 7,ak 41 40,aG 42 1 39 41,ak 43 42,an 44 1 7,ak 45 44,aa 46 3,aa 47 4,cp 48 201 [(.tmp 45),(.tmp 46),(.tmp 47),(.val (.val (.int .u32 0)))],aF 49 .or 43 48,aG 50 1 36 38,(none,.op (.store 1 (.tmp 50) (.tmp 49)))]⟩])) <|
  ah [aa 29 6,au 30 .add 29 1,aa 6 30]
def sJ:DC :=
  .seq (.seq (ah [aa 17 5,an 18 1 1,ak 19 18,aC 20 19,aF 21 .lss 17 20]) <|
  .cond (.tmp 21) (.skip) (.exit 0)) <|
  .seq (.block 1 (.seq (ah [aA 6 0]) <|
  .block 2 (.loop rP))) <|
  ah [aa 22 5,au 23 .add 22 1,aa 5 23]
def k5:DF:=⟨.seq (ah [bA 1 0,((some 2),.op (.aW (.val (.emp 1))))]) <|
  .seq (.seq (ah [aH 8 4 1,aI 9 48 [8],bB 10 9]) <|
  .cond (.tmp 10) (.seq (ah [((some 2),.op (.aW (.val (.emp 1))))]) <|
  .ret) (.skip)) <|
  .seq (ah [aH 11 4 1,aI 12 202 [11],aa 3 12]) <|
  .seq (ah [an 13 1 1,ak 14 13,aC 15 14,((some 16),.op (.make 1 4 [(.val (.int .u32 0))] (.tmp 15) (.tmp 15))),aa 4 16]) <|
  .seq (.seq (ah [aA 5 0]) <|
  .block 0 (.loop sJ)) <|
  .seq (ah [aa 51 4,aa 2 51]) <|
  .ret,
  [.tmp 2],52⟩
theorem qR:aK Tryz.prog 203 [1]=some k5:=by kernel_rfl
def wK:DC :=
  .seq (.seq (ah [aa 11 10,aa 12 0,aC 13 12,aF 14 .lss 11 13]) <|
  .cond (.tmp 14) (.skip) (.exit 0)) <|
  .seq (.block 1 (.seq (.seq (ah [aa 17 0,aa 18 10,aG 19 1 17 18,ak 20 19,au 21 .geq 20 0]) <|
  .cond (.tmp 21) (.seq (ah [aa 22 9,aa 23 0,aa 24 10,aG 25 1 23 24,ak 26 25,aI 27 101 [26],aF 28 .or 22 27,aa 8 28]) <|
  .ret) (.skip)) <|
  .seq (ah [aa 29 9,aa 30 2,aa 31 0,aa 32 10,aG 33 1 31 32,ak 34 33,((some 35),.op (.arith .sub (.val (.val (.int .i64 (-1)))) (.tmp 34))),aG 36 1 30 35,ak 37 36,aF 38 .or 29 37,aa 9 38]) <|
  .seq (ah [aa 39 1,aa 40 0,aa 41 10,aG 42 1 40 41,ak 43 42,((some 44),.op (.arith .sub (.val (.val (.int .i64 (-1)))) (.tmp 43))),aG 45 1 39 44,ak 46 45,bB 47 46]) <|
  .cond (.tmp 47) (.seq (ah [aa 48 9,aa 8 48]) <|
  .ret) (.skip))) <|
  ah [aa 15 10,au 16 .add 15 1,aa 10 16]
def pt:DF:=⟨.seq (ah [((some 8),.op (.aW (.val (.val (.int .u32 0)))))]) <|
  .seq (ah [((some 9),.op (.aW (.val (.val (.int .u32 0)))))]) <|
  .seq (.seq (ah [aA 10 0]) <|
  .block 0 (.loop wK)) <|
  .seq (ah [aa 49 9,aa 50 3,aF 51 .or 49 50,aa 8 51]) <|
  .ret,
  [.tmp 8],52⟩
theorem vh:aK Tryz.prog 201 []=some pt:=by kernel_rfl
def tZ:DC :=
  .seq (.seq (.region [] [⟨none,[aa 45 8,an 46 2 4,ak 47 46,aC 48 47,aF 49 .lss 45 48,aa 50 49]⟩,⟨(some (50,true)),[an 51 2 4,ak 52 51,aa 53 8,aG 54 1 52 53,ak 55 54,aa 56 6,aI 57 58 [55,56],bB 58 57]⟩,⟨none,[bj 59 50 58]⟩]) <|
  .cond (.tmp 59) (.skip) (.exit 2)) <|
  .block 3 (ah [aa 60 8,au 61 .add 60 1,aa 8 61])
def tI:DC :=
  .seq (.seq (.region [] [⟨none,[aa 62 9,an 63 4 4,ak 64 63,aC 65 64,aF 66 .lss 62 65,aa 67 66]⟩,⟨(some (67,true)),[an 68 4 4,ak 69 68,aa 70 9,aG 71 1 69 70,ak 72 71,aa 73 7,aI 74 59 [72,73],bB 75 74]⟩,⟨none,[bj 76 67 75]⟩]) <|
  .cond (.tmp 76) (.skip) (.exit 4)) <|
  .block 5 (ah [aa 77 9,au 78 .add 77 1,aa 9 78])
def tu:DC :=
  .seq (.seq (ah [aa 26 5,an 27 0 1,ak 28 27,aC 29 28,aF 30 .lss 26 29]) <|
  .cond (.tmp 30) (.skip) (.exit 0)) <|
  .seq (.block 1 (.seq (.region [(5,7),(5,10)] [⟨none,[an 33 0 1,ak 34 33,aa 35 5,aG 36 1 34 35,ak 37 36,aI 38 56 [37],an 39 1 1,ak 40 39,aa 41 5,aG 42 1 40 41,ak 43 42,aI 44 57 [43],aa 6 38,aa 7 44]⟩]) <|
  .seq (ah [aA 8 0,aA 9 0]) <|
  .seq (.block 2 (.loop tZ)) <|
  .seq (.block 4 (.loop tI)) <|
  .seq (.seq (ah [aa 79 8,an 80 2 4,ak 81 80,aC 82 81,aF 83 .eql 79 82]) <|
  .cond (.tmp 83) (ah [an 84 2 4,ak 85 84,aa 86 6,((some 87),.op (.aS 1 1 [(.emp 1)] [(0,(.tmp 86))])),((some 88),.op (.app 1 24 (.tmp 85) (.tmp 87))),an 89 2 4,(none,.op (.store 1 (.tmp 89) (.tmp 88)))]) (.skip)) <|
  .seq (.seq (ah [aa 90 9,an 91 4 4,ak 92 91,aC 93 92,aF 94 .eql 90 93]) <|
  .cond (.tmp 94) (ah [an 95 4 4,ak 96 95,aa 97 7,((some 98),.op (.aS 1 1 [(.emp 1)] [(0,(.tmp 97))])),((some 99),.op (.app 1 24 (.tmp 96) (.tmp 98))),an 100 4 4,(none,.op (.store 1 (.tmp 100) (.tmp 99)))]) (.skip)) <|
  .region [(4,6),(4,8)] [⟨none,[an 101 3 4,ak 102 101,aa 103 8,((some 104),.op (.aS 1 1 [(.val (.int .i64 0))] [(0,(.tmp 103))])),((some 105),.op (.app 1 8 (.tmp 102) (.tmp 104))),an 106 5 4,ak 107 106,aa 108 9,((some 109),.op (.aS 1 1 [(.val (.int .i64 0))] [(0,(.tmp 108))])),((some 110),.op (.app 1 8 (.tmp 107) (.tmp 109))),an 111 3 4,(none,.op (.store 1 (.tmp 111) (.tmp 105))),an 112 5 4,(none,.op (.store 1 (.tmp 112) (.tmp 110)))]⟩])) <|
  ah [aa 31 5,au 32 .add 31 1,aa 5 32]
def mT:DF:=⟨.seq (ah [bA 1 0,((some 2),.op (.alloc [(.val (.int .i64 0)),(.val (.int .i64 0)),(.emp 1),(.emp 1),(.emp 1),(.emp 1)])),aA 3 0]) <|
  .seq (.seq (ah [aH 10 2 1,aI 11 55 [10],bB 12 11]) <|
  .cond (.tmp 12) (.seq (ah [((some 13),.op (.build [(.val (.int .i64 0)),(.val (.int .i64 0)),(.emp 1),(.emp 1),(.emp 1),(.emp 1)] [])),(none,.op (.store 6 (.tmp 2) (.tmp 13))),aA 3 1]) <|
  .ret) (.skip)) <|
  .seq (ah [an 14 0 1,ak 15 14,((some 16),.op (.idx 1 (.tmp 15) (.val (.val (.int .i64 0))))),ak 17 16,aC 18 17,au 19 .sub 18 1,an 20 1 1,ak 21 20,((some 22),.op (.idx 1 (.tmp 21) (.val (.val (.int .i64 0))))),ak 23 22,aC 24 23,((some 25),.op (.build [(.val (.int .i64 0)),(.val (.int .i64 0)),(.emp 1),(.emp 1),(.emp 1),(.emp 1)] [(0,1,(.tmp 19)),(1,1,(.tmp 24))])),((some 4),.op (.alloc [(.val (.int .i64 0)),(.val (.int .i64 0)),(.emp 1),(.emp 1),(.emp 1),(.emp 1)])),(none,.op (.store 6 (.tmp 4) (.tmp 25)))]) <|
  .seq (.seq (ah [aA 5 0]) <|
  .block 0 (.loop tu)) <|
  .seq (ah [aH 113 6 4,(none,.op (.store 6 (.tmp 2) (.tmp 113))),aA 3 0]) <|
  .ret,
  [.cell 2 (some 6),.tmp 3],114⟩
theorem sU:aK Tryz.prog 24 [1,100000]=some mT:=by kernel_rfl
def pJ:DC :=
  .seq (.seq (ah [aa 11 5,aa 12 0,aC 13 12,aF 14 .lss 11 13]) <|
  .cond (.tmp 14) (.skip) (.exit 0)) <|
  .seq (.block 1 (.seq (ah [aa 17 0,aa 18 5,aG 19 3 17 18,aH 20 3 19,aa 21 1,aa 22 5,aG 23 3 21 22,aH 24 3 23,((some 25),.op (.old (.binOp .neq 147 (.tmp 20) (.tmp 24) 147) 4))]) <|
  .cond (.tmp 25) (.seq (ah [aN 4 false]) <|
  .ret) (.skip))) <|
  ah [aa 15 5,au 16 .add 15 1,aa 5 16]
def jY:DF:=⟨.seq (ah [aN 4 false]) <|
  .seq (.seq (ah [aa 6 0,aC 7 6,aa 8 1,aC 9 8,aF 10 .neq 7 9]) <|
  .cond (.tmp 10) (.seq (ah [aN 4 false]) <|
  .ret) (.skip)) <|
  .seq (.seq (ah [aA 5 0]) <|
  .block 0 (.loop pJ)) <|
  .seq (ah [aN 4 true]) <|
  .ret,
  [.tmp 4],26⟩
theorem pk:aK Tryz.prog 58 []=some jY:=by kernel_rfl
def rS:DC :=
  .seq (.seq (ah [aa 11 5,aa 12 0,aC 13 12,aF 14 .lss 11 13]) <|
  .cond (.tmp 14) (.skip) (.exit 0)) <|
  .seq (.block 1 (.seq (ah [aa 17 0,aa 18 5,aG 19 2 17 18,aH 20 2 19,aa 21 1,aa 22 5,aG 23 2 21 22,aH 24 2 23,((some 25),.op (.old (.binOp .neq 150 (.tmp 20) (.tmp 24) 150) 4))]) <|
  .cond (.tmp 25) (.seq (ah [aN 4 false]) <|
  .ret) (.skip))) <|
  ah [aa 15 5,au 16 .add 15 1,aa 5 16]
def ll:DF:=⟨.seq (ah [aN 4 false]) <|
  .seq (.seq (ah [aa 6 0,aC 7 6,aa 8 1,aC 9 8,aF 10 .neq 7 9]) <|
  .cond (.tmp 10) (.seq (ah [aN 4 false]) <|
  .ret) (.skip)) <|
  .seq (.seq (ah [aA 5 0]) <|
  .block 0 (.loop rS)) <|
  .seq (ah [aN 4 true]) <|
  .ret,
  [.tmp 4],26⟩
theorem qx:aK Tryz.prog 59 []=some ll:=by kernel_rfl
def vf:DC :=
  .seq (.seq (ah [aa 5 4,aa 6 0,aC 7 6,aF 8 .lss 5 7]) <|
  .cond (.tmp 8) (.skip) (.exit 0)) <|
  .seq (.block 1 (.seq (ah [aa 11 0,aa 12 4,aG 13 2 11 12,aH 14 2 13,((some 15),.op (.build [(.val (.int .i64 0)),(.val (.int .i64 0))] [])),((some 16),.op (.old (.binOp .neq 84 (.tmp 14) (.tmp 15) 84) 4))]) <|
  .cond (.tmp 16) (ah [aa 17 3,aa 18 4,aa 19 0,aa 20 4,aG 21 2 19 20,aH 22 2 21,((some 23),.op (.build [(.val (.int .i64 0)),(.val (.int .i64 0)),(.val (.int .i64 0))] [(0,1,(.tmp 18)),(1,2,(.tmp 22))])),((some 24),.op (.aS 1 3 [(.val (.int .i64 0)),(.val (.int .i64 0)),(.val (.int .i64 0))] [(0,(.tmp 23))])),((some 25),.op (.app 3 24 (.tmp 17) (.tmp 24))),aa 3 25]) (.skip))) <|
  ah [aa 9 4,au 10 .add 9 1,aa 4 10]
def nU:DF:=⟨.seq (ah [((some 2),.op (.aW (.val (.emp 1))))]) <|
  .seq (ah [((some 3),.op (.aW (.val (.emp 1))))]) <|
  .seq (.seq (ah [aA 4 0]) <|
  .block 0 (.loop vf)) <|
  .seq (ah [aa 26 3,aa 2 26]) <|
  .ret,
  [.tmp 2],27⟩
theorem ub:aK Tryz.prog 56 []=some nU:=by kernel_rfl
def rB:DC :=
  .seq (.seq (ah [aa 5 4,aa 6 0,aC 7 6,aF 8 .lss 5 7]) <|
  .cond (.tmp 8) (.skip) (.exit 0)) <|
  .seq (.block 1 (.seq (ah [aa 11 0,aa 12 4,aG 13 1 11 12,ak 14 13,au 15 .neq 14 (-1)]) <|
  .cond (.tmp 15) (ah [aa 16 3,aa 17 4,aa 18 0,aa 19 4,aG 20 1 18 19,ak 21 20,((some 22),.op (.build [(.val (.int .i64 0)),(.val (.int .i64 0))] [(0,1,(.tmp 17)),(1,1,(.tmp 21))])),((some 23),.op (.aS 1 2 [(.val (.int .i64 0)),(.val (.int .i64 0))] [(0,(.tmp 22))])),((some 24),.op (.app 2 16 (.tmp 16) (.tmp 23))),aa 3 24]) (.skip))) <|
  ah [aa 9 4,au 10 .add 9 1,aa 4 10]
def lk:DF:=⟨.seq (ah [((some 2),.op (.aW (.val (.emp 1))))]) <|
  .seq (ah [((some 3),.op (.aW (.val (.emp 1))))]) <|
  .seq (.seq (ah [aA 4 0]) <|
  .block 0 (.loop rB)) <|
  .seq (ah [aa 25 3,aa 2 25]) <|
  .ret,
  [.tmp 2],26⟩
theorem qW:aK Tryz.prog 57 []=some lk:=by kernel_rfl
def qP:DC :=
  .seq (.seq (ah [aa 35 5,an 36 0 1,ak 37 36,aC 38 37,aF 39 .lss 35 38]) <|
  .cond (.tmp 39) (.skip) (.exit 0)) <|
  .seq (.block 1 (.seq (.region [] [⟨none,[an 42 0 1,ak 43 42,aa 44 5,aG 45 1 43 44,ak 46 45,aC 47 46,aa 48 3,aF 49 .neq 47 48,aa 50 49]⟩,⟨(some (50,false)),[an 51 1 1,ak 52 51,aa 53 5,aG 54 1 52 53,ak 55 54,aC 56 55,aa 57 4,aF 58 .neq 56 57]⟩,⟨none,[aX 59 50 58]⟩]) <|
  .cond (.tmp 59) (.seq (ah [aN 2 false]) <|
  .ret) (.skip))) <|
  ah [aa 40 5,au 41 .add 40 1,aa 5 41]
def kp:DF:=⟨.seq (ah [bA 1 0,aN 2 false]) <|
  .seq (.seq (.region [] [⟨none,[an 6 0 1,ak 7 6,aC 8 7,au 9 .lss 8 1,aa 10 9]⟩,⟨(some (10,false)),[an 11 0 1,ak 12 11,aC 13 12,au 14 .gtr 13 300]⟩,⟨none,[aX 15 10 14,aa 16 15]⟩,⟨(some (16,false)),[an 17 1 1,ak 18 17,aC 19 18,an 20 0 1,ak 21 20,aC 22 21,aF 23 .neq 19 22]⟩,⟨none,[aX 24 16 23]⟩]) <|
  .cond (.tmp 24) (.seq (ah [aN 2 false]) <|
  .ret) (.skip)) <|
  .seq (ah [an 25 0 1,ak 26 25,((some 27),.op (.idx 1 (.tmp 26) (.val (.val (.int .i64 0))))),ak 28 27,aC 29 28,an 30 1 1,ak 31 30,((some 32),.op (.idx 1 (.tmp 31) (.val (.val (.int .i64 0))))),ak 33 32,aC 34 33,aa 3 29,aa 4 34]) <|
  .seq (.seq (ah [aA 5 0]) <|
  .block 0 (.loop qP)) <|
  .seq (.region [] [⟨none,[aa 60 3,au 61 .geq 60 1,aa 62 61]⟩,⟨(some (62,true)),[aa 63 3,au 64 .leq 63 25]⟩,⟨none,[bj 65 62 64,aa 66 65]⟩,⟨(some (66,true)),[aa 67 4,au 68 .leq 67 16]⟩,⟨none,[bj 69 66 68,aa 2 69]⟩]) <|
  .ret,
  [.tmp 2],70⟩
theorem pO:aK Tryz.prog 55 [1]=some kp:=by kernel_rfl
def xx:DF:=⟨.seq (ah [bA 3 0,bA 4 1,((some 6),.op (.aW (.val (.emp 1)))),aA 7 0,aA 8 0]) <|
  .seq (ah [aH 12 6 4,aI 13 49 [12],aa 11 13,bq 14 0 11,bq 15 1 11,((some 9),.op (.alloc [(.emp 1),(.emp 1)])),(none,.op (.store 2 (.tmp 9) (.tmp 14))),aa 10 15]) <|
  .seq (.seq (ah [aa 16 10,au 17 .neq 16 0]) <|
  .cond (.tmp 17) (.seq (ah [aa 18 10,((some 6),.op (.aW (.val (.emp 1)))),aA 7 0,aa 8 18]) <|
  .ret) (.skip)) <|
  .seq (ah [aH 19 4 3,aH 20 2 9,aa 21 2,aI 22 15 [19,20,21],bq 23 0 22,bq 24 1 22,bq 25 2 22,aa 6 23,aa 7 24,aa 8 25]) <|
  .ret,
  [.tmp 6,.tmp 7,.tmp 8],26⟩
theorem zU:aK Tryz.prog 21 [3,4]=some xx:=by kernel_rfl
def zd:DC :=
  .seq (ah [aF 36 .lss 35 34]) <|
  .seq (.cond (.tmp 36) (.skip) (.exit 2)) <|
  .seq (.block 3 (.seq (ah [aG 37 3 33 35,aH 38 3 37,((some 7),.op (.alloc [(.val (.int .i64 0)),(.val (.int .i64 0)),(.val (.int .i64 0))])),(none,.op (.store 3 (.tmp 7) (.tmp 38)))]) <|
  ah [aa 39 5,an 40 0 7,ak 41 40,an 42 1 7,aH 43 2 42,aG 44 2 39 41,(none,.op (.store 2 (.tmp 44) (.tmp 43)))])) <|
  ah [au 45 .add 35 1,aa 35 45]
def zC:DC :=
  .seq (ah [aF 61 .lss 60 59]) <|
  .seq (.cond (.tmp 61) (.skip) (.exit 4)) <|
  .seq (.block 5 (.seq (ah [aG 62 2 58 60,aH 63 2 62,((some 10),.op (.alloc [(.val (.int .i64 0)),(.val (.int .i64 0))])),(none,.op (.store 2 (.tmp 10) (.tmp 63)))]) <|
  ah [aa 64 8,an 65 0 10,ak 66 65,an 67 1 10,ak 68 67,aG 69 1 64 66,(none,.op (.store 1 (.tmp 69) (.tmp 68)))])) <|
  ah [au 70 .add 60 1,aa 60 70]
def yJ:DC :=
  .seq (ah [aF 19 .lss 18 17]) <|
  .seq (.cond (.tmp 19) (.skip) (.exit 0)) <|
  .seq (.block 1 (.seq (ah [aa 20 18,aa 4 20]) <|
  .seq (ah [an 21 0 1,ak 22 21,au 23 .add 22 1,((some 24),.op (.make 2 16 [(.val (.int .i64 0)),(.val (.int .i64 0))] (.tmp 23) (.tmp 23))),aa 5 24]) <|
  .seq (.seq (ah [an 25 2 1,ak 26 25,an 27 3 1,ak 28 27,aa 29 4,aG 30 1 28 29,ak 31 30,aG 32 1 26 31,ak 33 32,aC 34 33,aA 35 0]) <|
  .block 2 (.loop zd)) <|
  .seq (ah [((some 46),.op (.aS 1 1 [(.val (.int .i64 0))] [(0,(.val (.val (.int .i64 (-1)))))])),an 47 1 1,ak 48 47,aI 49 93 [46,48],aa 8 49]) <|
  .seq (.seq (ah [an 50 4 1,ak 51 50,an 52 5 1,ak 53 52,aa 54 4,aG 55 1 53 54,ak 56 55,aG 57 1 51 56,ak 58 57,aC 59 58,aA 60 0]) <|
  .block 4 (.loop zC)) <|
  .region [(4,6),(4,8)] [⟨none,[an 71 0 2,ak 72 71,aa 73 5,((some 74),.op (.aS 1 1 [(.emp 1)] [(0,(.tmp 73))])),((some 75),.op (.app 1 24 (.tmp 72) (.tmp 74))),an 76 1 2,ak 77 76,aa 78 8,((some 79),.op (.aS 1 1 [(.emp 1)] [(0,(.tmp 78))])),((some 80),.op (.app 1 24 (.tmp 77) (.tmp 79))),an 81 0 2,(none,.op (.store 1 (.tmp 81) (.tmp 75))),an 82 1 2,(none,.op (.store 1 (.tmp 82) (.tmp 80)))]⟩])) <|
  ah [au 83 .add 18 1,aa 18 83]
def uH:DF:=⟨.seq (ah [bA 1 0,((some 2),.op (.alloc [(.emp 1),(.emp 1)])),aA 3 0]) <|
  .seq (.seq (ah [aH 11 6 1,aI 12 92 [11],bB 13 12]) <|
  .cond (.tmp 13) (.seq (ah [aH 14 2 2,(none,.op (.store 2 (.tmp 2) (.tmp 14))),aA 3 1]) <|
  .ret) (.skip)) <|
  .seq (.seq (ah [an 15 3 1,ak 16 15,aC 17 16,aA 18 0]) <|
  .block 0 (.loop yJ)) <|
  .seq (ah [aH 84 2 2,(none,.op (.store 2 (.tmp 2) (.tmp 84))),aA 3 0]) <|
  .ret,
  [.cell 2 (some 2),.tmp 3],85⟩
theorem xO:aK Tryz.prog 49 [1,100000]=some uH:=by kernel_rfl
def lQ:DC :=
  .seq (.seq (ah [aa 34 8,aa 35 7,aC 36 35,aF 37 .lss 34 36]) <|
  .cond (.tmp 37) (.skip) (.exit 0)) <|
  .block 1 (ah [aa 38 8,aa 39 7,aa 40 8,((some 41),.op (.slice 1 (.tmp 39) (some (.tmp 40)) none)),aa 42 7,aa 43 8,((some 44),.op (.slice 1 (.tmp 42) none (some (.tmp 43)))),((some 45),.op (.old (.call { callee:=.builtin .copy,args:=#[(.tmp 41),(.tmp 44)],argTypes:=#[31,31] }) 3)),aF 46 .add 38 45,aa 8 46])
def gm:DF:=⟨.seq (ah [((some 4),.op (.aW (.val (.emp 1))))]) <|
  .seq (.seq (ah [aa 9 1,au 10 .lss 9 0]) <|
  .cond (.tmp 10) (.region [] [⟨none,[((some 11),.op (.old (.makeInterface 9 (.const (.string ⟨#[99,97,110,110,111,116,32,98,101,32,110,101,103,97,116,105,118,101]⟩))) 20)),(none,.op (.old (.panic (.tmp 11)) 0))]⟩]) (.skip)) <|
  .seq (ah [aa 13 0,aC 14 13,((some 15),.op (.conv .u64 (.tmp 14))),aa 16 1,((some 17),.op (.conv .u64 (.tmp 16))),aI 18 153 [15,17],aa 12 18,bq 19 0 12,bq 20 1 12,aa 5 19,aa 6 20]) <|
  .seq (.seq (.region [] [⟨none,[aa 21 5,((some 22),.op (.arith .gtr (.tmp 21) (.val (.val (.int .u64 0))))),aa 23 22]⟩,⟨(some (23,false)),[aa 24 6,((some 25),.op (.arith .gtr (.tmp 24) (.val (.val (.int .u64 9223372036854775807)))))]⟩,⟨none,[aX 26 23 25]⟩]) <|
  .cond (.tmp 26) (.region [] [⟨none,[((some 27),.op (.old (.makeInterface 9 (.const (.string ⟨#[116,104,101,32,114,101,115,117,108,116,32,111,102,32,40,108,101,110,40,120,41,32,42,32,99,111,117,110,116,41,32,111,118,101,114,102,108,111,119,115]⟩))) 20)),(none,.op (.old (.panic (.tmp 27)) 0))]⟩]) (.skip)) <|
  .seq (ah [aa 28 6,((some 29),.op (.conv .i64 (.tmp 28))),((some 30),.op (.make 1 8 [(.val (.int .i64 0))] (.tmp 29) (.tmp 29))),aa 7 30]) <|
  .seq (ah [aa 31 7,aa 32 0,((some 33),.op (.old (.call { callee:=.builtin .copy,args:=#[(.tmp 31),(.tmp 32)],argTypes:=#[31,31] }) 3)),aa 8 33]) <|
  .seq (.block 0 (.loop lQ)) <|
  .seq (ah [aa 47 7,aa 4 47]) <|
  .ret,
  [.tmp 4],48⟩
theorem kV:aK Tryz.prog 93 []=some gm:=by kernel_rfl
def Av:DC :=
  .seq (ah [aF 78 .lss 77 76]) <|
  .seq (.cond (.tmp 78) (.skip) (.exit 1)) <|
  .seq (.block 2 (.seq (ah [aG 79 1 75 77,ak 80 79,aa 4 80]) <|
  .seq (.region [] [⟨none,[aa 81 4,an 82 0 1,ak 83 82,au 84 .add 83 1,cp 85 145 [(.tmp 81),(.tmp 84),(.val (.fn 146 [] []))],bB 86 85,aa 87 86]⟩,⟨(some (87,false)),[aa 88 4,cp 89 147 [(.tmp 88),(.val (.fn 148 [] []))]]⟩,⟨none,[aX 90 87 89]⟩]) <|
  .cond (.tmp 90) (.seq (ah [aN 2 false]) <|
  .ret) (.skip))) <|
  ah [au 91 .add 77 1,aa 77 91]
def z1:DC :=
  .seq (ah [aF 96 .lss 95 94]) <|
  .seq (.cond (.tmp 96) (.skip) (.exit 3)) <|
  .seq (.block 4 (.seq (ah [aG 97 1 93 95,ak 98 97,aa 6 98]) <|
  .seq (.region [] [⟨none,[aa 99 6,an 100 1 1,ak 101 100,cp 102 149 [(.tmp 99),(.tmp 101),(.val (.fn 150 [] []))],bB 103 102,aa 104 103]⟩,⟨(some (104,false)),[aa 105 6,cp 106 151 [(.tmp 105),(.val (.fn 152 [] []))]]⟩,⟨none,[aX 107 104 106]⟩]) <|
  .cond (.tmp 107) (.seq (ah [aN 2 false]) <|
  .ret) (.skip))) <|
  ah [au 108 .add 95 1,aa 95 108]
def vL:DF:=⟨.seq (ah [bA 1 0,aN 2 false]) <|
  .seq (.block 0 (.seq (.region [] [⟨none,[an 8 0 1,ak 9 8,au 10 .lss 9 0,aa 11 10]⟩,⟨(some (11,false)),[an 12 0 1,ak 13 12,au 14 .gtr 13 24]⟩,⟨none,[aX 15 11 14,aa 16 15]⟩,⟨(some (16,false)),[an 17 1 1,ak 18 17,au 19 .lss 18 0]⟩,⟨none,[aX 20 16 19,aa 21 20]⟩,⟨(some (21,false)),[an 22 1 1,ak 23 22,au 24 .gtr 23 16]⟩,⟨none,[aX 25 21 24,aa 7 25]⟩]) <|
  .cond (.tmp 7) (.seq (ah [aN 2 false]) <|
  .ret) (.seq (.region [] [⟨none,[an 27 3 1,ak 28 27,aC 29 28,au 30 .lss 29 1,aa 31 30]⟩,⟨(some (31,false)),[an 32 3 1,ak 33 32,aC 34 33,au 35 .gtr 34 300]⟩,⟨none,[aX 36 31 35,aa 37 36]⟩,⟨(some (37,false)),[an 38 5 1,ak 39 38,aC 40 39,an 41 3 1,ak 42 41,aC 43 42,aF 44 .neq 40 43]⟩,⟨none,[aX 45 37 44,aa 26 45]⟩]) <|
  .cond (.tmp 26) (.seq (ah [aN 2 false]) <|
  .ret) (.seq (.region [] [⟨none,[an 47 2 1,ak 48 47,aC 49 48,au 50 .gtr 49 300,aa 51 50]⟩,⟨(some (51,false)),[an 52 4 1,ak 53 52,aC 54 53,au 55 .gtr 54 300]⟩,⟨none,[aX 56 51 55,aa 46 56]⟩]) <|
  .cond (.tmp 46) (.seq (ah [aN 2 false]) <|
  .ret) (.seq (.region [] [⟨none,[an 58 3 1,ak 59 58,an 60 2 1,ak 61 60,aC 62 61,aI 63 144 [59,62],bB 64 63,aa 65 64]⟩,⟨(some (65,false)),[an 66 5 1,ak 67 66,an 68 4 1,ak 69 68,aC 70 69,aI 71 144 [67,70],bB 72 71]⟩,⟨none,[aX 73 65 72,aa 57 73]⟩]) <|
  .cond (.tmp 57) (.seq (ah [aN 2 false]) <|
  .ret) (.skip)))))) <|
  .seq (.seq (ah [an 74 2 1,ak 75 74,aC 76 75,aA 77 0]) <|
  .block 1 (.loop Av)) <|
  .seq (.seq (ah [an 92 4 1,ak 93 92,aC 94 93,aA 95 0]) <|
  .block 3 (.loop z1)) <|
  .seq (ah [aN 2 true]) <|
  .ret,
  [.tmp 2],109⟩
theorem zH:aK Tryz.prog 92 [1]=some vL:=by kernel_rfl
def nq:DC :=
  .seq (ah [aF 13 .lss 12 11]) <|
  .seq (.cond (.tmp 13) (.skip) (.exit 0)) <|
  .seq (.block 1 (.seq (ah [aG 14 3 10 12,aH 15 3 14,((some 9),.op (.alloc [(.val (.int .i64 0)),(.val (.int .i64 0)),(.val (.int .i64 0))])),(none,.op (.store 3 (.tmp 9) (.tmp 15)))]) <|
  .seq (.seq (.region [] [⟨none,[aa 16 2,aH 17 3 9,((some 18),.call (.tmp 16) [(.tmp 17)]),aa 19 7,aF 20 .leq 18 19,aa 21 20]⟩,⟨(some (21,false)),[aa 22 2,aH 23 3 9,((some 24),.call (.tmp 22) [(.tmp 23)]),aa 25 1,aF 26 .geq 24 25]⟩,⟨none,[aX 27 21 26]⟩]) <|
  .cond (.tmp 27) (.seq (ah [aN 6 false]) <|
  .ret) (.skip)) <|
  ah [aa 28 2,aH 29 3 9,((some 30),.call (.tmp 28) [(.tmp 29)]),aa 7 30])) <|
  ah [au 31 .add 12 1,aa 12 31]
def hD:DF:=⟨.seq (ah [aN 6 false]) <|
  .seq (ah [aA 7 (-1)]) <|
  .seq (.seq (ah [aa 10 0,aC 11 10,aA 12 0]) <|
  .block 0 (.loop nq)) <|
  .seq (ah [aN 6 true]) <|
  .ret,
  [.tmp 6],32⟩
theorem mr:aK Tryz.prog 145 []=some hD:=by kernel_rfl
def sC:DF:=⟨.seq (ah [bA 1 0,aA 2 0]) <|
  .seq (ah [an 3 0 1,ak 4 3,aa 2 4]) <|
  .ret,
  [.tmp 2],5⟩
theorem xk:aK Tryz.prog 146 [1]=some sC:=by kernel_rfl
def dg:DF:=⟨.seq (ah [aN 4 false]) <|
  .seq (ah [aa 5 0,aa 6 1,aI 7 195 [5,6],au 8 .geq 7 0,aa 4 8]) <|
  .ret,
  [.tmp 4],9⟩
theorem eZ:aK Tryz.prog 147 []=some dg:=by kernel_rfl
def fC:DC :=
  .seq (ah [aF 9 .lss 8 7]) <|
  .seq (.cond (.tmp 9) (.skip) (.exit 0)) <|
  .seq (.block 1 (.seq (ah [aa 10 8,aa 5 10]) <|
  .seq (ah [aa 11 1,aa 12 0,aa 13 5,aG 14 3 12 13,aH 15 3 14,((some 16),.call (.tmp 11) [(.tmp 15)])]) <|
  .cond (.tmp 16) (.seq (ah [aa 17 5,aa 4 17]) <|
  .ret) (.skip))) <|
  ah [au 18 .add 8 1,aa 8 18]
def dG:DF:=⟨.seq (ah [aA 4 0]) <|
  .seq (.seq (ah [aa 6 0,aC 7 6,aA 8 0]) <|
  .block 0 (.loop fC)) <|
  .seq (ah [aA 4 (-1)]) <|
  .ret,
  [.tmp 4],19⟩
theorem fq:aK Tryz.prog 195 []=some dG:=by kernel_rfl
def sZ:DF:=⟨.seq (ah [bA 1 0,aN 2 false]) <|
  .seq (ah [an 3 1 1,aH 4 2 3,((some 5),.op (.build [(.val (.int .i64 0)),(.val (.int .i64 0))] [])),((some 6),.op (.old (.binOp .eql 84 (.tmp 4) (.tmp 5) 84) 4)),aa 2 6]) <|
  .ret,
  [.tmp 2],7⟩
theorem xn:aK Tryz.prog 148 [1]=some sZ:=by kernel_rfl
def oE:DC :=
  .seq (ah [aF 13 .lss 12 11]) <|
  .seq (.cond (.tmp 13) (.skip) (.exit 0)) <|
  .seq (.block 1 (.seq (ah [aG 14 2 10 12,aH 15 2 14,((some 9),.op (.alloc [(.val (.int .i64 0)),(.val (.int .i64 0))])),(none,.op (.store 2 (.tmp 9) (.tmp 15)))]) <|
  .seq (.seq (.region [] [⟨none,[aa 16 2,aH 17 2 9,((some 18),.call (.tmp 16) [(.tmp 17)]),aa 19 7,aF 20 .leq 18 19,aa 21 20]⟩,⟨(some (21,false)),[aa 22 2,aH 23 2 9,((some 24),.call (.tmp 22) [(.tmp 23)]),aa 25 1,aF 26 .geq 24 25]⟩,⟨none,[aX 27 21 26]⟩]) <|
  .cond (.tmp 27) (.seq (ah [aN 6 false]) <|
  .ret) (.skip)) <|
  ah [aa 28 2,aH 29 2 9,((some 30),.call (.tmp 28) [(.tmp 29)]),aa 7 30])) <|
  ah [au 31 .add 12 1,aa 12 31]
def iC:DF:=⟨.seq (ah [aN 6 false]) <|
  .seq (ah [aA 7 (-1)]) <|
  .seq (.seq (ah [aa 10 0,aC 11 10,aA 12 0]) <|
  .block 0 (.loop oE)) <|
  .seq (ah [aN 6 true]) <|
  .ret,
  [.tmp 6],32⟩
theorem np:aK Tryz.prog 149 []=some iC:=by kernel_rfl
def si:DF:=⟨.seq (ah [bA 1 0,aA 2 0]) <|
  .seq (ah [an 3 0 1,ak 4 3,aa 2 4]) <|
  .ret,
  [.tmp 2],5⟩
theorem xl:aK Tryz.prog 150 [1]=some si:=by kernel_rfl
def dx:DF:=⟨.seq (ah [aN 4 false]) <|
  .seq (ah [aa 5 0,aa 6 1,aI 7 196 [5,6],au 8 .geq 7 0,aa 4 8]) <|
  .ret,
  [.tmp 4],9⟩
theorem fb:aK Tryz.prog 151 []=some dx:=by kernel_rfl
def fT:DC :=
  .seq (ah [aF 9 .lss 8 7]) <|
  .seq (.cond (.tmp 9) (.skip) (.exit 0)) <|
  .seq (.block 1 (.seq (ah [aa 10 8,aa 5 10]) <|
  .seq (ah [aa 11 1,aa 12 0,aa 13 5,aG 14 2 12 13,aH 15 2 14,((some 16),.call (.tmp 11) [(.tmp 15)])]) <|
  .cond (.tmp 16) (.seq (ah [aa 17 5,aa 4 17]) <|
  .ret) (.skip))) <|
  ah [au 18 .add 8 1,aa 8 18]
def dN:DF:=⟨.seq (ah [aA 4 0]) <|
  .seq (.seq (ah [aa 6 0,aC 7 6,aA 8 0]) <|
  .block 0 (.loop fT)) <|
  .seq (ah [aA 4 (-1)]) <|
  .ret,
  [.tmp 4],19⟩
theorem fR:aK Tryz.prog 196 []=some dN:=by kernel_rfl
def su:DF:=⟨.seq (ah [bA 1 0,aN 2 false]) <|
  .seq (ah [an 3 1 1,ak 4 3,au 5 .eql 4 (-1),aa 2 5]) <|
  .ret,
  [.tmp 2],6⟩
theorem xo:aK Tryz.prog 152 [1]=some su:=by kernel_rfl
def rK:DF:=⟨.seq (ah [bA 3 1,aN 4 false]) <|
  .seq (ah [aa 5 0,((some 6),.op (.q8 194 [] [(.tmp 3)])),aI 7 46 [5,6],bB 8 7,aa 4 8]) <|
  .ret,
  [.tmp 4],9⟩
theorem xm:aK Tryz.prog 144 [3]=some rK:=by kernel_rfl
def oW:DF:=⟨.seq (ah [aN 3 false]) <|
  .seq (.region [] [⟨none,[aa 4 0,au 5 .lss 4 0,aa 6 5]⟩,⟨(some (6,false)),[aa 7 0,ak 8 1,aF 9 .geq 7 8]⟩,⟨none,[aX 10 6 9,aa 3 10]⟩]) <|
  .ret,
  [.tmp 3],11⟩
theorem u6:aK Tryz.prog 194 []=some oW:=by kernel_rfl
def eW:DF:=⟨.seq (ah [aN 4 false]) <|
  .seq (ah [aa 5 0,aa 6 1,aI 7 88 [5,6],au 8 .geq 7 0,aa 4 8]) <|
  .ret,
  [.tmp 4],9⟩
theorem iu:aK Tryz.prog 46 []=some eW:=by kernel_rfl
def j4:DC :=
  .seq (ah [aF 9 .lss 8 7]) <|
  .seq (.cond (.tmp 9) (.skip) (.exit 0)) <|
  .seq (.block 1 (.seq (ah [aa 10 8,aa 5 10]) <|
  .seq (ah [aa 11 1,aa 12 0,aa 13 5,aG 14 1 12 13,ak 15 14,((some 16),.call (.tmp 11) [(.tmp 15)])]) <|
  .cond (.tmp 16) (.seq (ah [aa 17 5,aa 4 17]) <|
  .ret) (.skip))) <|
  ah [au 18 .add 8 1,aa 8 18]
def fB:DF:=⟨.seq (ah [aA 4 0]) <|
  .seq (.seq (ah [aa 6 0,aC 7 6,aA 8 0]) <|
  .block 0 (.loop j4)) <|
  .seq (ah [aA 4 (-1)]) <|
  .ret,
  [.tmp 4],19⟩
theorem jt:aK Tryz.prog 88 []=some fB:=by kernel_rfl
def Ad:List (FuncId × DF):=[(11,lB),(23,lp),(53,m3),(104,lC),(105,lu),(159,nW),(101,n0),(106,kq),(54,m5),(51,k6),(96,kN),(97,lh),(155,mZ),(200,lz),(154,nP),(199,nj),(98,mI),(156,lE),(95,jS),(52,o9),(99,jO),(157,nR),(102,iG),(100,iE),(103,mn),(158,pa),(143,nY),(202,iQ),(174,lF),(117,nM),(203,k5),(201,pt),(24,mT),(58,jY),(59,ll),(56,nU),(57,lk),(55,kp),(21,xx),(49,uH),(93,gm),(153,qm),(197,nO),(198,nL),(92,vL),(145,hD),(146,sC),(147,dg),(195,dG),(148,sZ),(149,iC),(150,si),(151,dx),(196,dN),(152,su),(144,rK),(194,oW),(46,eW),(88,fB)]
theorem ux:tb Tryz.prog Ad:=by
  intro p hp
  simp only[Ad,List.mem_cons,List.not_mem_nil,or_false] at hp
  rcases hp with rfl | rfl | rfl | rfl | rfl | rfl | rfl | rfl | rfl | rfl | rfl | rfl | rfl | rfl | rfl | rfl | rfl | rfl | rfl | rfl | rfl | rfl | rfl | rfl | rfl | rfl | rfl | rfl | rfl | rfl | rfl | rfl | rfl | rfl | rfl | rfl | rfl | rfl | rfl | rfl | rfl | rfl | rfl | rfl | rfl | rfl | rfl | rfl | rfl | rfl | rfl | rfl | rfl | rfl | rfl | rfl | rfl | rfl | rfl
  · exact ⟨_,q7⟩
  · exact ⟨_,qT⟩
  · exact ⟨_,sA⟩
  · exact ⟨_,q5⟩
  · exact ⟨_,qV⟩
  · exact ⟨_,tx⟩
  · exact ⟨_,ud⟩
  · exact ⟨_,pQ⟩
  · exact ⟨_,sy⟩
  · exact ⟨_,qO⟩
  · exact ⟨_,pN⟩
  · exact ⟨_,qz⟩
  · exact ⟨_,rQ⟩
  · exact ⟨_,qB⟩
  · exact ⟨_,uv⟩
  · exact ⟨_,sP⟩
  · exact ⟨_,rv⟩
  · exact ⟨_,qE⟩
  · exact ⟨_,oT⟩
  · exact ⟨_,uV⟩
  · exact ⟨_,oS⟩
  · exact ⟨_,te⟩
  · exact ⟨_,nC⟩
  · exact ⟨_,nv⟩
  · exact ⟨_,sR⟩
  · exact ⟨_,uT⟩
  · exact ⟨_,ue⟩
  · exact ⟨_,oz⟩
  · exact ⟨_,q0⟩
  · exact ⟨_,tM⟩
  · exact ⟨_,qR⟩
  · exact ⟨_,vh⟩
  · exact ⟨_,sU⟩
  · exact ⟨_,pk⟩
  · exact ⟨_,qx⟩
  · exact ⟨_,ub⟩
  · exact ⟨_,qW⟩
  · exact ⟨_,pO⟩
  · exact ⟨_,zU⟩
  · exact ⟨_,xO⟩
  · exact ⟨_,kV⟩
  · exact ⟨_,vo⟩
  · exact ⟨_,td⟩
  · exact ⟨_,tv⟩
  · exact ⟨_,zH⟩
  · exact ⟨_,mr⟩
  · exact ⟨_,xk⟩
  · exact ⟨_,eZ⟩
  · exact ⟨_,fq⟩
  · exact ⟨_,xn⟩
  · exact ⟨_,np⟩
  · exact ⟨_,xl⟩
  · exact ⟨_,fb⟩
  · exact ⟨_,fR⟩
  · exact ⟨_,xo⟩
  · exact ⟨_,xm⟩
  · exact ⟨_,u6⟩
  · exact ⟨_,iu⟩
  · exact ⟨_,jt⟩
end Gv
