/-
  Part 15 of the proof: what the machine does and what the functions answer.
  Conditions: those that each lemma names.
-/
import Derived.Test.YtomcjampldmjoaaGreatSGzXN
set_option linter.unusedSimpArgs false
set_option linter.unusedVariables false
set_option maxRecDepth 100000
namespace Gv
open Go Go.Proofs
def Np:List Int:=[37,114,105,103,104,116,32,39,97,39,32,37,108,101,102,116,32,39,104,39,32,37,37,32,115,32,58,32,110,32,115,32,124,32,39,97,39,32,59,32,110,32,58,32,37,112,114,101,99,32,39,104,39,32,59]
def NQ:List Int:=[37,37,32,115,32,58,32,39,97,39,32,39,98,39,32,59]
def di:ay:=⟨[⟨⟨#[39,97,39]⟩,1,2⟩,⟨⟨#[39,104,39]⟩,2,1⟩],[⟨#[115]⟩,⟨#[110]⟩],[⟨0,[-2,-1],-1⟩,⟨0,[0],0⟩,⟨1,[],1⟩],0⟩
def fq:ay:=⟨[⟨⟨#[39,97,39]⟩,0,0⟩,⟨⟨#[39,98,39]⟩,0,0⟩],[⟨#[115]⟩],[⟨0,[0,1],1⟩],0⟩
def mO:DF:=⟨.seq (aj [aM 0 false]) <|
  .seq (aj [((some 37),.op (.aT 16 1 [(.val (.int .u8 0))] [(0,(.val (.val (.int .u8 37)))),(1,(.val (.val (.int .u8 37)))),(2,(.val (.val (.int .u8 32)))),(3,(.val (.val (.int .u8 115)))),(4,(.val (.val (.int .u8 32)))),(5,(.val (.val (.int .u8 58)))),(6,(.val (.val (.int .u8 32)))),(7,(.val (.val (.int .u8 39)))),(8,(.val (.val (.int .u8 97)))),(9,(.val (.val (.int .u8 39)))),(10,(.val (.val (.int .u8 32)))),(11,(.val (.val (.int .u8 115)))),(12,(.val (.val (.int .u8 32)))),(13,(.val (.val (.int .u8 124)))),(14,(.val (.val (.int .u8 32)))),(15,(.val (.val (.int .u8 59))))])),((some 38),.op (.old (.convert 73 73 (.tmp 37)) 73)),aJ 39 41 [38],aa 36 39,bu 40 0 36,bu 41 1 36,bu 42 2 36,((some 1),.op (.alloc [(.emp 1),(.emp 1),(.emp 1),(.val (.int .i64 0))])),(none,.op (.store 4 (.tmp 1) (.tmp 40))),aa 2 41,aa 3 42]) <|
  .seq (aj [aF 44 4 1,aJ 45 23 [44],aa 43 45,bu 46 0 43,bu 47 1 43,bu 48 2 43,((some 4),.op (.alloc [(.emp 1),(.emp 1)])),(none,.op (.store 2 (.tmp 4) (.tmp 46))),aa 5 47,aa 6 48]) <|
  .seq (aj [aF 50 2 4,aJ 51 24 [50],aa 49 51,bu 52 0 49,bu 53 1 49,((some 7),.op (.alloc [(.val (.int .i64 0)),(.val (.int .i64 0)),(.emp 1),(.emp 1),(.emp 1),(.emp 1)])),(none,.op (.store 6 (.tmp 7) (.tmp 52))),aa 8 53]) <|
  .seq (aj [aF 55 4 1,aF 56 2 4,((some 57),.op (.aT 2 1 [(.val (.int .i64 0))] [(0,(.val (.val (.int .i64 0)))),(1,(.val (.val (.int .i64 0))))])),aJ 58 15 [55,56,57],aa 54 58,bu 59 0 54,bu 60 1 54,bu 61 2 54,aa 9 59,aa 10 60,aa 11 61]) <|
  .seq (aj [aF 63 4 1,aF 64 6 7,((some 65),.op (.aT 2 1 [(.val (.int .i64 0))] [(0,(.val (.val (.int .i64 0)))),(1,(.val (.val (.int .i64 0))))])),aJ 66 21 [63,64,65],aa 62 66,bu 67 0 62,bu 68 1 62,bu 69 2 62,aa 12 67,aa 13 68,aa 14 69]) <|
  .seq (aj [aF 71 4 1,aF 72 2 4,((some 73),.op (.aT 1 1 [(.val (.int .i64 0))] [(0,(.val (.val (.int .i64 1))))])),aJ 74 15 [71,72,73],aa 70 74,bu 75 0 70,bu 76 1 70,bu 77 2 70,aa 15 75,aa 16 76,aa 17 77]) <|
  .seq (aj [((some 79),.op (.aT 55 1 [(.val (.int .u8 0))] [(0,(.val (.val (.int .u8 37)))),(1,(.val (.val (.int .u8 114)))),(2,(.val (.val (.int .u8 105)))),(3,(.val (.val (.int .u8 103)))),(4,(.val (.val (.int .u8 104)))),(5,(.val (.val (.int .u8 116)))),(6,(.val (.val (.int .u8 32)))),(7,(.val (.val (.int .u8 39)))),(8,(.val (.val (.int .u8 97)))),(9,(.val (.val (.int .u8 39)))),(10,(.val (.val (.int .u8 32)))),(11,(.val (.val (.int .u8 37)))),(12,(.val (.val (.int .u8 108)))),(13,(.val (.val (.int .u8 101)))),(14,(.val (.val (.int .u8 102)))),(15,(.val (.val (.int .u8 116)))),(16,(.val (.val (.int .u8 32)))),(17,(.val (.val (.int .u8 39)))),(18,(.val (.val (.int .u8 104)))),(19,(.val (.val (.int .u8 39)))),(20,(.val (.val (.int .u8 32)))),(21,(.val (.val (.int .u8 37)))),(22,(.val (.val (.int .u8 37)))),(23,(.val (.val (.int .u8 32)))),(24,(.val (.val (.int .u8 115)))),(25,(.val (.val (.int .u8 32)))),(26,(.val (.val (.int .u8 58)))),(27,(.val (.val (.int .u8 32)))),(28,(.val (.val (.int .u8 110)))),(29,(.val (.val (.int .u8 32)))),(30,(.val (.val (.int .u8 115)))),(31,(.val (.val (.int .u8 32)))),(32,(.val (.val (.int .u8 124)))),(33,(.val (.val (.int .u8 32)))),(34,(.val (.val (.int .u8 39)))),(35,(.val (.val (.int .u8 97)))),(36,(.val (.val (.int .u8 39)))),(37,(.val (.val (.int .u8 32)))),(38,(.val (.val (.int .u8 59)))),(39,(.val (.val (.int .u8 32)))),(40,(.val (.val (.int .u8 110)))),(41,(.val (.val (.int .u8 32)))),(42,(.val (.val (.int .u8 58)))),(43,(.val (.val (.int .u8 32)))),(44,(.val (.val (.int .u8 37)))),(45,(.val (.val (.int .u8 112)))),(46,(.val (.val (.int .u8 114)))),(47,(.val (.val (.int .u8 101)))),(48,(.val (.val (.int .u8 99)))),(49,(.val (.val (.int .u8 32)))),(50,(.val (.val (.int .u8 39)))),(51,(.val (.val (.int .u8 104)))),(52,(.val (.val (.int .u8 39)))),(53,(.val (.val (.int .u8 32)))),(54,(.val (.val (.int .u8 59))))])),((some 80),.op (.old (.convert 73 73 (.tmp 79)) 73)),aJ 81 41 [80],aa 78 81,bu 82 0 78,bu 83 1 78,bu 84 2 78,((some 18),.op (.alloc [(.emp 1),(.emp 1),(.emp 1),(.val (.int .i64 0))])),(none,.op (.store 4 (.tmp 18) (.tmp 82))),aa 19 83,aa 20 84]) <|
  .seq (aj [aF 86 4 18,aJ 87 23 [86],aa 85 87,bu 88 0 85,bu 89 1 85,bu 90 2 85,((some 21),.op (.alloc [(.emp 1),(.emp 1)])),(none,.op (.store 2 (.tmp 21) (.tmp 88))),aa 22 89,aa 23 90]) <|
  .seq (aj [aF 92 4 18,aF 93 2 21,((some 94),.op (.aT 1 1 [(.val (.int .i64 0))] [(0,(.val (.val (.int .i64 0))))])),aJ 95 15 [92,93,94],aa 91 95,bu 96 0 91,bu 97 1 91,bu 98 2 91,aa 24 96,aa 25 97,aa 26 98]) <|
  .seq (aj [((some 100),.op (.aT 16 1 [(.val (.int .u8 0))] [(0,(.val (.val (.int .u8 37)))),(1,(.val (.val (.int .u8 37)))),(2,(.val (.val (.int .u8 32)))),(3,(.val (.val (.int .u8 115)))),(4,(.val (.val (.int .u8 32)))),(5,(.val (.val (.int .u8 58)))),(6,(.val (.val (.int .u8 32)))),(7,(.val (.val (.int .u8 39)))),(8,(.val (.val (.int .u8 97)))),(9,(.val (.val (.int .u8 39)))),(10,(.val (.val (.int .u8 32)))),(11,(.val (.val (.int .u8 39)))),(12,(.val (.val (.int .u8 98)))),(13,(.val (.val (.int .u8 39)))),(14,(.val (.val (.int .u8 32)))),(15,(.val (.val (.int .u8 59))))])),((some 101),.op (.old (.convert 73 73 (.tmp 100)) 73)),aJ 102 41 [101],aa 99 102,bu 103 0 99,bu 104 1 99,bu 105 2 99,((some 27),.op (.alloc [(.emp 1),(.emp 1),(.emp 1),(.val (.int .i64 0))])),(none,.op (.store 4 (.tmp 27) (.tmp 103))),aa 28 104,aa 29 105]) <|
  .seq (aj [aF 107 4 27,aJ 108 23 [107],aa 106 108,bu 109 0 106,bu 110 1 106,bu 111 2 106,((some 30),.op (.alloc [(.emp 1),(.emp 1)])),(none,.op (.store 2 (.tmp 30) (.tmp 109))),aa 31 110,aa 32 111]) <|
  .seq (aj [aF 113 4 27,aF 114 2 30,((some 115),.op (.aT 2 1 [(.val (.int .i64 0))] [(0,(.val (.val (.int .i64 0)))),(1,(.val (.val (.int .i64 0))))])),aJ 116 15 [113,114,115],aa 112 116,bu 117 0 112,bu 118 1 112,bu 119 2 112,aa 33 117,aa 34 118,aa 35 119]) <|
  .seq (.region [] [⟨none,[aa 120 11,au 121 .eql 120 0,aa 122 121]⟩,⟨(some (122,true)),[aa 123 14,au 124 .eql 123 0]⟩,⟨none,[bq 125 122 124,aa 126 125]⟩,⟨(some (126,true)),[aa 127 17,au 128 .eql 127 1]⟩,⟨none,[bq 129 126 128,aa 130 129]⟩,⟨(some (130,true)),[aa 131 26,au 132 .eql 131 14]⟩,⟨none,[bq 133 130 132,aa 134 133]⟩,⟨(some (134,true)),[aa 135 35,au 136 .eql 135 3]⟩,⟨none,[bq 137 134 136,aa 138 137]⟩,⟨(some (138,true)),[aa 139 10,au 140 .eql 139 2]⟩,⟨none,[bq 141 138 140,aa 142 141]⟩,⟨(some (142,true)),[aa 143 13,au 144 .eql 143 2]⟩,⟨none,[bq 145 142 144,aa 146 145]⟩,⟨(some (146,true)),[aa 147 34,au 148 .eql 147 1]⟩,⟨none,[bq 149 146 148,aa 150 149]⟩,⟨(some (150,true)),[aa 151 9,((some 152),.op (.aT 3 1 [(.val (.int .i64 0))] [(0,(.val (.val (.int .i64 1)))),(1,(.val (.val (.int .i64 0)))),(2,(.val (.val (.int .i64 0))))])),aJ 153 17 [151,152]]⟩,⟨none,[bq 154 150 153,aa 155 154]⟩,⟨(some (155,true)),[aa 156 12,aa 157 9,aJ 158 17 [156,157]]⟩,⟨none,[bq 159 155 158,aa 160 159]⟩,⟨(some (160,true)),[aF 161 4 1,((some 162),.op (.aT 1 1 [(.val (.int .i64 0))] [(0,(.val (.val (.int .i64 0))))])),aJ 163 18 [161,162]]⟩,⟨none,[bq 164 160 163,aa 165 164]⟩,⟨(some (165,true)),[aF 166 4 1,((some 167),.op (.aT 1 1 [(.val (.int .i64 0))] [(0,(.val (.val (.int .i64 (-1)))))])),aJ 168 18 [166,167],bC 169 168]⟩,⟨none,[bq 170 165 169,aa 0 170]⟩]) <|
  .ret,
  [.tmp 0],171⟩
theorem so:aO Tryz.prog 11 []=some mO:=by kernel_rfl
def tS:DC :=
  .seq (.seq (aj [aa 40 13,ao 41 0 1,an 42 41,aA 43 42,aC 44 .leq 40 43]) <|
  .cond (.tmp 44) (.skip) (.exit 2)) <|
  .seq (.block 3 (.seq (.region [(11,15)] [⟨none,[aF 48 4 1,aa 49 5,aa 50 11,aD 51 2 49 50,aF 52 2 51,aa 53 7,aa 54 11,aD 55 1 53 54,an 56 55,aa 57 11,aa 58 13,aJ 59 53 [48,52,56,57,58],aa 47 59,bu 60 0 47,bu 61 1 47,((some 14),.op (.alloc [(.val (.int .i64 0)),(.val (.int .i64 0))])),(none,.op (.store 2 (.tmp 14) (.tmp 60))),aa 15 61]⟩]) <|
  .seq (aj [aa 62 12,aF 63 2 14,((some 64),.op (.aT 1 2 [(.val (.int .i64 0)),(.val (.int .i64 0))] [(0,(.tmp 63))])),((some 65),.op (.app 2 16 (.tmp 62) (.tmp 64))),aa 12 65]) <|
  aj [aa 66 10,aa 67 15,((some 68),.op (.app 5 40 (.tmp 66) (.tmp 67))),aa 10 68])) <|
  aj [aa 45 13,au 46 .add 45 1,aa 13 46]
def uG:DC :=
  .seq (.seq (aj [aa 69 17,ao 70 1 1,an 71 70,aA 72 71,aC 73 .lss 69 72]) <|
  .cond (.tmp 73) (.skip) (.exit 4)) <|
  .seq (.block 5 (.seq (aj [aa 77 5,aa 78 11,aa 79 17,((some 80),.op (.arith .sub (.val (.val (.int .i64 (-1)))) (.tmp 79))),((some 81),.op (.aT 1 1 [(.val (.int .i64 0))] [(0,(.tmp 80))])),aJ 82 54 [77,78,81],aa 76 82,bu 83 0 76,bu 84 1 76,aa 18 83,aa 19 84]) <|
  .seq (.seq (aj [aa 85 19,bC 86 85]) <|
  .cond (.tmp 86) (aj [az 18 (-1)]) (.skip)) <|
  aj [aa 87 16,aa 88 18,((some 89),.op (.aT 1 1 [(.val (.int .i64 0))] [(0,(.tmp 88))])),((some 90),.op (.app 1 8 (.tmp 87) (.tmp 89))),aa 16 90])) <|
  aj [aa 74 17,au 75 .add 74 1,aa 17 75]
def ub:DC :=
  .seq (.seq (aj [aa 34 11,aa 35 5,aA 36 35,aC 37 .lss 34 36]) <|
  .cond (.tmp 37) (.skip) (.exit 0)) <|
  .seq (.block 1 (.seq (aj [((some 12),.op (.aX (.val (.emp 1))))]) <|
  .seq (.seq (aj [az 13 0]) <|
  .block 2 (.loop tS)) <|
  .seq (aj [((some 16),.op (.aX (.val (.emp 1))))]) <|
  .seq (.seq (aj [az 17 0]) <|
  .block 4 (.loop uG)) <|
  .region [(4,6),(4,8)] [⟨none,[ao 91 0 9,an 92 91,aa 93 12,((some 94),.op (.aT 1 1 [(.emp 1)] [(0,(.tmp 93))])),((some 95),.op (.app 1 24 (.tmp 92) (.tmp 94))),ao 96 1 9,an 97 96,aa 98 16,((some 99),.op (.aT 1 1 [(.emp 1)] [(0,(.tmp 98))])),((some 100),.op (.app 1 24 (.tmp 97) (.tmp 99))),ao 101 0 9,(none,.op (.store 1 (.tmp 101) (.tmp 95))),ao 102 1 9,(none,.op (.store 1 (.tmp 102) (.tmp 100)))]⟩])) <|
  aj [aa 38 11,au 39 .add 38 1,aa 11 39]
def mz:DF:=⟨.seq (aj [bz 1 0,((some 2),.op (.alloc [(.emp 1),(.emp 1)])),((some 3),.op (.aX (.val (.emp 1)))),az 4 0]) <|
  .seq (aj [aF 21 4 1,aJ 22 51 [21],aa 20 22,bu 23 0 20,bu 24 1 20,aa 5 23,aa 6 24]) <|
  .seq (.seq (aj [aa 25 6,au 26 .neq 25 0]) <|
  .cond (.tmp 26) (.seq (aj [((some 27),.op (.build [(.emp 1),(.emp 1)] [])),aa 28 6,(none,.op (.store 2 (.tmp 2) (.tmp 27))),((some 3),.op (.aX (.val (.emp 1)))),aa 4 28]) <|
  .ret) (.skip)) <|
  .seq (aj [aF 30 4 1,aJ 31 52 [30],aa 29 31,bu 32 0 29,bu 33 1 29,aa 7 32,aa 8 33]) <|
  .seq (aj [((some 9),.op (.alloc [(.emp 1),(.emp 1)]))]) <|
  .seq (aj [((some 10),.op (.aX (.val (.emp 1))))]) <|
  .seq (.seq (aj [az 11 0]) <|
  .block 0 (.loop ub)) <|
  .seq (aj [aF 103 2 9,aa 104 10,(none,.op (.store 2 (.tmp 2) (.tmp 103))),aa 3 104,az 4 0]) <|
  .ret,
  [.cell 2 (some 2),.tmp 3,.tmp 4],105⟩
theorem sm:aO Tryz.prog 23 [1,100000]=some mz:=by kernel_rfl
def wE:DC :=
  .seq (.seq (aj [aa 29 15,aa 30 13,aA 31 30,aC 32 .lss 29 31]) <|
  .cond (.tmp 32) (.skip) (.exit 0)) <|
  .seq (.block 1 (aj [aa 35 14,aa 36 3,aa 37 4,aa 38 13,aa 39 15,aD 40 1 38 39,an 41 40,aa 42 13,((some 43),.op (.idx 1 (.tmp 42) (.val (.val (.int .i64 0))))),an 44 43,((some 45),.op (.build [(.val (.int .i64 0)),(.val (.int .i64 0)),(.val (.int .i64 0)),(.val (.int .i64 0)),(.val (.int .i64 0))] [(0,1,(.tmp 36)),(1,1,(.tmp 37)),(2,1,(.val (.val (.int .i64 5)))),(3,1,(.tmp 41)),(4,1,(.tmp 44))])),((some 46),.op (.aT 1 5 [(.val (.int .i64 0)),(.val (.int .i64 0)),(.val (.int .i64 0)),(.val (.int .i64 0)),(.val (.int .i64 0))] [(0,(.tmp 45))])),((some 47),.op (.app 5 40 (.tmp 35) (.tmp 46))),aa 14 47])) <|
  aj [aa 33 15,au 34 .add 33 1,aa 15 34]
def n0:DF:=⟨.seq (aj [bz 5 0,bz 6 1,((some 10),.op (.alloc [(.val (.int .i64 0)),(.val (.int .i64 0))])),((some 11),.op (.aX (.val (.emp 1))))]) <|
  .seq (aj [aF 18 4 5,aF 19 2 6,aa 20 4,aJ 21 104 [18,19,20],((some 12),.op (.alloc [(.val (.int .i64 0)),(.val (.int .i64 0))])),(none,.op (.store 2 (.tmp 12) (.tmp 21)))]) <|
  .seq (aj [aa 22 2,aa 23 4,aJ 24 105 [22,23],aa 13 24]) <|
  .seq (.seq (aj [aa 25 13,aA 26 25,au 27 .eql 26 0]) <|
  .cond (.tmp 27) (.seq (aj [aF 28 2 12,(none,.op (.store 2 (.tmp 10) (.tmp 28))),((some 11),.op (.aX (.val (.emp 1))))]) <|
  .ret) (.skip)) <|
  .seq (aj [((some 14),.op (.aX (.val (.emp 1))))]) <|
  .seq (.seq (aj [az 15 1]) <|
  .block 0 (.loop wE)) <|
  .seq (aj [aa 48 13,((some 49),.op (.idx 1 (.tmp 48) (.val (.val (.int .i64 0))))),an 50 49,((some 51),.op (.build [(.val (.int .i64 0)),(.val (.int .i64 0))] [(0,1,(.val (.val (.int .i64 2)))),(1,1,(.tmp 50))])),((some 16),.op (.alloc [(.val (.int .i64 0)),(.val (.int .i64 0))])),(none,.op (.store 2 (.tmp 16) (.tmp 51)))]) <|
  .seq (.seq (aj [ao 52 0 12,an 53 52,au 54 .eql 53 0]) <|
  .cond (.tmp 54) (.seq (aj [aF 55 2 16,aa 56 14,(none,.op (.store 2 (.tmp 10) (.tmp 55))),aa 11 56]) <|
  .ret) (.skip)) <|
  .seq (aj [aF 57 4 5,aa 58 13,((some 59),.op (.idx 1 (.tmp 58) (.val (.val (.int .i64 0))))),an 60 59,aa 61 4,aJ 62 106 [57,60,61],aa 17 62]) <|
  .seq (aj [aa 63 14,aa 64 3,aa 65 4,aa 66 17,aa 67 13,((some 68),.op (.idx 1 (.tmp 67) (.val (.val (.int .i64 0))))),an 69 68,((some 70),.op (.build [(.val (.int .i64 0)),(.val (.int .i64 0)),(.val (.int .i64 0)),(.val (.int .i64 0)),(.val (.int .i64 0))] [(0,1,(.tmp 64)),(1,1,(.tmp 65)),(2,1,(.tmp 66)),(3,1,(.tmp 69)),(4,1,(.val (.val (.int .i64 (-1)))))])),((some 71),.op (.aT 1 5 [(.val (.int .i64 0)),(.val (.int .i64 0)),(.val (.int .i64 0)),(.val (.int .i64 0)),(.val (.int .i64 0))] [(0,(.tmp 70))])),((some 72),.op (.app 5 40 (.tmp 63) (.tmp 71))),aa 14 72]) <|
  .seq (.seq (aj [aa 73 17]) <|
  .block 2 (.seq (aj [au 75 .eql 73 1,aa 74 75]) <|
  .cond (.tmp 74) (.seq (aj [aF 76 2 16,aa 77 14,(none,.op (.store 2 (.tmp 10) (.tmp 76))),aa 11 77]) <|
  .ret) (.seq (aj [au 79 .eql 73 3,aa 78 79]) <|
  .cond (.tmp 78) (.seq (aj [((some 80),.op (.build [(.val (.int .i64 0)),(.val (.int .i64 0))] [])),aa 81 14,(none,.op (.store 2 (.tmp 10) (.tmp 80))),aa 11 81]) <|
  .ret) (.skip)))) <|
  .seq (aj [aF 82 2 12,aa 83 14,(none,.op (.store 2 (.tmp 10) (.tmp 82))),aa 11 83]) <|
  .ret,
  [.cell 10 (some 2),.tmp 11],84⟩
theorem uZ:aO Tryz.prog 53 [5,6]=some n0:=by kernel_rfl
def uB:DC :=
  .seq (.seq (aj [aa 9 7,ao 10 1 4,an 11 10,aA 12 11,aC 13 .lss 9 12]) <|
  .cond (.tmp 13) (.skip) (.exit 0)) <|
  .seq (.block 1 (.seq (aj [ao 16 1 4,an 17 16,aa 18 7,aD 19 2 17 18,ao 20 0 19,an 21 20,aa 22 2,aC 23 .eql 21 22]) <|
  .cond (.tmp 23) (.seq (aj [ao 24 1 4,an 25 24,aa 26 7,aD 27 2 25 26,ao 28 1 27,an 29 28,((some 30),.op (.build [(.val (.int .i64 0)),(.val (.int .i64 0))] [(0,1,(.val (.val (.int .i64 1)))),(1,1,(.tmp 29))])),(none,.op (.store 2 (.tmp 6) (.tmp 30)))]) <|
  .ret) (.skip))) <|
  aj [aa 14 7,au 15 .add 14 1,aa 7 15]
def tK:DC :=
  .seq (.seq (aj [aa 31 8,ao 32 0 4,an 33 32,aA 34 33,aC 35 .lss 31 34]) <|
  .cond (.tmp 35) (.skip) (.exit 2)) <|
  .seq (.block 3 (.seq (.region [] [⟨none,[aa 38 2,ao 39 0 3,an 40 39,aA 41 40,aC 42 .eql 38 41,aa 43 42]⟩,⟨(some (43,true)),[ao 44 0 4,an 45 44,aa 46 8,aD 47 2 45 46,aF 48 2 47,((some 49),.op (.build [(.val (.int .i64 0)),(.val (.int .i64 0))] [(0,1,(.val (.val (.int .i64 (-1))))),(1,1,(.val (.val (.int .i64 1))))])),((some 50),.op (.old (.binOp .eql 152 (.tmp 48) (.tmp 49) 152) 4))]⟩,⟨none,[bq 51 43 50]⟩]) <|
  .cond (.tmp 51) (.seq (aj [((some 52),.op (.build [(.val (.int .i64 0)),(.val (.int .i64 0))] [(0,1,(.val (.val (.int .i64 3))))])),(none,.op (.store 2 (.tmp 6) (.tmp 52)))]) <|
  .ret) (.skip))) <|
  aj [aa 36 8,au 37 .add 36 1,aa 8 37]
def mF:DF:=⟨.seq (aj [bz 3 0,bz 4 1,((some 6),.op (.alloc [(.val (.int .i64 0)),(.val (.int .i64 0))]))]) <|
  .seq (.seq (aj [az 7 0]) <|
  .block 0 (.loop uB)) <|
  .seq (.seq (aj [az 8 0]) <|
  .block 2 (.loop tK)) <|
  .seq (aj [((some 53),.op (.build [(.val (.int .i64 0)),(.val (.int .i64 0))] [])),(none,.op (.store 2 (.tmp 6) (.tmp 53)))]) <|
  .ret,
  [.cell 6 (some 2)],54⟩
theorem ta:aO Tryz.prog 104 [3,4]=some mF:=by kernel_rfl
def uJ:DC :=
  .seq (.seq (aj [aa 7 6,aa 8 0,aA 9 8,aC 10 .lss 7 9]) <|
  .cond (.tmp 10) (.skip) (.exit 0)) <|
  .seq (.block 1 (.seq (aj [aa 13 0,aa 14 6,aD 15 2 13 14,ao 16 1 15,an 17 16,aa 18 1,aJ 19 159 [17,18]]) <|
  .cond (.tmp 19) (aj [aa 20 5,aa 21 0,aa 22 6,aD 23 2 21 22,ao 24 0 23,an 25 24,((some 26),.op (.aT 1 1 [(.val (.int .i64 0))] [(0,(.tmp 25))])),((some 27),.op (.app 1 8 (.tmp 20) (.tmp 26))),aa 5 27]) (.skip))) <|
  aj [aa 11 6,au 12 .add 11 1,aa 6 12]
def mw:DF:=⟨.seq (aj [((some 4),.op (.aX (.val (.emp 1))))]) <|
  .seq (aj [((some 5),.op (.aX (.val (.emp 1))))]) <|
  .seq (.seq (aj [az 6 0]) <|
  .block 0 (.loop uJ)) <|
  .seq (aj [aa 28 5,aa 4 28]) <|
  .ret,
  [.tmp 4],29⟩
theorem sK:aO Tryz.prog 105 []=some mw:=by kernel_rfl
def pJ:DF:=⟨.seq (aj [aM 4 false]) <|
  .seq (aj [aa 5 0,aa 6 1,aJ 7 101 [6],aC 8 .and 5 7,((some 9),.op (.arith .neq (.tmp 8) (.val (.val (.int .u32 0))))),aa 4 9]) <|
  .ret,
  [.tmp 4],10⟩
theorem vh:aO Tryz.prog 159 []=some pJ:=by kernel_rfl
def xb:DC :=
  .seq (.seq (aj [aa 11 4,aa 12 0,aC 13 .lss 11 12]) <|
  .cond (.tmp 13) (.skip) (.exit 0)) <|
  .seq (.block 1 (aj [aa 16 3,((some 17),.op (.arith .mul (.tmp 16) (.val (.val (.int .u32 2))))),aa 3 17])) <|
  aj [aa 14 4,au 15 .add 14 1,aa 4 15]
def pH:DF:=⟨.seq (aj [((some 2),.op (.aX (.val (.val (.int .u32 0)))))]) <|
  .seq (.seq (.region [] [⟨none,[aa 5 0,au 6 .lss 5 0,aa 7 6]⟩,⟨(some (7,false)),[aa 8 0,au 9 .gtr 8 31]⟩,⟨none,[aS 10 7 9]⟩]) <|
  .cond (.tmp 10) (.seq (aj [((some 2),.op (.aX (.val (.val (.int .u32 0)))))]) <|
  .ret) (.skip)) <|
  .seq (aj [((some 3),.op (.aX (.val (.val (.int .u32 1)))))]) <|
  .seq (.seq (aj [az 4 0]) <|
  .block 0 (.loop xb)) <|
  .seq (aj [aa 18 3,aa 2 18]) <|
  .ret,
  [.tmp 2],19⟩
theorem vN:aO Tryz.prog 101 []=some pH:=by kernel_rfl
def ma:DF:=⟨.seq (aj [bz 3 0,az 6 0]) <|
  .seq (.seq (.region [] [⟨none,[aF 11 4 3,aJ 12 48 [11],bC 13 12,aa 14 13]⟩,⟨(some (14,false)),[aa 15 1,au 16 .lss 15 0]⟩,⟨none,[aS 17 14 16,aa 18 17]⟩,⟨(some (18,false)),[aa 19 1,ao 20 2 3,an 21 20,aA 22 21,aC 23 .geq 19 22]⟩,⟨none,[aS 24 18 23,aa 25 24]⟩,⟨(some (25,false)),[aa 26 2,au 27 .lss 26 0]⟩,⟨none,[aS 28 25 27,aa 29 28]⟩,⟨(some (29,false)),[aa 30 2,ao 31 0 3,an 32 31,aA 33 32,aC 34 .gtr 30 33]⟩,⟨none,[aS 35 29 34]⟩]) <|
  .cond (.tmp 35) (.seq (aj [az 6 0]) <|
  .ret) (.skip)) <|
  .seq (aj [ao 36 2 3,an 37 36,aa 38 1,aD 39 3 37 38,ao 40 2 39,an 41 40,aa 7 41]) <|
  .seq (.seq (.region [] [⟨none,[aa 42 2,ao 43 0 3,an 44 43,aA 45 44,aC 46 .eql 42 45,aa 47 46]⟩,⟨(some (47,false)),[aa 48 7,au 49 .lss 48 0]⟩,⟨none,[aS 50 47 49,aa 51 50]⟩,⟨(some (51,false)),[ao 52 0 3,an 53 52,aa 54 7,aD 55 3 53 54,ao 56 1 55,an 57 56,au 58 .eql 57 0]⟩,⟨none,[aS 59 51 58,aa 60 59]⟩,⟨(some (60,false)),[ao 61 0 3,an 62 61,aa 63 2,aD 64 3 62 63,ao 65 1 64,an 66 65,au 67 .eql 66 0]⟩,⟨none,[aS 68 60 67]⟩]) <|
  .cond (.tmp 68) (.seq (aj [az 6 4]) <|
  .ret) (.skip)) <|
  .seq (aj [ao 69 0 3,an 70 69,aa 71 7,aD 72 3 70 71,ao 73 1 72,an 74 73,ao 75 0 3,an 76 75,aa 77 2,aD 78 3 76 77,ao 79 1 78,an 80 79,aa 8 74,aa 9 80]) <|
  .seq (aj [ao 81 0 3,an 82 81,aa 83 2,aD 84 3 82 83,ao 85 2 84,an 86 85,aa 10 86]) <|
  .seq (.block 0 (.seq (.region [] [⟨none,[aa 88 8,aa 89 9,aC 90 .gtr 88 89,aa 91 90]⟩,⟨(some (91,false)),[aa 92 8,aa 93 9,aC 94 .eql 92 93,aa 95 94]⟩,⟨(some (95,true)),[aa 96 10,au 97 .eql 96 1]⟩,⟨(some (91,false)),[bq 98 95 97]⟩,⟨none,[aS 99 91 98,aa 87 99]⟩]) <|
  .cond (.tmp 87) (.seq (aj [az 6 1]) <|
  .ret) (.seq (.region [] [⟨none,[aa 101 8,aa 102 9,aC 103 .lss 101 102,aa 104 103]⟩,⟨(some (104,false)),[aa 105 10,au 106 .eql 105 2]⟩,⟨none,[aS 107 104 106,aa 100 107]⟩]) <|
  .cond (.tmp 100) (.seq (aj [az 6 2]) <|
  .ret) (.skip)))) <|
  .seq (aj [az 6 3]) <|
  .ret,
  [.tmp 6],108⟩
theorem rB:aO Tryz.prog 106 [3]=some ma:=by kernel_rfl
def v8:DC :=
  .seq (.seq (.region [] [⟨none,[aa 26 11,aa 27 0,aa 28 1,aD 29 2 27 28,ao 30 1 29,an 31 30,aA 32 31,aC 33 .lss 26 32,aa 34 33]⟩,⟨(some (34,true)),[aa 35 10,bC 36 35]⟩,⟨none,[bq 37 34 36]⟩]) <|
  .cond (.tmp 37) (.skip) (.exit 2)) <|
  .seq (.block 3 (.seq (aj [aa 40 0,aa 41 1,aD 42 2 40 41,ao 43 1 42,an 44 43,aa 45 11,aD 46 2 44 45,ao 47 0 46,an 48 47,aa 49 2,aa 50 8,aD 51 1 49 50,an 52 51,aC 53 .eql 48 52]) <|
  .cond (.tmp 53) (aj [aa 54 0,aa 55 1,aD 56 2 54 55,ao 57 1 56,an 58 57,aa 59 11,aD 60 2 58 59,ao 61 1 60,an 62 61,aa 9 62,aM 10 true]) (.skip))) <|
  aj [aa 38 11,au 39 .add 38 1,aa 11 39]
def vK:DC :=
  .seq (.seq (aj [aa 20 8,aa 21 2,aA 22 21,aC 23 .lss 20 22]) <|
  .cond (.tmp 23) (.skip) (.exit 0)) <|
  .seq (.block 1 (.seq (aj [az 9 (-1),aM 10 false]) <|
  .seq (.seq (aj [az 11 0]) <|
  .block 2 (.loop v8)) <|
  .seq (.seq (.region [] [⟨none,[aa 63 9,au 64 .lss 63 0,aa 65 64]⟩,⟨(some (65,false)),[aa 66 9,aa 67 0,aA 68 67,aC 69 .geq 66 68]⟩,⟨none,[aS 70 65 69]⟩]) <|
  .cond (.tmp 70) (.seq (aj [az 6 0,aM 7 false]) <|
  .ret) (.skip)) <|
  aj [aa 71 9,aa 1 71])) <|
  aj [aa 24 8,au 25 .add 24 1,aa 8 25]
def nZ:DF:=⟨.seq (aj [az 6 0,aM 7 false]) <|
  .seq (.seq (.region [] [⟨none,[aa 12 1,au 13 .lss 12 0,aa 14 13]⟩,⟨(some (14,false)),[aa 15 1,aa 16 0,aA 17 16,aC 18 .geq 15 17]⟩,⟨none,[aS 19 14 18]⟩]) <|
  .cond (.tmp 19) (.seq (aj [az 6 0,aM 7 false]) <|
  .ret) (.skip)) <|
  .seq (.seq (aj [az 8 0]) <|
  .block 0 (.loop vK)) <|
  .seq (aj [aa 72 1,aa 6 72,aM 7 true]) <|
  .ret,
  [.tmp 6,.tmp 7],73⟩
theorem tF:aO Tryz.prog 54 []=some nZ:=by kernel_rfl
def tN:DC :=
  .seq (.seq (aj [aa 31 7,ao 32 0 1,an 33 32,aA 34 33,ao 35 1 1,an 36 35,aA 37 36,aC 38 .add 34 37,aC 39 .lss 31 38]) <|
  .cond (.tmp 39) (.skip) (.exit 2)) <|
  .seq (.block 3 (.seq (aj [aF 42 4 1,aa 43 7,aJ 44 96 [42,43],aa 8 44]) <|
  .seq (aj [aF 45 4 1,aa 46 6,aa 47 8,aJ 48 97 [45,46,47],aa 9 48]) <|
  .seq (.seq (aj [aa 49 9,aA 50 49,au 51 .eql 50 0]) <|
  .cond (.tmp 51) (.exit 3) (.skip)) <|
  .seq (aj [aa 52 4,aa 53 9,aJ 54 98 [52,53],aa 10 54]) <|
  .seq (.seq (aj [aa 55 10,au 56 .lss 55 0]) <|
  .cond (.tmp 56) (.seq (aj [aa 57 4,aA 58 57,aa 10 58]) <|
  aj [aa 59 4,aa 60 9,((some 61),.op (.build [(.emp 1),(.emp 1)] [(0,1,(.tmp 60))])),((some 62),.op (.aT 1 2 [(.emp 1),(.emp 1)] [(0,(.tmp 61))])),((some 63),.op (.app 2 48 (.tmp 59) (.tmp 62))),aa 4 63]) (.skip)) <|
  aj [aa 64 4,aa 65 5,aa 66 4,aa 67 5,aD 68 2 66 67,ao 69 1 68,an 70 69,aa 71 8,aa 72 10,((some 73),.op (.build [(.val (.int .i64 0)),(.val (.int .i64 0))] [(0,1,(.tmp 71)),(1,1,(.tmp 72))])),((some 74),.op (.aT 1 2 [(.val (.int .i64 0)),(.val (.int .i64 0))] [(0,(.tmp 73))])),((some 75),.op (.app 2 16 (.tmp 70) (.tmp 74))),aD 76 2 64 65,ao 77 1 76,(none,.op (.store 1 (.tmp 77) (.tmp 75)))])) <|
  aj [aa 40 7,au 41 .add 40 1,aa 7 41]
def tV:DC :=
  .seq (.seq (aj [aa 18 5,aa 19 4,aA 20 19,aC 21 .lss 18 20]) <|
  .cond (.tmp 21) (.skip) (.exit 0)) <|
  .seq (.block 1 (.seq (aj [aF 24 4 1,aa 25 4,aa 26 5,aD 27 2 25 26,ao 28 0 27,an 29 28,aJ 30 95 [24,29],aa 6 30]) <|
  .seq (.seq (aj [az 7 0]) <|
  .block 2 (.loop tN)) <|
  .seq (aj [aa 78 4,aA 79 78,au 80 .gtr 79 300]) <|
  .cond (.tmp 80) (.seq (aj [((some 2),.op (.aX (.val (.emp 1)))),az 3 5]) <|
  .ret) (.skip))) <|
  aj [aa 22 5,au 23 .add 22 1,aa 5 23]
def mK:DF:=⟨.seq (aj [bz 1 0,((some 2),.op (.aX (.val (.emp 1)))),az 3 0]) <|
  .seq (.seq (aj [aF 11 4 1,aJ 12 38 [11],bC 13 12]) <|
  .cond (.tmp 13) (.seq (aj [((some 2),.op (.aX (.val (.emp 1)))),az 3 1]) <|
  .ret) (.skip)) <|
  .seq (aj [((some 14),.op (.build [(.val (.int .i64 0)),(.val (.int .i64 0))] [(0,1,(.val (.val (.int .i64 (-1)))))])),((some 15),.op (.aT 1 2 [(.val (.int .i64 0)),(.val (.int .i64 0))] [(0,(.tmp 14))])),((some 16),.op (.build [(.emp 1),(.emp 1)] [(0,1,(.tmp 15))])),((some 17),.op (.aT 1 2 [(.emp 1),(.emp 1)] [(0,(.tmp 16))])),aa 4 17]) <|
  .seq (.seq (aj [az 5 0]) <|
  .block 0 (.loop tV)) <|
  .seq (aj [aa 81 4,aa 2 81,az 3 0]) <|
  .ret,
  [.tmp 2,.tmp 3],82⟩
theorem tj:aO Tryz.prog 51 [1]=some mK:=by kernel_rfl
def lS:DF:=⟨.seq (aj [bz 2 0,az 4 0]) <|
  .seq (.seq (aj [aa 5 1,ao 6 0 2,an 7 6,aA 8 7,aC 9 .lss 5 8]) <|
  .cond (.tmp 9) (.seq (aj [aa 10 1,aa 4 10]) <|
  .ret) (.skip)) <|
  .seq (aj [aa 11 1,ao 12 0 2,an 13 12,aA 14 13,aC 15 .sub 11 14,((some 16),.op (.arith .sub (.val (.val (.int .i64 (-1)))) (.tmp 15))),aa 4 16]) <|
  .ret,
  [.tmp 4],17⟩
theorem rm:aO Tryz.prog 96 [2]=some lS:=by kernel_rfl
def uu:DC :=
  .seq (.seq (aj [aa 11 8,aa 12 1,aA 13 12,aC 14 .lss 11 13]) <|
  .cond (.tmp 14) (.skip) (.exit 0)) <|
  .seq (.block 1 (.seq (aj [aF 18 4 3,aa 19 1,aa 20 8,aD 21 2 19 20,aF 22 2 21,aJ 23 155 [18,22],aa 17 23,bu 24 0 17,bu 25 1 17,aa 9 24,aa 10 25]) <|
  .seq (.region [] [⟨none,[aa 26 10,aa 27 26]⟩,⟨(some (27,true)),[aa 28 9,aa 29 2,aC 30 .eql 28 29]⟩,⟨none,[bq 31 27 30]⟩]) <|
  .cond (.tmp 31) (aj [aa 32 7,aa 33 1,aa 34 8,aD 35 2 33 34,ao 36 0 35,an 37 36,aa 38 1,aa 39 8,aD 40 2 38 39,ao 41 1 40,an 42 41,au 43 .add 42 1,((some 44),.op (.build [(.val (.int .i64 0)),(.val (.int .i64 0))] [(0,1,(.tmp 37)),(1,1,(.tmp 43))])),aJ 45 154 [32,44],aa 7 45]) (.skip))) <|
  aj [aa 15 8,au 16 .add 15 1,aa 8 16]
def mV:DF:=⟨.seq (aj [bz 3 0,((some 6),.op (.aX (.val (.emp 1))))]) <|
  .seq (aj [((some 7),.op (.aX (.val (.emp 1))))]) <|
  .seq (.seq (aj [az 8 0]) <|
  .block 0 (.loop uu)) <|
  .seq (aj [aa 46 7,aa 6 46]) <|
  .ret,
  [.tmp 6],47⟩
theorem sQ:aO Tryz.prog 97 [3]=some mV:=by kernel_rfl
def oO:DF:=⟨.seq (aj [bz 2 0,bz 3 1,az 4 0,aM 5 false]) <|
  .seq (aj [aF 7 4 2,ao 8 0 3,an 9 8,aJ 10 200 [7,9],aa 6 10]) <|
  .seq (.seq (aj [ao 11 1 3,an 12 11,aa 13 6,aA 14 13,aC 15 .eql 12 14]) <|
  .cond (.tmp 15) (.seq (aj [az 4 0,aM 5 false]) <|
  .ret) (.skip)) <|
  .seq (aj [aa 16 6,ao 17 1 3,an 18 17,aD 19 1 16 18,an 20 19,aa 4 20,aM 5 true]) <|
  .ret,
  [.tmp 4,.tmp 5],21⟩
theorem uV:aO Tryz.prog 155 [2,3]=some oO:=by kernel_rfl
def mE:DF:=⟨.seq (aj [bz 2 0,((some 4),.op (.aX (.val (.emp 1))))]) <|
  .seq (.seq (aj [aa 5 1,au 6 .eql 5 (-1)]) <|
  .cond (.tmp 6) (.seq (aj [ao 7 3 2,an 8 7,((some 9),.op (.arith .sub (.val (.val (.int .i64 (-1)))) (.tmp 8))),((some 10),.op (.aT 1 1 [(.val (.int .i64 0))] [(0,(.tmp 9))])),aa 4 10]) <|
  .ret) (.skip)) <|
  .seq (aj [ao 11 2 2,an 12 11,aa 13 1,aD 14 3 12 13,ao 15 1 14,an 16 15,aa 4 16]) <|
  .ret,
  [.tmp 4],17⟩
theorem sL:aO Tryz.prog 200 [2]=some mE:=by kernel_rfl
def w9:DC :=
  .seq (.seq (.region [] [⟨none,[aa 7 5,aa 8 0,aA 9 8,aC 10 .lss 7 9,aa 11 10]⟩,⟨(some (11,true)),[aa 12 0,aa 13 5,aD 14 2 12 13,aF 15 2 14,aF 16 2 3,aJ 17 199 [15,16]]⟩,⟨none,[bq 18 11 17]⟩]) <|
  .cond (.tmp 18) (.skip) (.exit 0)) <|
  .block 1 (aj [aa 19 5,au 20 .add 19 1,aa 5 20])
def pE:DF:=⟨.seq (aj [bz 3 1,((some 4),.op (.aX (.val (.emp 1))))]) <|
  .seq (aj [az 5 0]) <|
  .seq (.block 0 (.loop w9)) <|
  .seq (.seq (.region [] [⟨none,[aa 21 5,aa 22 0,aA 23 22,aC 24 .lss 21 23,aa 25 24]⟩,⟨(some (25,true)),[aa 26 0,aa 27 5,aD 28 2 26 27,aF 29 2 28,aF 30 2 3,((some 31),.op (.old (.binOp .eql 152 (.tmp 29) (.tmp 30) 152) 4))]⟩,⟨none,[bq 32 25 31]⟩]) <|
  .cond (.tmp 32) (.seq (aj [aa 33 0,aa 4 33]) <|
  .ret) (.skip)) <|
  .seq (aj [((some 34),.op (.aX (.val (.emp 2)))),aa 35 0,aa 36 5,((some 37),.op (.slice 2 (.tmp 35) (some (.tmp 36)) none)),((some 38),.op (.app 2 16 (.tmp 34) (.tmp 37))),aa 6 38]) <|
  .seq (aj [aa 39 0,aa 40 5,((some 41),.op (.slice 2 (.tmp 39) none (some (.tmp 40)))),aF 42 2 3,((some 43),.op (.aT 1 2 [(.val (.int .i64 0)),(.val (.int .i64 0))] [(0,(.tmp 42))])),((some 44),.op (.app 2 16 (.tmp 41) (.tmp 43))),aa 45 6,((some 46),.op (.app 2 16 (.tmp 44) (.tmp 45))),aa 4 46]) <|
  .ret,
  [.tmp 4],47⟩
theorem wk:aO Tryz.prog 154 [3]=some pE:=by kernel_rfl
def oS:DF:=⟨.seq (aj [bz 2 0,bz 3 1,aM 4 false]) <|
  .seq (.region [] [⟨none,[ao 5 0 2,an 6 5,ao 7 0 3,an 8 7,aC 9 .lss 6 8,aa 10 9]⟩,⟨(some (10,false)),[ao 11 0 2,an 12 11,ao 13 0 3,an 14 13,aC 15 .eql 12 14,aa 16 15]⟩,⟨(some (16,true)),[ao 17 1 2,an 18 17,ao 19 1 3,an 20 19,aC 21 .lss 18 20]⟩,⟨(some (10,false)),[bq 22 16 21]⟩,⟨none,[aS 23 10 22,aa 4 23]⟩]) <|
  .ret,
  [.tmp 4],24⟩
theorem uT:aO Tryz.prog 199 [2,3]=some oS:=by kernel_rfl
def vL:DC :=
  .seq (.seq (aj [aa 6 5,aa 7 0,aA 8 7,aC 9 .lss 6 8]) <|
  .cond (.tmp 9) (.skip) (.exit 0)) <|
  .seq (.block 1 (.seq (aj [aa 12 0,aa 13 5,aD 14 2 12 13,ao 15 0 14,an 16 15,aa 17 1,aJ 18 156 [16,17]]) <|
  .cond (.tmp 18) (.seq (aj [aa 19 5,aa 4 19]) <|
  .ret) (.skip))) <|
  aj [aa 10 5,au 11 .add 10 1,aa 5 11]
def og:DF:=⟨.seq (aj [az 4 0]) <|
  .seq (.seq (aj [az 5 0]) <|
  .block 0 (.loop vL)) <|
  .seq (aj [az 4 (-1)]) <|
  .ret,
  [.tmp 4],20⟩
theorem uI:aO Tryz.prog 98 []=some og:=by kernel_rfl
def uX:DC :=
  .seq (.seq (aj [aa 11 5,aa 12 0,aA 13 12,aC 14 .lss 11 13]) <|
  .cond (.tmp 14) (.skip) (.exit 0)) <|
  .seq (.block 1 (.seq (aj [aa 17 0,aa 18 5,aD 19 2 17 18,aF 20 2 19,aa 21 1,aa 22 5,aD 23 2 21 22,aF 24 2 23,((some 25),.op (.old (.binOp .neq 152 (.tmp 20) (.tmp 24) 152) 4))]) <|
  .cond (.tmp 25) (.seq (aj [aM 4 false]) <|
  .ret) (.skip))) <|
  aj [aa 15 5,au 16 .add 15 1,aa 5 16]
def mL:DF:=⟨.seq (aj [aM 4 false]) <|
  .seq (.seq (aj [aa 6 0,aA 7 6,aa 8 1,aA 9 8,aC 10 .neq 7 9]) <|
  .cond (.tmp 10) (.seq (aj [aM 4 false]) <|
  .ret) (.skip)) <|
  .seq (.seq (aj [az 5 0]) <|
  .block 0 (.loop uX)) <|
  .seq (aj [aM 4 true]) <|
  .ret,
  [.tmp 4],26⟩
theorem sD:aO Tryz.prog 156 []=some mL:=by kernel_rfl
def rA:DC :=
  .seq (.seq (aj [aa 12 6,aa 13 1,aA 14 13,aC 15 .lss 12 14]) <|
  .cond (.tmp 15) (.skip) (.exit 0)) <|
  .seq (.block 1 (aj [aa 18 5,aa 19 1,aa 20 6,aD 21 2 19 20,aF 22 2 21,aJ 23 154 [18,22],aa 5 23])) <|
  aj [aa 16 6,au 17 .add 16 1,aa 6 17]
def rE:DC :=
  .seq (.seq (.region [] [⟨none,[aa 41 9,aa 42 41]⟩,⟨(some (42,true)),[aa 43 8,au 44 .lss 43 0]⟩,⟨none,[bq 45 42 44,aa 46 45]⟩,⟨(some (46,true)),[aa 47 11,ao 48 2 2,an 49 48,aA 50 49,aC 51 .lss 47 50]⟩,⟨none,[bq 52 46 51]⟩]) <|
  .cond (.tmp 52) (.skip) (.exit 4)) <|
  .seq (.block 5 (.seq (aj [ao 55 2 2,an 56 55,aa 57 11,aD 58 3 56 57,ao 59 0 58,an 60 59,aa 61 8,((some 62),.op (.arith .sub (.val (.val (.int .i64 (-1)))) (.tmp 61))),aC 63 .eql 60 62]) <|
  .cond (.tmp 63) (aj [aa 64 5,aa 65 11,((some 66),.op (.build [(.val (.int .i64 0)),(.val (.int .i64 0))] [(0,1,(.tmp 65))])),aJ 67 154 [64,66],aa 5 67]) (.skip))) <|
  aj [aa 53 11,au 54 .add 53 1,aa 11 54]
def rv:DC :=
  .seq (.seq (aj [aa 24 7,aa 25 5,aA 26 25,aC 27 .lss 24 26]) <|
  .cond (.tmp 27) (.skip) (.exit 2)) <|
  .seq (.block 3 (.seq (aj [aF 31 4 2,aa 32 5,aa 33 7,aD 34 2 32 33,aF 35 2 34,aJ 36 155 [31,35],aa 30 36,bu 37 0 30,bu 38 1 30,aa 8 37,aa 9 38]) <|
  .seq (aj [aa 39 5,aA 40 39,aa 10 40]) <|
  .seq (.seq (aj [az 11 0]) <|
  .block 4 (.loop rE)) <|
  .seq (aj [aa 68 5,aA 69 68,aa 70 10,aC 71 .gtr 69 70]) <|
  .cond (.tmp 71) (aj [az 7 (-1)]) (.skip))) <|
  aj [aa 28 7,au 29 .add 28 1,aa 7 29]
def k6:DF:=⟨.seq (aj [bz 2 0,((some 4),.op (.aX (.val (.emp 1))))]) <|
  .seq (aj [((some 5),.op (.aX (.val (.emp 1))))]) <|
  .seq (.seq (aj [az 6 0]) <|
  .block 0 (.loop rA)) <|
  .seq (.seq (aj [az 7 0]) <|
  .block 2 (.loop rv)) <|
  .seq (aj [aa 72 5,aa 4 72]) <|
  .ret,
  [.tmp 4],73⟩
theorem qX:aO Tryz.prog 95 [2]=some k6:=by kernel_rfl
def xX:DC :=
  .seq (.seq (aj [aa 29 7,aa 30 4,aA 31 30,aC 32 .lss 29 31]) <|
  .cond (.tmp 32) (.skip) (.exit 0)) <|
  .seq (.block 1 (.seq (aj [aF 35 4 1,aa 36 4,aa 37 7,aD 38 2 36 37,ao 39 0 38,an 40 39,aJ 41 99 [35,40],aa 8 41]) <|
  .seq (aj [aa 42 6,aa 43 6,bh 44 43,ao 45 5 44,an 46 45,aa 47 8,((some 48),.op (.aT 1 1 [(.emp 1)] [(0,(.tmp 47))])),((some 49),.op (.app 1 24 (.tmp 46) (.tmp 48))),bh 50 42,ao 51 5 50,(none,.op (.store 1 (.tmp 51) (.tmp 49)))]) <|
  aj [aa 52 6,aa 53 6,bh 54 53,ao 55 6 54,an 56 55,aa 57 8,aA 58 57,((some 59),.op (.make 1 4 [(.val (.int .u32 0))] (.tmp 58) (.tmp 58))),((some 60),.op (.aT 1 1 [(.emp 1)] [(0,(.tmp 59))])),((some 61),.op (.app 1 24 (.tmp 56) (.tmp 60))),bh 62 52,ao 63 6 62,(none,.op (.store 1 (.tmp 63) (.tmp 61)))])) <|
  aj [aa 33 7,au 34 .add 33 1,aa 7 34]
def xB:DC :=
  .seq (.seq (aj [aa 84 10,aa 85 6,bh 86 85,ao 87 5 86,an 88 87,aa 89 9,aD 90 1 88 89,an 91 90,aA 92 91,aC 93 .lss 84 92]) <|
  .cond (.tmp 93) (.skip) (.exit 6)) <|
  .seq (.block 7 (aj [aa 96 6,aa 97 9,aa 98 10,aJ 99 102 [96,97,98]])) <|
  aj [aa 94 10,au 95 .add 94 1,aa 10 95]
def xJ:DC :=
  .seq (.seq (aj [aa 78 9,aa 79 4,aA 80 79,aC 81 .lss 78 80]) <|
  .cond (.tmp 81) (.skip) (.exit 4)) <|
  .seq (.block 5 (.seq (aj [az 10 0]) <|
  .block 6 (.loop xB))) <|
  aj [aa 82 9,au 83 .add 82 1,aa 9 83]
def yy:DC :=
  .seq (.seq (aj [aa 71 6,bh 72 71,ao 73 7 72,an 74 73]) <|
  .cond (.tmp 74) (.skip) (.exit 2)) <|
  .block 3 (.seq (aj [aa 75 6,bh 76 75,ao 77 7 76,(none,.op (.store 1 (.tmp 77) (.val (.val (.bool false)))))]) <|
  .seq (aj [az 9 0]) <|
  .block 4 (.loop xJ))
def yr:DC :=
  .seq (.seq (aj [aa 106 14,aa 107 6,bh 108 107,ao 109 5 108,an 110 109,aa 111 12,aD 112 1 110 111,an 113 112,aA 114 113,aC 115 .lss 106 114]) <|
  .cond (.tmp 115) (.skip) (.exit 10)) <|
  .seq (.block 11 (.seq (aj [aF 119 4 1,aa 120 6,bh 121 120,ao 122 5 121,an 123 122,aa 124 12,aD 125 1 123 124,an 126 125,aa 127 14,aD 128 2 126 127,aF 129 2 128,aJ 130 103 [119,129],aa 118 130,bu 131 0 118,bu 132 1 118,aa 15 131,aa 16 132]) <|
  .seq (.region [] [⟨none,[aa 133 16,bC 134 133,aa 135 134]⟩,⟨(some (135,true)),[aa 136 6,bh 137 136,ao 138 5 137,an 139 138,aa 140 12,aD 141 1 139 140,an 142 141,aa 143 14,aD 144 2 142 143,ao 145 0 144,an 146 145,au 147 .geq 146 0]⟩,⟨none,[bq 148 135 147]⟩]) <|
  .cond (.tmp 148) (aj [aa 149 13,aa 150 6,bh 151 150,ao 152 5 151,an 153 152,aa 154 12,aD 155 1 153 154,an 156 155,aa 157 14,aD 158 2 156 157,ao 159 0 158,an 160 159,aa 161 6,bh 162 161,ao 163 6 162,an 164 163,aa 165 12,aD 166 1 164 165,an 167 166,aa 168 14,aD 169 1 167 168,an 170 169,((some 171),.op (.build [(.val (.int .i64 0)),(.val (.int .u32 0))] [(0,1,(.tmp 160)),(1,1,(.tmp 170))])),((some 172),.op (.aT 1 2 [(.val (.int .i64 0)),(.val (.int .u32 0))] [(0,(.tmp 171))])),((some 173),.op (.app 2 16 (.tmp 149) (.tmp 172))),aa 13 173]) (.skip))) <|
  aj [aa 116 14,au 117 .add 116 1,aa 14 117]
def xx:DC :=
  .seq (.seq (aj [aa 100 12,aa 101 4,aA 102 101,aC 103 .lss 100 102]) <|
  .cond (.tmp 103) (.skip) (.exit 8)) <|
  .seq (.block 9 (.seq (aj [((some 13),.op (.aX (.val (.emp 1))))]) <|
  .seq (.seq (aj [az 14 0]) <|
  .block 10 (.loop yr)) <|
  aj [aa 174 11,aa 175 13,((some 176),.op (.aT 1 1 [(.emp 1)] [(0,(.tmp 175))])),((some 177),.op (.app 1 24 (.tmp 174) (.tmp 176))),aa 11 177])) <|
  aj [aa 104 12,au 105 .add 104 1,aa 12 105]
def qG:DF:=⟨.seq (aj [bz 1 0,((some 2),.op (.aX (.val (.emp 1)))),az 3 0]) <|
  .seq (aj [aF 18 4 1,aJ 19 51 [18],aa 17 19,bu 20 0 17,bu 21 1 17,aa 4 20,aa 5 21]) <|
  .seq (.seq (aj [aa 22 5,au 23 .neq 22 0]) <|
  .cond (.tmp 23) (.seq (aj [aa 24 5,((some 2),.op (.aX (.val (.emp 1)))),aa 3 24]) <|
  .ret) (.skip)) <|
  .seq (aj [aF 25 4 1,aa 26 4,((some 27),.op (.build [(.emp 1),(.emp 1),(.emp 1),(.val (.int .i64 0)),(.emp 1),(.emp 1),(.emp 1),(.val (.bool false))] [(0,4,(.tmp 25)),(4,1,(.tmp 26))])),((some 28),.op (.box (.tmp 27))),aa 6 28]) <|
  .seq (.seq (aj [az 7 0]) <|
  .block 0 (.loop xX)) <|
  .seq (aj [aa 64 6,((some 65),.op (.build [(.val (.int .i64 0)),(.val (.int .i64 0))] [(0,1,(.val (.val (.int .i64 (-1)))))])),ao 66 0 1,an 67 66,aA 68 67,aJ 69 101 [68],b6 70 100 [(.tmp 64),(.val (.val (.int .i64 0))),(.tmp 65),(.tmp 69)]]) <|
  .seq (.block 2 (.loop yy)) <|
  .seq (aj [((some 11),.op (.aX (.val (.emp 1))))]) <|
  .seq (.seq (aj [az 12 0]) <|
  .block 8 (.loop xx)) <|
  .seq (aj [aa 178 11,aa 2 178,az 3 0]) <|
  .ret,
  [.tmp 2,.tmp 3],179⟩
theorem xh:aO Tryz.prog 52 [1]=some qG:=by kernel_rfl
def rp:DC :=
  .seq (.seq (aj [aa 7 6,aa 8 1,aA 9 8,aC 10 .lss 7 9]) <|
  .cond (.tmp 10) (.skip) (.exit 0)) <|
  .seq (.block 1 (.seq (aj [aF 13 4 2,aa 14 1,aa 15 6,aD 16 2 14 15,aF 17 2 16,aJ 18 157 [13,17]]) <|
  .cond (.tmp 18) (aj [aa 19 5,aa 20 1,aa 21 6,aD 22 2 20 21,aF 23 2 22,((some 24),.op (.aT 1 2 [(.val (.int .i64 0)),(.val (.int .i64 0))] [(0,(.tmp 23))])),((some 25),.op (.app 2 16 (.tmp 19) (.tmp 24))),aa 5 25]) (.skip))) <|
  aj [aa 11 6,au 12 .add 11 1,aa 6 12]
def kz:DF:=⟨.seq (aj [bz 2 0,((some 4),.op (.aX (.val (.emp 1))))]) <|
  .seq (aj [((some 5),.op (.aX (.val (.emp 1))))]) <|
  .seq (.seq (aj [az 6 0]) <|
  .block 0 (.loop rp)) <|
  .seq (.seq (aj [aa 26 5,aA 27 26,au 28 .eql 27 0]) <|
  .cond (.tmp 28) (.seq (aj [((some 4),.op (.aX (.val (.emp 1))))]) <|
  .ret) (.skip)) <|
  .seq (aj [aF 29 4 2,aa 30 5,aJ 31 95 [29,30],aa 4 31]) <|
  .ret,
  [.tmp 4],32⟩
theorem qU:aO Tryz.prog 99 [2]=some kz:=by kernel_rfl
def pA:DF:=⟨.seq (aj [bz 2 0,bz 3 1,aM 4 false]) <|
  .seq (.region [(22,26)] [⟨none,[aF 5 4 2,aJ 6 48 [5],aa 7 6]⟩,⟨(some (7,true)),[ao 8 0 3,an 9 8,au 10 .geq 9 (-1)]⟩,⟨none,[bq 11 7 10,aa 12 11]⟩,⟨(some (12,true)),[ao 13 0 3,an 14 13,ao 15 2 2,an 16 15,aA 17 16,aC 18 .lss 14 17]⟩,⟨none,[bq 19 12 18,aa 20 19]⟩,⟨(some (20,true)),[ao 21 1 3,an 22 21,au 23 .geq 22 0]⟩,⟨none,[bq 24 20 23,aa 25 24]⟩,⟨(some (25,true)),[ao 26 1 3,an 27 26,aF 28 4 2,ao 29 0 3,an 30 29,aJ 31 200 [28,30],aA 32 31,aC 33 .leq 27 32]⟩,⟨none,[bq 34 25 33,aa 4 34]⟩]) <|
  .ret,
  [.tmp 4],35⟩
theorem vG:aO Tryz.prog 157 [2,3]=some pA:=by kernel_rfl
def qd:DC :=
  .seq (.seq (aj [aa 96 13,aa 97 0,bh 98 97,ao 99 0 98,ao 100 2 99,an 101 100,aA 102 101,aC 103 .lss 96 102]) <|
  .cond (.tmp 103) (.skip) (.exit 0)) <|
  .seq (.block 1 (.seq (aj [aa 106 0,bh 107 106,ao 108 0 107,ao 109 2 108,an 110 109,aa 111 13,aD 112 3 110 111,ao 113 0 112,an 114 113,aa 115 8,((some 116),.op (.arith .sub (.val (.val (.int .i64 (-1)))) (.tmp 115))),aC 117 .eql 114 116]) <|
  .cond (.tmp 117) (aj [aa 118 0,aa 119 1,aa 120 13,((some 121),.op (.build [(.val (.int .i64 0)),(.val (.int .i64 0))] [(0,1,(.tmp 120))])),aa 122 7,aJ 123 100 [118,119,121,122]]) (.skip))) <|
  aj [aa 104 13,au 105 .add 104 1,aa 13 105]
def jx:DF:=⟨.seq (.region [(13,21),(16,21),(19,21)] [⟨none,[aa 14 0,bh 15 14,ao 16 5 15,an 17 16,aa 18 1,aD 19 1 17 18,an 20 19,aa 21 2,aD 22 2 20 21,aF 23 2 22,aa 24 0,bh 25 24,ao 26 6 25,an 27 26,aa 28 1,aD 29 1 27 28,an 30 29,aa 31 2,aD 32 1 30 31,an 33 32,((some 6),.op (.alloc [(.val (.int .i64 0)),(.val (.int .i64 0))])),(none,.op (.store 2 (.tmp 6) (.tmp 23))),aa 7 33]⟩]) <|
  .seq (aj [aa 35 0,bh 36 35,ao 37 0 36,aF 38 4 37,aF 39 2 6,aJ 40 103 [38,39],aa 34 40,bu 41 0 34,bu 42 1 34,aa 8 41,aa 9 42]) <|
  .seq (.seq (.region [] [⟨none,[aa 43 9,bC 44 43,aa 45 44]⟩,⟨(some (45,false)),[aa 46 7,((some 47),.op (.arith .eql (.tmp 46) (.val (.val (.int .u32 0)))))]⟩,⟨none,[aS 48 45 47]⟩]) <|
  .cond (.tmp 48) (.ret) (.skip)) <|
  .seq (aj [aa 50 0,bh 51 50,ao 52 4 51,an 53 52,aa 54 1,aa 55 8,((some 56),.op (.aT 1 1 [(.val (.int .i64 0))] [(0,(.tmp 55))])),aJ 57 54 [53,54,56],aa 49 57,bu 58 0 49,bu 59 1 49,aa 10 58,aa 11 59]) <|
  .seq (aj [aa 60 0,aa 61 10,ao 62 0 6,an 63 62,ao 64 1 6,an 65 64,au 66 .add 65 1,((some 67),.op (.build [(.val (.int .i64 0)),(.val (.int .i64 0))] [(0,1,(.tmp 63)),(1,1,(.tmp 66))])),aa 68 7,aJ 69 100 [60,61,67,68]]) <|
  .seq (.seq (aj [aa 70 8,au 71 .geq 70 0]) <|
  .cond (.tmp 71) (.ret) (.skip)) <|
  .seq (aj [((some 12),.op (.aX (.val (.emp 1))))]) <|
  .seq (.seq (aj [ao 72 0 6,an 73 72,au 74 .geq 73 0]) <|
  .cond (.tmp 74) (aj [aa 75 0,bh 76 75,ao 77 0 76,ao 78 2 77,an 79 78,ao 80 0 6,an 81 80,aD 82 3 79 81,ao 83 1 82,an 84 83,ao 85 1 6,an 86 85,au 87 .add 86 1,((some 88),.op (.slice 1 (.tmp 84) (some (.tmp 87)) none)),aa 12 88]) (.skip)) <|
  .seq (aj [aa 89 0,bh 90 89,ao 91 0 90,aF 92 4 91,aa 93 12,aa 94 7,aJ 95 158 [92,93,94],aa 7 95]) <|
  .seq (aj [az 13 0]) <|
  .block 0 (.loop qd),
  [],124⟩
theorem pa:aO Tryz.prog 102 []=some jx:=by kernel_rfl
def p7:DC :=
  .seq (.seq (aj [aa 9 8,aa 10 0,bh 11 10,ao 12 5 11,an 13 12,aa 14 1,aD 15 1 13 14,an 16 15,aA 17 16,aC 18 .lss 9 17]) <|
  .cond (.tmp 18) (.skip) (.exit 0)) <|
  .seq (.block 1 (.seq (.region [] [⟨none,[aa 21 0,bh 22 21,ao 23 5 22,an 24 23,aa 25 1,aD 26 1 24 25,an 27 26,aa 28 8,aD 29 2 27 28,aF 30 2 29,aF 31 2 6,((some 32),.op (.old (.binOp .eql 152 (.tmp 30) (.tmp 31) 152) 4)),aa 33 32]⟩,⟨(some (33,true)),[aa 34 3,aa 35 0,bh 36 35,ao 37 6 36,an 38 37,aa 39 1,aD 40 1 38 39,an 41 40,aa 42 8,aD 43 1 41 42,an 44 43,aC 45 .andNot 34 44,((some 46),.op (.arith .neq (.tmp 45) (.val (.val (.int .u32 0)))))]⟩,⟨none,[bq 47 33 46]⟩]) <|
  .cond (.tmp 47) (.seq (aj [aa 48 0,bh 49 48,ao 50 6 49,an 51 50,aa 52 1,aD 53 1 51 52,an 54 53,aa 55 8,aa 56 0,bh 57 56,ao 58 6 57,an 59 58,aa 60 1,aD 61 1 59 60,an 62 61,aa 63 8,aD 64 1 62 63,an 65 64,aa 66 3,aC 67 .or 65 66,aD 68 1 54 55,(none,.op (.store 1 (.tmp 68) (.tmp 67)))]) <|
  aj [aa 69 0,bh 70 69,ao 71 7 70,(none,.op (.store 1 (.tmp 71) (.val (.val (.bool true)))))]) (.skip))) <|
  aj [aa 19 8,au 20 .add 19 1,aa 8 20]
def jw:DF:=⟨.seq (aj [bz 6 2]) <|
  .seq (aj [az 8 0]) <|
  .block 0 (.loop p7),
  [],72⟩
theorem oU:aO Tryz.prog 100 [6]=some jw:=by kernel_rfl
def oz:DF:=⟨.seq (aj [bz 2 0,bz 3 1,az 4 0,aM 5 false]) <|
  .seq (.seq (aj [aF 6 4 2,aF 7 2 3,aJ 8 157 [6,7],bC 9 8]) <|
  .cond (.tmp 9) (.seq (aj [az 4 0,aM 5 false]) <|
  .ret) (.skip)) <|
  .seq (aj [aF 10 4 2,aF 11 2 3,aJ 12 155 [10,11],bu 13 0 12,bu 14 1 12,aa 4 13,aa 5 14]) <|
  .ret,
  [.tmp 4,.tmp 5],15⟩
theorem uc:aO Tryz.prog 103 [2,3]=some oz:=by kernel_rfl
def xM:DC :=
  .seq (.seq (aj [aa 11 7,aa 12 1,aA 13 12,aC 14 .lss 11 13]) <|
  .cond (.tmp 14) (.skip) (.exit 0)) <|
  .seq (.block 1 (.seq (aj [aF 17 4 3,aa 18 1,aa 19 7,aD 20 1 18 19,an 21 20,aJ 22 143 [17,21],bC 23 22]) <|
  .cond (.tmp 23) (.seq (aj [((some 6),.op (.aX (.val (.val (.int .u32 0)))))]) <|
  .ret) (.skip))) <|
  aj [aa 15 7,au 16 .add 15 1,aa 7 16]
def qw:DF:=⟨.seq (aj [bz 3 0,((some 6),.op (.aX (.val (.val (.int .u32 0)))))]) <|
  .seq (.seq (aj [aF 8 4 3,aJ 9 48 [8],bC 10 9]) <|
  .cond (.tmp 10) (.seq (aj [((some 6),.op (.aX (.val (.val (.int .u32 0)))))]) <|
  .ret) (.skip)) <|
  .seq (.seq (aj [az 7 0]) <|
  .block 0 (.loop xM)) <|
  .seq (.region [(2,3)] [⟨none,[aa 24 1,aF 25 4 3,aJ 26 202 [25],aF 27 4 3,aJ 28 203 [27],aa 29 2,aJ 30 201 [24,26,28,29],aa 6 30]⟩]) <|
  .ret,
  [.tmp 6],31⟩
theorem w8:aO Tryz.prog 158 [3]=some qw:=by kernel_rfl
def pG:DF:=⟨.seq (aj [bz 2 0,aM 4 false]) <|
  .seq (.seq (aj [aa 5 1,au 6 .geq 5 0]) <|
  .cond (.tmp 6) (.seq (aj [aa 7 1,ao 8 0 2,an 9 8,aA 10 9,aC 11 .lss 7 10,aa 4 11]) <|
  .ret) (.skip)) <|
  .seq (aj [aa 12 1,((some 13),.op (.arith .sub (.val (.val (.int .i64 (-1)))) (.tmp 12))),ao 14 1 2,an 15 14,aA 16 15,aC 17 .lss 13 16,aa 4 17]) <|
  .ret,
  [.tmp 4],18⟩
theorem vY:aO Tryz.prog 143 [2]=some pG:=by kernel_rfl
def jU:DF:=⟨.seq (aj [bz 1 0,((some 2),.op (.aX (.val (.emp 1))))]) <|
  .seq (aj [aF 3 4 1,b6 4 174 [(.tmp 3),(.val (.val (.bool false)))],aa 2 4]) <|
  .ret,
  [.tmp 2],5⟩
theorem pM:aO Tryz.prog 202 [1]=some jU:=by kernel_rfl
def uL:DC :=
  .seq (.seq (aj [aa 22 7,ao 23 2 2,an 24 23,aA 25 24,aC 26 .lss 22 25]) <|
  .cond (.tmp 26) (.skip) (.exit 2)) <|
  .seq (.block 3 (.seq (aj [ao 29 2 2,an 30 29,aa 31 7,aD 32 3 30 31,ao 33 1 32,an 34 33,aa 35 5,aa 36 1,aJ 37 117 [34,35,36]]) <|
  .cond (.tmp 37) (aj [aa 38 5,ao 39 2 2,an 40 39,aa 41 7,aD 42 3 40 41,ao 43 0 42,an 44 43,aD 45 1 38 44,(none,.op (.store 1 (.tmp 45) (.val (.val (.bool true)))))]) (.skip))) <|
  aj [aa 27 7,au 28 .add 27 1,aa 7 28]
def tO:DC :=
  .seq (.seq (aj [aa 15 6,ao 16 1 2,an 17 16,aA 18 17,aC 19 .lss 15 18]) <|
  .cond (.tmp 19) (.skip) (.exit 0)) <|
  .seq (.block 1 (.seq (aj [az 7 0]) <|
  .block 2 (.loop uL))) <|
  aj [aa 20 6,au 21 .add 20 1,aa 6 21]
def ml:DF:=⟨.seq (aj [bz 2 0,((some 4),.op (.aX (.val (.emp 1))))]) <|
  .seq (.seq (aj [aF 8 4 2,aJ 9 48 [8],bC 10 9]) <|
  .cond (.tmp 10) (.seq (aj [((some 4),.op (.aX (.val (.emp 1))))]) <|
  .ret) (.skip)) <|
  .seq (aj [ao 11 1 2,an 12 11,aA 13 12,((some 14),.op (.make 1 1 [(.val (.bool false))] (.tmp 13) (.tmp 13))),aa 5 14]) <|
  .seq (.seq (aj [az 6 0]) <|
  .block 0 (.loop tO)) <|
  .seq (aj [aa 46 5,aa 4 46]) <|
  .ret,
  [.tmp 4],47⟩
theorem sS:aO Tryz.prog 174 [2]=some ml:=by kernel_rfl
def xg:DC :=
  .seq (.seq (aj [aa 8 7,aa 9 0,aA 10 9,aC 11 .lss 8 10]) <|
  .cond (.tmp 11) (.skip) (.exit 0)) <|
  .seq (.block 1 (.seq (.region [] [⟨none,[aa 14 0,aa 15 7,aD 16 1 14 15,an 17 16,au 18 .geq 17 0,aa 19 18]⟩,⟨(some (19,true)),[aa 20 2,bC 21 20]⟩,⟨none,[bq 22 19 21,aa 23 22]⟩,⟨(some (23,false)),[aa 24 0,aa 25 7,aD 26 1 24 25,an 27 26,au 28 .lss 27 0,aa 29 28]⟩,⟨(some (29,true)),[aa 30 1,aa 31 0,aa 32 7,aD 33 1 31 32,an 34 33,((some 35),.op (.arith .sub (.val (.val (.int .i64 (-1)))) (.tmp 34))),aD 36 1 30 35,an 37 36,bC 38 37]⟩,⟨(some (23,false)),[bq 39 29 38]⟩,⟨none,[aS 40 23 39]⟩]) <|
  .cond (.tmp 40) (.seq (aj [aM 6 false]) <|
  .ret) (.skip))) <|
  aj [aa 12 7,au 13 .add 12 1,aa 7 13]
def pw:DF:=⟨.seq (aj [aM 6 false]) <|
  .seq (.seq (aj [az 7 0]) <|
  .block 0 (.loop xg)) <|
  .seq (aj [aM 6 true]) <|
  .ret,
  [.tmp 6],41⟩
theorem vS:aO Tryz.prog 117 []=some pw:=by kernel_rfl
def ud:DC :=
  .seq (.seq (aj [aa 24 6,ao 25 2 1,an 26 25,aA 27 26,aC 28 .lss 24 27]) <|
  .cond (.tmp 28) (.skip) (.exit 2)) <|
  .seq (.block 3 (.seq (aj [ao 31 2 1,an 32 31,aa 33 6,aD 34 3 32 33,aF 35 3 34,((some 7),.op (.alloc [(.val (.int .i64 0)),(.emp 1),(.val (.int .i64 0))])),(none,.op (.store 3 (.tmp 7) (.tmp 35)))]) <|
  .region [(2,12),(5,12),(7,12)] [⟨none,[aa 36 4,ao 37 0 7,an 38 37,aa 39 4,ao 40 0 7,an 41 40,aD 42 1 39 41,an 43 42,ao 44 1 7,an 45 44,aa 46 3,aa 47 4,b6 48 201 [(.tmp 45),(.tmp 46),(.tmp 47),(.val (.val (.int .u32 0)))],aC 49 .or 43 48,aD 50 1 36 38,(none,.op (.store 1 (.tmp 50) (.tmp 49)))]⟩])) <|
  aj [aa 29 6,au 30 .add 29 1,aa 6 30]
def tL:DC :=
  .seq (.seq (aj [aa 17 5,ao 18 1 1,an 19 18,aA 20 19,aC 21 .lss 17 20]) <|
  .cond (.tmp 21) (.skip) (.exit 0)) <|
  .seq (.block 1 (.seq (aj [az 6 0]) <|
  .block 2 (.loop ud))) <|
  aj [aa 22 5,au 23 .add 22 1,aa 5 23]
def mq:DF:=⟨.seq (aj [bz 1 0,((some 2),.op (.aX (.val (.emp 1))))]) <|
  .seq (.seq (aj [aF 8 4 1,aJ 9 48 [8],bC 10 9]) <|
  .cond (.tmp 10) (.seq (aj [((some 2),.op (.aX (.val (.emp 1))))]) <|
  .ret) (.skip)) <|
  .seq (aj [aF 11 4 1,aJ 12 202 [11],aa 3 12]) <|
  .seq (aj [ao 13 1 1,an 14 13,aA 15 14,((some 16),.op (.make 1 4 [(.val (.int .u32 0))] (.tmp 15) (.tmp 15))),aa 4 16]) <|
  .seq (.seq (aj [az 5 0]) <|
  .block 0 (.loop tL)) <|
  .seq (aj [aa 51 4,aa 2 51]) <|
  .ret,
  [.tmp 2],52⟩
theorem sZ:aO Tryz.prog 203 [1]=some mq:=by kernel_rfl
def xF:DC :=
  .seq (.seq (aj [aa 11 10,aa 12 0,aA 13 12,aC 14 .lss 11 13]) <|
  .cond (.tmp 14) (.skip) (.exit 0)) <|
  .seq (.block 1 (.seq (.seq (aj [aa 17 0,aa 18 10,aD 19 1 17 18,an 20 19,au 21 .geq 20 0]) <|
  .cond (.tmp 21) (.seq (aj [aa 22 9,aa 23 0,aa 24 10,aD 25 1 23 24,an 26 25,aJ 27 101 [26],aC 28 .or 22 27,aa 8 28]) <|
  .ret) (.skip)) <|
  .seq (aj [aa 29 9,aa 30 2,aa 31 0,aa 32 10,aD 33 1 31 32,an 34 33,((some 35),.op (.arith .sub (.val (.val (.int .i64 (-1)))) (.tmp 34))),aD 36 1 30 35,an 37 36,aC 38 .or 29 37,aa 9 38]) <|
  .seq (aj [aa 39 1,aa 40 0,aa 41 10,aD 42 1 40 41,an 43 42,((some 44),.op (.arith .sub (.val (.val (.int .i64 (-1)))) (.tmp 43))),aD 45 1 39 44,an 46 45,bC 47 46]) <|
  .cond (.tmp 47) (.seq (aj [aa 48 9,aa 8 48]) <|
  .ret) (.skip))) <|
  aj [aa 15 10,au 16 .add 15 1,aa 10 16]
def qO:DF:=⟨.seq (aj [((some 8),.op (.aX (.val (.val (.int .u32 0)))))]) <|
  .seq (aj [((some 9),.op (.aX (.val (.val (.int .u32 0)))))]) <|
  .seq (.seq (aj [az 10 0]) <|
  .block 0 (.loop xF)) <|
  .seq (aj [aa 49 9,aa 50 3,aC 51 .or 49 50,aa 8 51]) <|
  .ret,
  [.tmp 8],52⟩
theorem xi:aO Tryz.prog 201 []=some qO:=by kernel_rfl
def wv:DC :=
  .seq (.seq (.region [] [⟨none,[aa 45 8,ao 46 2 4,an 47 46,aA 48 47,aC 49 .lss 45 48,aa 50 49]⟩,⟨(some (50,true)),[ao 51 2 4,an 52 51,aa 53 8,aD 54 1 52 53,an 55 54,aa 56 6,aJ 57 58 [55,56],bC 58 57]⟩,⟨none,[bq 59 50 58]⟩]) <|
  .cond (.tmp 59) (.skip) (.exit 2)) <|
  .block 3 (aj [aa 60 8,au 61 .add 60 1,aa 8 61])
def we:DC :=
  .seq (.seq (.region [] [⟨none,[aa 62 9,ao 63 4 4,an 64 63,aA 65 64,aC 66 .lss 62 65,aa 67 66]⟩,⟨(some (67,true)),[ao 68 4 4,an 69 68,aa 70 9,aD 71 1 69 70,an 72 71,aa 73 7,aJ 74 59 [72,73],bC 75 74]⟩,⟨none,[bq 76 67 75]⟩]) <|
  .cond (.tmp 76) (.skip) (.exit 4)) <|
  .block 5 (aj [aa 77 9,au 78 .add 77 1,aa 9 78])
def vC:DC :=
  .seq (.seq (aj [aa 26 5,ao 27 0 1,an 28 27,aA 29 28,aC 30 .lss 26 29]) <|
  .cond (.tmp 30) (.skip) (.exit 0)) <|
  .seq (.block 1 (.seq (.region [(5,7),(5,10)] [⟨none,[ao 33 0 1,an 34 33,aa 35 5,aD 36 1 34 35,an 37 36,aJ 38 56 [37],ao 39 1 1,an 40 39,aa 41 5,aD 42 1 40 41,an 43 42,aJ 44 57 [43],aa 6 38,aa 7 44]⟩]) <|
  .seq (aj [az 8 0,az 9 0]) <|
  .seq (.block 2 (.loop wv)) <|
  .seq (.block 4 (.loop we)) <|
  .seq (.seq (aj [aa 79 8,ao 80 2 4,an 81 80,aA 82 81,aC 83 .eql 79 82]) <|
  .cond (.tmp 83) (aj [ao 84 2 4,an 85 84,aa 86 6,((some 87),.op (.aT 1 1 [(.emp 1)] [(0,(.tmp 86))])),((some 88),.op (.app 1 24 (.tmp 85) (.tmp 87))),ao 89 2 4,(none,.op (.store 1 (.tmp 89) (.tmp 88)))]) (.skip)) <|
  .seq (.seq (aj [aa 90 9,ao 91 4 4,an 92 91,aA 93 92,aC 94 .eql 90 93]) <|
  .cond (.tmp 94) (aj [ao 95 4 4,an 96 95,aa 97 7,((some 98),.op (.aT 1 1 [(.emp 1)] [(0,(.tmp 97))])),((some 99),.op (.app 1 24 (.tmp 96) (.tmp 98))),ao 100 4 4,(none,.op (.store 1 (.tmp 100) (.tmp 99)))]) (.skip)) <|
  .region [(4,6),(4,8)] [⟨none,[ao 101 3 4,an 102 101,aa 103 8,((some 104),.op (.aT 1 1 [(.val (.int .i64 0))] [(0,(.tmp 103))])),((some 105),.op (.app 1 8 (.tmp 102) (.tmp 104))),ao 106 5 4,an 107 106,aa 108 9,((some 109),.op (.aT 1 1 [(.val (.int .i64 0))] [(0,(.tmp 108))])),((some 110),.op (.app 1 8 (.tmp 107) (.tmp 109))),ao 111 3 4,(none,.op (.store 1 (.tmp 111) (.tmp 105))),ao 112 5 4,(none,.op (.store 1 (.tmp 112) (.tmp 110)))]⟩])) <|
  aj [aa 31 5,au 32 .add 31 1,aa 5 32]
def nV:DF:=⟨.seq (aj [bz 1 0,((some 2),.op (.alloc [(.val (.int .i64 0)),(.val (.int .i64 0)),(.emp 1),(.emp 1),(.emp 1),(.emp 1)])),az 3 0]) <|
  .seq (.seq (aj [aF 10 2 1,aJ 11 55 [10],bC 12 11]) <|
  .cond (.tmp 12) (.seq (aj [((some 13),.op (.build [(.val (.int .i64 0)),(.val (.int .i64 0)),(.emp 1),(.emp 1),(.emp 1),(.emp 1)] [])),(none,.op (.store 6 (.tmp 2) (.tmp 13))),az 3 1]) <|
  .ret) (.skip)) <|
  .seq (aj [ao 14 0 1,an 15 14,((some 16),.op (.idx 1 (.tmp 15) (.val (.val (.int .i64 0))))),an 17 16,aA 18 17,au 19 .sub 18 1,ao 20 1 1,an 21 20,((some 22),.op (.idx 1 (.tmp 21) (.val (.val (.int .i64 0))))),an 23 22,aA 24 23,((some 25),.op (.build [(.val (.int .i64 0)),(.val (.int .i64 0)),(.emp 1),(.emp 1),(.emp 1),(.emp 1)] [(0,1,(.tmp 19)),(1,1,(.tmp 24))])),((some 4),.op (.alloc [(.val (.int .i64 0)),(.val (.int .i64 0)),(.emp 1),(.emp 1),(.emp 1),(.emp 1)])),(none,.op (.store 6 (.tmp 4) (.tmp 25)))]) <|
  .seq (.seq (aj [az 5 0]) <|
  .block 0 (.loop vC)) <|
  .seq (aj [aF 113 6 4,(none,.op (.store 6 (.tmp 2) (.tmp 113))),az 3 0]) <|
  .ret,
  [.cell 2 (some 6),.tmp 3],114⟩
theorem uj:aO Tryz.prog 24 [1,100000]=some nV:=by kernel_rfl
def rn:DC :=
  .seq (.seq (aj [aa 11 5,aa 12 0,aA 13 12,aC 14 .lss 11 13]) <|
  .cond (.tmp 14) (.skip) (.exit 0)) <|
  .seq (.block 1 (.seq (aj [aa 17 0,aa 18 5,aD 19 3 17 18,aF 20 3 19,aa 21 1,aa 22 5,aD 23 3 21 22,aF 24 3 23,((some 25),.op (.old (.binOp .neq 147 (.tmp 20) (.tmp 24) 147) 4))]) <|
  .cond (.tmp 25) (.seq (aj [aM 4 false]) <|
  .ret) (.skip))) <|
  aj [aa 15 5,au 16 .add 15 1,aa 5 16]
def kA:DF:=⟨.seq (aj [aM 4 false]) <|
  .seq (.seq (aj [aa 6 0,aA 7 6,aa 8 1,aA 9 8,aC 10 .neq 7 9]) <|
  .cond (.tmp 10) (.seq (aj [aM 4 false]) <|
  .ret) (.skip)) <|
  .seq (.seq (aj [az 5 0]) <|
  .block 0 (.loop rn)) <|
  .seq (aj [aM 4 true]) <|
  .ret,
  [.tmp 4],26⟩
theorem qK:aO Tryz.prog 58 []=some kA:=by kernel_rfl
def u6:DC :=
  .seq (.seq (aj [aa 11 5,aa 12 0,aA 13 12,aC 14 .lss 11 13]) <|
  .cond (.tmp 14) (.skip) (.exit 0)) <|
  .seq (.block 1 (.seq (aj [aa 17 0,aa 18 5,aD 19 2 17 18,aF 20 2 19,aa 21 1,aa 22 5,aD 23 2 21 22,aF 24 2 23,((some 25),.op (.old (.binOp .neq 150 (.tmp 20) (.tmp 24) 150) 4))]) <|
  .cond (.tmp 25) (.seq (aj [aM 4 false]) <|
  .ret) (.skip))) <|
  aj [aa 15 5,au 16 .add 15 1,aa 5 16]
def mH:DF:=⟨.seq (aj [aM 4 false]) <|
  .seq (.seq (aj [aa 6 0,aA 7 6,aa 8 1,aA 9 8,aC 10 .neq 7 9]) <|
  .cond (.tmp 10) (.seq (aj [aM 4 false]) <|
  .ret) (.skip)) <|
  .seq (.seq (aj [az 5 0]) <|
  .block 0 (.loop u6)) <|
  .seq (aj [aM 4 true]) <|
  .ret,
  [.tmp 4],26⟩
theorem sU:aO Tryz.prog 59 []=some mH:=by kernel_rfl
def xk:DC :=
  .seq (.seq (aj [aa 5 4,aa 6 0,aA 7 6,aC 8 .lss 5 7]) <|
  .cond (.tmp 8) (.skip) (.exit 0)) <|
  .seq (.block 1 (.seq (aj [aa 11 0,aa 12 4,aD 13 2 11 12,aF 14 2 13,((some 15),.op (.build [(.val (.int .i64 0)),(.val (.int .i64 0))] [])),((some 16),.op (.old (.binOp .neq 84 (.tmp 14) (.tmp 15) 84) 4))]) <|
  .cond (.tmp 16) (aj [aa 17 3,aa 18 4,aa 19 0,aa 20 4,aD 21 2 19 20,aF 22 2 21,((some 23),.op (.build [(.val (.int .i64 0)),(.val (.int .i64 0)),(.val (.int .i64 0))] [(0,1,(.tmp 18)),(1,2,(.tmp 22))])),((some 24),.op (.aT 1 3 [(.val (.int .i64 0)),(.val (.int .i64 0)),(.val (.int .i64 0))] [(0,(.tmp 23))])),((some 25),.op (.app 3 24 (.tmp 17) (.tmp 24))),aa 3 25]) (.skip))) <|
  aj [aa 9 4,au 10 .add 9 1,aa 4 10]
def pv:DF:=⟨.seq (aj [((some 2),.op (.aX (.val (.emp 1))))]) <|
  .seq (aj [((some 3),.op (.aX (.val (.emp 1))))]) <|
  .seq (.seq (aj [az 4 0]) <|
  .block 0 (.loop xk)) <|
  .seq (aj [aa 26 3,aa 2 26]) <|
  .ret,
  [.tmp 2],27⟩
theorem vV:aO Tryz.prog 56 []=some pv:=by kernel_rfl
def tQ:DC :=
  .seq (.seq (aj [aa 5 4,aa 6 0,aA 7 6,aC 8 .lss 5 7]) <|
  .cond (.tmp 8) (.skip) (.exit 0)) <|
  .seq (.block 1 (.seq (aj [aa 11 0,aa 12 4,aD 13 1 11 12,an 14 13,au 15 .neq 14 (-1)]) <|
  .cond (.tmp 15) (aj [aa 16 3,aa 17 4,aa 18 0,aa 19 4,aD 20 1 18 19,an 21 20,((some 22),.op (.build [(.val (.int .i64 0)),(.val (.int .i64 0))] [(0,1,(.tmp 17)),(1,1,(.tmp 21))])),((some 23),.op (.aT 1 2 [(.val (.int .i64 0)),(.val (.int .i64 0))] [(0,(.tmp 22))])),((some 24),.op (.app 2 16 (.tmp 16) (.tmp 23))),aa 3 24]) (.skip))) <|
  aj [aa 9 4,au 10 .add 9 1,aa 4 10]
def mR:DF:=⟨.seq (aj [((some 2),.op (.aX (.val (.emp 1))))]) <|
  .seq (aj [((some 3),.op (.aX (.val (.emp 1))))]) <|
  .seq (.seq (aj [az 4 0]) <|
  .block 0 (.loop tQ)) <|
  .seq (aj [aa 25 3,aa 2 25]) <|
  .ret,
  [.tmp 2],26⟩
theorem sF:aO Tryz.prog 57 []=some mR:=by kernel_rfl
def s6:DC :=
  .seq (.seq (aj [aa 35 5,ao 36 0 1,an 37 36,aA 38 37,aC 39 .lss 35 38]) <|
  .cond (.tmp 39) (.skip) (.exit 0)) <|
  .seq (.block 1 (.seq (.region [] [⟨none,[ao 42 0 1,an 43 42,aa 44 5,aD 45 1 43 44,an 46 45,aA 47 46,aa 48 3,aC 49 .neq 47 48,aa 50 49]⟩,⟨(some (50,false)),[ao 51 1 1,an 52 51,aa 53 5,aD 54 1 52 53,an 55 54,aA 56 55,aa 57 4,aC 58 .neq 56 57]⟩,⟨none,[aS 59 50 58]⟩]) <|
  .cond (.tmp 59) (.seq (aj [aM 2 false]) <|
  .ret) (.skip))) <|
  aj [aa 40 5,au 41 .add 40 1,aa 5 41]
def lW:DF:=⟨.seq (aj [bz 1 0,aM 2 false]) <|
  .seq (.seq (.region [] [⟨none,[ao 6 0 1,an 7 6,aA 8 7,au 9 .lss 8 1,aa 10 9]⟩,⟨(some (10,false)),[ao 11 0 1,an 12 11,aA 13 12,au 14 .gtr 13 300]⟩,⟨none,[aS 15 10 14,aa 16 15]⟩,⟨(some (16,false)),[ao 17 1 1,an 18 17,aA 19 18,ao 20 0 1,an 21 20,aA 22 21,aC 23 .neq 19 22]⟩,⟨none,[aS 24 16 23]⟩]) <|
  .cond (.tmp 24) (.seq (aj [aM 2 false]) <|
  .ret) (.skip)) <|
  .seq (aj [ao 25 0 1,an 26 25,((some 27),.op (.idx 1 (.tmp 26) (.val (.val (.int .i64 0))))),an 28 27,aA 29 28,ao 30 1 1,an 31 30,((some 32),.op (.idx 1 (.tmp 31) (.val (.val (.int .i64 0))))),an 33 32,aA 34 33,aa 3 29,aa 4 34]) <|
  .seq (.seq (aj [az 5 0]) <|
  .block 0 (.loop s6)) <|
  .seq (.region [] [⟨none,[aa 60 3,au 61 .geq 60 1,aa 62 61]⟩,⟨(some (62,true)),[aa 63 3,au 64 .leq 63 25]⟩,⟨none,[bq 65 62 64,aa 66 65]⟩,⟨(some (66,true)),[aa 67 4,au 68 .leq 67 16]⟩,⟨none,[bq 69 66 68,aa 2 69]⟩]) <|
  .ret,
  [.tmp 2],70⟩
theorem rz:aO Tryz.prog 55 [1]=some lW:=by kernel_rfl
def zu:DF:=⟨.seq (aj [bz 3 0,bz 4 1,((some 6),.op (.aX (.val (.emp 1)))),az 7 0,az 8 0]) <|
  .seq (aj [aF 12 6 4,aJ 13 49 [12],aa 11 13,bu 14 0 11,bu 15 1 11,((some 9),.op (.alloc [(.emp 1),(.emp 1)])),(none,.op (.store 2 (.tmp 9) (.tmp 14))),aa 10 15]) <|
  .seq (.seq (aj [aa 16 10,au 17 .neq 16 0]) <|
  .cond (.tmp 17) (.seq (aj [aa 18 10,((some 6),.op (.aX (.val (.emp 1)))),az 7 0,aa 8 18]) <|
  .ret) (.skip)) <|
  .seq (aj [aF 19 4 3,aF 20 2 9,aa 21 2,aJ 22 15 [19,20,21],bu 23 0 22,bu 24 1 22,bu 25 2 22,aa 6 23,aa 7 24,aa 8 25]) <|
  .ret,
  [.tmp 6,.tmp 7,.tmp 8],26⟩
theorem BX:aO Tryz.prog 21 [3,4]=some zu:=by kernel_rfl
def A7:DC :=
  .seq (aj [aC 36 .lss 35 34]) <|
  .seq (.cond (.tmp 36) (.skip) (.exit 2)) <|
  .seq (.block 3 (.seq (aj [aD 37 3 33 35,aF 38 3 37,((some 7),.op (.alloc [(.val (.int .i64 0)),(.val (.int .i64 0)),(.val (.int .i64 0))])),(none,.op (.store 3 (.tmp 7) (.tmp 38)))]) <|
  aj [aa 39 5,ao 40 0 7,an 41 40,ao 42 1 7,aF 43 2 42,aD 44 2 39 41,(none,.op (.store 2 (.tmp 44) (.tmp 43)))])) <|
  aj [au 45 .add 35 1,aa 35 45]
def AX:DC :=
  .seq (aj [aC 61 .lss 60 59]) <|
  .seq (.cond (.tmp 61) (.skip) (.exit 4)) <|
  .seq (.block 5 (.seq (aj [aD 62 2 58 60,aF 63 2 62,((some 10),.op (.alloc [(.val (.int .i64 0)),(.val (.int .i64 0))])),(none,.op (.store 2 (.tmp 10) (.tmp 63)))]) <|
  aj [aa 64 8,ao 65 0 10,an 66 65,ao 67 1 10,an 68 67,aD 69 1 64 66,(none,.op (.store 1 (.tmp 69) (.tmp 68)))])) <|
  aj [au 70 .add 60 1,aa 60 70]
def A4:DC :=
  .seq (aj [aC 19 .lss 18 17]) <|
  .seq (.cond (.tmp 19) (.skip) (.exit 0)) <|
  .seq (.block 1 (.seq (aj [aa 20 18,aa 4 20]) <|
  .seq (aj [ao 21 0 1,an 22 21,au 23 .add 22 1,((some 24),.op (.make 2 16 [(.val (.int .i64 0)),(.val (.int .i64 0))] (.tmp 23) (.tmp 23))),aa 5 24]) <|
  .seq (.seq (aj [ao 25 2 1,an 26 25,ao 27 3 1,an 28 27,aa 29 4,aD 30 1 28 29,an 31 30,aD 32 1 26 31,an 33 32,aA 34 33,az 35 0]) <|
  .block 2 (.loop A7)) <|
  .seq (aj [((some 46),.op (.aT 1 1 [(.val (.int .i64 0))] [(0,(.val (.val (.int .i64 (-1)))))])),ao 47 1 1,an 48 47,aJ 49 93 [46,48],aa 8 49]) <|
  .seq (.seq (aj [ao 50 4 1,an 51 50,ao 52 5 1,an 53 52,aa 54 4,aD 55 1 53 54,an 56 55,aD 57 1 51 56,an 58 57,aA 59 58,az 60 0]) <|
  .block 4 (.loop AX)) <|
  .region [(4,6),(4,8)] [⟨none,[ao 71 0 2,an 72 71,aa 73 5,((some 74),.op (.aT 1 1 [(.emp 1)] [(0,(.tmp 73))])),((some 75),.op (.app 1 24 (.tmp 72) (.tmp 74))),ao 76 1 2,an 77 76,aa 78 8,((some 79),.op (.aT 1 1 [(.emp 1)] [(0,(.tmp 78))])),((some 80),.op (.app 1 24 (.tmp 77) (.tmp 79))),ao 81 0 2,(none,.op (.store 1 (.tmp 81) (.tmp 75))),ao 82 1 2,(none,.op (.store 1 (.tmp 82) (.tmp 80)))]⟩])) <|
  aj [au 83 .add 18 1,aa 18 83]
def wT:DF:=⟨.seq (aj [bz 1 0,((some 2),.op (.alloc [(.emp 1),(.emp 1)])),az 3 0]) <|
  .seq (.seq (aj [aF 11 6 1,aJ 12 92 [11],bC 13 12]) <|
  .cond (.tmp 13) (.seq (aj [aF 14 2 2,(none,.op (.store 2 (.tmp 2) (.tmp 14))),az 3 1]) <|
  .ret) (.skip)) <|
  .seq (.seq (aj [ao 15 3 1,an 16 15,aA 17 16,az 18 0]) <|
  .block 0 (.loop A4)) <|
  .seq (aj [aF 84 2 2,(none,.op (.store 2 (.tmp 2) (.tmp 84))),az 3 0]) <|
  .ret,
  [.cell 2 (some 2),.tmp 3],85⟩
theorem z2:aO Tryz.prog 49 [1,100000]=some wT:=by kernel_rfl
def m7:DC :=
  .seq (.seq (aj [aa 34 8,aa 35 7,aA 36 35,aC 37 .lss 34 36]) <|
  .cond (.tmp 37) (.skip) (.exit 0)) <|
  .block 1 (aj [aa 38 8,aa 39 7,aa 40 8,((some 41),.op (.slice 1 (.tmp 39) (some (.tmp 40)) none)),aa 42 7,aa 43 8,((some 44),.op (.slice 1 (.tmp 42) none (some (.tmp 43)))),((some 45),.op (.old (.call { callee:=.builtin .copy,args:=#[(.tmp 41),(.tmp 44)],argTypes:=#[31,31] }) 3)),aC 46 .add 38 45,aa 8 46])
def gW:DF:=⟨.seq (aj [((some 4),.op (.aX (.val (.emp 1))))]) <|
  .seq (.seq (aj [aa 9 1,au 10 .lss 9 0]) <|
  .cond (.tmp 10) (.region [] [⟨none,[((some 11),.op (.old (.makeInterface 9 (.const (.string ⟨#[99,97,110,110,111,116,32,98,101,32,110,101,103,97,116,105,118,101]⟩))) 20)),(none,.op (.old (.panic (.tmp 11)) 0))]⟩]) (.skip)) <|
  .seq (aj [aa 13 0,aA 14 13,((some 15),.op (.conv .u64 (.tmp 14))),aa 16 1,((some 17),.op (.conv .u64 (.tmp 16))),aJ 18 153 [15,17],aa 12 18,bu 19 0 12,bu 20 1 12,aa 5 19,aa 6 20]) <|
  .seq (.seq (.region [] [⟨none,[aa 21 5,((some 22),.op (.arith .gtr (.tmp 21) (.val (.val (.int .u64 0))))),aa 23 22]⟩,⟨(some (23,false)),[aa 24 6,((some 25),.op (.arith .gtr (.tmp 24) (.val (.val (.int .u64 9223372036854775807)))))]⟩,⟨none,[aS 26 23 25]⟩]) <|
  .cond (.tmp 26) (.region [] [⟨none,[((some 27),.op (.old (.makeInterface 9 (.const (.string ⟨#[116,104,101,32,114,101,115,117,108,116,32,111,102,32,40,108,101,110,40,120,41,32,42,32,99,111,117,110,116,41,32,111,118,101,114,102,108,111,119,115]⟩))) 20)),(none,.op (.old (.panic (.tmp 27)) 0))]⟩]) (.skip)) <|
  .seq (aj [aa 28 6,((some 29),.op (.conv .i64 (.tmp 28))),((some 30),.op (.make 1 8 [(.val (.int .i64 0))] (.tmp 29) (.tmp 29))),aa 7 30]) <|
  .seq (aj [aa 31 7,aa 32 0,((some 33),.op (.old (.call { callee:=.builtin .copy,args:=#[(.tmp 31),(.tmp 32)],argTypes:=#[31,31] }) 3)),aa 8 33]) <|
  .seq (.block 0 (.loop m7)) <|
  .seq (aj [aa 47 7,aa 4 47]) <|
  .ret,
  [.tmp 4],48⟩
theorem mh:aO Tryz.prog 93 []=some gW:=by kernel_rfl
def B3:DC :=
  .seq (aj [aC 78 .lss 77 76]) <|
  .seq (.cond (.tmp 78) (.skip) (.exit 1)) <|
  .seq (.block 2 (.seq (aj [aD 79 1 75 77,an 80 79,aa 4 80]) <|
  .seq (.region [] [⟨none,[aa 81 4,ao 82 0 1,an 83 82,au 84 .add 83 1,b6 85 145 [(.tmp 81),(.tmp 84),(.val (.fn 146 [] []))],bC 86 85,aa 87 86]⟩,⟨(some (87,false)),[aa 88 4,b6 89 147 [(.tmp 88),(.val (.fn 148 [] []))]]⟩,⟨none,[aS 90 87 89]⟩]) <|
  .cond (.tmp 90) (.seq (aj [aM 2 false]) <|
  .ret) (.skip))) <|
  aj [au 91 .add 77 1,aa 77 91]
def Cj:DC :=
  .seq (aj [aC 96 .lss 95 94]) <|
  .seq (.cond (.tmp 96) (.skip) (.exit 3)) <|
  .seq (.block 4 (.seq (aj [aD 97 1 93 95,an 98 97,aa 6 98]) <|
  .seq (.region [] [⟨none,[aa 99 6,ao 100 1 1,an 101 100,b6 102 149 [(.tmp 99),(.tmp 101),(.val (.fn 150 [] []))],bC 103 102,aa 104 103]⟩,⟨(some (104,false)),[aa 105 6,b6 106 151 [(.tmp 105),(.val (.fn 152 [] []))]]⟩,⟨none,[aS 107 104 106]⟩]) <|
  .cond (.tmp 107) (.seq (aj [aM 2 false]) <|
  .ret) (.skip))) <|
  aj [au 108 .add 95 1,aa 95 108]
def xR:DF:=⟨.seq (aj [bz 1 0,aM 2 false]) <|
  .seq (.block 0 (.seq (.region [] [⟨none,[ao 8 0 1,an 9 8,au 10 .lss 9 0,aa 11 10]⟩,⟨(some (11,false)),[ao 12 0 1,an 13 12,au 14 .gtr 13 24]⟩,⟨none,[aS 15 11 14,aa 16 15]⟩,⟨(some (16,false)),[ao 17 1 1,an 18 17,au 19 .lss 18 0]⟩,⟨none,[aS 20 16 19,aa 21 20]⟩,⟨(some (21,false)),[ao 22 1 1,an 23 22,au 24 .gtr 23 16]⟩,⟨none,[aS 25 21 24,aa 7 25]⟩]) <|
  .cond (.tmp 7) (.seq (aj [aM 2 false]) <|
  .ret) (.seq (.region [] [⟨none,[ao 27 3 1,an 28 27,aA 29 28,au 30 .lss 29 1,aa 31 30]⟩,⟨(some (31,false)),[ao 32 3 1,an 33 32,aA 34 33,au 35 .gtr 34 300]⟩,⟨none,[aS 36 31 35,aa 37 36]⟩,⟨(some (37,false)),[ao 38 5 1,an 39 38,aA 40 39,ao 41 3 1,an 42 41,aA 43 42,aC 44 .neq 40 43]⟩,⟨none,[aS 45 37 44,aa 26 45]⟩]) <|
  .cond (.tmp 26) (.seq (aj [aM 2 false]) <|
  .ret) (.seq (.region [] [⟨none,[ao 47 2 1,an 48 47,aA 49 48,au 50 .gtr 49 300,aa 51 50]⟩,⟨(some (51,false)),[ao 52 4 1,an 53 52,aA 54 53,au 55 .gtr 54 300]⟩,⟨none,[aS 56 51 55,aa 46 56]⟩]) <|
  .cond (.tmp 46) (.seq (aj [aM 2 false]) <|
  .ret) (.seq (.region [] [⟨none,[ao 58 3 1,an 59 58,ao 60 2 1,an 61 60,aA 62 61,aJ 63 144 [59,62],bC 64 63,aa 65 64]⟩,⟨(some (65,false)),[ao 66 5 1,an 67 66,ao 68 4 1,an 69 68,aA 70 69,aJ 71 144 [67,70],bC 72 71]⟩,⟨none,[aS 73 65 72,aa 57 73]⟩]) <|
  .cond (.tmp 57) (.seq (aj [aM 2 false]) <|
  .ret) (.skip)))))) <|
  .seq (.seq (aj [ao 74 2 1,an 75 74,aA 76 75,az 77 0]) <|
  .block 1 (.loop B3)) <|
  .seq (.seq (aj [ao 92 4 1,an 93 92,aA 94 93,az 95 0]) <|
  .block 3 (.loop Cj)) <|
  .seq (aj [aM 2 true]) <|
  .ret,
  [.tmp 2],109⟩
theorem AS:aO Tryz.prog 92 [1]=some xR:=by kernel_rfl
def pf:DC :=
  .seq (aj [aC 13 .lss 12 11]) <|
  .seq (.cond (.tmp 13) (.skip) (.exit 0)) <|
  .seq (.block 1 (.seq (aj [aD 14 3 10 12,aF 15 3 14,((some 9),.op (.alloc [(.val (.int .i64 0)),(.val (.int .i64 0)),(.val (.int .i64 0))])),(none,.op (.store 3 (.tmp 9) (.tmp 15)))]) <|
  .seq (.seq (.region [] [⟨none,[aa 16 2,aF 17 3 9,((some 18),.call (.tmp 16) [(.tmp 17)]),aa 19 7,aC 20 .leq 18 19,aa 21 20]⟩,⟨(some (21,false)),[aa 22 2,aF 23 3 9,((some 24),.call (.tmp 22) [(.tmp 23)]),aa 25 1,aC 26 .geq 24 25]⟩,⟨none,[aS 27 21 26]⟩]) <|
  .cond (.tmp 27) (.seq (aj [aM 6 false]) <|
  .ret) (.skip)) <|
  aj [aa 28 2,aF 29 3 9,((some 30),.call (.tmp 28) [(.tmp 29)]),aa 7 30])) <|
  aj [au 31 .add 12 1,aa 12 31]
def iI:DF:=⟨.seq (aj [aM 6 false]) <|
  .seq (aj [az 7 (-1)]) <|
  .seq (.seq (aj [aa 10 0,aA 11 10,az 12 0]) <|
  .block 0 (.loop pf)) <|
  .seq (aj [aM 6 true]) <|
  .ret,
  [.tmp 6],32⟩
theorem oy:aO Tryz.prog 145 []=some iI:=by kernel_rfl
def tt:DF:=⟨.seq (aj [bz 1 0,az 2 0]) <|
  .seq (aj [ao 3 0 1,an 4 3,aa 2 4]) <|
  .ret,
  [.tmp 2],5⟩
theorem zm:aO Tryz.prog 146 [1]=some tt:=by kernel_rfl
def dr:DF:=⟨.seq (aj [aM 4 false]) <|
  .seq (aj [aa 5 0,aa 6 1,aJ 7 195 [5,6],au 8 .geq 7 0,aa 4 8]) <|
  .ret,
  [.tmp 4],9⟩
theorem fH:aO Tryz.prog 147 []=some dr:=by kernel_rfl
def gm:DC :=
  .seq (aj [aC 9 .lss 8 7]) <|
  .seq (.cond (.tmp 9) (.skip) (.exit 0)) <|
  .seq (.block 1 (.seq (aj [aa 10 8,aa 5 10]) <|
  .seq (aj [aa 11 1,aa 12 0,aa 13 5,aD 14 3 12 13,aF 15 3 14,((some 16),.call (.tmp 11) [(.tmp 15)])]) <|
  .cond (.tmp 16) (.seq (aj [aa 17 5,aa 4 17]) <|
  .ret) (.skip))) <|
  aj [au 18 .add 8 1,aa 8 18]
def dU:DF:=⟨.seq (aj [az 4 0]) <|
  .seq (.seq (aj [aa 6 0,aA 7 6,az 8 0]) <|
  .block 0 (.loop gm)) <|
  .seq (aj [az 4 (-1)]) <|
  .ret,
  [.tmp 4],19⟩
theorem fX:aO Tryz.prog 195 []=some dU:=by kernel_rfl
def tv:DF:=⟨.seq (aj [bz 1 0,aM 2 false]) <|
  .seq (aj [ao 3 1 1,aF 4 2 3,((some 5),.op (.build [(.val (.int .i64 0)),(.val (.int .i64 0))] [])),((some 6),.op (.old (.binOp .eql 84 (.tmp 4) (.tmp 5) 84) 4)),aa 2 6]) <|
  .ret,
  [.tmp 2],7⟩
theorem zl:aO Tryz.prog 148 [1]=some tv:=by kernel_rfl
def pW:DC :=
  .seq (aj [aC 13 .lss 12 11]) <|
  .seq (.cond (.tmp 13) (.skip) (.exit 0)) <|
  .seq (.block 1 (.seq (aj [aD 14 2 10 12,aF 15 2 14,((some 9),.op (.alloc [(.val (.int .i64 0)),(.val (.int .i64 0))])),(none,.op (.store 2 (.tmp 9) (.tmp 15)))]) <|
  .seq (.seq (.region [] [⟨none,[aa 16 2,aF 17 2 9,((some 18),.call (.tmp 16) [(.tmp 17)]),aa 19 7,aC 20 .leq 18 19,aa 21 20]⟩,⟨(some (21,false)),[aa 22 2,aF 23 2 9,((some 24),.call (.tmp 22) [(.tmp 23)]),aa 25 1,aC 26 .geq 24 25]⟩,⟨none,[aS 27 21 26]⟩]) <|
  .cond (.tmp 27) (.seq (aj [aM 6 false]) <|
  .ret) (.skip)) <|
  aj [aa 28 2,aF 29 2 9,((some 30),.call (.tmp 28) [(.tmp 29)]),aa 7 30])) <|
  aj [au 31 .add 12 1,aa 12 31]
def jD:DF:=⟨.seq (aj [aM 6 false]) <|
  .seq (aj [az 7 (-1)]) <|
  .seq (.seq (aj [aa 10 0,aA 11 10,az 12 0]) <|
  .block 0 (.loop pW)) <|
  .seq (aj [aM 6 true]) <|
  .ret,
  [.tmp 6],32⟩
theorem pq:aO Tryz.prog 149 []=some jD:=by kernel_rfl
def tD:DF:=⟨.seq (aj [bz 1 0,az 2 0]) <|
  .seq (aj [ao 3 0 1,an 4 3,aa 2 4]) <|
  .ret,
  [.tmp 2],5⟩
theorem zk:aO Tryz.prog 150 [1]=some tD:=by kernel_rfl
def dG:DF:=⟨.seq (aj [aM 4 false]) <|
  .seq (aj [aa 5 0,aa 6 1,aJ 7 196 [5,6],au 8 .geq 7 0,aa 4 8]) <|
  .ret,
  [.tmp 4],9⟩
theorem fL:aO Tryz.prog 151 []=some dG:=by kernel_rfl
def gM:DC :=
  .seq (aj [aC 9 .lss 8 7]) <|
  .seq (.cond (.tmp 9) (.skip) (.exit 0)) <|
  .seq (.block 1 (.seq (aj [aa 10 8,aa 5 10]) <|
  .seq (aj [aa 11 1,aa 12 0,aa 13 5,aD 14 2 12 13,aF 15 2 14,((some 16),.call (.tmp 11) [(.tmp 15)])]) <|
  .cond (.tmp 16) (.seq (aj [aa 17 5,aa 4 17]) <|
  .ret) (.skip))) <|
  aj [au 18 .add 8 1,aa 8 18]
def dY:DF:=⟨.seq (aj [az 4 0]) <|
  .seq (.seq (aj [aa 6 0,aA 7 6,az 8 0]) <|
  .block 0 (.loop gM)) <|
  .seq (aj [az 4 (-1)]) <|
  .ret,
  [.tmp 4],19⟩
theorem gA:aO Tryz.prog 196 []=some dY:=by kernel_rfl
def uC:DF:=⟨.seq (aj [bz 1 0,aM 2 false]) <|
  .seq (aj [ao 3 1 1,an 4 3,au 5 .eql 4 (-1),aa 2 5]) <|
  .ret,
  [.tmp 2],6⟩
theorem zo:aO Tryz.prog 152 [1]=some uC:=by kernel_rfl
def u4:DF:=⟨.seq (aj [bz 3 1,aM 4 false]) <|
  .seq (aj [aa 5 0,((some 6),.op (.qx 194 [] [(.tmp 3)])),aJ 7 46 [5,6],bC 8 7,aa 4 8]) <|
  .ret,
  [.tmp 4],9⟩
theorem zn:aO Tryz.prog 144 [3]=some u4:=by kernel_rfl
def qE:DF:=⟨.seq (aj [aM 3 false]) <|
  .seq (.region [] [⟨none,[aa 4 0,au 5 .lss 4 0,aa 6 5]⟩,⟨(some (6,false)),[aa 7 0,an 8 1,aC 9 .geq 7 8]⟩,⟨none,[aS 10 6 9,aa 3 10]⟩]) <|
  .ret,
  [.tmp 3],11⟩
theorem xm:aO Tryz.prog 194 []=some qE:=by kernel_rfl
def fC:DF:=⟨.seq (aj [aM 4 false]) <|
  .seq (aj [aa 5 0,aa 6 1,aJ 7 88 [5,6],au 8 .geq 7 0,aa 4 8]) <|
  .ret,
  [.tmp 4],9⟩
theorem js:aO Tryz.prog 46 []=some fC:=by kernel_rfl
def lf:DC :=
  .seq (aj [aC 9 .lss 8 7]) <|
  .seq (.cond (.tmp 9) (.skip) (.exit 0)) <|
  .seq (.block 1 (.seq (aj [aa 10 8,aa 5 10]) <|
  .seq (aj [aa 11 1,aa 12 0,aa 13 5,aD 14 1 12 13,an 15 14,((some 16),.call (.tmp 11) [(.tmp 15)])]) <|
  .cond (.tmp 16) (.seq (aj [aa 17 5,aa 4 17]) <|
  .ret) (.skip))) <|
  aj [au 18 .add 8 1,aa 8 18]
def gj:DF:=⟨.seq (aj [az 4 0]) <|
  .seq (.seq (aj [aa 6 0,aA 7 6,az 8 0]) <|
  .block 0 (.loop lf)) <|
  .seq (aj [az 4 (-1)]) <|
  .ret,
  [.tmp 4],19⟩
theorem km:aO Tryz.prog 88 []=some gj:=by kernel_rfl
def y7:List (FuncId × DF):=[(11,mO),(23,mz),(53,n0),(104,mF),(105,mw),(159,pJ),(101,pH),(106,ma),(54,nZ),(51,mK),(96,lS),(97,mV),(155,oO),(200,mE),(154,pE),(199,oS),(98,og),(156,mL),(95,k6),(52,qG),(99,kz),(157,pA),(102,jx),(100,jw),(103,oz),(158,qw),(143,pG),(202,jU),(174,ml),(117,pw),(203,mq),(201,qO),(24,nV),(58,kA),(59,mH),(56,pv),(57,mR),(55,lW),(21,zu),(49,wT),(93,gW),(153,r9),(197,pD),(198,pF),(92,xR),(145,iI),(146,tt),(147,dr),(195,dU),(148,tv),(149,jD),(150,tD),(151,dG),(196,dY),(152,uC),(144,u4),(194,qE),(46,fC),(88,gj)]
theorem pY:vw Tryz.prog y7:=by
  intro p hp
  simp only[y7,List.mem_cons,List.not_mem_nil,or_false] at hp
  rcases hp with rfl | rfl | rfl | rfl | rfl | rfl | rfl | rfl | rfl | rfl | rfl | rfl | rfl | rfl | rfl | rfl | rfl | rfl | rfl | rfl | rfl | rfl | rfl | rfl | rfl | rfl | rfl | rfl | rfl | rfl | rfl | rfl | rfl | rfl | rfl | rfl | rfl | rfl | rfl | rfl | rfl | rfl | rfl | rfl | rfl | rfl | rfl | rfl | rfl | rfl | rfl | rfl | rfl | rfl | rfl | rfl | rfl | rfl | rfl
  · exact ⟨_,so⟩
  · exact ⟨_,sm⟩
  · exact ⟨_,uZ⟩
  · exact ⟨_,ta⟩
  · exact ⟨_,sK⟩
  · exact ⟨_,vh⟩
  · exact ⟨_,vN⟩
  · exact ⟨_,rB⟩
  · exact ⟨_,tF⟩
  · exact ⟨_,tj⟩
  · exact ⟨_,rm⟩
  · exact ⟨_,sQ⟩
  · exact ⟨_,uV⟩
  · exact ⟨_,sL⟩
  · exact ⟨_,wk⟩
  · exact ⟨_,uT⟩
  · exact ⟨_,uI⟩
  · exact ⟨_,sD⟩
  · exact ⟨_,qX⟩
  · exact ⟨_,xh⟩
  · exact ⟨_,qU⟩
  · exact ⟨_,vG⟩
  · exact ⟨_,pa⟩
  · exact ⟨_,oU⟩
  · exact ⟨_,uc⟩
  · exact ⟨_,w8⟩
  · exact ⟨_,vY⟩
  · exact ⟨_,pM⟩
  · exact ⟨_,sS⟩
  · exact ⟨_,vS⟩
  · exact ⟨_,sZ⟩
  · exact ⟨_,xi⟩
  · exact ⟨_,uj⟩
  · exact ⟨_,qK⟩
  · exact ⟨_,sU⟩
  · exact ⟨_,vV⟩
  · exact ⟨_,sF⟩
  · exact ⟨_,rz⟩
  · exact ⟨_,BX⟩
  · exact ⟨_,z2⟩
  · exact ⟨_,mh⟩
  · exact ⟨_,yu⟩
  · exact ⟨_,vM⟩
  · exact ⟨_,vA⟩
  · exact ⟨_,AS⟩
  · exact ⟨_,oy⟩
  · exact ⟨_,zm⟩
  · exact ⟨_,fH⟩
  · exact ⟨_,fX⟩
  · exact ⟨_,zl⟩
  · exact ⟨_,pq⟩
  · exact ⟨_,zk⟩
  · exact ⟨_,fL⟩
  · exact ⟨_,gA⟩
  · exact ⟨_,zo⟩
  · exact ⟨_,zn⟩
  · exact ⟨_,xm⟩
  · exact ⟨_,js⟩
  · exact ⟨_,km⟩
end Gv
