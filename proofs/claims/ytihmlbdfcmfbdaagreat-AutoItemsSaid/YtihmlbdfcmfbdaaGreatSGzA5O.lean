/-
  Part 15 of the proof: what the machine does and what the functions answer.
  Conditions: those that each lemma names.
-/
import Derived.Test.YtihmlbdfcmfbdaaGreatSGzA5N
set_option linter.unusedSimpArgs false
set_option linter.unusedVariables false
set_option maxRecDepth 100000
namespace Gv
open Go Go.Proofs
def l9:DF:=⟨.seq (ak [aY 0 false]) <|
  .seq (ak [((some 16),.op (.bF 16 1 [(.val (.int .u8 0))] [(0,(.val (.val (.int .u8 37)))),(1,(.val (.val (.int .u8 37)))),(2,(.val (.val (.int .u8 32)))),(3,(.val (.val (.int .u8 115)))),(4,(.val (.val (.int .u8 32)))),(5,(.val (.val (.int .u8 58)))),(6,(.val (.val (.int .u8 32)))),(7,(.val (.val (.int .u8 39)))),(8,(.val (.val (.int .u8 97)))),(9,(.val (.val (.int .u8 39)))),(10,(.val (.val (.int .u8 32)))),(11,(.val (.val (.int .u8 115)))),(12,(.val (.val (.int .u8 32)))),(13,(.val (.val (.int .u8 124)))),(14,(.val (.val (.int .u8 32)))),(15,(.val (.val (.int .u8 59))))])),((some 17),.op (.old (.convert 91 91 (.tmp 16)) 91)),aH 18 49 [17],aa 15 18,cB 19 0 15,cB 20 1 15,cB 21 2 15,((some 1),.op (.alloc [(.emp 1),(.emp 1),(.emp 1),(.val (.int .i64 0))])),(none,.op (.store 4 (.tmp 1) (.tmp 19))),aa 2 20,aa 3 21]) <|
  .seq (ak [aK 23 4 1,aH 24 24 [23],aa 22 24,cB 25 0 22,cB 26 1 22,aa 4 25,aa 5 26]) <|
  .seq (ak [((some 28),.op (.build [(.emp 1),(.emp 1),(.emp 1),(.val (.int .i64 0))] [])),aH 29 24 [28],aa 27 29,cB 30 0 27,cB 31 1 27,aa 6 30,aa 7 31]) <|
  .seq (ak [aK 32 4 1,((some 33),.op (.build [(.val (.int .i64 0)),(.val (.int .i64 0))] [(0,1,(.val (.val (.int .i64 (-1)))))])),((some 34),.op (.build [(.val (.int .i64 0)),(.val (.int .i64 0))] [(0,1,(.val (.val (.int .i64 7))))])),((some 35),.op (.bF 2 2 [(.val (.int .i64 0)),(.val (.int .i64 0))] [(0,(.tmp 33)),(1,(.tmp 34))])),aH 36 22 [32,35],aa 8 36]) <|
  .seq (ak [aa 38 4,((some 39),.op (.bF 3 1 [(.val (.int .i64 0))] [(0,(.val (.val (.int .i64 0)))),(1,(.val (.val (.int .i64 0)))),(2,(.val (.val (.int .i64 (-1)))))])),cX 40 28 [(.tmp 38),(.val (.val (.int .i64 0))),(.tmp 39)],aa 37 40,cB 41 0 37,cB 42 1 37,aa 9 41,aa 10 42]) <|
  .seq (ak [aa 44 4,((some 45),.op (.bF 1 1 [(.val (.int .i64 0))] [(0,(.val (.val (.int .i64 1))))])),cX 46 28 [(.tmp 44),(.val (.val (.int .i64 0))),(.tmp 45)],aa 43 46,cB 47 0 43,cB 48 1 43,aa 11 47,aa 12 48]) <|
  .seq (ak [aK 50 4 1,((some 51),.op (.build [(.val (.int .i64 0)),(.val (.int .i64 0))] [(0,1,(.val (.val (.int .i64 0)))),(1,1,(.val (.val (.int .i64 1))))])),aH 52 17 [50,51],aa 49 52,cB 53 0 49,cB 54 1 49,aa 13 53,aa 14 54]) <|
  .seq (.region [] [⟨none,[aa 55 5,az 56 .eql 55 0,aa 57 56]⟩,⟨(some (57,true)),[aa 58 7,az 59 .eql 58 1]⟩,⟨none,[bz 60 57 59,aa 61 60]⟩,⟨(some (61,true)),[aa 62 4,aR 63 62,az 64 .eql 63 4]⟩,⟨none,[bz 65 61 64,aa 66 65]⟩,⟨(some (66,true)),[aa 67 4,((some 68),.op (.idx 2 (.tmp 67) (.val (.val (.int .i64 1))))),au 69 1 68,aw 70 69,aR 71 70,az 72 .eql 71 2]⟩,⟨none,[bz 73 66 72,aa 74 73]⟩,⟨(some (74,true)),[aa 75 8,aR 76 75,az 77 .eql 76 3]⟩,⟨none,[bz 78 74 77,aa 79 78]⟩,⟨(some (79,true)),[aa 80 8,((some 81),.op (.idx 2 (.tmp 80) (.val (.val (.int .i64 0))))),au 82 0 81,aw 83 82,az 84 .eql 83 (-1)]⟩,⟨none,[bz 85 79 84,aa 86 85]⟩,⟨(some (86,true)),[aa 87 10]⟩,⟨none,[bz 88 86 87,aa 89 88]⟩,⟨(some (89,true)),[aa 90 9,az 91 .eql 90 3]⟩,⟨none,[bz 92 89 91,aa 93 92]⟩,⟨(some (93,true)),[aa 94 12,b7 95 94]⟩,⟨none,[bz 96 93 95,aa 97 96]⟩,⟨(some (97,true)),[aa 98 14]⟩,⟨none,[bz 99 97 98,aa 100 99]⟩,⟨(some (100,true)),[aa 101 13,az 102 .eql 101 (-1)]⟩,⟨none,[bz 103 100 102,aa 104 103]⟩,⟨(some (104,true)),[aK 105 4 1,((some 106),.op (.build [(.val (.int .i64 0)),(.val (.int .i64 0))] [(0,1,(.val (.val (.int .i64 1))))])),aH 107 19 [105,106]]⟩,⟨none,[bz 108 104 107,aa 109 108]⟩,⟨(some (109,true)),[aK 110 4 1,((some 111),.op (.build [(.val (.int .i64 0)),(.val (.int .i64 0))] [(0,1,(.val (.val (.int .i64 1)))),(1,1,(.val (.val (.int .i64 1))))])),aH 112 19 [110,111],b7 113 112]⟩,⟨none,[bz 114 109 113,aa 0 114]⟩]) <|
  .ret,
  [.tmp 0],115⟩
theorem qS:aT Tryz.prog 15 []=some l9:=by kernel_rfl
def z6:DC :=
  .seq (ak [aS 49 .lss 48 47]) <|
  .seq (.cond (.tmp 49) (.skip) (.exit 2)) <|
  .seq (.block 3 (.seq (ak [aa 50 48,aa 9 50]) <|
  .seq (ak [aa 51 8,aa 52 9,((some 53),.op (.old (.lookup 98 (.tmp 51) (.tmp 52) false) 27)),aH 54 64 [53],aa 10 54]) <|
  .seq (.seq (ak [aa 55 10,aR 56 55,az 57 .eql 56 0]) <|
  .cond (.tmp 57) (.exit 3) (.skip)) <|
  .seq (ak [aa 58 9,aa 11 58]) <|
  .seq (.seq (ak [aa 59 9,au 60 0 1,aw 61 60,aR 62 61,aS 63 .geq 59 62]) <|
  .cond (.tmp 63) (ak [au 64 0 1,aw 65 64,aR 66 65,az 67 .sub 66 1,aa 68 9,aS 69 .sub 67 68,aa 11 69]) (.skip)) <|
  .seq (ak [aa 71 6,aa 72 10,aH 73 62 [72],((some 74),.op (.old (.lookup 97 (.tmp 71) (.tmp 73) true) 30)),aa 70 74,cB 75 0 70,cB 76 1 70,aa 12 75,aa 13 76]) <|
  .seq (.seq (ak [aa 77 13,b7 78 77]) <|
  .cond (.tmp 78) (.seq (ak [aa 79 5,aR 80 79,aa 12 80]) <|
  .seq (ak [aa 81 6,aa 82 10,aH 83 62 [82],aa 84 12,(none,.op (.old (.mapUpdate 97 (.tmp 81) (.tmp 83) (.tmp 84)) 0))]) <|
  ak [aa 85 5,aa 86 10,((some 87),.op (.build [(.emp 1),(.emp 1)] [(0,1,(.tmp 86))])),((some 88),.op (.bF 1 2 [(.emp 1),(.emp 1)] [(0,(.tmp 87))])),((some 89),.op (.app 2 48 (.tmp 85) (.tmp 88))),aa 5 89]) (.skip)) <|
  ak [aa 90 5,aa 91 7,aa 92 5,aa 93 7,aZ 94 2 92 93,au 95 1 94,aw 96 95,aa 97 11,aa 98 12,((some 99),.op (.build [(.val (.int .i64 0)),(.val (.int .i64 0))] [(0,1,(.tmp 97)),(1,1,(.tmp 98))])),((some 100),.op (.bF 1 2 [(.val (.int .i64 0)),(.val (.int .i64 0))] [(0,(.tmp 99))])),((some 101),.op (.app 2 16 (.tmp 96) (.tmp 100))),aZ 102 2 90 91,au 103 1 102,(none,.op (.store 1 (.tmp 103) (.tmp 101)))])) <|
  ak [az 104 .add 48 1,aa 48 104]
def zD:DC :=
  .seq (.seq (ak [aa 26 7,aa 27 5,aR 28 27,aS 29 .lss 26 28]) <|
  .cond (.tmp 29) (.skip) (.exit 0)) <|
  .seq (.block 1 (.seq (.region [(0,7)] [⟨none,[aK 32 4 1,aK 33 4 1,aa 34 5,aa 35 7,aZ 36 2 34 35,au 37 0 36,aw 38 37,aH 39 56 [33,38],aH 40 63 [32,39],aa 8 40]⟩]) <|
  .seq (.seq (ak [au 41 0 1,aw 42 41,aR 43 42,au 44 1 1,aw 45 44,aR 46 45,aS 47 .add 43 46,aJ 48 0]) <|
  .block 2 (.loop z6)) <|
  .seq (ak [aa 105 5,aR 106 105,az 107 .gtr 106 300]) <|
  .cond (.tmp 107) (.seq (ak [((some 2),.op (.bk (.val (.emp 1)))),aJ 3 5]) <|
  .ret) (.skip))) <|
  ak [aa 30 7,az 31 .add 30 1,aa 7 31]
def vG:DF:=⟨.seq (ak [bQ 1 0,((some 2),.op (.bk (.val (.emp 1)))),aJ 3 0]) <|
  .seq (.seq (ak [aK 14 4 1,aH 15 61 [14],b7 16 15]) <|
  .cond (.tmp 16) (.seq (ak [((some 2),.op (.bk (.val (.emp 1)))),aJ 3 1]) <|
  .ret) (.skip)) <|
  .seq (ak [((some 17),.op (.build [(.val (.int .i64 0)),(.val (.int .i64 0))] [(0,1,(.val (.val (.int .i64 (-1)))))])),((some 18),.op (.bF 1 2 [(.val (.int .i64 0)),(.val (.int .i64 0))] [(0,(.tmp 17))])),aa 4 18]) <|
  .seq (ak [aa 19 4,((some 20),.op (.build [(.emp 1),(.emp 1)] [(0,1,(.tmp 19))])),((some 21),.op (.bF 1 2 [(.emp 1),(.emp 1)] [(0,(.tmp 20))])),aa 5 21]) <|
  .seq (ak [((some 22),.op (.oB)),aa 23 4,aH 24 62 [23],(none,.op (.old (.insert 97 (.tmp 22) (.tmp 24) (.const (.int .i64 0))) 0)),aa 25 22,aa 6 25]) <|
  .seq (.seq (ak [aJ 7 0]) <|
  .block 0 (.loop zD)) <|
  .seq (ak [aa 108 5,aa 2 108,aJ 3 0]) <|
  .ret,
  [.tmp 2,.tmp 3],109⟩
theorem yK:aT Tryz.prog 24 [1]=some vG:=by kernel_rfl
def wX:DF:=⟨.seq (ak [((some 2),.op (.bk (.val (.emp 1))))]) <|
  .seq (ak [aa 3 0,cX 4 112 [(.tmp 3),(.val (.fn 113 [] []))]]) <|
  .seq (ak [aa 5 0,aH 6 114 [5],aa 2 6]) <|
  .ret,
  [.tmp 2],7⟩
theorem Ac:aT Tryz.prog 64 []=some wX:=by kernel_rfl
def eK:DF:=⟨.seq (ak [aa 5 0,aR 6 5,aa 4 6]) <|
  ak [aa 7 0,aa 8 4,aa 9 4,((some 10),.op (.conv .u64 (.tmp 9))),aH 11 167 [10],aa 12 1,cX 13 166 [(.tmp 7),(.val (.val (.int .i64 0))),(.tmp 8),(.tmp 11),(.tmp 12)]],
  [],14⟩
theorem gV:aT Tryz.prog 112 []=some eK:=by kernel_rfl
def qg:DF:=⟨.seq (ak [aJ 2 0]) <|
  .seq (.cond (.val (.val (.bool false))) (.seq (ak [aa 3 0,((some 4),.op (.conv .u32 (.tmp 3))),aH 5 207 [4],aa 2 5]) <|
  .ret) (.skip)) <|
  .seq (ak [aa 6 0,aH 7 208 [6],aa 2 7]) <|
  .ret,
  [.tmp 2],8⟩
theorem uz:aT Tryz.prog 167 []=some qg:=by kernel_rfl
def og:DF:=⟨.seq (ak [aJ 2 0]) <|
  .seq (.seq (ak [aa 3 0,((some 4),.op (.arith .geq (.tmp 3) (.val (.val (.int .u32 65536)))))]) <|
  .cond (.tmp 4) (.seq (ak [aa 5 0,((some 6),.op (.sh false (.tmp 5) (.val (.val (.int .u64 16))))),aa 0 6]) <|
  ak [aJ 2 16]) (.skip)) <|
  .seq (.seq (ak [aa 7 0,((some 8),.op (.arith .geq (.tmp 7) (.val (.val (.int .u32 256)))))]) <|
  .cond (.tmp 8) (.seq (ak [aa 9 0,((some 10),.op (.sh false (.tmp 9) (.val (.val (.int .u64 8))))),aa 0 10]) <|
  ak [aa 11 2,az 12 .add 11 8,aa 2 12]) (.skip)) <|
  .seq (.region [] [⟨none,[aa 13 2,aa 14 0,((some 15),.op (.conv .u8 (.tmp 14))),((some 16),.op (.c5 (.val (.val (.string ⟨#[0,1,2,2,3,3,3,3,4,4,4,4,4,4,4,4,5,5,5,5,5,5,5,5,5,5,5,5,5,5,5,5,6,6,6,6,6,6,6,6,6,6,6,6,6,6,6,6,6,6,6,6,6,6,6,6,6,6,6,6,6,6,6,6,7,7,7,7,7,7,7,7,7,7,7,7,7,7,7,7,7,7,7,7,7,7,7,7,7,7,7,7,7,7,7,7,7,7,7,7,7,7,7,7,7,7,7,7,7,7,7,7,7,7,7,7,7,7,7,7,7,7,7,7,7,7,7,7,8,8,8,8,8,8,8,8,8,8,8,8,8,8,8,8,8,8,8,8,8,8,8,8,8,8,8,8,8,8,8,8,8,8,8,8,8,8,8,8,8,8,8,8,8,8,8,8,8,8,8,8,8,8,8,8,8,8,8,8,8,8,8,8,8,8,8,8,8,8,8,8,8,8,8,8,8,8,8,8,8,8,8,8,8,8,8,8,8,8,8,8,8,8,8,8,8,8,8,8,8,8,8,8,8,8,8,8,8,8,8,8,8,8,8,8,8,8,8,8,8,8,8,8,8,8,8,8]⟩))) (.tmp 15))),((some 17),.op (.conv .i64 (.tmp 16))),aS 18 .add 13 17,aa 2 18]⟩]) <|
  .ret,
  [.tmp 2],19⟩
theorem tt:aT Tryz.prog 207 []=some og:=by kernel_rfl
def ou:DF:=⟨.seq (ak [aJ 2 0]) <|
  .seq (.seq (ak [aa 3 0,((some 4),.op (.arith .geq (.tmp 3) (.val (.val (.int .u64 4294967296)))))]) <|
  .cond (.tmp 4) (.seq (ak [aa 5 0,((some 6),.op (.sh false (.tmp 5) (.val (.val (.int .u64 32))))),aa 0 6]) <|
  ak [aJ 2 32]) (.skip)) <|
  .seq (.seq (ak [aa 7 0,((some 8),.op (.arith .geq (.tmp 7) (.val (.val (.int .u64 65536)))))]) <|
  .cond (.tmp 8) (.seq (ak [aa 9 0,((some 10),.op (.sh false (.tmp 9) (.val (.val (.int .u64 16))))),aa 0 10]) <|
  ak [aa 11 2,az 12 .add 11 16,aa 2 12]) (.skip)) <|
  .seq (.seq (ak [aa 13 0,((some 14),.op (.arith .geq (.tmp 13) (.val (.val (.int .u64 256)))))]) <|
  .cond (.tmp 14) (.seq (ak [aa 15 0,((some 16),.op (.sh false (.tmp 15) (.val (.val (.int .u64 8))))),aa 0 16]) <|
  ak [aa 17 2,az 18 .add 17 8,aa 2 18]) (.skip)) <|
  .seq (.region [] [⟨none,[aa 19 2,aa 20 0,((some 21),.op (.conv .u8 (.tmp 20))),((some 22),.op (.c5 (.val (.val (.string ⟨#[0,1,2,2,3,3,3,3,4,4,4,4,4,4,4,4,5,5,5,5,5,5,5,5,5,5,5,5,5,5,5,5,6,6,6,6,6,6,6,6,6,6,6,6,6,6,6,6,6,6,6,6,6,6,6,6,6,6,6,6,6,6,6,6,7,7,7,7,7,7,7,7,7,7,7,7,7,7,7,7,7,7,7,7,7,7,7,7,7,7,7,7,7,7,7,7,7,7,7,7,7,7,7,7,7,7,7,7,7,7,7,7,7,7,7,7,7,7,7,7,7,7,7,7,7,7,7,7,8,8,8,8,8,8,8,8,8,8,8,8,8,8,8,8,8,8,8,8,8,8,8,8,8,8,8,8,8,8,8,8,8,8,8,8,8,8,8,8,8,8,8,8,8,8,8,8,8,8,8,8,8,8,8,8,8,8,8,8,8,8,8,8,8,8,8,8,8,8,8,8,8,8,8,8,8,8,8,8,8,8,8,8,8,8,8,8,8,8,8,8,8,8,8,8,8,8,8,8,8,8,8,8,8,8,8,8,8,8,8,8,8,8,8,8,8,8,8,8,8,8,8,8,8,8,8,8]⟩))) (.tmp 21))),((some 23),.op (.conv .i64 (.tmp 22))),aS 24 .add 19 23,aa 2 24]⟩]) <|
  .ret,
  [.tmp 2],25⟩
theorem tj:aT Tryz.prog 208 []=some ou:=by kernel_rfl
def jv:DC :=
  .block 1 (.seq (ak [aa 21 2,aa 22 1,aS 23 .sub 21 22,aa 12 23]) <|
  .seq (.seq (ak [aa 24 12,az 25 .leq 24 12]) <|
  .cond (.tmp 25) (.seq (ak [aa 26 0,aa 27 1,aa 28 2,aa 29 4,aH 30 199 [26,27,28,29]]) <|
  .ret) (.skip)) <|
  .seq (.seq (ak [aa 31 3,az 32 .eql 31 0]) <|
  .cond (.tmp 32) (.seq (ak [aa 33 0,aa 34 1,aa 35 2,aa 36 4,aH 37 200 [33,34,35,36]]) <|
  .ret) (.skip)) <|
  .seq (.seq (ak [aa 38 10,b7 39 38]) <|
  .cond (.tmp 39) (.seq (ak [aa 40 0,aa 41 1,aa 42 2,aa 43 4,aH 44 201 [40,41,42,43]]) <|
  ak [aa 45 3,az 46 .sub 45 1,aa 3 46]) (.skip)) <|
  .seq (ak [aa 48 0,aa 49 1,aa 50 2,aa 51 4,aH 52 202 [48,49,50,51],aa 47 52,cB 53 0 47,cB 54 1 47,aa 13 53,aa 14 54]) <|
  .seq (.seq (ak [aa 55 14,az 56 .eql 55 2]) <|
  .cond (.tmp 56) (.seq (ak [aa 57 0,aa 58 1,aa 59 2,aa 60 4,aH 61 203 [57,58,59,60]]) <|
  .seq (ak [aa 62 2,az 63 .sub 62 1,aa 64 13,aa 65 1,aS 66 .sub 64 65,aS 67 .sub 63 66,aa 13 67]) <|
  ak [aJ 14 1]) (.skip)) <|
  .seq (.seq (.region [] [⟨none,[aa 68 10,aa 69 68]⟩,⟨(some (69,true)),[aa 70 11]⟩,⟨none,[bz 71 69 70,aa 72 71]⟩,⟨(some (72,true)),[aa 73 14,az 74 .eql 73 1]⟩,⟨none,[bz 75 72 74]⟩]) <|
  .cond (.tmp 75) (.seq (ak [aa 76 0,aa 77 1,aa 78 2,aa 79 4,aH 80 204 [76,77,78,79]]) <|
  .cond (.tmp 80) (.ret) (.skip)) (.skip)) <|
  .seq (.seq (.region [] [⟨none,[aa 81 1,az 82 .gtr 81 0,aa 83 82]⟩,⟨(some (83,true)),[aa 84 4,aa 85 0,aa 86 1,az 87 .sub 86 1,aZ 88 2 85 87,aK 89 2 88,aa 90 0,aa 91 13,aZ 92 2 90 91,aK 93 2 92,((some 94),.call (.tmp 84) [(.tmp 89),(.tmp 93)]),az 95 .lss 94 0,b7 96 95]⟩,⟨none,[bz 97 83 96]⟩]) <|
  .cond (.tmp 97) (.seq (ak [aa 98 0,aa 99 1,aa 100 2,aa 101 13,aa 102 4,aH 103 205 [98,99,100,101,102],aa 15 103]) <|
  .seq (ak [aa 104 15,aa 1 104]) <|
  .exit 1) (.skip)) <|
  .seq (ak [aa 106 0,aa 107 1,aa 108 2,aa 109 13,aa 110 4,aH 111 206 [106,107,108,109,110],aa 105 111,cB 112 0 105,cB 113 1 105,aa 16 112,aa 17 113]) <|
  .seq (ak [aa 114 17,aa 11 114]) <|
  .seq (ak [aa 115 16,aa 116 1,aS 117 .sub 115 116,aa 118 2,aa 119 16,aS 120 .sub 118 119,aa 18 117,aa 19 120]) <|
  .seq (ak [aa 121 12,az 122 .quo 121 8,aa 20 122]) <|
  .seq (ak [aa 123 18,aa 124 19,aS 125 .lss 123 124]) <|
  .cond (.tmp 125) (.seq (ak [aa 126 18,aa 127 20,aS 128 .geq 126 127,aa 10 128]) <|
  .seq (ak [aa 129 0,aa 130 1,aa 131 16,aa 132 3,aa 133 4,aH 134 166 [129,130,131,132,133]]) <|
  ak [aa 135 16,az 136 .add 135 1,aa 1 136]) (.seq (ak [aa 137 19,aa 138 20,aS 139 .geq 137 138,aa 10 139]) <|
  .seq (ak [aa 140 0,aa 141 16,az 142 .add 141 1,aa 143 2,aa 144 3,aa 145 4,aH 146 166 [140,142,143,144,145]]) <|
  ak [aa 147 16,aa 2 147]))
def fJ:DF:=⟨.seq (ak [aY 10 true]) <|
  .seq (ak [aY 11 true]) <|
  .block 0 (.loop jv),
  [],148⟩
theorem iY:aT Tryz.prog 166 []=some fJ:=by kernel_rfl
def gY:DC :=
  .seq (.seq (.region [] [⟨none,[aa 18 9,aa 19 1,aS 20 .gtr 18 19,aa 21 20]⟩,⟨(some (21,true)),[aa 22 3,aa 23 0,aa 24 9,aZ 25 2 23 24,aK 26 2 25,aa 27 0,aa 28 9,az 29 .sub 28 1,aZ 30 2 27 29,aK 31 2 30,((some 32),.call (.tmp 22) [(.tmp 26),(.tmp 31)]),az 33 .lss 32 0]⟩,⟨none,[bz 34 21 33]⟩]) <|
  .cond (.tmp 34) (.skip) (.exit 2)) <|
  .seq (.block 3 (ak [aa 37 0,aa 38 9,aa 39 0,aa 40 9,az 41 .sub 40 1,aa 42 0,aa 43 9,az 44 .sub 43 1,aZ 45 2 42 44,aK 46 2 45,aa 47 0,aa 48 9,aZ 49 2 47 48,aK 50 2 49,aZ 51 2 37 38,(none,.op (.store 2 (.tmp 51) (.tmp 46))),aZ 52 2 39 41,(none,.op (.store 2 (.tmp 52) (.tmp 50)))])) <|
  ak [aa 35 9,az 36 .sub 35 1,aa 9 36]
def gX:DC :=
  .seq (.seq (ak [aa 12 8,aa 13 2,aS 14 .lss 12 13]) <|
  .cond (.tmp 14) (.skip) (.exit 0)) <|
  .seq (.block 1 (.seq (ak [aa 17 8,aa 9 17]) <|
  .block 2 (.loop gY))) <|
  ak [aa 15 8,az 16 .add 15 1,aa 8 16]
def ey:DF:=⟨.seq (ak [aa 10 1,az 11 .add 10 1,aa 8 11]) <|
  .block 0 (.loop gX),
  [],53⟩
theorem gN:aT Tryz.prog 199 []=some ey:=by kernel_rfl
def uk:DF:=⟨.seq (ak [bQ 2 0,bQ 3 1,aJ 4 0]) <|
  .seq (.region [(4,6),(4,8)] [⟨none,[au 5 0 2,aw 6 5,au 7 0 3,aw 8 7,aH 9 126 [6,8],au 10 1 2,aw 11 10,au 12 1 3,aw 13 12,aH 14 126 [11,13],((some 15),.op (.bF 2 1 [(.val (.int .i64 0))] [(0,(.tmp 9)),(1,(.tmp 14))])),aH 16 168 [15],aa 4 16]⟩]) <|
  .ret,
  [.tmp 4],17⟩
theorem x6:aT Tryz.prog 113 [2,3]=some uk:=by kernel_rfl
def ni:DF:=⟨.seq (ak [aJ 4 0]) <|
  .seq (ak [aa 7 0,aH 8 173 [7],aa 5 8]) <|
  .seq (ak [aa 9 1,aH 10 173 [9],aa 6 10]) <|
  .seq (.seq (ak [aa 11 5]) <|
  .cond (.tmp 11) (.seq (.seq (ak [aa 12 6]) <|
  .cond (.tmp 12) (.seq (ak [aJ 4 0]) <|
  .ret) (.skip)) <|
  .seq (ak [aJ 4 (-1)]) <|
  .ret) (.skip)) <|
  .seq (.seq (ak [aa 13 6]) <|
  .cond (.tmp 13) (.seq (ak [aJ 4 1]) <|
  .ret) (.skip)) <|
  .seq (.seq (ak [aa 14 0,aa 15 1,aS 16 .lss 14 15]) <|
  .cond (.tmp 16) (.seq (ak [aJ 4 (-1)]) <|
  .ret) (.skip)) <|
  .seq (.seq (ak [aa 17 0,aa 18 1,aS 19 .gtr 17 18]) <|
  .cond (.tmp 19) (.seq (ak [aJ 4 1]) <|
  .ret) (.skip)) <|
  .seq (ak [aJ 4 0]) <|
  .ret,
  [.tmp 4],20⟩
theorem rJ:aT Tryz.prog 126 []=some ni:=by kernel_rfl
def ph:DF:=⟨.seq (ak [aY 2 false]) <|
  .seq (ak [aa 3 0,aa 4 0,aS 5 .neq 3 4,aa 2 5]) <|
  .ret,
  [.tmp 2],6⟩
theorem tX:aT Tryz.prog 173 []=some ph:=by kernel_rfl
def x5:DC :=
  .seq (ak [aS 9 .lss 8 7]) <|
  .seq (.cond (.tmp 9) (.skip) (.exit 0)) <|
  .seq (.block 1 (.seq (ak [aZ 10 1 6 8,aw 11 10,aa 5 11]) <|
  .seq (ak [aa 12 5,aa 13 3,aS 14 .neq 12 13]) <|
  .cond (.tmp 14) (.seq (ak [aa 15 5,aa 2 15]) <|
  .ret) (.skip))) <|
  ak [az 16 .add 8 1,aa 8 16]
def tF:DF:=⟨.seq (ak [aJ 2 0]) <|
  .seq (ak [aJ 3 0]) <|
  .seq (.seq (ak [aa 6 0,aR 7 6,aJ 8 0]) <|
  .block 0 (.loop x5)) <|
  .seq (ak [aa 17 3,aa 2 17]) <|
  .ret,
  [.tmp 2],18⟩
theorem xn:aT Tryz.prog 168 []=some tF:=by kernel_rfl
def iv:DC :=
  .seq (.seq (ak [aa 29 5,aa 30 4,aR 31 30,aS 32 .lss 29 31]) <|
  .cond (.tmp 32) (.skip) (.exit 2)) <|
  .seq (.block 3 (.seq (ak [aa 35 4,aa 36 5,aZ 37 2 35 36,aK 38 2 37,aa 39 4,aa 40 5,az 41 .sub 40 1,aZ 42 2 39 41,aK 43 2 42,((some 44),.op (.old (.binOp .neq 33 (.tmp 38) (.tmp 43) 33) 4))]) <|
  .cond (.tmp 44) (.seq (ak [aa 45 0,aa 46 3,aa 47 4,aa 48 5,aZ 49 2 47 48,aK 50 2 49,aZ 51 2 45 46,(none,.op (.store 2 (.tmp 51) (.tmp 50)))]) <|
  ak [aa 52 3,az 53 .add 52 1,aa 3 53]) (.skip))) <|
  ak [aa 33 5,az 34 .add 33 1,aa 5 34]
def ik:DC :=
  .seq (.seq (ak [aa 10 3,aa 11 0,aR 12 11,aS 13 .lss 10 12]) <|
  .cond (.tmp 13) (.skip) (.exit 0)) <|
  .seq (.block 1 (.seq (ak [aa 16 0,aa 17 3,aZ 18 2 16 17,aK 19 2 18,aa 20 0,aa 21 3,az 22 .sub 21 1,aZ 23 2 20 22,aK 24 2 23,((some 25),.op (.old (.binOp .eql 33 (.tmp 19) (.tmp 24) 33) 4))]) <|
  .cond (.tmp 25) (.seq (ak [aa 26 0,aa 27 3,((some 28),.op (.slice 2 (.tmp 26) (some (.tmp 27)) none)),aa 4 28]) <|
  .seq (.seq (ak [aJ 5 1]) <|
  .block 2 (.loop iv)) <|
  .seq (ak [aa 54 0,aa 55 3,((some 56),.op (.slice 2 (.tmp 54) (some (.tmp 55)) none)),(none,.op (.old (.call { callee:=.builtin .clear,args:=#[(.tmp 56)],argTypes:=#[27] }) 0))]) <|
  .seq (ak [aa 57 0,aa 58 3,((some 59),.op (.slice 2 (.tmp 57) none (some (.tmp 58)))),aa 2 59]) <|
  .ret) (.skip))) <|
  ak [aa 14 3,az 15 .add 14 1,aa 3 15]
def eU:DF:=⟨.seq (ak [((some 2),.op (.bk (.val (.emp 1))))]) <|
  .seq (.seq (ak [aa 6 0,aR 7 6,az 8 .lss 7 2]) <|
  .cond (.tmp 8) (.seq (ak [aa 9 0,aa 2 9]) <|
  .ret) (.skip)) <|
  .seq (.seq (ak [aJ 3 1]) <|
  .block 0 (.loop ik)) <|
  .seq (ak [aa 60 0,aa 2 60]) <|
  .ret,
  [.tmp 2],61⟩
theorem ib:aT Tryz.prog 114 []=some eU:=by kernel_rfl
def Cz:DC :=
  .seq (ak [aS 9 .lss 8 7]) <|
  .seq (.cond (.tmp 9) (.skip) (.exit 0)) <|
  .seq (.block 1 (.seq (ak [aZ 10 2 6 8,aK 11 2 10,((some 5),.op (.alloc [(.val (.int .i64 0)),(.val (.int .i64 0))])),(none,.op (.store 2 (.tmp 5) (.tmp 11)))]) <|
  ak [aa 12 3,au 13 0 5,aw 14 13,az 15 .add 14 1,((some 16),.op (.conv .u8 (.tmp 15))),au 17 1 5,aw 18 17,((some 19),.op (.conv .u8 (.tmp 18))),((some 20),.op (.bF 2 1 [(.val (.int .u8 0))] [(0,(.tmp 16)),(1,(.tmp 19))])),((some 21),.op (.app 1 1 (.tmp 12) (.tmp 20))),aa 3 21])) <|
  ak [az 22 .add 8 1,aa 8 22]
def x3:DF:=⟨.seq (.region [] [⟨none,[((some 2),.op (.bk (.val (.val (.string ⟨#[]⟩)))))]⟩]) <|
  .seq (ak [((some 3),.op (.bk (.val (.emp 1))))]) <|
  .seq (.seq (ak [aa 6 0,aR 7 6,aJ 8 0]) <|
  .block 0 (.loop Cz)) <|
  .seq (ak [aa 23 3,((some 24),.op (.old (.convert 91 9 (.tmp 23)) 9)),aa 2 24]) <|
  .ret,
  [.tmp 2],25⟩
theorem BU:aT Tryz.prog 62 []=some x3:=by kernel_rfl
def xP:DC :=
  .seq (ak [aS 54 .lss 53 52]) <|
  .seq (.cond (.tmp 54) (.skip) (.exit 2)) <|
  .seq (.block 3 (.seq (ak [aa 55 53,aZ 56 3 51 53,aK 57 3 56,((some 11),.op (.alloc [(.val (.int .i64 0)),(.emp 1),(.val (.int .i64 0))])),aa 10 55,(none,.op (.store 3 (.tmp 11) (.tmp 57)))]) <|
  .seq (ak [au 58 0 11,aw 59 58,aa 60 8,((some 61),.op (.arith .sub (.val (.val (.int .i64 (-1)))) (.tmp 60))),aS 62 .eql 59 61]) <|
  .cond (.tmp 62) (ak [aa 63 5,aa 64 10,((some 65),.op (.build [(.val (.int .i64 0)),(.val (.int .i64 0))] [(0,1,(.tmp 64))])),((some 66),.op (.bF 1 2 [(.val (.int .i64 0)),(.val (.int .i64 0))] [(0,(.tmp 65))])),((some 67),.op (.app 2 16 (.tmp 63) (.tmp 66))),aa 5 67]) (.skip))) <|
  ak [az 68 .add 53 1,aa 53 68]
def xo:DC :=
  .seq (.seq (ak [aa 18 7,aa 19 5,aR 20 19,aS 21 .lss 18 20]) <|
  .cond (.tmp 21) (.skip) (.exit 0)) <|
  .seq (.block 1 (.seq (ak [aK 25 4 2,aa 26 5,aa 27 7,aZ 28 2 26 27,aK 29 2 28,aH 30 50 [25,29],aa 24 30,cB 31 0 24,cB 32 1 24,aa 8 31,aa 9 32]) <|
  .seq (.seq (.region [] [⟨none,[aa 33 9,b7 34 33,aa 35 34]⟩,⟨(some (35,false)),[aa 36 8,az 37 .geq 36 0]⟩,⟨none,[bC 38 35 37,aa 39 38]⟩,⟨(some (39,false)),[aa 40 6,aa 41 8,((some 42),.op (.arith .sub (.val (.val (.int .i64 (-1)))) (.tmp 41))),aZ 43 1 40 42,aw 44 43]⟩,⟨none,[bC 45 39 44]⟩]) <|
  .cond (.tmp 45) (.exit 1) (.skip)) <|
  .seq (ak [aa 46 6,aa 47 8,((some 48),.op (.arith .sub (.val (.val (.int .i64 (-1)))) (.tmp 47))),aZ 49 1 46 48,(none,.op (.store 1 (.tmp 49) (.val (.val (.bool true)))))]) <|
  .seq (ak [au 50 2 2,aw 51 50,aR 52 51,aJ 53 0]) <|
  .block 2 (.loop xP))) <|
  ak [aa 22 7,az 23 .add 22 1,aa 7 23]
def q9:DF:=⟨.seq (ak [bQ 2 0,((some 4),.op (.bk (.val (.emp 1))))]) <|
  .seq (ak [aa 12 1,aH 13 58 [12],aa 5 13]) <|
  .seq (ak [au 14 1 2,aw 15 14,aR 16 15,((some 17),.op (.make 1 1 [(.val (.bool false))] (.tmp 16) (.tmp 16))),aa 6 17]) <|
  .seq (.seq (ak [aJ 7 0]) <|
  .block 0 (.loop xo)) <|
  .seq (ak [aa 69 5,aH 70 64 [69],aa 4 70]) <|
  .ret,
  [.tmp 4],71⟩
theorem wa:aT Tryz.prog 56 [2]=some q9:=by kernel_rfl
def wi:DF:=⟨.seq (ak [bQ 2 0,bQ 3 1,aJ 4 0,aY 5 false]) <|
  .seq (.seq (ak [aK 7 4 2,au 8 0 3,aw 9 8,aH 10 53 [7,9],aa 6 10]) <|
  .seq (ak [au 11 1 3,aw 12 11,aa 13 6,aR 14 13,aS 15 .lss 12 14]) <|
  .cond (.tmp 15) (.seq (ak [aa 16 6,au 17 1 3,aw 18 17,aZ 19 1 16 18,aw 20 19,aa 4 20,aY 5 true]) <|
  .ret) (.skip)) <|
  .seq (ak [aJ 4 0,aY 5 false]) <|
  .ret,
  [.tmp 4,.tmp 5],21⟩
theorem As:aT Tryz.prog 50 [2,3]=some wi:=by kernel_rfl
def uI:DF:=⟨.seq (ak [bQ 2 0,((some 4),.op (.bk (.val (.emp 1))))]) <|
  .seq (.seq (ak [aa 5 1,az 6 .eql 5 (-1)]) <|
  .cond (.tmp 6) (.seq (ak [au 7 3 2,aw 8 7,((some 9),.op (.arith .sub (.val (.val (.int .i64 (-1)))) (.tmp 8))),((some 10),.op (.bF 1 1 [(.val (.int .i64 0))] [(0,(.tmp 9))])),aa 4 10]) <|
  .ret) (.skip)) <|
  .seq (ak [au 11 2 2,aw 12 11,aa 13 1,aZ 14 3 12 13,au 15 1 14,aw 16 15,aa 4 16]) <|
  .ret,
  [.tmp 4],17⟩
theorem yP:aT Tryz.prog 53 [2]=some uI:=by kernel_rfl
def fq:DF:=⟨.seq (ak [((some 2),.op (.bk (.val (.emp 1))))]) <|
  .seq (.seq (ak [aa 3 0,((some 4),.op (.nil true 0 (.tmp 3) (.val (.emp 1))))]) <|
  .cond (.tmp 4) (.seq (ak [((some 2),.op (.bk (.val (.emp 1))))]) <|
  .ret) (.skip)) <|
  .seq (ak [((some 5),.op (.bk (.val (.emp 2)))),aa 6 0,((some 7),.op (.app 2 16 (.tmp 5) (.tmp 6))),aa 2 7]) <|
  .ret,
  [.tmp 2],8⟩
theorem iz:aT Tryz.prog 58 []=some fq:=by kernel_rfl
def zM:DC :=
  .seq (ak [aS 15 .lss 14 13]) <|
  .seq (.cond (.tmp 15) (.skip) (.exit 0)) <|
  .seq (.block 1 (.seq (ak [aZ 16 2 12 14,aK 17 2 16,((some 7),.op (.alloc [(.val (.int .i64 0)),(.val (.int .i64 0))])),(none,.op (.store 2 (.tmp 7) (.tmp 17)))]) <|
  .seq (ak [aK 19 4 2,aK 20 2 7,aH 21 50 [19,20],aa 18 21,cB 22 0 18,cB 23 1 18,aa 8 22,aa 9 23]) <|
  .seq (ak [aa 24 9]) <|
  .cond (.tmp 24) (.seq (ak [aK 25 4 2,aa 26 8,aH 27 111 [25,26],aa 10 27]) <|
  ak [aa 28 5,aa 29 10,aa 30 5,aa 31 10,((some 32),.op (.old (.lookup 98 (.tmp 30) (.tmp 31) false) 27)),au 33 0 7,aw 34 33,au 35 1 7,aw 36 35,az 37 .add 36 1,((some 38),.op (.build [(.val (.int .i64 0)),(.val (.int .i64 0))] [(0,1,(.tmp 34)),(1,1,(.tmp 37))])),((some 39),.op (.bF 1 2 [(.val (.int .i64 0)),(.val (.int .i64 0))] [(0,(.tmp 38))])),((some 40),.op (.app 2 16 (.tmp 32) (.tmp 39))),(none,.op (.old (.mapUpdate 98 (.tmp 28) (.tmp 29) (.tmp 40)) 0))]) (.skip))) <|
  ak [az 41 .add 14 1,aa 14 41]
def uO:DF:=⟨.seq (ak [bQ 2 0,((some 4),.op (.bk (.val (.val (.map none)))))]) <|
  .seq (ak [((some 11),.op (.oB)),aa 5 11]) <|
  .seq (.seq (ak [aa 12 1,aR 13 12,aJ 14 0]) <|
  .block 0 (.loop zM)) <|
  .seq (ak [aa 42 5,aa 4 42]) <|
  .ret,
  [.tmp 4],43⟩
theorem zr:aT Tryz.prog 63 [2]=some uO:=by kernel_rfl
def wH:DF:=⟨.seq (ak [bQ 2 0,aJ 4 0]) <|
  .seq (.seq (ak [aa 5 1,az 6 .lss 5 0]) <|
  .cond (.tmp 6) (.seq (ak [au 7 0 2,aw 8 7,aR 9 8,az 10 .sub 9 1,aa 11 1,aS 12 .sub 10 11,aa 4 12]) <|
  .ret) (.skip)) <|
  .seq (ak [aa 13 1,aa 4 13]) <|
  .ret,
  [.tmp 4],14⟩
theorem zN:aT Tryz.prog 111 [2]=some wH:=by kernel_rfl
def q8:DF:=⟨.seq (ak [bQ 2 0,((some 4),.op (.bk (.val (.emp 1))))]) <|
  .seq (.region [(0,2),(0,4)] [⟨none,[aK 5 4 2,aa 6 1,aH 7 58 [6],((some 8),.op (.o9 59 [] [(.tmp 2)])),aH 9 57 [7,8],aH 10 56 [5,9],aa 4 10]⟩]) <|
  .ret,
  [.tmp 4],11⟩
theorem wc:aT Tryz.prog 22 [2,100001]=some q8:=by kernel_rfl
def oY:DF:=⟨.seq (ak [bQ 2 0,aY 3 false]) <|
  .seq (ak [aK 4 4 1,aK 5 2 2,aH 6 19 [4,5],b7 7 6,aa 3 7]) <|
  .ret,
  [.tmp 3],8⟩
theorem tU:aT Tryz.prog 59 [2]=some oY:=by kernel_rfl
def yT:DF:=⟨.seq (ak [bQ 2 0,bQ 3 1,aY 4 false]) <|
  .seq (.seq (.region [] [⟨none,[aK 5 4 2,aH 6 52 [5],b7 7 6,aa 8 7]⟩,⟨(some (8,false)),[au 9 0 3,aw 10 9,az 11 .lss 10 (-1)]⟩,⟨none,[bC 12 8 11,aa 13 12]⟩,⟨(some (13,false)),[au 14 0 3,aw 15 14,au 16 2 2,aw 17 16,aR 18 17,aS 19 .geq 15 18]⟩,⟨none,[bC 20 13 19]⟩]) <|
  .cond (.tmp 20) (.seq (ak [aY 4 false]) <|
  .ret) (.skip)) <|
  .seq (.region [(5,9)] [⟨none,[au 21 1 3,aw 22 21,az 23 .geq 22 0,aa 24 23]⟩,⟨(some (24,true)),[au 25 1 3,aw 26 25,aK 27 4 2,au 28 0 3,aw 29 28,aH 30 53 [27,29],aR 31 30,aS 32 .leq 26 31]⟩,⟨none,[bz 33 24 32,aa 4 33]⟩]) <|
  .ret,
  [.tmp 4],34⟩
theorem BX:aT Tryz.prog 19 [2,3]=some yT:=by kernel_rfl
def gR:DC :=
  .seq (.seq (ak [aa 16 6,aa 17 0,aR 18 17,aS 19 .lss 16 18]) <|
  .cond (.tmp 19) (.skip) (.exit 0)) <|
  .seq (.block 1 (.seq (ak [aa 22 0,aa 23 6,aZ 24 2 22 23,aK 25 2 24,((some 7),.op (.alloc [(.val (.int .i64 0)),(.val (.int .i64 0))])),(none,.op (.store 2 (.tmp 7) (.tmp 25)))]) <|
  .seq (ak [aa 26 1,aK 27 2 7,((some 28),.call (.tmp 26) [(.tmp 27)]),b7 29 28]) <|
  .cond (.tmp 29) (.seq (ak [aa 30 0,aa 31 5,aK 32 2 7,aZ 33 2 30 31,(none,.op (.store 2 (.tmp 33) (.tmp 32)))]) <|
  ak [aa 34 5,az 35 .add 34 1,aa 5 35]) (.skip))) <|
  ak [aa 20 6,az 21 .add 20 1,aa 6 21]
def ep:DF:=⟨.seq (ak [((some 4),.op (.bk (.val (.emp 1))))]) <|
  .seq (ak [aa 8 0,aa 9 1,aH 10 107 [8,9],aa 5 10]) <|
  .seq (.seq (ak [aa 11 5,az 12 .eql 11 (-1)]) <|
  .cond (.tmp 12) (.seq (ak [aa 13 0,aa 4 13]) <|
  .ret) (.skip)) <|
  .seq (.seq (ak [aa 14 5,az 15 .add 14 1,aa 6 15]) <|
  .block 0 (.loop gR)) <|
  .seq (ak [aa 36 0,aa 37 5,((some 38),.op (.slice 2 (.tmp 36) (some (.tmp 37)) none)),(none,.op (.old (.call { callee:=.builtin .clear,args:=#[(.tmp 38)],argTypes:=#[27] }) 0))]) <|
  .seq (ak [aa 39 0,aa 40 5,((some 41),.op (.slice 2 (.tmp 39) none (some (.tmp 40)))),aa 4 41]) <|
  .ret,
  [.tmp 4],42⟩
theorem gF:aT Tryz.prog 57 []=some ep:=by kernel_rfl
def g8:DC :=
  .seq (ak [aS 9 .lss 8 7]) <|
  .seq (.cond (.tmp 9) (.skip) (.exit 0)) <|
  .seq (.block 1 (.seq (ak [aa 10 8,aa 5 10]) <|
  .seq (ak [aa 11 1,aa 12 0,aa 13 5,aZ 14 2 12 13,aK 15 2 14,((some 16),.call (.tmp 11) [(.tmp 15)])]) <|
  .cond (.tmp 16) (.seq (ak [aa 17 5,aa 4 17]) <|
  .ret) (.skip))) <|
  ak [az 18 .add 8 1,aa 8 18]
def eC:DF:=⟨.seq (ak [aJ 4 0]) <|
  .seq (.seq (ak [aa 6 0,aR 7 6,aJ 8 0]) <|
  .block 0 (.loop g8)) <|
  .seq (ak [aJ 4 (-1)]) <|
  .ret,
  [.tmp 4],19⟩
theorem gP:aT Tryz.prog 107 []=some eC:=by kernel_rfl
def BY:DC :=
  .seq (ak [aS 24 .lss 23 22]) <|
  .seq (.cond (.tmp 24) (.skip) (.exit 0)) <|
  .seq (.block 1 (.seq (ak [aZ 25 1 21 23,aw 26 25,((some 10),.op (.alloc [(.val (.int .i64 0))])),(none,.op (.store 1 (.tmp 10) (.tmp 26)))]) <|
  .seq (ak [aa 27 0,aa 28 8,aZ 29 2 27 28,au 30 1 29,aw 31 30,((some 32),.op (.o9 69 [] [(.tmp 10)])),aH 33 68 [31,32],aa 11 33]) <|
  .seq (.seq (ak [aa 34 11,az 35 .lss 34 0]) <|
  .cond (.tmp 35) (.seq (ak [aJ 6 0,aY 7 false]) <|
  .ret) (.skip)) <|
  .seq (ak [aa 36 0,aa 37 8,aZ 38 2 36 37,au 39 1 38,aw 40 39,aa 41 11,aZ 42 2 40 41,au 43 1 42,aw 44 43,aa 8 44]) <|
  .seq (.region [] [⟨none,[aa 45 8,az 46 .lss 45 0,aa 47 46]⟩,⟨(some (47,false)),[aa 48 8,aa 49 0,aR 50 49,aS 51 .geq 48 50]⟩,⟨none,[bC 52 47 51]⟩]) <|
  .cond (.tmp 52) (.seq (ak [aJ 6 0,aY 7 false]) <|
  .ret) (.skip))) <|
  ak [az 53 .add 23 1,aa 23 53]
def we:DF:=⟨.seq (ak [aJ 6 0,aY 7 false]) <|
  .seq (ak [aa 12 1,aa 8 12]) <|
  .seq (.seq (.region [] [⟨none,[aa 13 8,az 14 .lss 13 0,aa 15 14]⟩,⟨(some (15,false)),[aa 16 8,aa 17 0,aR 18 17,aS 19 .geq 16 18]⟩,⟨none,[bC 20 15 19]⟩]) <|
  .cond (.tmp 20) (.seq (ak [aJ 6 0,aY 7 false]) <|
  .ret) (.skip)) <|
  .seq (.seq (ak [aa 21 2,aR 22 21,aJ 23 0]) <|
  .block 0 (.loop BY)) <|
  .seq (ak [aa 54 8,aa 6 54,aY 7 true]) <|
  .ret,
  [.tmp 6,.tmp 7],55⟩
theorem Aq:aT Tryz.prog 28 []=some we:=by kernel_rfl
def tL:DF:=⟨.seq (ak [bQ 2 0,aY 3 false]) <|
  .seq (ak [au 4 0 2,aw 5 4,aw 6 1,aS 7 .eql 5 6,aa 3 7]) <|
  .ret,
  [.tmp 3],8⟩
theorem xy:aT Tryz.prog 69 [2]=some tL:=by kernel_rfl
def gZ:DC :=
  .seq (ak [aS 9 .lss 8 7]) <|
  .seq (.cond (.tmp 9) (.skip) (.exit 0)) <|
  .seq (.block 1 (.seq (ak [aa 10 8,aa 5 10]) <|
  .seq (ak [aa 11 1,aa 12 0,aa 13 5,aZ 14 2 12 13,aK 15 2 14,((some 16),.call (.tmp 11) [(.tmp 15)])]) <|
  .cond (.tmp 16) (.seq (ak [aa 17 5,aa 4 17]) <|
  .ret) (.skip))) <|
  ak [az 18 .add 8 1,aa 8 18]
def ew:DF:=⟨.seq (ak [aJ 4 0]) <|
  .seq (.seq (ak [aa 6 0,aR 7 6,aJ 8 0]) <|
  .block 0 (.loop gZ)) <|
  .seq (ak [aJ 4 (-1)]) <|
  .ret,
  [.tmp 4],19⟩
theorem gS:aT Tryz.prog 68 []=some ew:=by kernel_rfl
def wo:DF:=⟨.seq (ak [bQ 2 0,bQ 3 1,aJ 4 0,aY 5 false]) <|
  .seq (.seq (ak [aK 6 4 2,aK 7 2 3,aH 8 19 [6,7],b7 9 8]) <|
  .cond (.tmp 9) (.seq (ak [aJ 4 0,aY 5 false]) <|
  .ret) (.skip)) <|
  .seq (ak [aK 10 4 2,aK 11 2 3,aH 12 50 [10,11],cB 13 0 12,cB 14 1 12,aa 4 13,aa 5 14]) <|
  .ret,
  [.tmp 4,.tmp 5],15⟩
theorem An:aT Tryz.prog 17 [2,3]=some wo:=by kernel_rfl
def FI:List (FuncId × DF):=[(15,l9),(24,vG),(64,wX),(112,eK),(167,qg),(207,og),(208,ou),(166,fJ),(199,ey),(113,uk),(126,ni),(173,ph),(168,tF),(114,eU),(62,x3),(56,q9),(50,wi),(53,uI),(58,fq),(63,uO),(111,wH),(22,q8),(59,oY),(19,yT),(57,ep),(107,eC),(28,we),(69,tL),(68,ew),(17,wo)]
theorem GR:sW Tryz.prog FI:=by
  intro p hp
  simp only[FI,List.mem_cons,List.not_mem_nil,or_false] at hp
  rcases hp with rfl | rfl | rfl | rfl | rfl | rfl | rfl | rfl | rfl | rfl | rfl | rfl | rfl | rfl | rfl | rfl | rfl | rfl | rfl | rfl | rfl | rfl | rfl | rfl | rfl | rfl | rfl | rfl | rfl | rfl
  · exact ⟨_,qS⟩
  · exact ⟨_,yK⟩
  · exact ⟨_,Ac⟩
  · exact ⟨_,gV⟩
  · exact ⟨_,uz⟩
  · exact ⟨_,tt⟩
  · exact ⟨_,tj⟩
  · exact ⟨_,iY⟩
  · exact ⟨_,gN⟩
  · exact ⟨_,x6⟩
  · exact ⟨_,rJ⟩
  · exact ⟨_,tX⟩
  · exact ⟨_,xn⟩
  · exact ⟨_,ib⟩
  · exact ⟨_,BU⟩
  · exact ⟨_,wa⟩
  · exact ⟨_,As⟩
  · exact ⟨_,yP⟩
  · exact ⟨_,iz⟩
  · exact ⟨_,zr⟩
  · exact ⟨_,zN⟩
  · exact ⟨_,wc⟩
  · exact ⟨_,tU⟩
  · exact ⟨_,BX⟩
  · exact ⟨_,gF⟩
  · exact ⟨_,gP⟩
  · exact ⟨_,Aq⟩
  · exact ⟨_,xy⟩
  · exact ⟨_,gS⟩
  · exact ⟨_,An⟩
def Lr:List Ah:=[(49,[Cj LA],vT mK,false),(61,[.agg (ax mK)],gb true,false),(61,[.agg (ax qh)],gb false,false),(52,[.agg (ax mK)],gb true,false)]
theorem Kl:∀ x∈Lr,x.Ok Tryz.prog:=by
  intro x hx
  simp only[Lr,List.mem_cons,List.not_mem_nil,or_false] at hx
  rcases hx with rfl | rfl | rfl | rfl
  · exact ⟨by kernel_rfl,by simp only[Bool.false_eq_true,if_false]; exact .inl NR⟩
  · exact ⟨by kernel_rfl,by simp only[Bool.false_eq_true,if_false]; exact .inr ⟨(show isRed mK=true by kernel_rfl) ▸ I7 mK qj.1 qj.2,.val _⟩⟩
  · exact ⟨by kernel_rfl,by simp only[Bool.false_eq_true,if_false]; exact .inr ⟨(show isRed qh=false by kernel_rfl) ▸ I7 qh M8 ⟨by decide⟩,.val _⟩⟩
  · exact ⟨by kernel_rfl,by simp only[Bool.false_eq_true,if_false]; exact .inr ⟨(show bt mK=true by kernel_rfl) ▸ nb mK qj.1 qj.2.names,.val _⟩⟩
theorem Hr:aE Tryz.prog 15 [] (gb true) :=
  (tn mixed GR (KB Kl) (by simp) (by kernel_rfl)).pure
def iN:SC :=
  .seq (.seq (al [aa 20 5,aa 21 1,aR 22 21,aS 23 .lss 20 22]) <|
  .cond (.tmp 23) (.skip) (.exit 0)) <|
  .seq (.block 1 (.seq (al [aK 27 4 2,aa 28 1,aa 29 5,aZ 30 2 28 29,aK 31 2 30,aH 32 17 [27,31],aa 26 32,cB 33 0 26,cB 34 1 26,aa 6 33,aa 7 34]) <|
  .seq (al [aK 36 4 2,aa 37 1,aa 38 5,aZ 39 2 37 38,aK 40 2 39,aH 41 18 [36,40],aa 35 41,cB 42 0 35,cB 43 1 35,aa 8 42,aa 9 43]) <|
  .seq (.region true [⟨none,[aK 44 4 2,aa 45 1,aa 46 5,aZ 47 2 45 46,aK 48 2 47,aH 49 19 [44,48],aK 50 4 2,aa 51 1,aa 52 5,aZ 53 2 51 52,aK 54 2 53,aH 55 20 [50,54],((some 56),.op (.beq false (.tmp 49) (.tmp 55))),aa 57 56]⟩,⟨(some (57,false)),[aa 58 6,aa 59 8,aS 60 .neq 58 59]⟩,⟨none,[bC 61 57 60,aa 62 61]⟩,⟨(some (62,false)),[aa 63 7,aa 64 9,((some 65),.op (.beq false (.tmp 63) (.tmp 64)))]⟩,⟨none,[bC 66 62 65]⟩]) <|
  .cond (.tmp 66) (.seq (al [aY 4 false]) <|
  .ret) (.skip))) <|
  al [aa 24 5,az 25 .add 24 1,aa 5 25]
def jB:SF:=⟨.seq (al [bQ 2 0,aY 4 false]) <|
  .seq (.seq (al [aH 11 15 [],b7 12 11]) <|
  .cond (.tmp 12) (.seq (al [aY 4 false]) <|
  .ret) (.skip)) <|
  .seq (.seq (.region false [⟨none,[aK 13 4 2,aH 14 16 [13],aa 15 14]⟩,⟨(some (15,false)),[aa 16 1,aR 17 16,az 18 .gtr 17 60]⟩,⟨none,[bC 19 15 18]⟩]) <|
  .cond (.tmp 19) (.seq (al [aY 4 true]) <|
  .ret) (.skip)) <|
  .seq (.seq (al [aJ 5 0]) <|
  .block 0 (.loop iN)) <|
  .seq (al [((some 67),.op (.bk (.val (.emp 2)))),aa 68 1,((some 69),.op (.app 2 16 (.tmp 67) (.tmp 68))),aa 10 69]) <|
  .seq (.region true [⟨none,[aK 70 4 2,aa 71 10,aH 72 22 [70,71],aK 73 4 2,aa 74 1,aH 75 23 [73,74],aH 76 21 [72,75],aa 77 76]⟩,⟨(some (77,true)),[aa 78 10,aa 79 1,aH 80 21 [78,79]]⟩,⟨none,[bz 81 77 80,aa 4 81]⟩]) <|
  .ret,
  [.tmp 4],82⟩
theorem nX:bf Tryz.prog 3 [2]=some jB:=by kernel_rfl
theorem It (g:ao) (l:List aI):(dq g (l.filter (bY g))).length≤287:=by
  have hall:∀ x∈l.filter (bY g),bt g=true∧cw g x:=fun x hx=>k8.1 (List.mem_filter.1 hx).2
  generalize l.filter (bY g)=l' at hall
  cases l' with
  | nil=>rw[uY]; simp
  | cons y l' =>
    have hf:=bu (hall y (by simp)).1
    exact tb hf (sZ _ _) fun x hx=>((vE hf fun x hx=>(hall x hx).2).1 hx).has fun x hx=>(hall x hx).2
set_option maxHeartbeats 8000000 in
theorem D8 (g:ao) (hg:g.Ok) (l:List aI) (hl:bc l) (hn:∀ x∈l,bB x.aF∧bB x.dot):aE Tryz.prog 3 [.agg (ax g),.aP (aL l)] (gb true):=by
  refine aE.val (by
    intro v hv; simp at hv
    rcases hv with rfl | rfl
    · exact cg _ (c8 g)
    · exact rL _) fun H=>?_
  have hl':=hl
  unfold bc at hl
  refine aB.of mixed nX ?_
  simp (disch:=omega) only [↓wr,↓reduceIte,wq,ah,ag,aj,ab,ae,af,ai,isNil,Nat.reduceEqDiff,Nat.reduceAdd,Nat.reduceLT,Nat.reduceLeDiff,Int.reduceNeg,Int.reduceToNat,reduceCtorEq,jB,ax,encS]
  refine aG.pure Hr (by kernel_rfl) ?_
  simp (disch:=omega) only [↓wr,↓reduceIte,wq,ah,ag,aj,ab,ae,af,ai,isNil,Nat.reduceEqDiff,Nat.reduceAdd,Nat.reduceLT,Nat.reduceLeDiff,Int.reduceNeg,Int.reduceToNat,reduceCtorEq,ax,encS]
  refine aG.pure (KH g) (by kernel_rfl) ?_
  cases e:jV g with
  | true=>simp (disch:=omega) only [↓wr,↓reduceIte,wq,ah,ag,aj,ab,ae,af,ai,isNil,Nat.reduceEqDiff,Nat.reduceAdd,Nat.reduceLT,Nat.reduceLeDiff,Int.reduceNeg,Int.reduceToNat,reduceCtorEq]
  | false =>
  have hsm:=EO e
  simp (disch:=omega) only [↓wr,↓reduceIte,wq,ah,ag,aj,ab,ae,af,ai,isNil,Nat.reduceEqDiff,Nat.reduceAdd,Nat.reduceLT,Nat.reduceLeDiff,Int.reduceNeg,Int.reduceToNat,reduceCtorEq,aL]
  refine av.dec (fun h60=>?_) (fun h60=>?_)
  · simp (disch:=omega) only [↓wr,↓reduceIte,wq,ah,ag,aj,ab,ae,af,ai,isNil,Nat.reduceEqDiff,Nat.reduceAdd,Nat.reduceLT,Nat.reduceLeDiff,Int.reduceNeg,Int.reduceToNat,reduceCtorEq]
  simp (disch:=omega) only [↓wr,↓reduceIte,wq,ah,ag,aj,ab,ae,af,ai,isNil,Nat.reduceEqDiff,Nat.reduceAdd,Nat.reduceLT,Nat.reduceLeDiff,Int.reduceNeg,Int.reduceToNat,reduceCtorEq]
  refine bH.up l.length (fun i T H'=>T 1=.aP (aL l)∧T 2=.aX (ax g) 0∧T 5=gi i) ⟨rfl,rfl,rfl⟩ ?_
  rintro i k T H' hk ⟨t1,t2,t5⟩
  simp (disch:=omega) only [↓wr,↓reduceIte,wq,ah,ag,aj,ab,ae,af,ai,isNil,Nat.reduceEqDiff,Nat.reduceAdd,Nat.reduceLT,Nat.reduceLeDiff,Int.reduceNeg,Int.reduceToNat,reduceCtorEq,iN,t1,t2,t5,aL]
  refine av.dec (fun hc=>?_) (fun hc=>?_)
  · have hx:l[i]?=some (l[i]'(by omega)):=List.getElem?_eq_getElem (by omega)
    have hm:=List.getElem_mem (show i < l.length by omega)
    generalize l[i]'(by omega)=x at hx hm
    have h1:=KV g hg hsm x (hn x hm)
    have h2:=J7 g hg x (hn x hm)
    have h3:=z8 g hg hsm x (hn x hm)
    have h4:=xE g hg x (hn x hm)
    generalize sQ g x=r at h1 h2
    obtain ⟨s,b⟩:=r
    generalize bY g x=c at h3 h4
    simp only[ax,encS,aQ] at h1 h2 h3 h4
    simp (disch:=omega) only [↓wr,↓reduceIte,wq,ah,ag,aj,ab,ae,af,ai,isNil,Nat.reduceEqDiff,Nat.reduceAdd,Nat.reduceLT,Nat.reduceLeDiff,Int.reduceNeg,Int.reduceToNat,reduceCtorEq,t1,t2,t5,ax,encS,aL,List.getElem?_map,hx,Option.map_some,aQ]
    refine aG.pure h1 (by kernel_rfl) ?_
    simp (disch:=omega) only [↓wr,↓reduceIte,wq,ah,ag,aj,ab,ae,af,ai,isNil,Nat.reduceEqDiff,Nat.reduceAdd,Nat.reduceLT,Nat.reduceLeDiff,Int.reduceNeg,Int.reduceToNat,reduceCtorEq,t1,t2,t5,ax,encS,aL,List.getElem?_map,hx,Option.map_some,aQ]
    refine aG.pure h2 (by kernel_rfl) ?_
    simp (disch:=omega) only [↓wr,↓reduceIte,wq,ah,ag,aj,ab,ae,af,ai,isNil,Nat.reduceEqDiff,Nat.reduceAdd,Nat.reduceLT,Nat.reduceLeDiff,Int.reduceNeg,Int.reduceToNat,reduceCtorEq,t1,t2,t5,ax,encS,aL,List.getElem?_map,hx,Option.map_some,aQ]
    refine aG.pure h3 (by kernel_rfl) ?_
    simp (disch:=omega) only [↓wr,↓reduceIte,wq,ah,ag,aj,ab,ae,af,ai,isNil,Nat.reduceEqDiff,Nat.reduceAdd,Nat.reduceLT,Nat.reduceLeDiff,Int.reduceNeg,Int.reduceToNat,reduceCtorEq,t1,t2,t5,ax,encS,aL,List.getElem?_map,hx,Option.map_some,aQ]
    refine aG.pure h4 (by kernel_rfl) ?_
    cases b <;> cases c
    all_goals
      simp (disch:=omega) only [↓wr,↓reduceIte,wq,ah,ag,aj,ab,ae,af,ai,isNil,Nat.reduceEqDiff,Nat.reduceAdd,Nat.reduceLT,Nat.reduceLeDiff,Int.reduceNeg,Int.reduceToNat,reduceCtorEq,t1,t2,t5]
      refine av.split (fun h=>by simp at h) (fun _=>?_)
      simp (disch:=omega) only [↓wr,↓reduceIte,wq,ah,ag,aj,ab,ae,af,ai,isNil,Nat.reduceEqDiff,Nat.reduceAdd,Nat.reduceLT,Nat.reduceLeDiff,Int.reduceNeg,Int.reduceToNat,reduceCtorEq,t1,t2,t5]
      refine av.ne (fun h=>absurd rfl h) (fun _=>?_)
      simp (disch:=omega) only [↓wr,↓reduceIte,wq,ah,ag,aj,ab,ae,af,ai,isNil,Nat.reduceEqDiff,Nat.reduceAdd,Nat.reduceLT,Nat.reduceLeDiff,Int.reduceNeg,Int.reduceToNat,reduceCtorEq,t1,t2,t5]
      refine av.split (fun h=>by simp at h) (fun _=>?_)
      simp (disch:=omega) only [↓wr,↓reduceIte,wq,ah,ag,aj,ab,ae,af,ai,isNil,Nat.reduceEqDiff,Nat.reduceAdd,Nat.reduceLT,Nat.reduceLeDiff,Int.reduceNeg,Int.reduceToNat,reduceCtorEq,t1,t2,t5]
      exact bD hk (by omega) ⟨t1,t2,rfl⟩
  · simp (disch:=omega) only [↓wr,↓reduceIte,wq,ah,ag,aj,ab,ae,af,ai,isNil,Nat.reduceEqDiff,Nat.reduceAdd,Nat.reduceLT,Nat.reduceLeDiff,Int.reduceNeg,Int.reduceToNat,reduceCtorEq,t1,t2,t5]
    have hlr:(aL l).length=l.length:=bj l
    refine gm (es:=[]) (.inl ⟨rfl,2,rfl⟩) (by simp[aL,aQ,List.all_map,aU]) (by unfold aW; rw[hlr]; simp; omega) (by unfold aW; rw[hlr]; simp; omega) ?_
    intro own H2 o2 l2
    rw[List.nil_append] at o2
    have hC:=EP g hg hsm l (by omega) hn
    have hD:=(CQ g hg l (by omega) hn).pure
    have hcl:=It g l
    generalize dq g (l.filter (bY g))=c at hC hD hcl
    have hI:=zk c c (by unfold bc; omega) (by unfold bc; omega)
    have hJ:=zk l l hl' hl'
    rw[beq_self_eq_true] at hI hJ
    simp (disch:=omega) only [↓wr,↓reduceIte,wq,ah,ag,aj,ab,ae,af,ai,isNil,Nat.reduceEqDiff,Nat.reduceAdd,Nat.reduceLT,Nat.reduceLeDiff,Int.reduceNeg,Int.reduceToNat,reduceCtorEq,t1,t2,ax,encS]
    simp only[ax,encS] at hC hD
    refine aG.LG hC (by kernel_rfl) ⟨.tree (cg _ (c8 g)),.lr o2,trivial⟩ ?_
    simp (disch:=omega) only [↓wr,↓reduceIte,wq,ah,ag,aj,ab,ae,af,ai,isNil,Nat.reduceEqDiff,Nat.reduceAdd,Nat.reduceLT,Nat.reduceLeDiff,Int.reduceNeg,Int.reduceToNat,reduceCtorEq,t1,t2,ax,encS]
    refine aG.pure hD (by kernel_rfl) ?_
    simp (disch:=omega) only [↓wr,↓reduceIte,wq,ah,ag,aj,ab,ae,af,ai,isNil,Nat.reduceEqDiff,Nat.reduceAdd,Nat.reduceLT,Nat.reduceLeDiff,Int.reduceNeg,Int.reduceToNat,reduceCtorEq,t1,t2,ax,encS]
    refine aG.pure hI (by kernel_rfl) ?_
    simp (disch:=omega) only [↓wr,↓reduceIte,wq,ah,ag,aj,ab,ae,af,ai,isNil,Nat.reduceEqDiff,Nat.reduceAdd,Nat.reduceLT,Nat.reduceLeDiff,Int.reduceNeg,Int.reduceToNat,reduceCtorEq,t1,t2]
    refine aG.Nf hJ (by kernel_rfl) (.val _) ⟨.lr o2,.tree (rL _),trivial⟩ ?_
    simp (disch:=omega) only [↓wr,↓reduceIte,wq,ah,ag,aj,ab,ae,af,ai,isNil,Nat.reduceEqDiff,Nat.reduceAdd,Nat.reduceLT,Nat.reduceLeDiff,Int.reduceNeg,Int.reduceToNat,reduceCtorEq]
def bR.Ok (s:bR):Prop:=(bc s.bV∧∀ x∈s.bV,bB x.aF∧bB x.dot)∧bc s.dH∧∀ e∈s.dH,bB e.sym∧bB e.to
theorem Mz:rF Tryz.prog 33 aQ (fun x=>bB x.aF∧bB x.dot):=fun enc w base sp held fuel cs x h hw=>by
  obtain ⟨hl,hf⟩:=qb Tryz.underlying33 (by
    intro i f hi
    match i,hi with
    | 0,hi=>simp at hi; subst hi; exact ⟨rfl,by kernel_rfl⟩
    | 1,hi=>simp at hi; subst hi; exact ⟨rfl,by kernel_rfl⟩
    | n+2,hi=>simp at hi) (by kernel_rfl) h hw
  obtain ⟨a,h0,h1⟩:=hf 0 _ rfl iX
  obtain ⟨b,h2,h3⟩:=hf 1 _ rfl iX
  refine ⟨⟨a,b⟩,⟨h0,h2⟩,?_⟩
  rw[OY hl]
  exact eA h1 (eA h3 s8)
theorem Kc:rF Tryz.prog 27 (fun l:List aI=>[.aP (aL l)]) (fun l=>bc l∧∀ x∈l,bB x.aF∧bB x.dot) :=
  py Tryz.underlying27 (of_decide_eq_true (by kernel_rfl)) (of_decide_eq_true (by kernel_rfl)) Mz
end Gv
