/-
  Part 16 of the proof: what the machine does and what the functions answer.
  Conditions: those that each lemma names.
-/
import Derived.Test.YtihmlbdfcmfbdaaGreatSGzA6O
set_option linter.unusedSimpArgs false
set_option linter.unusedVariables false
set_option maxRecDepth 100000
namespace Gv
open Go Go.Proofs
def mT:DF:=⟨.seq (al [aX 0 false]) <|
  .seq (al [((some 16),.op (.bC 16 1 [(.val (.int .u8 0))] [(0,(.val (.val (.int .u8 37)))),(1,(.val (.val (.int .u8 37)))),(2,(.val (.val (.int .u8 32)))),(3,(.val (.val (.int .u8 115)))),(4,(.val (.val (.int .u8 32)))),(5,(.val (.val (.int .u8 58)))),(6,(.val (.val (.int .u8 32)))),(7,(.val (.val (.int .u8 39)))),(8,(.val (.val (.int .u8 97)))),(9,(.val (.val (.int .u8 39)))),(10,(.val (.val (.int .u8 32)))),(11,(.val (.val (.int .u8 115)))),(12,(.val (.val (.int .u8 32)))),(13,(.val (.val (.int .u8 124)))),(14,(.val (.val (.int .u8 32)))),(15,(.val (.val (.int .u8 59))))])),((some 17),.op (.old (.convert 91 91 (.tmp 16)) 91)),aI 18 49 [17],aa 15 18,cG 19 0 15,cG 20 1 15,cG 21 2 15,((some 1),.op (.alloc [(.emp 1),(.emp 1),(.emp 1),(.val (.int .i64 0))])),(none,.op (.store 4 (.tmp 1) (.tmp 19))),aa 2 20,aa 3 21]) <|
  .seq (al [aK 23 4 1,aI 24 24 [23],aa 22 24,cG 25 0 22,cG 26 1 22,aa 4 25,aa 5 26]) <|
  .seq (al [((some 28),.op (.build [(.emp 1),(.emp 1),(.emp 1),(.val (.int .i64 0))] [])),aI 29 24 [28],aa 27 29,cG 30 0 27,cG 31 1 27,aa 6 30,aa 7 31]) <|
  .seq (al [aK 32 4 1,((some 33),.op (.build [(.val (.int .i64 0)),(.val (.int .i64 0))] [(0,1,(.val (.val (.int .i64 (-1)))))])),((some 34),.op (.build [(.val (.int .i64 0)),(.val (.int .i64 0))] [(0,1,(.val (.val (.int .i64 7))))])),((some 35),.op (.bC 2 2 [(.val (.int .i64 0)),(.val (.int .i64 0))] [(0,(.tmp 33)),(1,(.tmp 34))])),aI 36 22 [32,35],aa 8 36]) <|
  .seq (al [aa 38 4,((some 39),.op (.bC 3 1 [(.val (.int .i64 0))] [(0,(.val (.val (.int .i64 0)))),(1,(.val (.val (.int .i64 0)))),(2,(.val (.val (.int .i64 (-1)))))])),c9 40 28 [(.tmp 38),(.val (.val (.int .i64 0))),(.tmp 39)],aa 37 40,cG 41 0 37,cG 42 1 37,aa 9 41,aa 10 42]) <|
  .seq (al [aa 44 4,((some 45),.op (.bC 1 1 [(.val (.int .i64 0))] [(0,(.val (.val (.int .i64 1))))])),c9 46 28 [(.tmp 44),(.val (.val (.int .i64 0))),(.tmp 45)],aa 43 46,cG 47 0 43,cG 48 1 43,aa 11 47,aa 12 48]) <|
  .seq (al [aK 50 4 1,((some 51),.op (.build [(.val (.int .i64 0)),(.val (.int .i64 0))] [(0,1,(.val (.val (.int .i64 0)))),(1,1,(.val (.val (.int .i64 1))))])),aI 52 17 [50,51],aa 49 52,cG 53 0 49,cG 54 1 49,aa 13 53,aa 14 54]) <|
  .seq (.region [] [⟨none,[aa 55 5,aA 56 .eql 55 0,aa 57 56]⟩,⟨(some (57,true)),[aa 58 7,aA 59 .eql 58 1]⟩,⟨none,[bG 60 57 59,aa 61 60]⟩,⟨(some (61,true)),[aa 62 4,aJ 63 62,aA 64 .eql 63 4]⟩,⟨none,[bG 65 61 64,aa 66 65]⟩,⟨(some (66,true)),[aa 67 4,((some 68),.op (.idx 2 (.tmp 67) (.val (.val (.int .i64 1))))),av 69 1 68,au 70 69,aJ 71 70,aA 72 .eql 71 2]⟩,⟨none,[bG 73 66 72,aa 74 73]⟩,⟨(some (74,true)),[aa 75 8,aJ 76 75,aA 77 .eql 76 3]⟩,⟨none,[bG 78 74 77,aa 79 78]⟩,⟨(some (79,true)),[aa 80 8,((some 81),.op (.idx 2 (.tmp 80) (.val (.val (.int .i64 0))))),av 82 0 81,au 83 82,aA 84 .eql 83 (-1)]⟩,⟨none,[bG 85 79 84,aa 86 85]⟩,⟨(some (86,true)),[aa 87 10]⟩,⟨none,[bG 88 86 87,aa 89 88]⟩,⟨(some (89,true)),[aa 90 9,aA 91 .eql 90 3]⟩,⟨none,[bG 92 89 91,aa 93 92]⟩,⟨(some (93,true)),[aa 94 12,b6 95 94]⟩,⟨none,[bG 96 93 95,aa 97 96]⟩,⟨(some (97,true)),[aa 98 14]⟩,⟨none,[bG 99 97 98,aa 100 99]⟩,⟨(some (100,true)),[aa 101 13,aA 102 .eql 101 (-1)]⟩,⟨none,[bG 103 100 102,aa 104 103]⟩,⟨(some (104,true)),[aK 105 4 1,((some 106),.op (.build [(.val (.int .i64 0)),(.val (.int .i64 0))] [(0,1,(.val (.val (.int .i64 1))))])),aI 107 19 [105,106]]⟩,⟨none,[bG 108 104 107,aa 109 108]⟩,⟨(some (109,true)),[aK 110 4 1,((some 111),.op (.build [(.val (.int .i64 0)),(.val (.int .i64 0))] [(0,1,(.val (.val (.int .i64 1)))),(1,1,(.val (.val (.int .i64 1))))])),aI 112 19 [110,111],b6 113 112]⟩,⟨none,[bG 114 109 113,aa 0 114]⟩]) <|
  .ret,
  [.tmp 0],115⟩
theorem sf:aY Tryz.prog 15 []=some mT:=by kernel_rfl
def BT:DC :=
  .seq (al [aN 49 .lss 48 47]) <|
  .seq (.cond (.tmp 49) (.skip) (.exit 2)) <|
  .seq (.block 3 (.seq (al [aa 50 48,aa 9 50]) <|
  .seq (al [aa 51 8,aa 52 9,((some 53),.op (.old (.lookup 98 (.tmp 51) (.tmp 52) false) 27)),aI 54 64 [53],aa 10 54]) <|
  .seq (.seq (al [aa 55 10,aJ 56 55,aA 57 .eql 56 0]) <|
  .cond (.tmp 57) (.exit 3) (.skip)) <|
  .seq (al [aa 58 9,aa 11 58]) <|
  .seq (.seq (al [aa 59 9,av 60 0 1,au 61 60,aJ 62 61,aN 63 .geq 59 62]) <|
  .cond (.tmp 63) (al [av 64 0 1,au 65 64,aJ 66 65,aA 67 .sub 66 1,aa 68 9,aN 69 .sub 67 68,aa 11 69]) (.skip)) <|
  .seq (al [aa 71 6,aa 72 10,aI 73 62 [72],((some 74),.op (.old (.lookup 97 (.tmp 71) (.tmp 73) true) 30)),aa 70 74,cG 75 0 70,cG 76 1 70,aa 12 75,aa 13 76]) <|
  .seq (.seq (al [aa 77 13,b6 78 77]) <|
  .cond (.tmp 78) (.seq (al [aa 79 5,aJ 80 79,aa 12 80]) <|
  .seq (al [aa 81 6,aa 82 10,aI 83 62 [82],aa 84 12,(none,.op (.old (.mapUpdate 97 (.tmp 81) (.tmp 83) (.tmp 84)) 0))]) <|
  al [aa 85 5,aa 86 10,((some 87),.op (.build [(.emp 1),(.emp 1)] [(0,1,(.tmp 86))])),((some 88),.op (.bC 1 2 [(.emp 1),(.emp 1)] [(0,(.tmp 87))])),((some 89),.op (.app 2 48 (.tmp 85) (.tmp 88))),aa 5 89]) (.skip)) <|
  al [aa 90 5,aa 91 7,aa 92 5,aa 93 7,aP 94 2 92 93,av 95 1 94,au 96 95,aa 97 11,aa 98 12,((some 99),.op (.build [(.val (.int .i64 0)),(.val (.int .i64 0))] [(0,1,(.tmp 97)),(1,1,(.tmp 98))])),((some 100),.op (.bC 1 2 [(.val (.int .i64 0)),(.val (.int .i64 0))] [(0,(.tmp 99))])),((some 101),.op (.app 2 16 (.tmp 96) (.tmp 100))),aP 102 2 90 91,av 103 1 102,(none,.op (.store 1 (.tmp 103) (.tmp 101)))])) <|
  al [aA 104 .add 48 1,aa 48 104]
def BI:DC :=
  .seq (.seq (al [aa 26 7,aa 27 5,aJ 28 27,aN 29 .lss 26 28]) <|
  .cond (.tmp 29) (.skip) (.exit 0)) <|
  .seq (.block 1 (.seq (.region [(0,7)] [⟨none,[aK 32 4 1,aK 33 4 1,aa 34 5,aa 35 7,aP 36 2 34 35,av 37 0 36,au 38 37,aI 39 56 [33,38],aI 40 63 [32,39],aa 8 40]⟩]) <|
  .seq (.seq (al [av 41 0 1,au 42 41,aJ 43 42,av 44 1 1,au 45 44,aJ 46 45,aN 47 .add 43 46,aF 48 0]) <|
  .block 2 (.loop BT)) <|
  .seq (al [aa 105 5,aJ 106 105,aA 107 .gtr 106 300]) <|
  .cond (.tmp 107) (.seq (al [((some 2),.op (.bm (.val (.emp 1)))),aF 3 5]) <|
  .ret) (.skip))) <|
  al [aa 30 7,aA 31 .add 30 1,aa 7 31]
def xD:DF:=⟨.seq (al [bZ 1 0,((some 2),.op (.bm (.val (.emp 1)))),aF 3 0]) <|
  .seq (.seq (al [aK 14 4 1,aI 15 61 [14],b6 16 15]) <|
  .cond (.tmp 16) (.seq (al [((some 2),.op (.bm (.val (.emp 1)))),aF 3 1]) <|
  .ret) (.skip)) <|
  .seq (al [((some 17),.op (.build [(.val (.int .i64 0)),(.val (.int .i64 0))] [(0,1,(.val (.val (.int .i64 (-1)))))])),((some 18),.op (.bC 1 2 [(.val (.int .i64 0)),(.val (.int .i64 0))] [(0,(.tmp 17))])),aa 4 18]) <|
  .seq (al [aa 19 4,((some 20),.op (.build [(.emp 1),(.emp 1)] [(0,1,(.tmp 19))])),((some 21),.op (.bC 1 2 [(.emp 1),(.emp 1)] [(0,(.tmp 20))])),aa 5 21]) <|
  .seq (al [((some 22),.op (.lO)),aa 23 4,aI 24 62 [23],(none,.op (.old (.insert 97 (.tmp 22) (.tmp 24) (.const (.int .i64 0))) 0)),aa 25 22,aa 6 25]) <|
  .seq (.seq (al [aF 7 0]) <|
  .block 0 (.loop BI)) <|
  .seq (al [aa 108 5,aa 2 108,aF 3 0]) <|
  .ret,
  [.tmp 2,.tmp 3],109⟩
theorem Bf:aY Tryz.prog 24 [1]=some xD:=by kernel_rfl
def yL:DF:=⟨.seq (al [((some 2),.op (.bm (.val (.emp 1))))]) <|
  .seq (al [aa 3 0,c9 4 112 [(.tmp 3),(.val (.fn 113 [] []))]]) <|
  .seq (al [aa 5 0,aI 6 114 [5],aa 2 6]) <|
  .ret,
  [.tmp 2],7⟩
theorem BB:aY Tryz.prog 64 []=some yL:=by kernel_rfl
def fc:DF:=⟨.seq (al [aa 5 0,aJ 6 5,aa 4 6]) <|
  al [aa 7 0,aa 8 4,aa 9 4,((some 10),.op (.conv .u64 (.tmp 9))),aI 11 167 [10],aa 12 1,c9 13 166 [(.tmp 7),(.val (.val (.int .i64 0))),(.tmp 8),(.tmp 11),(.tmp 12)]],
  [],14⟩
theorem iq:aY Tryz.prog 112 []=some fc:=by kernel_rfl
def rH:DF:=⟨.seq (al [aF 2 0]) <|
  .seq (.cond (.val (.val (.bool false))) (.seq (al [aa 3 0,((some 4),.op (.conv .u32 (.tmp 3))),aI 5 207 [4],aa 2 5]) <|
  .ret) (.skip)) <|
  .seq (al [aa 6 0,aI 7 208 [6],aa 2 7]) <|
  .ret,
  [.tmp 2],8⟩
theorem v7:aY Tryz.prog 167 []=some rH:=by kernel_rfl
def pK:DF:=⟨.seq (al [aF 2 0]) <|
  .seq (.seq (al [aa 3 0,((some 4),.op (.arith .geq (.tmp 3) (.val (.val (.int .u32 65536)))))]) <|
  .cond (.tmp 4) (.seq (al [aa 5 0,((some 6),.op (.sh false (.tmp 5) (.val (.val (.int .u64 16))))),aa 0 6]) <|
  al [aF 2 16]) (.skip)) <|
  .seq (.seq (al [aa 7 0,((some 8),.op (.arith .geq (.tmp 7) (.val (.val (.int .u32 256)))))]) <|
  .cond (.tmp 8) (.seq (al [aa 9 0,((some 10),.op (.sh false (.tmp 9) (.val (.val (.int .u64 8))))),aa 0 10]) <|
  al [aa 11 2,aA 12 .add 11 8,aa 2 12]) (.skip)) <|
  .seq (.region [] [⟨none,[aa 13 2,aa 14 0,((some 15),.op (.conv .u8 (.tmp 14))),((some 16),.op (.dp (.val (.val (.string ⟨#[0,1,2,2,3,3,3,3,4,4,4,4,4,4,4,4,5,5,5,5,5,5,5,5,5,5,5,5,5,5,5,5,6,6,6,6,6,6,6,6,6,6,6,6,6,6,6,6,6,6,6,6,6,6,6,6,6,6,6,6,6,6,6,6,7,7,7,7,7,7,7,7,7,7,7,7,7,7,7,7,7,7,7,7,7,7,7,7,7,7,7,7,7,7,7,7,7,7,7,7,7,7,7,7,7,7,7,7,7,7,7,7,7,7,7,7,7,7,7,7,7,7,7,7,7,7,7,7,8,8,8,8,8,8,8,8,8,8,8,8,8,8,8,8,8,8,8,8,8,8,8,8,8,8,8,8,8,8,8,8,8,8,8,8,8,8,8,8,8,8,8,8,8,8,8,8,8,8,8,8,8,8,8,8,8,8,8,8,8,8,8,8,8,8,8,8,8,8,8,8,8,8,8,8,8,8,8,8,8,8,8,8,8,8,8,8,8,8,8,8,8,8,8,8,8,8,8,8,8,8,8,8,8,8,8,8,8,8,8,8,8,8,8,8,8,8,8,8,8,8,8,8,8,8,8,8]⟩))) (.tmp 15))),((some 17),.op (.conv .i64 (.tmp 16))),aN 18 .add 13 17,aa 2 18]⟩]) <|
  .ret,
  [.tmp 2],19⟩
theorem uw:aY Tryz.prog 207 []=some pK:=by kernel_rfl
def pN:DF:=⟨.seq (al [aF 2 0]) <|
  .seq (.seq (al [aa 3 0,((some 4),.op (.arith .geq (.tmp 3) (.val (.val (.int .u64 4294967296)))))]) <|
  .cond (.tmp 4) (.seq (al [aa 5 0,((some 6),.op (.sh false (.tmp 5) (.val (.val (.int .u64 32))))),aa 0 6]) <|
  al [aF 2 32]) (.skip)) <|
  .seq (.seq (al [aa 7 0,((some 8),.op (.arith .geq (.tmp 7) (.val (.val (.int .u64 65536)))))]) <|
  .cond (.tmp 8) (.seq (al [aa 9 0,((some 10),.op (.sh false (.tmp 9) (.val (.val (.int .u64 16))))),aa 0 10]) <|
  al [aa 11 2,aA 12 .add 11 16,aa 2 12]) (.skip)) <|
  .seq (.seq (al [aa 13 0,((some 14),.op (.arith .geq (.tmp 13) (.val (.val (.int .u64 256)))))]) <|
  .cond (.tmp 14) (.seq (al [aa 15 0,((some 16),.op (.sh false (.tmp 15) (.val (.val (.int .u64 8))))),aa 0 16]) <|
  al [aa 17 2,aA 18 .add 17 8,aa 2 18]) (.skip)) <|
  .seq (.region [] [⟨none,[aa 19 2,aa 20 0,((some 21),.op (.conv .u8 (.tmp 20))),((some 22),.op (.dp (.val (.val (.string ⟨#[0,1,2,2,3,3,3,3,4,4,4,4,4,4,4,4,5,5,5,5,5,5,5,5,5,5,5,5,5,5,5,5,6,6,6,6,6,6,6,6,6,6,6,6,6,6,6,6,6,6,6,6,6,6,6,6,6,6,6,6,6,6,6,6,7,7,7,7,7,7,7,7,7,7,7,7,7,7,7,7,7,7,7,7,7,7,7,7,7,7,7,7,7,7,7,7,7,7,7,7,7,7,7,7,7,7,7,7,7,7,7,7,7,7,7,7,7,7,7,7,7,7,7,7,7,7,7,7,8,8,8,8,8,8,8,8,8,8,8,8,8,8,8,8,8,8,8,8,8,8,8,8,8,8,8,8,8,8,8,8,8,8,8,8,8,8,8,8,8,8,8,8,8,8,8,8,8,8,8,8,8,8,8,8,8,8,8,8,8,8,8,8,8,8,8,8,8,8,8,8,8,8,8,8,8,8,8,8,8,8,8,8,8,8,8,8,8,8,8,8,8,8,8,8,8,8,8,8,8,8,8,8,8,8,8,8,8,8,8,8,8,8,8,8,8,8,8,8,8,8,8,8,8,8,8,8]⟩))) (.tmp 21))),((some 23),.op (.conv .i64 (.tmp 22))),aN 24 .add 19 23,aa 2 24]⟩]) <|
  .ret,
  [.tmp 2],25⟩
theorem tW:aY Tryz.prog 208 []=some pN:=by kernel_rfl
def ka:DC :=
  .block 1 (.seq (al [aa 21 2,aa 22 1,aN 23 .sub 21 22,aa 12 23]) <|
  .seq (.seq (al [aa 24 12,aA 25 .leq 24 12]) <|
  .cond (.tmp 25) (.seq (al [aa 26 0,aa 27 1,aa 28 2,aa 29 4,aI 30 199 [26,27,28,29]]) <|
  .ret) (.skip)) <|
  .seq (.seq (al [aa 31 3,aA 32 .eql 31 0]) <|
  .cond (.tmp 32) (.seq (al [aa 33 0,aa 34 1,aa 35 2,aa 36 4,aI 37 200 [33,34,35,36]]) <|
  .ret) (.skip)) <|
  .seq (.seq (al [aa 38 10,b6 39 38]) <|
  .cond (.tmp 39) (.seq (al [aa 40 0,aa 41 1,aa 42 2,aa 43 4,aI 44 201 [40,41,42,43]]) <|
  al [aa 45 3,aA 46 .sub 45 1,aa 3 46]) (.skip)) <|
  .seq (al [aa 48 0,aa 49 1,aa 50 2,aa 51 4,aI 52 202 [48,49,50,51],aa 47 52,cG 53 0 47,cG 54 1 47,aa 13 53,aa 14 54]) <|
  .seq (.seq (al [aa 55 14,aA 56 .eql 55 2]) <|
  .cond (.tmp 56) (.seq (al [aa 57 0,aa 58 1,aa 59 2,aa 60 4,aI 61 203 [57,58,59,60]]) <|
  .seq (al [aa 62 2,aA 63 .sub 62 1,aa 64 13,aa 65 1,aN 66 .sub 64 65,aN 67 .sub 63 66,aa 13 67]) <|
  al [aF 14 1]) (.skip)) <|
  .seq (.seq (.region [] [⟨none,[aa 68 10,aa 69 68]⟩,⟨(some (69,true)),[aa 70 11]⟩,⟨none,[bG 71 69 70,aa 72 71]⟩,⟨(some (72,true)),[aa 73 14,aA 74 .eql 73 1]⟩,⟨none,[bG 75 72 74]⟩]) <|
  .cond (.tmp 75) (.seq (al [aa 76 0,aa 77 1,aa 78 2,aa 79 4,aI 80 204 [76,77,78,79]]) <|
  .cond (.tmp 80) (.ret) (.skip)) (.skip)) <|
  .seq (.seq (.region [] [⟨none,[aa 81 1,aA 82 .gtr 81 0,aa 83 82]⟩,⟨(some (83,true)),[aa 84 4,aa 85 0,aa 86 1,aA 87 .sub 86 1,aP 88 2 85 87,aK 89 2 88,aa 90 0,aa 91 13,aP 92 2 90 91,aK 93 2 92,((some 94),.call (.tmp 84) [(.tmp 89),(.tmp 93)]),aA 95 .lss 94 0,b6 96 95]⟩,⟨none,[bG 97 83 96]⟩]) <|
  .cond (.tmp 97) (.seq (al [aa 98 0,aa 99 1,aa 100 2,aa 101 13,aa 102 4,aI 103 205 [98,99,100,101,102],aa 15 103]) <|
  .seq (al [aa 104 15,aa 1 104]) <|
  .exit 1) (.skip)) <|
  .seq (al [aa 106 0,aa 107 1,aa 108 2,aa 109 13,aa 110 4,aI 111 206 [106,107,108,109,110],aa 105 111,cG 112 0 105,cG 113 1 105,aa 16 112,aa 17 113]) <|
  .seq (al [aa 114 17,aa 11 114]) <|
  .seq (al [aa 115 16,aa 116 1,aN 117 .sub 115 116,aa 118 2,aa 119 16,aN 120 .sub 118 119,aa 18 117,aa 19 120]) <|
  .seq (al [aa 121 12,aA 122 .quo 121 8,aa 20 122]) <|
  .seq (al [aa 123 18,aa 124 19,aN 125 .lss 123 124]) <|
  .cond (.tmp 125) (.seq (al [aa 126 18,aa 127 20,aN 128 .geq 126 127,aa 10 128]) <|
  .seq (al [aa 129 0,aa 130 1,aa 131 16,aa 132 3,aa 133 4,aI 134 166 [129,130,131,132,133]]) <|
  al [aa 135 16,aA 136 .add 135 1,aa 1 136]) (.seq (al [aa 137 19,aa 138 20,aN 139 .geq 137 138,aa 10 139]) <|
  .seq (al [aa 140 0,aa 141 16,aA 142 .add 141 1,aa 143 2,aa 144 3,aa 145 4,aI 146 166 [140,142,143,144,145]]) <|
  al [aa 147 16,aa 2 147]))
def gh:DF:=⟨.seq (al [aX 10 true]) <|
  .seq (al [aX 11 true]) <|
  .block 0 (.loop ka),
  [],148⟩
theorem jy:aY Tryz.prog 166 []=some gh:=by kernel_rfl
def iu:DC :=
  .seq (.seq (.region [] [⟨none,[aa 18 9,aa 19 1,aN 20 .gtr 18 19,aa 21 20]⟩,⟨(some (21,true)),[aa 22 3,aa 23 0,aa 24 9,aP 25 2 23 24,aK 26 2 25,aa 27 0,aa 28 9,aA 29 .sub 28 1,aP 30 2 27 29,aK 31 2 30,((some 32),.call (.tmp 22) [(.tmp 26),(.tmp 31)]),aA 33 .lss 32 0]⟩,⟨none,[bG 34 21 33]⟩]) <|
  .cond (.tmp 34) (.skip) (.exit 2)) <|
  .seq (.block 3 (al [aa 37 0,aa 38 9,aa 39 0,aa 40 9,aA 41 .sub 40 1,aa 42 0,aa 43 9,aA 44 .sub 43 1,aP 45 2 42 44,aK 46 2 45,aa 47 0,aa 48 9,aP 49 2 47 48,aK 50 2 49,aP 51 2 37 38,(none,.op (.store 2 (.tmp 51) (.tmp 46))),aP 52 2 39 41,(none,.op (.store 2 (.tmp 52) (.tmp 50)))])) <|
  al [aa 35 9,aA 36 .sub 35 1,aa 9 36]
def im:DC :=
  .seq (.seq (al [aa 12 8,aa 13 2,aN 14 .lss 12 13]) <|
  .cond (.tmp 14) (.skip) (.exit 0)) <|
  .seq (.block 1 (.seq (al [aa 17 8,aa 9 17]) <|
  .block 2 (.loop iu))) <|
  al [aa 15 8,aA 16 .add 15 1,aa 8 16]
def eX:DF:=⟨.seq (al [aa 10 1,aA 11 .add 10 1,aa 8 11]) <|
  .block 0 (.loop im),
  [],53⟩
theorem ib:aY Tryz.prog 199 []=some eX:=by kernel_rfl
def wQ:DF:=⟨.seq (al [bZ 2 0,bZ 3 1,aF 4 0]) <|
  .seq (.region [(4,6),(4,8)] [⟨none,[av 5 0 2,au 6 5,av 7 0 3,au 8 7,aI 9 126 [6,8],av 10 1 2,au 11 10,av 12 1 3,au 13 12,aI 14 126 [11,13],((some 15),.op (.bC 2 1 [(.val (.int .i64 0))] [(0,(.tmp 9)),(1,(.tmp 14))])),aI 16 168 [15],aa 4 16]⟩]) <|
  .ret,
  [.tmp 4],17⟩
theorem AZ:aY Tryz.prog 113 [2,3]=some wQ:=by kernel_rfl
def o8:DF:=⟨.seq (al [aF 4 0]) <|
  .seq (al [aa 7 0,aI 8 173 [7],aa 5 8]) <|
  .seq (al [aa 9 1,aI 10 173 [9],aa 6 10]) <|
  .seq (.seq (al [aa 11 5]) <|
  .cond (.tmp 11) (.seq (.seq (al [aa 12 6]) <|
  .cond (.tmp 12) (.seq (al [aF 4 0]) <|
  .ret) (.skip)) <|
  .seq (al [aF 4 (-1)]) <|
  .ret) (.skip)) <|
  .seq (.seq (al [aa 13 6]) <|
  .cond (.tmp 13) (.seq (al [aF 4 1]) <|
  .ret) (.skip)) <|
  .seq (.seq (al [aa 14 0,aa 15 1,aN 16 .lss 14 15]) <|
  .cond (.tmp 16) (.seq (al [aF 4 (-1)]) <|
  .ret) (.skip)) <|
  .seq (.seq (al [aa 17 0,aa 18 1,aN 19 .gtr 17 18]) <|
  .cond (.tmp 19) (.seq (al [aF 4 1]) <|
  .ret) (.skip)) <|
  .seq (al [aF 4 0]) <|
  .ret,
  [.tmp 4],20⟩
theorem tz:aY Tryz.prog 126 []=some o8:=by kernel_rfl
def qW:DF:=⟨.seq (al [aX 2 false]) <|
  .seq (al [aa 3 0,aa 4 0,aN 5 .neq 3 4,aa 2 5]) <|
  .ret,
  [.tmp 2],6⟩
theorem vK:aY Tryz.prog 173 []=some qW:=by kernel_rfl
def AL:DC :=
  .seq (al [aN 9 .lss 8 7]) <|
  .seq (.cond (.tmp 9) (.skip) (.exit 0)) <|
  .seq (.block 1 (.seq (al [aP 10 1 6 8,au 11 10,aa 5 11]) <|
  .seq (al [aa 12 5,aa 13 3,aN 14 .neq 12 13]) <|
  .cond (.tmp 14) (.seq (al [aa 15 5,aa 2 15]) <|
  .ret) (.skip))) <|
  al [aA 16 .add 8 1,aa 8 16]
def vl:DF:=⟨.seq (al [aF 2 0]) <|
  .seq (al [aF 3 0]) <|
  .seq (.seq (al [aa 6 0,aJ 7 6,aF 8 0]) <|
  .block 0 (.loop AL)) <|
  .seq (al [aa 17 3,aa 2 17]) <|
  .ret,
  [.tmp 2],18⟩
theorem zw:aY Tryz.prog 168 []=some vl:=by kernel_rfl
def iO:DC :=
  .seq (.seq (al [aa 29 5,aa 30 4,aJ 31 30,aN 32 .lss 29 31]) <|
  .cond (.tmp 32) (.skip) (.exit 2)) <|
  .seq (.block 3 (.seq (al [aa 35 4,aa 36 5,aP 37 2 35 36,aK 38 2 37,aa 39 4,aa 40 5,aA 41 .sub 40 1,aP 42 2 39 41,aK 43 2 42,((some 44),.op (.old (.binOp .neq 33 (.tmp 38) (.tmp 43) 33) 4))]) <|
  .cond (.tmp 44) (.seq (al [aa 45 0,aa 46 3,aa 47 4,aa 48 5,aP 49 2 47 48,aK 50 2 49,aP 51 2 45 46,(none,.op (.store 2 (.tmp 51) (.tmp 50)))]) <|
  al [aa 52 3,aA 53 .add 52 1,aa 3 53]) (.skip))) <|
  al [aa 33 5,aA 34 .add 33 1,aa 5 34]
def iN:DC :=
  .seq (.seq (al [aa 10 3,aa 11 0,aJ 12 11,aN 13 .lss 10 12]) <|
  .cond (.tmp 13) (.skip) (.exit 0)) <|
  .seq (.block 1 (.seq (al [aa 16 0,aa 17 3,aP 18 2 16 17,aK 19 2 18,aa 20 0,aa 21 3,aA 22 .sub 21 1,aP 23 2 20 22,aK 24 2 23,((some 25),.op (.old (.binOp .eql 33 (.tmp 19) (.tmp 24) 33) 4))]) <|
  .cond (.tmp 25) (.seq (al [aa 26 0,aa 27 3,((some 28),.op (.slice 2 (.tmp 26) (some (.tmp 27)) none)),aa 4 28]) <|
  .seq (.seq (al [aF 5 1]) <|
  .block 2 (.loop iO)) <|
  .seq (al [aa 54 0,aa 55 3,((some 56),.op (.slice 2 (.tmp 54) (some (.tmp 55)) none)),(none,.op (.old (.call { callee:=.builtin .clear,args:=#[(.tmp 56)],argTypes:=#[27] }) 0))]) <|
  .seq (al [aa 57 0,aa 58 3,((some 59),.op (.slice 2 (.tmp 57) none (some (.tmp 58)))),aa 2 59]) <|
  .ret) (.skip))) <|
  al [aa 14 3,aA 15 .add 14 1,aa 3 15]
def fv:DF:=⟨.seq (al [((some 2),.op (.bm (.val (.emp 1))))]) <|
  .seq (.seq (al [aa 6 0,aJ 7 6,aA 8 .lss 7 2]) <|
  .cond (.tmp 8) (.seq (al [aa 9 0,aa 2 9]) <|
  .ret) (.skip)) <|
  .seq (.seq (al [aF 3 1]) <|
  .block 0 (.loop iN)) <|
  .seq (al [aa 60 0,aa 2 60]) <|
  .ret,
  [.tmp 2],61⟩
theorem iJ:aY Tryz.prog 114 []=some fv:=by kernel_rfl
def EO:DC :=
  .seq (al [aN 9 .lss 8 7]) <|
  .seq (.cond (.tmp 9) (.skip) (.exit 0)) <|
  .seq (.block 1 (.seq (al [aP 10 2 6 8,aK 11 2 10,((some 5),.op (.alloc [(.val (.int .i64 0)),(.val (.int .i64 0))])),(none,.op (.store 2 (.tmp 5) (.tmp 11)))]) <|
  al [aa 12 3,av 13 0 5,au 14 13,aA 15 .add 14 1,((some 16),.op (.conv .u8 (.tmp 15))),av 17 1 5,au 18 17,((some 19),.op (.conv .u8 (.tmp 18))),((some 20),.op (.bC 2 1 [(.val (.int .u8 0))] [(0,(.tmp 16)),(1,(.tmp 19))])),((some 21),.op (.app 1 1 (.tmp 12) (.tmp 20))),aa 3 21])) <|
  al [aA 22 .add 8 1,aa 8 22]
def zL:DF:=⟨.seq (.region [] [⟨none,[((some 2),.op (.bm (.val (.val (.string ⟨#[]⟩)))))]⟩]) <|
  .seq (al [((some 3),.op (.bm (.val (.emp 1))))]) <|
  .seq (.seq (al [aa 6 0,aJ 7 6,aF 8 0]) <|
  .block 0 (.loop EO)) <|
  .seq (al [aa 23 3,((some 24),.op (.old (.convert 91 9 (.tmp 23)) 9)),aa 2 24]) <|
  .ret,
  [.tmp 2],25⟩
theorem Dp:aY Tryz.prog 62 []=some zL:=by kernel_rfl
def zt:DC :=
  .seq (al [aN 54 .lss 53 52]) <|
  .seq (.cond (.tmp 54) (.skip) (.exit 2)) <|
  .seq (.block 3 (.seq (al [aa 55 53,aP 56 3 51 53,aK 57 3 56,((some 11),.op (.alloc [(.val (.int .i64 0)),(.emp 1),(.val (.int .i64 0))])),aa 10 55,(none,.op (.store 3 (.tmp 11) (.tmp 57)))]) <|
  .seq (al [av 58 0 11,au 59 58,aa 60 8,((some 61),.op (.arith .sub (.val (.val (.int .i64 (-1)))) (.tmp 60))),aN 62 .eql 59 61]) <|
  .cond (.tmp 62) (al [aa 63 5,aa 64 10,((some 65),.op (.build [(.val (.int .i64 0)),(.val (.int .i64 0))] [(0,1,(.tmp 64))])),((some 66),.op (.bC 1 2 [(.val (.int .i64 0)),(.val (.int .i64 0))] [(0,(.tmp 65))])),((some 67),.op (.app 2 16 (.tmp 63) (.tmp 66))),aa 5 67]) (.skip))) <|
  al [aA 68 .add 53 1,aa 53 68]
def y0:DC :=
  .seq (.seq (al [aa 18 7,aa 19 5,aJ 20 19,aN 21 .lss 18 20]) <|
  .cond (.tmp 21) (.skip) (.exit 0)) <|
  .seq (.block 1 (.seq (al [aK 25 4 2,aa 26 5,aa 27 7,aP 28 2 26 27,aK 29 2 28,aI 30 50 [25,29],aa 24 30,cG 31 0 24,cG 32 1 24,aa 8 31,aa 9 32]) <|
  .seq (.seq (.region [] [⟨none,[aa 33 9,b6 34 33,aa 35 34]⟩,⟨(some (35,false)),[aa 36 8,aA 37 .geq 36 0]⟩,⟨none,[bJ 38 35 37,aa 39 38]⟩,⟨(some (39,false)),[aa 40 6,aa 41 8,((some 42),.op (.arith .sub (.val (.val (.int .i64 (-1)))) (.tmp 41))),aP 43 1 40 42,au 44 43]⟩,⟨none,[bJ 45 39 44]⟩]) <|
  .cond (.tmp 45) (.exit 1) (.skip)) <|
  .seq (al [aa 46 6,aa 47 8,((some 48),.op (.arith .sub (.val (.val (.int .i64 (-1)))) (.tmp 47))),aP 49 1 46 48,(none,.op (.store 1 (.tmp 49) (.val (.val (.bool true)))))]) <|
  .seq (al [av 50 2 2,au 51 50,aJ 52 51,aF 53 0]) <|
  .block 2 (.loop zt))) <|
  al [aa 22 7,aA 23 .add 22 1,aa 7 23]
def tx:DF:=⟨.seq (al [bZ 2 0,((some 4),.op (.bm (.val (.emp 1))))]) <|
  .seq (al [aa 12 1,aI 13 58 [12],aa 5 13]) <|
  .seq (al [av 14 1 2,au 15 14,aJ 16 15,((some 17),.op (.make 1 1 [(.val (.bool false))] (.tmp 16) (.tmp 16))),aa 6 17]) <|
  .seq (.seq (al [aF 7 0]) <|
  .block 0 (.loop y0)) <|
  .seq (al [aa 69 5,aI 70 64 [69],aa 4 70]) <|
  .ret,
  [.tmp 4],71⟩
theorem ye:aY Tryz.prog 56 [2]=some tx:=by kernel_rfl
def yH:DF:=⟨.seq (al [bZ 2 0,bZ 3 1,aF 4 0,aX 5 false]) <|
  .seq (.seq (al [aK 7 4 2,av 8 0 3,au 9 8,aI 10 53 [7,9],aa 6 10]) <|
  .seq (al [av 11 1 3,au 12 11,aa 13 6,aJ 14 13,aN 15 .lss 12 14]) <|
  .cond (.tmp 15) (.seq (al [aa 16 6,av 17 1 3,au 18 17,aP 19 1 16 18,au 20 19,aa 4 20,aX 5 true]) <|
  .ret) (.skip)) <|
  .seq (al [aF 4 0,aX 5 false]) <|
  .ret,
  [.tmp 4,.tmp 5],21⟩
theorem BE:aY Tryz.prog 50 [2,3]=some yH:=by kernel_rfl
def vZ:DF:=⟨.seq (al [bZ 2 0,((some 4),.op (.bm (.val (.emp 1))))]) <|
  .seq (.seq (al [aa 5 1,aA 6 .eql 5 (-1)]) <|
  .cond (.tmp 6) (.seq (al [av 7 3 2,au 8 7,((some 9),.op (.arith .sub (.val (.val (.int .i64 (-1)))) (.tmp 8))),((some 10),.op (.bC 1 1 [(.val (.int .i64 0))] [(0,(.tmp 9))])),aa 4 10]) <|
  .ret) (.skip)) <|
  .seq (al [av 11 2 2,au 12 11,aa 13 1,aP 14 3 12 13,av 15 1 14,au 16 15,aa 4 16]) <|
  .ret,
  [.tmp 4],17⟩
theorem Ar:aY Tryz.prog 53 [2]=some vZ:=by kernel_rfl
def fO:DF:=⟨.seq (al [((some 2),.op (.bm (.val (.emp 1))))]) <|
  .seq (.seq (al [aa 3 0,((some 4),.op (.nil true 0 (.tmp 3) (.val (.emp 1))))]) <|
  .cond (.tmp 4) (.seq (al [((some 2),.op (.bm (.val (.emp 1))))]) <|
  .ret) (.skip)) <|
  .seq (al [((some 5),.op (.bm (.val (.emp 2)))),aa 6 0,((some 7),.op (.app 2 16 (.tmp 5) (.tmp 6))),aa 2 7]) <|
  .ret,
  [.tmp 2],8⟩
theorem iZ:aY Tryz.prog 58 []=some fO:=by kernel_rfl
def B3:DC :=
  .seq (al [aN 15 .lss 14 13]) <|
  .seq (.cond (.tmp 15) (.skip) (.exit 0)) <|
  .seq (.block 1 (.seq (al [aP 16 2 12 14,aK 17 2 16,((some 7),.op (.alloc [(.val (.int .i64 0)),(.val (.int .i64 0))])),(none,.op (.store 2 (.tmp 7) (.tmp 17)))]) <|
  .seq (al [aK 19 4 2,aK 20 2 7,aI 21 50 [19,20],aa 18 21,cG 22 0 18,cG 23 1 18,aa 8 22,aa 9 23]) <|
  .seq (al [aa 24 9]) <|
  .cond (.tmp 24) (.seq (al [aK 25 4 2,aa 26 8,aI 27 111 [25,26],aa 10 27]) <|
  al [aa 28 5,aa 29 10,aa 30 5,aa 31 10,((some 32),.op (.old (.lookup 98 (.tmp 30) (.tmp 31) false) 27)),av 33 0 7,au 34 33,av 35 1 7,au 36 35,aA 37 .add 36 1,((some 38),.op (.build [(.val (.int .i64 0)),(.val (.int .i64 0))] [(0,1,(.tmp 34)),(1,1,(.tmp 37))])),((some 39),.op (.bC 1 2 [(.val (.int .i64 0)),(.val (.int .i64 0))] [(0,(.tmp 38))])),((some 40),.op (.app 2 16 (.tmp 32) (.tmp 39))),(none,.op (.old (.mapUpdate 98 (.tmp 28) (.tmp 29) (.tmp 40)) 0))]) (.skip))) <|
  al [aA 41 .add 14 1,aa 14 41]
def vT:DF:=⟨.seq (al [bZ 2 0,((some 4),.op (.bm (.val (.val (.map none)))))]) <|
  .seq (al [((some 11),.op (.lO)),aa 5 11]) <|
  .seq (.seq (al [aa 12 1,aJ 13 12,aF 14 0]) <|
  .block 0 (.loop B3)) <|
  .seq (al [aa 42 5,aa 4 42]) <|
  .ret,
  [.tmp 4],43⟩
theorem Ae:aY Tryz.prog 63 [2]=some vT:=by kernel_rfl
def yD:DF:=⟨.seq (al [bZ 2 0,aF 4 0]) <|
  .seq (.seq (al [aa 5 1,aA 6 .lss 5 0]) <|
  .cond (.tmp 6) (.seq (al [av 7 0 2,au 8 7,aJ 9 8,aA 10 .sub 9 1,aa 11 1,aN 12 .sub 10 11,aa 4 12]) <|
  .ret) (.skip)) <|
  .seq (al [aa 13 1,aa 4 13]) <|
  .ret,
  [.tmp 4],14⟩
theorem BP:aY Tryz.prog 111 [2]=some yD:=by kernel_rfl
def tM:DF:=⟨.seq (al [bZ 2 0,((some 4),.op (.bm (.val (.emp 1))))]) <|
  .seq (.region [(0,2),(0,4)] [⟨none,[aK 5 4 2,aa 6 1,aI 7 58 [6],((some 8),.op (.sk 59 [] [(.tmp 2)])),aI 9 57 [7,8],aI 10 56 [5,9],aa 4 10]⟩]) <|
  .ret,
  [.tmp 4],11⟩
theorem yb:aY Tryz.prog 22 [2,100001]=some tM:=by kernel_rfl
def qT:DF:=⟨.seq (al [bZ 2 0,aX 3 false]) <|
  .seq (al [aK 4 4 1,aK 5 2 2,aI 6 19 [4,5],b6 7 6,aa 3 7]) <|
  .ret,
  [.tmp 3],8⟩
theorem vM:aY Tryz.prog 59 [2]=some qT:=by kernel_rfl
def Bd:DF:=⟨.seq (al [bZ 2 0,bZ 3 1,aX 4 false]) <|
  .seq (.seq (.region [] [⟨none,[aK 5 4 2,aI 6 52 [5],b6 7 6,aa 8 7]⟩,⟨(some (8,false)),[av 9 0 3,au 10 9,aA 11 .lss 10 (-1)]⟩,⟨none,[bJ 12 8 11,aa 13 12]⟩,⟨(some (13,false)),[av 14 0 3,au 15 14,av 16 2 2,au 17 16,aJ 18 17,aN 19 .geq 15 18]⟩,⟨none,[bJ 20 13 19]⟩]) <|
  .cond (.tmp 20) (.seq (al [aX 4 false]) <|
  .ret) (.skip)) <|
  .seq (.region [(5,9)] [⟨none,[av 21 1 3,au 22 21,aA 23 .geq 22 0,aa 24 23]⟩,⟨(some (24,true)),[av 25 1 3,au 26 25,aK 27 4 2,av 28 0 3,au 29 28,aI 30 53 [27,29],aJ 31 30,aN 32 .leq 26 31]⟩,⟨none,[bG 33 24 32,aa 4 33]⟩]) <|
  .ret,
  [.tmp 4],34⟩
theorem Dy:aY Tryz.prog 19 [2,3]=some Bd:=by kernel_rfl
def ig:DC :=
  .seq (.seq (al [aa 16 6,aa 17 0,aJ 18 17,aN 19 .lss 16 18]) <|
  .cond (.tmp 19) (.skip) (.exit 0)) <|
  .seq (.block 1 (.seq (al [aa 22 0,aa 23 6,aP 24 2 22 23,aK 25 2 24,((some 7),.op (.alloc [(.val (.int .i64 0)),(.val (.int .i64 0))])),(none,.op (.store 2 (.tmp 7) (.tmp 25)))]) <|
  .seq (al [aa 26 1,aK 27 2 7,((some 28),.call (.tmp 26) [(.tmp 27)]),b6 29 28]) <|
  .cond (.tmp 29) (.seq (al [aa 30 0,aa 31 5,aK 32 2 7,aP 33 2 30 31,(none,.op (.store 2 (.tmp 33) (.tmp 32)))]) <|
  al [aa 34 5,aA 35 .add 34 1,aa 5 35]) (.skip))) <|
  al [aa 20 6,aA 21 .add 20 1,aa 6 21]
def eL:DF:=⟨.seq (al [((some 4),.op (.bm (.val (.emp 1))))]) <|
  .seq (al [aa 8 0,aa 9 1,aI 10 107 [8,9],aa 5 10]) <|
  .seq (.seq (al [aa 11 5,aA 12 .eql 11 (-1)]) <|
  .cond (.tmp 12) (.seq (al [aa 13 0,aa 4 13]) <|
  .ret) (.skip)) <|
  .seq (.seq (al [aa 14 5,aA 15 .add 14 1,aa 6 15]) <|
  .block 0 (.loop ig)) <|
  .seq (al [aa 36 0,aa 37 5,((some 38),.op (.slice 2 (.tmp 36) (some (.tmp 37)) none)),(none,.op (.old (.call { callee:=.builtin .clear,args:=#[(.tmp 38)],argTypes:=#[27] }) 0))]) <|
  .seq (al [aa 39 0,aa 40 5,((some 41),.op (.slice 2 (.tmp 39) none (some (.tmp 40)))),aa 4 41]) <|
  .ret,
  [.tmp 4],42⟩
theorem gY:aY Tryz.prog 57 []=some eL:=by kernel_rfl
def ik:DC :=
  .seq (al [aN 9 .lss 8 7]) <|
  .seq (.cond (.tmp 9) (.skip) (.exit 0)) <|
  .seq (.block 1 (.seq (al [aa 10 8,aa 5 10]) <|
  .seq (al [aa 11 1,aa 12 0,aa 13 5,aP 14 2 12 13,aK 15 2 14,((some 16),.call (.tmp 11) [(.tmp 15)])]) <|
  .cond (.tmp 16) (.seq (al [aa 17 5,aa 4 17]) <|
  .ret) (.skip))) <|
  al [aA 18 .add 8 1,aa 8 18]
def eV:DF:=⟨.seq (al [aF 4 0]) <|
  .seq (.seq (al [aa 6 0,aJ 7 6,aF 8 0]) <|
  .block 0 (.loop ik)) <|
  .seq (al [aF 4 (-1)]) <|
  .ret,
  [.tmp 4],19⟩
theorem ie:aY Tryz.prog 107 []=some eV:=by kernel_rfl
def Dl:DC :=
  .seq (al [aN 24 .lss 23 22]) <|
  .seq (.cond (.tmp 24) (.skip) (.exit 0)) <|
  .seq (.block 1 (.seq (al [aP 25 1 21 23,au 26 25,((some 10),.op (.alloc [(.val (.int .i64 0))])),(none,.op (.store 1 (.tmp 10) (.tmp 26)))]) <|
  .seq (al [aa 27 0,aa 28 8,aP 29 2 27 28,av 30 1 29,au 31 30,((some 32),.op (.sk 69 [] [(.tmp 10)])),aI 33 68 [31,32],aa 11 33]) <|
  .seq (.seq (al [aa 34 11,aA 35 .lss 34 0]) <|
  .cond (.tmp 35) (.seq (al [aF 6 0,aX 7 false]) <|
  .ret) (.skip)) <|
  .seq (al [aa 36 0,aa 37 8,aP 38 2 36 37,av 39 1 38,au 40 39,aa 41 11,aP 42 2 40 41,av 43 1 42,au 44 43,aa 8 44]) <|
  .seq (.region [] [⟨none,[aa 45 8,aA 46 .lss 45 0,aa 47 46]⟩,⟨(some (47,false)),[aa 48 8,aa 49 0,aJ 50 49,aN 51 .geq 48 50]⟩,⟨none,[bJ 52 47 51]⟩]) <|
  .cond (.tmp 52) (.seq (al [aF 6 0,aX 7 false]) <|
  .ret) (.skip))) <|
  al [aA 53 .add 23 1,aa 23 53]
def yf:DF:=⟨.seq (al [aF 6 0,aX 7 false]) <|
  .seq (al [aa 12 1,aa 8 12]) <|
  .seq (.seq (.region [] [⟨none,[aa 13 8,aA 14 .lss 13 0,aa 15 14]⟩,⟨(some (15,false)),[aa 16 8,aa 17 0,aJ 18 17,aN 19 .geq 16 18]⟩,⟨none,[bJ 20 15 19]⟩]) <|
  .cond (.tmp 20) (.seq (al [aF 6 0,aX 7 false]) <|
  .ret) (.skip)) <|
  .seq (.seq (al [aa 21 2,aJ 22 21,aF 23 0]) <|
  .block 0 (.loop Dl)) <|
  .seq (al [aa 54 8,aa 6 54,aX 7 true]) <|
  .ret,
  [.tmp 6,.tmp 7],55⟩
theorem BR:aY Tryz.prog 28 []=some yf:=by kernel_rfl
def vz:DF:=⟨.seq (al [bZ 2 0,aX 3 false]) <|
  .seq (al [av 4 0 2,au 5 4,au 6 1,aN 7 .eql 5 6,aa 3 7]) <|
  .ret,
  [.tmp 3],8⟩
theorem zu:aY Tryz.prog 69 [2]=some vz:=by kernel_rfl
def ir:DC :=
  .seq (al [aN 9 .lss 8 7]) <|
  .seq (.cond (.tmp 9) (.skip) (.exit 0)) <|
  .seq (.block 1 (.seq (al [aa 10 8,aa 5 10]) <|
  .seq (al [aa 11 1,aa 12 0,aa 13 5,aP 14 2 12 13,aK 15 2 14,((some 16),.call (.tmp 11) [(.tmp 15)])]) <|
  .cond (.tmp 16) (.seq (al [aa 17 5,aa 4 17]) <|
  .ret) (.skip))) <|
  al [aA 18 .add 8 1,aa 8 18]
def eR:DF:=⟨.seq (al [aF 4 0]) <|
  .seq (.seq (al [aa 6 0,aJ 7 6,aF 8 0]) <|
  .block 0 (.loop ir)) <|
  .seq (al [aF 4 (-1)]) <|
  .ret,
  [.tmp 4],19⟩
theorem hQ:aY Tryz.prog 68 []=some eR:=by kernel_rfl
def yK:DF:=⟨.seq (al [bZ 2 0,bZ 3 1,aF 4 0,aX 5 false]) <|
  .seq (.seq (al [aK 6 4 2,aK 7 2 3,aI 8 19 [6,7],b6 9 8]) <|
  .cond (.tmp 9) (.seq (al [aF 4 0,aX 5 false]) <|
  .ret) (.skip)) <|
  .seq (al [aK 10 4 2,aK 11 2 3,aI 12 50 [10,11],cG 13 0 12,cG 14 1 12,aa 4 13,aa 5 14]) <|
  .ret,
  [.tmp 4,.tmp 5],15⟩
theorem B5:aY Tryz.prog 17 [2,3]=some yK:=by kernel_rfl
def Hw:List (FuncId × DF):=[(15,mT),(24,xD),(64,yL),(112,fc),(167,rH),(207,pK),(208,pN),(166,gh),(199,eX),(113,wQ),(126,o8),(173,qW),(168,vl),(114,fv),(62,zL),(56,tx),(50,yH),(53,vZ),(58,fO),(63,vT),(111,yD),(22,tM),(59,qT),(19,Bd),(57,eL),(107,eV),(28,yf),(69,vz),(68,eR),(17,yK)]
theorem Jr:uC Tryz.prog Hw:=by
  intro p hp
  simp only[Hw,List.mem_cons,List.not_mem_nil,or_false] at hp
  rcases hp with rfl | rfl | rfl | rfl | rfl | rfl | rfl | rfl | rfl | rfl | rfl | rfl | rfl | rfl | rfl | rfl | rfl | rfl | rfl | rfl | rfl | rfl | rfl | rfl | rfl | rfl | rfl | rfl | rfl | rfl
  · exact ⟨_,sf⟩
  · exact ⟨_,Bf⟩
  · exact ⟨_,BB⟩
  · exact ⟨_,iq⟩
  · exact ⟨_,v7⟩
  · exact ⟨_,uw⟩
  · exact ⟨_,tW⟩
  · exact ⟨_,jy⟩
  · exact ⟨_,ib⟩
  · exact ⟨_,AZ⟩
  · exact ⟨_,tz⟩
  · exact ⟨_,vK⟩
  · exact ⟨_,zw⟩
  · exact ⟨_,iJ⟩
  · exact ⟨_,Dp⟩
  · exact ⟨_,ye⟩
  · exact ⟨_,BE⟩
  · exact ⟨_,Ar⟩
  · exact ⟨_,iZ⟩
  · exact ⟨_,Ae⟩
  · exact ⟨_,BP⟩
  · exact ⟨_,yb⟩
  · exact ⟨_,vM⟩
  · exact ⟨_,Dy⟩
  · exact ⟨_,gY⟩
  · exact ⟨_,ie⟩
  · exact ⟨_,BR⟩
  · exact ⟨_,zu⟩
  · exact ⟨_,hQ⟩
  · exact ⟨_,B5⟩
def Nm:List Ca:=[(49,[EY Nr],xX nV,false),(61,[.agg (aw nV)],gb true,false),(61,[.agg (aw rP)],gb false,false),(52,[.agg (aw nV)],gb true,false)]
theorem MQ:∀ x∈Nm,x.Ok Tryz.prog:=by
  intro x hx
  simp only[Nm,List.mem_cons,List.not_mem_nil,or_false] at hx
  rcases hx with rfl | rfl | rfl | rfl
  · exact ⟨by kernel_rfl,by simp only[Bool.false_eq_true,if_false]; exact .inl PG⟩
  · exact ⟨by kernel_rfl,by simp only[Bool.false_eq_true,if_false]; exact .inr ⟨(show isRed nV=true by kernel_rfl) ▸ F5 nV rF.1 rF.2,.val _⟩⟩
  · exact ⟨by kernel_rfl,by simp only[Bool.false_eq_true,if_false]; exact .inr ⟨(show isRed rP=false by kernel_rfl) ▸ F5 rP OX ⟨by decide⟩,.val _⟩⟩
  · exact ⟨by kernel_rfl,by simp only[Bool.false_eq_true,if_false]; exact .inr ⟨(show bK nV=true by kernel_rfl) ▸ rD nV rF.1 rF.2.names,.val _⟩⟩
theorem Iy:aD Tryz.prog 15 [] (gb true) :=
  (uj mixed Jr (Me MQ) (by simp) (by kernel_rfl)).pure
def bt.Ok (s:bt):Prop:=(aW s.bo∧∀ x∈s.bo,cz x.aH∧cz x.dot)∧aW s.bT∧∀ e∈s.bT,cz e.sym∧cz e.to
def l8:SC :=
  .seq (.seq (ak [aa 45 6,aa 46 0,aa 47 5,aP 48 2 46 47,av 49 1 48,au 50 49,aJ 51 50,aN 52 .lss 45 51]) <|
  .cond (.tmp 52) (.skip) (.exit 2)) <|
  .seq (.block 3 (.seq (ak [aa 55 0,aa 56 5,aP 57 2 55 56,av 58 1 57,au 59 58,aa 60 6,aP 61 2 59 60,aK 62 2 61,aa 63 1,aa 64 5,aP 65 2 63 64,av 66 1 65,au 67 66,aa 68 6,aP 69 2 67 68,aK 70 2 69,((some 71),.op (.old (.binOp .neq 52 (.tmp 62) (.tmp 70) 52) 4))]) <|
  .cond (.tmp 71) (.seq (ak [aX 4 false]) <|
  .ret) (.skip))) <|
  ak [aa 53 6,aA 54 .add 53 1,aa 6 54]
def mg:SC :=
  .seq (.seq (ak [aa 12 5,aa 13 0,aJ 14 13,aN 15 .lss 12 14]) <|
  .cond (.tmp 15) (.skip) (.exit 0)) <|
  .seq (.block 1 (.seq (.seq (.region false [⟨none,[aa 18 0,aa 19 5,aP 20 2 18 19,av 21 0 20,au 22 21,aa 23 1,aa 24 5,aP 25 2 23 24,av 26 0 25,au 27 26,aI 28 21 [22,27],b6 29 28,aa 30 29]⟩,⟨(some (30,false)),[aa 31 0,aa 32 5,aP 33 2 31 32,av 34 1 33,au 35 34,aJ 36 35,aa 37 1,aa 38 5,aP 39 2 37 38,av 40 1 39,au 41 40,aJ 42 41,aN 43 .neq 36 42]⟩,⟨none,[bJ 44 30 43]⟩]) <|
  .cond (.tmp 44) (.seq (ak [aX 4 false]) <|
  .ret) (.skip)) <|
  .seq (ak [aF 6 0]) <|
  .block 2 (.loop l8))) <|
  ak [aa 16 5,aA 17 .add 16 1,aa 5 17]
def oX:SF:=⟨.seq (ak [aX 4 false]) <|
  .seq (.seq (ak [aa 7 0,aJ 8 7,aa 9 1,aJ 10 9,aN 11 .neq 8 10]) <|
  .cond (.tmp 11) (.seq (ak [aX 4 false]) <|
  .ret) (.skip)) <|
  .seq (.seq (ak [aF 5 0]) <|
  .block 0 (.loop mg)) <|
  .seq (ak [aX 4 true]) <|
  .ret,
  [.tmp 4],72⟩
theorem tf:bf Tryz.prog 26 []=some oX:=by kernel_rfl
def jw:SF:=⟨.seq (ak [bZ 1 0,aX 2 false]) <|
  .seq (.seq (ak [aI 7 15 [],b6 8 7]) <|
  .cond (.tmp 8) (.seq (ak [aX 2 false]) <|
  .ret) (.skip)) <|
  .seq (.seq (ak [aK 9 4 1,aI 10 16 [9]]) <|
  .cond (.tmp 10) (.seq (ak [aX 2 true]) <|
  .ret) (.skip)) <|
  .seq (ak [aK 12 4 1,aI 13 24 [12],aa 11 13,cG 14 0 11,cG 15 1 11,aa 3 14,aa 4 15]) <|
  .seq (ak [aK 17 4 1,aI 18 25 [17],aa 16 18,cG 19 0 16,cG 20 1 16,aa 5 19,aa 6 20]) <|
  .seq (.region false [⟨none,[aa 21 3,aa 22 5,aI 23 26 [21,22],aa 24 23]⟩,⟨(some (24,true)),[aa 25 4,aa 26 6,aN 27 .eql 25 26]⟩,⟨none,[bG 28 24 27,aa 2 28]⟩]) <|
  .ret,
  [.tmp 2],29⟩
theorem oV:bf Tryz.prog 4 [1]=some jw:=by kernel_rfl
theorem Ji (x y:fh):fj Tryz.prog 9998 #[.int .i64 x.sym,.int .i64 x.to] #[.int .i64 y.sym,.int .i64 y.to]
    [{ name:= "Sym",type:=3,offset:=0,embedded:=false,tag:= "",pkgPath:= "",byteOffset:=0 },{ name:= "To",type:=3,offset:=1,embedded:=false,tag:= "",pkgPath:= "",byteOffset:=8 }] ((x.sym == y.sym) && ((x.to == y.to) && true)) :=
  .int _ _ _ .i64 _ _ (by decide) Tryz.underlying3 rfl rfl (.int _ _ _ .i64 _ _ (by decide) Tryz.underlying3 rfl rfl .nil)
theorem NM (x y:fh):((x.sym == y.sym) && ((x.to == y.to) && true))=decide (x=y):=by
  cases x; cases y; rw[Bool.eq_iff_iff]; simp
set_option maxHeartbeats 4000000 in
theorem Jw (a:List bt) (ha:aW a) (hs:∀ s∈a,aW s.bo∧aW s.bT):aD Tryz.prog 26 [dZ a,dZ a] (gb true):=by
  unfold aW at ha
  refine aD.val (by
    intro v hv; simp at hv
    subst hv; exact yz _) fun H=>?_
  refine aC.of mixed tf ?_
  simp (disch:=omega) only [↓wr,↓reduceIte,wq,ah,ag,aj,ab,ae,af,ai,isNil,Nat.reduceEqDiff,Nat.reduceAdd,Nat.reduceLT,Nat.reduceLeDiff,Int.reduceNeg,Int.reduceToNat,reduceCtorEq,oX,dZ]
  refine ax.ne (fun h=>absurd rfl h) (fun _=>?_)
  simp (disch:=omega) only [↓wr,↓reduceIte,wq,ah,ag,aj,ab,ae,af,ai,isNil,Nat.reduceEqDiff,Nat.reduceAdd,Nat.reduceLT,Nat.reduceLeDiff,Int.reduceNeg,Int.reduceToNat,reduceCtorEq]
  refine bz.up a.length (fun i T H'=>T 0=dZ a∧T 1=dZ a∧T 5=gi i) ⟨rfl,rfl,rfl⟩ ?_
  rintro i k T H' hk ⟨t0,t1,t5⟩
  simp (disch:=omega) only [↓wr,↓reduceIte,wq,ah,ag,aj,ab,ae,af,ai,isNil,Nat.reduceEqDiff,Nat.reduceAdd,Nat.reduceLT,Nat.reduceLeDiff,Int.reduceNeg,Int.reduceToNat,reduceCtorEq,mg,t0,t1,t5,dZ]
  refine ax.dec (fun hc=>?_) (fun hc=>?_)
  · have hx:a[i]?=some (a[i]'(by omega)):=List.getElem?_eq_getElem (by omega)
    have hm:=List.getElem_mem (show i < a.length by omega)
    generalize a[i]'(by omega)=x at hx hm
    obtain ⟨k1,k2⟩:=hs x hm
    have hI:=Bb x.bo x.bo k1 k1
    rw[beq_self_eq_true] at hI
    unfold aW at k2
    simp (disch:=omega) only [↓wr,↓reduceIte,wq,ah,ag,aj,ab,ae,af,ai,isNil,Nat.reduceEqDiff,Nat.reduceAdd,Nat.reduceLT,Nat.reduceLeDiff,Int.reduceNeg,Int.reduceToNat,reduceCtorEq,t0,t1,t5,dZ,List.getElem?_map,hx,Option.map_some,mD]
    refine aG.pure hI (by kernel_rfl) ?_
    simp (disch:=omega) only [↓wr,↓reduceIte,wq,ah,ag,aj,ab,ae,af,ai,isNil,Nat.reduceEqDiff,Nat.reduceAdd,Nat.reduceLT,Nat.reduceLeDiff,Int.reduceNeg,Int.reduceToNat,reduceCtorEq,t0,t1,t5,dZ,List.getElem?_map,hx,Option.map_some,mD,kc]
    refine ax.ne (fun h=>absurd rfl h) (fun _=>?_)
    simp (disch:=omega) only [↓wr,↓reduceIte,wq,ah,ag,aj,ab,ae,af,ai,isNil,Nat.reduceEqDiff,Nat.reduceAdd,Nat.reduceLT,Nat.reduceLeDiff,Int.reduceNeg,Int.reduceToNat,reduceCtorEq,t0,t1,t5]
    refine bz.up x.bT.length (fun j T H'=>T 0=dZ a∧T 1=dZ a∧T 5=gi i∧T 6=gi j) ⟨t0,t1,t5,rfl⟩ ?_
    clear t0 t1 t5
    rintro j m T H2 hm2 ⟨t0,t1,t5,t6⟩
    simp (disch:=omega) only [↓wr,↓reduceIte,wq,ah,ag,aj,ab,ae,af,ai,isNil,Nat.reduceEqDiff,Nat.reduceAdd,Nat.reduceLT,Nat.reduceLeDiff,Int.reduceNeg,Int.reduceToNat,reduceCtorEq,l8,t0,t1,t5,t6,dZ,List.getElem?_map,hx,Option.map_some,mD,kc]
    refine ax.dec (fun hc2=>?_) (fun hc2=>?_)
    · have hy:x.bT[j]?=some (x.bT[j]'(by omega)):=List.getElem?_eq_getElem (by omega)
      generalize x.bT[j]'(by omega)=y at hy
      simp (disch:=omega) only [↓wr,↓reduceIte,wq,ah,ag,aj,ab,ae,af,ai,isNil,Nat.reduceEqDiff,Nat.reduceAdd,Nat.reduceLT,Nat.reduceLeDiff,Int.reduceNeg,Int.reduceToNat,reduceCtorEq,t0,t1,t5,t6,dZ,List.getElem?_map,hx,hy,Option.map_some,mD,kc,xW]
      refine gS (xs:=#[.int .i64 y.sym,.int .i64 y.to]) (ys:=#[.int .i64 y.sym,.int .i64 y.to]) Tryz.underlying52 (by kernel_rfl) (by kernel_rfl) ?_ ?_ (Ji y y) (.inr ⟨rfl,rfl⟩) ?_
      · rfl
      · rfl
      rw[NM,decide_eq_true rfl]
      simp (disch:=omega) only [↓wr,↓reduceIte,wq,ah,ag,aj,ab,ae,af,ai,isNil,Nat.reduceEqDiff,Nat.reduceAdd,Nat.reduceLT,Nat.reduceLeDiff,Int.reduceNeg,Int.reduceToNat,reduceCtorEq,t0,t1,t5,t6]
      exact bq hm2 (by omega) ⟨t0,t1,t5,rfl⟩
    · simp (disch:=omega) only [↓wr,↓reduceIte,wq,ah,ag,aj,ab,ae,af,ai,isNil,Nat.reduceEqDiff,Nat.reduceAdd,Nat.reduceLT,Nat.reduceLeDiff,Int.reduceNeg,Int.reduceToNat,reduceCtorEq,t0,t1,t5,t6]
      exact bq hk (by omega) ⟨t0,t1,rfl⟩
  · simp (disch:=omega) only [↓wr,↓reduceIte,wq,ah,ag,aj,ab,ae,af,ai,isNil,Nat.reduceEqDiff,Nat.reduceAdd,Nat.reduceLT,Nat.reduceLeDiff,Int.reduceNeg,Int.reduceToNat,reduceCtorEq]
theorem Gh (g:ao):(dQ g).1.length≤300∧∀ s∈(dQ g).1,s.bo.length≤287∧s.bT.length≤40:=by
  rcases JF g with ⟨h,hr⟩ | ⟨h,_⟩ | ⟨h,_⟩
  · have hf:=uK hr
    obtain ⟨h1,h2,h3⟩:=MD hf h
    exact ⟨h3,fun s hs=>⟨gT hf (h1.bo s hs).1 (h1.bo s hs).2.2,h1.bT s hs⟩⟩
  · rw[h]; simp
  · rw[h]; simp
set_option maxHeartbeats 4000000 in
theorem Dt (g:ao) (hg:g.Ok):aD Tryz.prog 4 [.agg (aw g)] (gb true):=by
  refine aD.val (eN g) fun H=>?_
  refine aC.of mixed oV ?_
  simp (disch:=omega) only [↓wr,↓reduceIte,wq,ah,ag,aj,ab,ae,af,ai,isNil,Nat.reduceEqDiff,Nat.reduceAdd,Nat.reduceLT,Nat.reduceLeDiff,Int.reduceNeg,Int.reduceToNat,reduceCtorEq,jw,aw,encS]
  refine aG.pure Iy (by kernel_rfl) ?_
  simp (disch:=omega) only [↓wr,↓reduceIte,wq,ah,ag,aj,ab,ae,af,ai,isNil,Nat.reduceEqDiff,Nat.reduceAdd,Nat.reduceLT,Nat.reduceLeDiff,Int.reduceNeg,Int.reduceToNat,reduceCtorEq,aw,encS]
  refine aG.pure (Ng g) (by kernel_rfl) ?_
  simp (disch:=omega) only [↓wr,↓reduceIte,wq,ah,ag,aj,ab,ae,af,ai,isNil,Nat.reduceEqDiff,Nat.reduceAdd,Nat.reduceLT,Nat.reduceLeDiff,Int.reduceNeg,Int.reduceToNat,reduceCtorEq]
  refine ax.split (fun e=>?_) (fun e=>?_)
  · simp (disch:=omega) only [↓wr,↓reduceIte,wq,ah,ag,aj,ab,ae,af,ai,isNil,Nat.reduceEqDiff,Nat.reduceAdd,Nat.reduceLT,Nat.reduceLeDiff,Int.reduceNeg,Int.reduceToNat,reduceCtorEq]
  have h1:=(JJ g hg (Gi e)).pure
  have h2:=(Ja g hg).pure
  obtain ⟨l1,l2⟩:=Gh g
  generalize dQ g=r at h1 h2 l1 l2
  obtain ⟨a,e2⟩:=r
  simp only at h1 h2 l1 l2
  have h3:=Jw a (by unfold aW; omega) (fun s hs=>by have:=l2 s hs; unfold aW; omega)
  simp only[aw,encS] at h1 h2
  simp (disch:=omega) only [↓wr,↓reduceIte,wq,ah,ag,aj,ab,ae,af,ai,isNil,Nat.reduceEqDiff,Nat.reduceAdd,Nat.reduceLT,Nat.reduceLeDiff,Int.reduceNeg,Int.reduceToNat,reduceCtorEq,aw,encS]
  refine aG.pure h1 (by kernel_rfl) ?_
  simp (disch:=omega) only [↓wr,↓reduceIte,wq,ah,ag,aj,ab,ae,af,ai,isNil,Nat.reduceEqDiff,Nat.reduceAdd,Nat.reduceLT,Nat.reduceLeDiff,Int.reduceNeg,Int.reduceToNat,reduceCtorEq,aw,encS]
  refine aG.pure h2 (by kernel_rfl) ?_
  simp (disch:=omega) only [↓wr,↓reduceIte,wq,ah,ag,aj,ab,ae,af,ai,isNil,Nat.reduceEqDiff,Nat.reduceAdd,Nat.reduceLT,Nat.reduceLeDiff,Int.reduceNeg,Int.reduceToNat,reduceCtorEq]
  refine aG.pure h3 (by kernel_rfl) ?_
  simp (disch:=omega) only [↓wr,↓reduceIte,wq,ah,ag,aj,ab,ae,af,ai,isNil,Nat.reduceEqDiff,Nat.reduceAdd,Nat.reduceLT,Nat.reduceLeDiff,Int.reduceNeg,Int.reduceToNat,reduceCtorEq]
  rw[beq_self_eq_true]
structure Ac (n:Nat) (B:List Bool) (l:List fh):Prop where
  len:B.length=n
  zero:B.getD 0 false=true
  all:∀ e∈l,B.getD e.to.toNat false=true
theorem Ac.put {n:Nat} {B:List Bool} {l:List fh} (h:Ac n B l) (e:fh) (he:e.to.toNat < n):Ac n (B.set e.to.toNat true) (l ++ [e]):=by
  have hg:∀ m,B.getD m false=true→(B.set e.to.toNat true).getD m false=true:=fun m hm=>by
    rw[rz]; split
    · rfl
    · exact hm
  refine ⟨by rw[List.length_set]; exact h.len,hg 0 h.zero,fun x hx=>?_⟩
  rcases List.mem_append.1 hx with hx | hx
  · exact hg _ (h.all x hx)
  · rw[List.mem_singleton] at hx; subst hx
    rw[rz,if_pos ⟨rfl,by rw[h.len]; exact he⟩]
theorem Ac.at {g:ao} {a:List bt} (hX:QC g a) {B:List Bool} {i:Nat} {l:List fh} (h:Ac a.length B (((a.take i).flatMap bt.bT) ++ l)) (hi:i < a.length):B.getD i false=true:=by
  by_cases e:i=0
  · rw[e]; exact h.zero
  · obtain ⟨j,x,h1,h2,h3⟩:=hX.back i (by omega) hi
    have:=h.all x (List.mem_append_left _ (List.mem_flatMap.2 ⟨a.getD j cg,List.mem_take_iff_getElem.2 ⟨j,by omega,by
      simp[List.getD_eq_getElem?_getD,List.getElem?_eq_getElem (show j < a.length by omega)]⟩,h2⟩))
    rw[h3] at this
    simpa using this
end Gv
