/-
  Part 16 of the proof: what the machine does and what the functions answer.
  Conditions: those that each lemma names.
-/
import Derived.Test.YtihmlbdfcmfbdaaGreatSGzA7O
set_option linter.unusedSimpArgs false
set_option linter.unusedVariables false
set_option maxRecDepth 100000
namespace Gv
open Go Go.Proofs
def mH:DF:=⟨.seq (al [aQ 0 false]) <|
  .seq (al [((some 16),.op (.bD 16 1 [(.val (.int .u8 0))] [(0,(.val (.val (.int .u8 37)))),(1,(.val (.val (.int .u8 37)))),(2,(.val (.val (.int .u8 32)))),(3,(.val (.val (.int .u8 115)))),(4,(.val (.val (.int .u8 32)))),(5,(.val (.val (.int .u8 58)))),(6,(.val (.val (.int .u8 32)))),(7,(.val (.val (.int .u8 39)))),(8,(.val (.val (.int .u8 97)))),(9,(.val (.val (.int .u8 39)))),(10,(.val (.val (.int .u8 32)))),(11,(.val (.val (.int .u8 115)))),(12,(.val (.val (.int .u8 32)))),(13,(.val (.val (.int .u8 124)))),(14,(.val (.val (.int .u8 32)))),(15,(.val (.val (.int .u8 59))))])),((some 17),.op (.old (.convert 91 91 (.tmp 16)) 91)),aF 18 49 [17],aa 15 18,cM 19 0 15,cM 20 1 15,cM 21 2 15,((some 1),.op (.alloc [(.emp 1),(.emp 1),(.emp 1),(.val (.int .i64 0))])),(none,.op (.store 4 (.tmp 1) (.tmp 19))),aa 2 20,aa 3 21]) <|
  .seq (al [aJ 23 4 1,aF 24 24 [23],aa 22 24,cM 25 0 22,cM 26 1 22,aa 4 25,aa 5 26]) <|
  .seq (al [((some 28),.op (.build [(.emp 1),(.emp 1),(.emp 1),(.val (.int .i64 0))] [])),aF 29 24 [28],aa 27 29,cM 30 0 27,cM 31 1 27,aa 6 30,aa 7 31]) <|
  .seq (al [aJ 32 4 1,((some 33),.op (.build [(.val (.int .i64 0)),(.val (.int .i64 0))] [(0,1,(.val (.val (.int .i64 (-1)))))])),((some 34),.op (.build [(.val (.int .i64 0)),(.val (.int .i64 0))] [(0,1,(.val (.val (.int .i64 7))))])),((some 35),.op (.bD 2 2 [(.val (.int .i64 0)),(.val (.int .i64 0))] [(0,(.tmp 33)),(1,(.tmp 34))])),aF 36 22 [32,35],aa 8 36]) <|
  .seq (al [aa 38 4,((some 39),.op (.bD 3 1 [(.val (.int .i64 0))] [(0,(.val (.val (.int .i64 0)))),(1,(.val (.val (.int .i64 0)))),(2,(.val (.val (.int .i64 (-1)))))])),cU 40 28 [(.tmp 38),(.val (.val (.int .i64 0))),(.tmp 39)],aa 37 40,cM 41 0 37,cM 42 1 37,aa 9 41,aa 10 42]) <|
  .seq (al [aa 44 4,((some 45),.op (.bD 1 1 [(.val (.int .i64 0))] [(0,(.val (.val (.int .i64 1))))])),cU 46 28 [(.tmp 44),(.val (.val (.int .i64 0))),(.tmp 45)],aa 43 46,cM 47 0 43,cM 48 1 43,aa 11 47,aa 12 48]) <|
  .seq (al [aJ 50 4 1,((some 51),.op (.build [(.val (.int .i64 0)),(.val (.int .i64 0))] [(0,1,(.val (.val (.int .i64 0)))),(1,1,(.val (.val (.int .i64 1))))])),aF 52 17 [50,51],aa 49 52,cM 53 0 49,cM 54 1 49,aa 13 53,aa 14 54]) <|
  .seq (.region [] [⟨none,[aa 55 5,ay 56 .eql 55 0,aa 57 56]⟩,⟨(some (57,true)),[aa 58 7,ay 59 .eql 58 1]⟩,⟨none,[bG 60 57 59,aa 61 60]⟩,⟨(some (61,true)),[aa 62 4,aI 63 62,ay 64 .eql 63 4]⟩,⟨none,[bG 65 61 64,aa 66 65]⟩,⟨(some (66,true)),[aa 67 4,((some 68),.op (.idx 2 (.tmp 67) (.val (.val (.int .i64 1))))),aq 69 1 68,ao 70 69,aI 71 70,ay 72 .eql 71 2]⟩,⟨none,[bG 73 66 72,aa 74 73]⟩,⟨(some (74,true)),[aa 75 8,aI 76 75,ay 77 .eql 76 3]⟩,⟨none,[bG 78 74 77,aa 79 78]⟩,⟨(some (79,true)),[aa 80 8,((some 81),.op (.idx 2 (.tmp 80) (.val (.val (.int .i64 0))))),aq 82 0 81,ao 83 82,ay 84 .eql 83 (-1)]⟩,⟨none,[bG 85 79 84,aa 86 85]⟩,⟨(some (86,true)),[aa 87 10]⟩,⟨none,[bG 88 86 87,aa 89 88]⟩,⟨(some (89,true)),[aa 90 9,ay 91 .eql 90 3]⟩,⟨none,[bG 92 89 91,aa 93 92]⟩,⟨(some (93,true)),[aa 94 12,bW 95 94]⟩,⟨none,[bG 96 93 95,aa 97 96]⟩,⟨(some (97,true)),[aa 98 14]⟩,⟨none,[bG 99 97 98,aa 100 99]⟩,⟨(some (100,true)),[aa 101 13,ay 102 .eql 101 (-1)]⟩,⟨none,[bG 103 100 102,aa 104 103]⟩,⟨(some (104,true)),[aJ 105 4 1,((some 106),.op (.build [(.val (.int .i64 0)),(.val (.int .i64 0))] [(0,1,(.val (.val (.int .i64 1))))])),aF 107 19 [105,106]]⟩,⟨none,[bG 108 104 107,aa 109 108]⟩,⟨(some (109,true)),[aJ 110 4 1,((some 111),.op (.build [(.val (.int .i64 0)),(.val (.int .i64 0))] [(0,1,(.val (.val (.int .i64 1)))),(1,1,(.val (.val (.int .i64 1))))])),aF 112 19 [110,111],bW 113 112]⟩,⟨none,[bG 114 109 113,aa 0 114]⟩]) <|
  .ret,
  [.tmp 0],115⟩
theorem rr:aS Tryz.prog 15 []=some mH:=by kernel_rfl
def Bf:DC :=
  .seq (al [aK 49 .lss 48 47]) <|
  .seq (.cond (.tmp 49) (.skip) (.exit 2)) <|
  .seq (.block 3 (.seq (al [aa 50 48,aa 9 50]) <|
  .seq (al [aa 51 8,aa 52 9,((some 53),.op (.old (.lookup 98 (.tmp 51) (.tmp 52) false) 27)),aF 54 64 [53],aa 10 54]) <|
  .seq (.seq (al [aa 55 10,aI 56 55,ay 57 .eql 56 0]) <|
  .cond (.tmp 57) (.exit 3) (.skip)) <|
  .seq (al [aa 58 9,aa 11 58]) <|
  .seq (.seq (al [aa 59 9,aq 60 0 1,ao 61 60,aI 62 61,aK 63 .geq 59 62]) <|
  .cond (.tmp 63) (al [aq 64 0 1,ao 65 64,aI 66 65,ay 67 .sub 66 1,aa 68 9,aK 69 .sub 67 68,aa 11 69]) (.skip)) <|
  .seq (al [aa 71 6,aa 72 10,aF 73 62 [72],((some 74),.op (.old (.lookup 97 (.tmp 71) (.tmp 73) true) 30)),aa 70 74,cM 75 0 70,cM 76 1 70,aa 12 75,aa 13 76]) <|
  .seq (.seq (al [aa 77 13,bW 78 77]) <|
  .cond (.tmp 78) (.seq (al [aa 79 5,aI 80 79,aa 12 80]) <|
  .seq (al [aa 81 6,aa 82 10,aF 83 62 [82],aa 84 12,(none,.op (.old (.mapUpdate 97 (.tmp 81) (.tmp 83) (.tmp 84)) 0))]) <|
  al [aa 85 5,aa 86 10,((some 87),.op (.build [(.emp 1),(.emp 1)] [(0,1,(.tmp 86))])),((some 88),.op (.bD 1 2 [(.emp 1),(.emp 1)] [(0,(.tmp 87))])),((some 89),.op (.app 2 48 (.tmp 85) (.tmp 88))),aa 5 89]) (.skip)) <|
  al [aa 90 5,aa 91 7,aa 92 5,aa 93 7,aL 94 2 92 93,aq 95 1 94,ao 96 95,aa 97 11,aa 98 12,((some 99),.op (.build [(.val (.int .i64 0)),(.val (.int .i64 0))] [(0,1,(.tmp 97)),(1,1,(.tmp 98))])),((some 100),.op (.bD 1 2 [(.val (.int .i64 0)),(.val (.int .i64 0))] [(0,(.tmp 99))])),((some 101),.op (.app 2 16 (.tmp 96) (.tmp 100))),aL 102 2 90 91,aq 103 1 102,(none,.op (.store 1 (.tmp 103) (.tmp 101)))])) <|
  al [ay 104 .add 48 1,aa 48 104]
def AM:DC :=
  .seq (.seq (al [aa 26 7,aa 27 5,aI 28 27,aK 29 .lss 26 28]) <|
  .cond (.tmp 29) (.skip) (.exit 0)) <|
  .seq (.block 1 (.seq (.region [(0,7)] [⟨none,[aJ 32 4 1,aJ 33 4 1,aa 34 5,aa 35 7,aL 36 2 34 35,aq 37 0 36,ao 38 37,aF 39 56 [33,38],aF 40 63 [32,39],aa 8 40]⟩]) <|
  .seq (.seq (al [aq 41 0 1,ao 42 41,aI 43 42,aq 44 1 1,ao 45 44,aI 46 45,aK 47 .add 43 46,aD 48 0]) <|
  .block 2 (.loop Bf)) <|
  .seq (al [aa 105 5,aI 106 105,ay 107 .gtr 106 300]) <|
  .cond (.tmp 107) (.seq (al [((some 2),.op (.bg (.val (.emp 1)))),aD 3 5]) <|
  .ret) (.skip))) <|
  al [aa 30 7,ay 31 .add 30 1,aa 7 31]
def vx:DF:=⟨.seq (al [cr 1 0,((some 2),.op (.bg (.val (.emp 1)))),aD 3 0]) <|
  .seq (.seq (al [aJ 14 4 1,aF 15 61 [14],bW 16 15]) <|
  .cond (.tmp 16) (.seq (al [((some 2),.op (.bg (.val (.emp 1)))),aD 3 1]) <|
  .ret) (.skip)) <|
  .seq (al [((some 17),.op (.build [(.val (.int .i64 0)),(.val (.int .i64 0))] [(0,1,(.val (.val (.int .i64 (-1)))))])),((some 18),.op (.bD 1 2 [(.val (.int .i64 0)),(.val (.int .i64 0))] [(0,(.tmp 17))])),aa 4 18]) <|
  .seq (al [aa 19 4,((some 20),.op (.build [(.emp 1),(.emp 1)] [(0,1,(.tmp 19))])),((some 21),.op (.bD 1 2 [(.emp 1),(.emp 1)] [(0,(.tmp 20))])),aa 5 21]) <|
  .seq (al [((some 22),.op (.lS)),aa 23 4,aF 24 62 [23],(none,.op (.old (.insert 97 (.tmp 22) (.tmp 24) (.const (.int .i64 0))) 0)),aa 25 22,aa 6 25]) <|
  .seq (.seq (al [aD 7 0]) <|
  .block 0 (.loop AM)) <|
  .seq (al [aa 108 5,aa 2 108,aD 3 0]) <|
  .ret,
  [.tmp 2,.tmp 3],109⟩
theorem zQ:aS Tryz.prog 24 [1]=some vx:=by kernel_rfl
def xn:DF:=⟨.seq (al [((some 2),.op (.bg (.val (.emp 1))))]) <|
  .seq (al [aa 3 0,cU 4 112 [(.tmp 3),(.val (.fn 113 [] []))]]) <|
  .seq (al [aa 5 0,aF 6 114 [5],aa 2 6]) <|
  .ret,
  [.tmp 2],7⟩
theorem AU:aS Tryz.prog 64 []=some xn:=by kernel_rfl
def eR:DF:=⟨.seq (al [aa 5 0,aI 6 5,aa 4 6]) <|
  al [aa 7 0,aa 8 4,aa 9 4,((some 10),.op (.conv .u64 (.tmp 9))),aF 11 167 [10],aa 12 1,cU 13 166 [(.tmp 7),(.val (.val (.int .i64 0))),(.tmp 8),(.tmp 11),(.tmp 12)]],
  [],14⟩
theorem ic:aS Tryz.prog 112 []=some eR:=by kernel_rfl
def qU:DF:=⟨.seq (al [aD 2 0]) <|
  .seq (.cond (.val (.val (.bool false))) (.seq (al [aa 3 0,((some 4),.op (.conv .u32 (.tmp 3))),aF 5 207 [4],aa 2 5]) <|
  .ret) (.skip)) <|
  .seq (al [aa 6 0,aF 7 208 [6],aa 2 7]) <|
  .ret,
  [.tmp 2],8⟩
theorem wc:aS Tryz.prog 167 []=some qU:=by kernel_rfl
def oS:DF:=⟨.seq (al [aD 2 0]) <|
  .seq (.seq (al [aa 3 0,((some 4),.op (.arith .geq (.tmp 3) (.val (.val (.int .u32 65536)))))]) <|
  .cond (.tmp 4) (.seq (al [aa 5 0,((some 6),.op (.sh false (.tmp 5) (.val (.val (.int .u64 16))))),aa 0 6]) <|
  al [aD 2 16]) (.skip)) <|
  .seq (.seq (al [aa 7 0,((some 8),.op (.arith .geq (.tmp 7) (.val (.val (.int .u32 256)))))]) <|
  .cond (.tmp 8) (.seq (al [aa 9 0,((some 10),.op (.sh false (.tmp 9) (.val (.val (.int .u64 8))))),aa 0 10]) <|
  al [aa 11 2,ay 12 .add 11 8,aa 2 12]) (.skip)) <|
  .seq (.region [] [⟨none,[aa 13 2,aa 14 0,((some 15),.op (.conv .u8 (.tmp 14))),((some 16),.op (.c8 (.val (.val (.string ⟨#[0,1,2,2,3,3,3,3,4,4,4,4,4,4,4,4,5,5,5,5,5,5,5,5,5,5,5,5,5,5,5,5,6,6,6,6,6,6,6,6,6,6,6,6,6,6,6,6,6,6,6,6,6,6,6,6,6,6,6,6,6,6,6,6,7,7,7,7,7,7,7,7,7,7,7,7,7,7,7,7,7,7,7,7,7,7,7,7,7,7,7,7,7,7,7,7,7,7,7,7,7,7,7,7,7,7,7,7,7,7,7,7,7,7,7,7,7,7,7,7,7,7,7,7,7,7,7,7,8,8,8,8,8,8,8,8,8,8,8,8,8,8,8,8,8,8,8,8,8,8,8,8,8,8,8,8,8,8,8,8,8,8,8,8,8,8,8,8,8,8,8,8,8,8,8,8,8,8,8,8,8,8,8,8,8,8,8,8,8,8,8,8,8,8,8,8,8,8,8,8,8,8,8,8,8,8,8,8,8,8,8,8,8,8,8,8,8,8,8,8,8,8,8,8,8,8,8,8,8,8,8,8,8,8,8,8,8,8,8,8,8,8,8,8,8,8,8,8,8,8,8,8,8,8,8,8]⟩))) (.tmp 15))),((some 17),.op (.conv .i64 (.tmp 16))),aK 18 .add 13 17,aa 2 18]⟩]) <|
  .ret,
  [.tmp 2],19⟩
theorem tq:aS Tryz.prog 207 []=some oS:=by kernel_rfl
def oU:DF:=⟨.seq (al [aD 2 0]) <|
  .seq (.seq (al [aa 3 0,((some 4),.op (.arith .geq (.tmp 3) (.val (.val (.int .u64 4294967296)))))]) <|
  .cond (.tmp 4) (.seq (al [aa 5 0,((some 6),.op (.sh false (.tmp 5) (.val (.val (.int .u64 32))))),aa 0 6]) <|
  al [aD 2 32]) (.skip)) <|
  .seq (.seq (al [aa 7 0,((some 8),.op (.arith .geq (.tmp 7) (.val (.val (.int .u64 65536)))))]) <|
  .cond (.tmp 8) (.seq (al [aa 9 0,((some 10),.op (.sh false (.tmp 9) (.val (.val (.int .u64 16))))),aa 0 10]) <|
  al [aa 11 2,ay 12 .add 11 16,aa 2 12]) (.skip)) <|
  .seq (.seq (al [aa 13 0,((some 14),.op (.arith .geq (.tmp 13) (.val (.val (.int .u64 256)))))]) <|
  .cond (.tmp 14) (.seq (al [aa 15 0,((some 16),.op (.sh false (.tmp 15) (.val (.val (.int .u64 8))))),aa 0 16]) <|
  al [aa 17 2,ay 18 .add 17 8,aa 2 18]) (.skip)) <|
  .seq (.region [] [⟨none,[aa 19 2,aa 20 0,((some 21),.op (.conv .u8 (.tmp 20))),((some 22),.op (.c8 (.val (.val (.string ⟨#[0,1,2,2,3,3,3,3,4,4,4,4,4,4,4,4,5,5,5,5,5,5,5,5,5,5,5,5,5,5,5,5,6,6,6,6,6,6,6,6,6,6,6,6,6,6,6,6,6,6,6,6,6,6,6,6,6,6,6,6,6,6,6,6,7,7,7,7,7,7,7,7,7,7,7,7,7,7,7,7,7,7,7,7,7,7,7,7,7,7,7,7,7,7,7,7,7,7,7,7,7,7,7,7,7,7,7,7,7,7,7,7,7,7,7,7,7,7,7,7,7,7,7,7,7,7,7,7,8,8,8,8,8,8,8,8,8,8,8,8,8,8,8,8,8,8,8,8,8,8,8,8,8,8,8,8,8,8,8,8,8,8,8,8,8,8,8,8,8,8,8,8,8,8,8,8,8,8,8,8,8,8,8,8,8,8,8,8,8,8,8,8,8,8,8,8,8,8,8,8,8,8,8,8,8,8,8,8,8,8,8,8,8,8,8,8,8,8,8,8,8,8,8,8,8,8,8,8,8,8,8,8,8,8,8,8,8,8,8,8,8,8,8,8,8,8,8,8,8,8,8,8,8,8,8,8]⟩))) (.tmp 21))),((some 23),.op (.conv .i64 (.tmp 22))),aK 24 .add 19 23,aa 2 24]⟩]) <|
  .ret,
  [.tmp 2],25⟩
theorem tK:aS Tryz.prog 208 []=some oU:=by kernel_rfl
def jO:DC :=
  .block 1 (.seq (al [aa 21 2,aa 22 1,aK 23 .sub 21 22,aa 12 23]) <|
  .seq (.seq (al [aa 24 12,ay 25 .leq 24 12]) <|
  .cond (.tmp 25) (.seq (al [aa 26 0,aa 27 1,aa 28 2,aa 29 4,aF 30 199 [26,27,28,29]]) <|
  .ret) (.skip)) <|
  .seq (.seq (al [aa 31 3,ay 32 .eql 31 0]) <|
  .cond (.tmp 32) (.seq (al [aa 33 0,aa 34 1,aa 35 2,aa 36 4,aF 37 200 [33,34,35,36]]) <|
  .ret) (.skip)) <|
  .seq (.seq (al [aa 38 10,bW 39 38]) <|
  .cond (.tmp 39) (.seq (al [aa 40 0,aa 41 1,aa 42 2,aa 43 4,aF 44 201 [40,41,42,43]]) <|
  al [aa 45 3,ay 46 .sub 45 1,aa 3 46]) (.skip)) <|
  .seq (al [aa 48 0,aa 49 1,aa 50 2,aa 51 4,aF 52 202 [48,49,50,51],aa 47 52,cM 53 0 47,cM 54 1 47,aa 13 53,aa 14 54]) <|
  .seq (.seq (al [aa 55 14,ay 56 .eql 55 2]) <|
  .cond (.tmp 56) (.seq (al [aa 57 0,aa 58 1,aa 59 2,aa 60 4,aF 61 203 [57,58,59,60]]) <|
  .seq (al [aa 62 2,ay 63 .sub 62 1,aa 64 13,aa 65 1,aK 66 .sub 64 65,aK 67 .sub 63 66,aa 13 67]) <|
  al [aD 14 1]) (.skip)) <|
  .seq (.seq (.region [] [⟨none,[aa 68 10,aa 69 68]⟩,⟨(some (69,true)),[aa 70 11]⟩,⟨none,[bG 71 69 70,aa 72 71]⟩,⟨(some (72,true)),[aa 73 14,ay 74 .eql 73 1]⟩,⟨none,[bG 75 72 74]⟩]) <|
  .cond (.tmp 75) (.seq (al [aa 76 0,aa 77 1,aa 78 2,aa 79 4,aF 80 204 [76,77,78,79]]) <|
  .cond (.tmp 80) (.ret) (.skip)) (.skip)) <|
  .seq (.seq (.region [] [⟨none,[aa 81 1,ay 82 .gtr 81 0,aa 83 82]⟩,⟨(some (83,true)),[aa 84 4,aa 85 0,aa 86 1,ay 87 .sub 86 1,aL 88 2 85 87,aJ 89 2 88,aa 90 0,aa 91 13,aL 92 2 90 91,aJ 93 2 92,((some 94),.call (.tmp 84) [(.tmp 89),(.tmp 93)]),ay 95 .lss 94 0,bW 96 95]⟩,⟨none,[bG 97 83 96]⟩]) <|
  .cond (.tmp 97) (.seq (al [aa 98 0,aa 99 1,aa 100 2,aa 101 13,aa 102 4,aF 103 205 [98,99,100,101,102],aa 15 103]) <|
  .seq (al [aa 104 15,aa 1 104]) <|
  .exit 1) (.skip)) <|
  .seq (al [aa 106 0,aa 107 1,aa 108 2,aa 109 13,aa 110 4,aF 111 206 [106,107,108,109,110],aa 105 111,cM 112 0 105,cM 113 1 105,aa 16 112,aa 17 113]) <|
  .seq (al [aa 114 17,aa 11 114]) <|
  .seq (al [aa 115 16,aa 116 1,aK 117 .sub 115 116,aa 118 2,aa 119 16,aK 120 .sub 118 119,aa 18 117,aa 19 120]) <|
  .seq (al [aa 121 12,ay 122 .quo 121 8,aa 20 122]) <|
  .seq (al [aa 123 18,aa 124 19,aK 125 .lss 123 124]) <|
  .cond (.tmp 125) (.seq (al [aa 126 18,aa 127 20,aK 128 .geq 126 127,aa 10 128]) <|
  .seq (al [aa 129 0,aa 130 1,aa 131 16,aa 132 3,aa 133 4,aF 134 166 [129,130,131,132,133]]) <|
  al [aa 135 16,ay 136 .add 135 1,aa 1 136]) (.seq (al [aa 137 19,aa 138 20,aK 139 .geq 137 138,aa 10 139]) <|
  .seq (al [aa 140 0,aa 141 16,ay 142 .add 141 1,aa 143 2,aa 144 3,aa 145 4,aF 146 166 [140,142,143,144,145]]) <|
  al [aa 147 16,aa 2 147]))
def fY:DF:=⟨.seq (al [aQ 10 true]) <|
  .seq (al [aQ 11 true]) <|
  .block 0 (.loop jO),
  [],148⟩
theorem jh:aS Tryz.prog 166 []=some fY:=by kernel_rfl
def hZ:DC :=
  .seq (.seq (.region [] [⟨none,[aa 18 9,aa 19 1,aK 20 .gtr 18 19,aa 21 20]⟩,⟨(some (21,true)),[aa 22 3,aa 23 0,aa 24 9,aL 25 2 23 24,aJ 26 2 25,aa 27 0,aa 28 9,ay 29 .sub 28 1,aL 30 2 27 29,aJ 31 2 30,((some 32),.call (.tmp 22) [(.tmp 26),(.tmp 31)]),ay 33 .lss 32 0]⟩,⟨none,[bG 34 21 33]⟩]) <|
  .cond (.tmp 34) (.skip) (.exit 2)) <|
  .seq (.block 3 (al [aa 37 0,aa 38 9,aa 39 0,aa 40 9,ay 41 .sub 40 1,aa 42 0,aa 43 9,ay 44 .sub 43 1,aL 45 2 42 44,aJ 46 2 45,aa 47 0,aa 48 9,aL 49 2 47 48,aJ 50 2 49,aL 51 2 37 38,(none,.op (.store 2 (.tmp 51) (.tmp 46))),aL 52 2 39 41,(none,.op (.store 2 (.tmp 52) (.tmp 50)))])) <|
  al [aa 35 9,ay 36 .sub 35 1,aa 9 36]
def ib:DC :=
  .seq (.seq (al [aa 12 8,aa 13 2,aK 14 .lss 12 13]) <|
  .cond (.tmp 14) (.skip) (.exit 0)) <|
  .seq (.block 1 (.seq (al [aa 17 8,aa 9 17]) <|
  .block 2 (.loop hZ))) <|
  al [aa 15 8,ay 16 .add 15 1,aa 8 16]
def eK:DF:=⟨.seq (al [aa 10 1,ay 11 .add 10 1,aa 8 11]) <|
  .block 0 (.loop ib),
  [],53⟩
theorem hQ:aS Tryz.prog 199 []=some eK:=by kernel_rfl
def vq:DF:=⟨.seq (al [cr 2 0,cr 3 1,aD 4 0]) <|
  .seq (.region [(4,6),(4,8)] [⟨none,[aq 5 0 2,ao 6 5,aq 7 0 3,ao 8 7,aF 9 126 [6,8],aq 10 1 2,ao 11 10,aq 12 1 3,ao 13 12,aF 14 126 [11,13],((some 15),.op (.bD 2 1 [(.val (.int .i64 0))] [(0,(.tmp 9)),(1,(.tmp 14))])),aF 16 168 [15],aa 4 16]⟩]) <|
  .ret,
  [.tmp 4],17⟩
theorem zO:aS Tryz.prog 113 [2,3]=some vq:=by kernel_rfl
def nS:DF:=⟨.seq (al [aD 4 0]) <|
  .seq (al [aa 7 0,aF 8 173 [7],aa 5 8]) <|
  .seq (al [aa 9 1,aF 10 173 [9],aa 6 10]) <|
  .seq (.seq (al [aa 11 5]) <|
  .cond (.tmp 11) (.seq (.seq (al [aa 12 6]) <|
  .cond (.tmp 12) (.seq (al [aD 4 0]) <|
  .ret) (.skip)) <|
  .seq (al [aD 4 (-1)]) <|
  .ret) (.skip)) <|
  .seq (.seq (al [aa 13 6]) <|
  .cond (.tmp 13) (.seq (al [aD 4 1]) <|
  .ret) (.skip)) <|
  .seq (.seq (al [aa 14 0,aa 15 1,aK 16 .lss 14 15]) <|
  .cond (.tmp 16) (.seq (al [aD 4 (-1)]) <|
  .ret) (.skip)) <|
  .seq (.seq (al [aa 17 0,aa 18 1,aK 19 .gtr 17 18]) <|
  .cond (.tmp 19) (.seq (al [aD 4 1]) <|
  .ret) (.skip)) <|
  .seq (al [aD 4 0]) <|
  .ret,
  [.tmp 4],20⟩
theorem sj:aS Tryz.prog 126 []=some nS:=by kernel_rfl
def pV:DF:=⟨.seq (al [aQ 2 false]) <|
  .seq (al [aa 3 0,aa 4 0,aK 5 .neq 3 4,aa 2 5]) <|
  .ret,
  [.tmp 2],6⟩
theorem uS:aS Tryz.prog 173 []=some pV:=by kernel_rfl
def zi:DC :=
  .seq (al [aK 9 .lss 8 7]) <|
  .seq (.cond (.tmp 9) (.skip) (.exit 0)) <|
  .seq (.block 1 (.seq (al [aL 10 1 6 8,ao 11 10,aa 5 11]) <|
  .seq (al [aa 12 5,aa 13 3,aK 14 .neq 12 13]) <|
  .cond (.tmp 14) (.seq (al [aa 15 5,aa 2 15]) <|
  .ret) (.skip))) <|
  al [ay 16 .add 8 1,aa 8 16]
def uJ:DF:=⟨.seq (al [aD 2 0]) <|
  .seq (al [aD 3 0]) <|
  .seq (.seq (al [aa 6 0,aI 7 6,aD 8 0]) <|
  .block 0 (.loop zi)) <|
  .seq (al [aa 17 3,aa 2 17]) <|
  .ret,
  [.tmp 2],18⟩
theorem yk:aS Tryz.prog 168 []=some uJ:=by kernel_rfl
def iB:DC :=
  .seq (.seq (al [aa 29 5,aa 30 4,aI 31 30,aK 32 .lss 29 31]) <|
  .cond (.tmp 32) (.skip) (.exit 2)) <|
  .seq (.block 3 (.seq (al [aa 35 4,aa 36 5,aL 37 2 35 36,aJ 38 2 37,aa 39 4,aa 40 5,ay 41 .sub 40 1,aL 42 2 39 41,aJ 43 2 42,((some 44),.op (.old (.binOp .neq 33 (.tmp 38) (.tmp 43) 33) 4))]) <|
  .cond (.tmp 44) (.seq (al [aa 45 0,aa 46 3,aa 47 4,aa 48 5,aL 49 2 47 48,aJ 50 2 49,aL 51 2 45 46,(none,.op (.store 2 (.tmp 51) (.tmp 50)))]) <|
  al [aa 52 3,ay 53 .add 52 1,aa 3 53]) (.skip))) <|
  al [aa 33 5,ay 34 .add 33 1,aa 5 34]
def iA:DC :=
  .seq (.seq (al [aa 10 3,aa 11 0,aI 12 11,aK 13 .lss 10 12]) <|
  .cond (.tmp 13) (.skip) (.exit 0)) <|
  .seq (.block 1 (.seq (al [aa 16 0,aa 17 3,aL 18 2 16 17,aJ 19 2 18,aa 20 0,aa 21 3,ay 22 .sub 21 1,aL 23 2 20 22,aJ 24 2 23,((some 25),.op (.old (.binOp .eql 33 (.tmp 19) (.tmp 24) 33) 4))]) <|
  .cond (.tmp 25) (.seq (al [aa 26 0,aa 27 3,((some 28),.op (.slice 2 (.tmp 26) (some (.tmp 27)) none)),aa 4 28]) <|
  .seq (.seq (al [aD 5 1]) <|
  .block 2 (.loop iB)) <|
  .seq (al [aa 54 0,aa 55 3,((some 56),.op (.slice 2 (.tmp 54) (some (.tmp 55)) none)),(none,.op (.old (.call { callee:=.builtin .clear,args:=#[(.tmp 56)],argTypes:=#[27] }) 0))]) <|
  .seq (al [aa 57 0,aa 58 3,((some 59),.op (.slice 2 (.tmp 57) none (some (.tmp 58)))),aa 2 59]) <|
  .ret) (.skip))) <|
  al [aa 14 3,ay 15 .add 14 1,aa 3 15]
def fh:DF:=⟨.seq (al [((some 2),.op (.bg (.val (.emp 1))))]) <|
  .seq (.seq (al [aa 6 0,aI 7 6,ay 8 .lss 7 2]) <|
  .cond (.tmp 8) (.seq (al [aa 9 0,aa 2 9]) <|
  .ret) (.skip)) <|
  .seq (.seq (al [aD 3 1]) <|
  .block 0 (.loop iA)) <|
  .seq (al [aa 60 0,aa 2 60]) <|
  .ret,
  [.tmp 2],61⟩
theorem iu:aS Tryz.prog 114 []=some fh:=by kernel_rfl
def DB:DC :=
  .seq (al [aK 9 .lss 8 7]) <|
  .seq (.cond (.tmp 9) (.skip) (.exit 0)) <|
  .seq (.block 1 (.seq (al [aL 10 2 6 8,aJ 11 2 10,((some 5),.op (.alloc [(.val (.int .i64 0)),(.val (.int .i64 0))])),(none,.op (.store 2 (.tmp 5) (.tmp 11)))]) <|
  al [aa 12 3,aq 13 0 5,ao 14 13,ay 15 .add 14 1,((some 16),.op (.conv .u8 (.tmp 15))),aq 17 1 5,ao 18 17,((some 19),.op (.conv .u8 (.tmp 18))),((some 20),.op (.bD 2 1 [(.val (.int .u8 0))] [(0,(.tmp 16)),(1,(.tmp 19))])),((some 21),.op (.app 1 1 (.tmp 12) (.tmp 20))),aa 3 21])) <|
  al [ay 22 .add 8 1,aa 8 22]
def zt:DF:=⟨.seq (.region [] [⟨none,[((some 2),.op (.bg (.val (.val (.string ⟨#[]⟩)))))]⟩]) <|
  .seq (al [((some 3),.op (.bg (.val (.emp 1))))]) <|
  .seq (.seq (al [aa 6 0,aI 7 6,aD 8 0]) <|
  .block 0 (.loop DB)) <|
  .seq (al [aa 23 3,((some 24),.op (.old (.convert 91 9 (.tmp 23)) 9)),aa 2 24]) <|
  .ret,
  [.tmp 2],25⟩
theorem CF:aS Tryz.prog 62 []=some zt:=by kernel_rfl
def x7:DC :=
  .seq (al [aK 54 .lss 53 52]) <|
  .seq (.cond (.tmp 54) (.skip) (.exit 2)) <|
  .seq (.block 3 (.seq (al [aa 55 53,aL 56 3 51 53,aJ 57 3 56,((some 11),.op (.alloc [(.val (.int .i64 0)),(.emp 1),(.val (.int .i64 0))])),aa 10 55,(none,.op (.store 3 (.tmp 11) (.tmp 57)))]) <|
  .seq (al [aq 58 0 11,ao 59 58,aa 60 8,((some 61),.op (.arith .sub (.val (.val (.int .i64 (-1)))) (.tmp 60))),aK 62 .eql 59 61]) <|
  .cond (.tmp 62) (al [aa 63 5,aa 64 10,((some 65),.op (.build [(.val (.int .i64 0)),(.val (.int .i64 0))] [(0,1,(.tmp 64))])),((some 66),.op (.bD 1 2 [(.val (.int .i64 0)),(.val (.int .i64 0))] [(0,(.tmp 65))])),((some 67),.op (.app 2 16 (.tmp 63) (.tmp 66))),aa 5 67]) (.skip))) <|
  al [ay 68 .add 53 1,aa 53 68]
def yC:DC :=
  .seq (.seq (al [aa 18 7,aa 19 5,aI 20 19,aK 21 .lss 18 20]) <|
  .cond (.tmp 21) (.skip) (.exit 0)) <|
  .seq (.block 1 (.seq (al [aJ 25 4 2,aa 26 5,aa 27 7,aL 28 2 26 27,aJ 29 2 28,aF 30 50 [25,29],aa 24 30,cM 31 0 24,cM 32 1 24,aa 8 31,aa 9 32]) <|
  .seq (.seq (.region [] [⟨none,[aa 33 9,bW 34 33,aa 35 34]⟩,⟨(some (35,false)),[aa 36 8,ay 37 .geq 36 0]⟩,⟨none,[bF 38 35 37,aa 39 38]⟩,⟨(some (39,false)),[aa 40 6,aa 41 8,((some 42),.op (.arith .sub (.val (.val (.int .i64 (-1)))) (.tmp 41))),aL 43 1 40 42,ao 44 43]⟩,⟨none,[bF 45 39 44]⟩]) <|
  .cond (.tmp 45) (.exit 1) (.skip)) <|
  .seq (al [aa 46 6,aa 47 8,((some 48),.op (.arith .sub (.val (.val (.int .i64 (-1)))) (.tmp 47))),aL 49 1 46 48,(none,.op (.store 1 (.tmp 49) (.val (.val (.bool true)))))]) <|
  .seq (al [aq 50 2 2,ao 51 50,aI 52 51,aD 53 0]) <|
  .block 2 (.loop x7))) <|
  al [aa 22 7,ay 23 .add 22 1,aa 7 23]
def sM:DF:=⟨.seq (al [cr 2 0,((some 4),.op (.bg (.val (.emp 1))))]) <|
  .seq (al [aa 12 1,aF 13 58 [12],aa 5 13]) <|
  .seq (al [aq 14 1 2,ao 15 14,aI 16 15,((some 17),.op (.make 1 1 [(.val (.bool false))] (.tmp 16) (.tmp 16))),aa 6 17]) <|
  .seq (.seq (al [aD 7 0]) <|
  .block 0 (.loop yC)) <|
  .seq (al [aa 69 5,aF 70 64 [69],aa 4 70]) <|
  .ret,
  [.tmp 4],71⟩
theorem xk:aS Tryz.prog 56 [2]=some sM:=by kernel_rfl
def xu:DF:=⟨.seq (al [cr 2 0,cr 3 1,aD 4 0,aQ 5 false]) <|
  .seq (.seq (al [aJ 7 4 2,aq 8 0 3,ao 9 8,aF 10 53 [7,9],aa 6 10]) <|
  .seq (al [aq 11 1 3,ao 12 11,aa 13 6,aI 14 13,aK 15 .lss 12 14]) <|
  .cond (.tmp 15) (.seq (al [aa 16 6,aq 17 1 3,ao 18 17,aL 19 1 16 18,ao 20 19,aa 4 20,aQ 5 true]) <|
  .ret) (.skip)) <|
  .seq (al [aD 4 0,aQ 5 false]) <|
  .ret,
  [.tmp 4,.tmp 5],21⟩
theorem Bd:aS Tryz.prog 50 [2,3]=some xu:=by kernel_rfl
def vF:DF:=⟨.seq (al [cr 2 0,((some 4),.op (.bg (.val (.emp 1))))]) <|
  .seq (.seq (al [aa 5 1,ay 6 .eql 5 (-1)]) <|
  .cond (.tmp 6) (.seq (al [aq 7 3 2,ao 8 7,((some 9),.op (.arith .sub (.val (.val (.int .i64 (-1)))) (.tmp 8))),((some 10),.op (.bD 1 1 [(.val (.int .i64 0))] [(0,(.tmp 9))])),aa 4 10]) <|
  .ret) (.skip)) <|
  .seq (al [aq 11 2 2,ao 12 11,aa 13 1,aL 14 3 12 13,aq 15 1 14,ao 16 15,aa 4 16]) <|
  .ret,
  [.tmp 4],17⟩
theorem zy:aS Tryz.prog 53 [2]=some vF:=by kernel_rfl
def fB:DF:=⟨.seq (al [((some 2),.op (.bg (.val (.emp 1))))]) <|
  .seq (.seq (al [aa 3 0,((some 4),.op (.nil true 0 (.tmp 3) (.val (.emp 1))))]) <|
  .cond (.tmp 4) (.seq (al [((some 2),.op (.bg (.val (.emp 1))))]) <|
  .ret) (.skip)) <|
  .seq (al [((some 5),.op (.bg (.val (.emp 2)))),aa 6 0,((some 7),.op (.app 2 16 (.tmp 5) (.tmp 6))),aa 2 7]) <|
  .ret,
  [.tmp 2],8⟩
theorem iO:aS Tryz.prog 58 []=some fB:=by kernel_rfl
def A8:DC :=
  .seq (al [aK 15 .lss 14 13]) <|
  .seq (.cond (.tmp 15) (.skip) (.exit 0)) <|
  .seq (.block 1 (.seq (al [aL 16 2 12 14,aJ 17 2 16,((some 7),.op (.alloc [(.val (.int .i64 0)),(.val (.int .i64 0))])),(none,.op (.store 2 (.tmp 7) (.tmp 17)))]) <|
  .seq (al [aJ 19 4 2,aJ 20 2 7,aF 21 50 [19,20],aa 18 21,cM 22 0 18,cM 23 1 18,aa 8 22,aa 9 23]) <|
  .seq (al [aa 24 9]) <|
  .cond (.tmp 24) (.seq (al [aJ 25 4 2,aa 26 8,aF 27 111 [25,26],aa 10 27]) <|
  al [aa 28 5,aa 29 10,aa 30 5,aa 31 10,((some 32),.op (.old (.lookup 98 (.tmp 30) (.tmp 31) false) 27)),aq 33 0 7,ao 34 33,aq 35 1 7,ao 36 35,ay 37 .add 36 1,((some 38),.op (.build [(.val (.int .i64 0)),(.val (.int .i64 0))] [(0,1,(.tmp 34)),(1,1,(.tmp 37))])),((some 39),.op (.bD 1 2 [(.val (.int .i64 0)),(.val (.int .i64 0))] [(0,(.tmp 38))])),((some 40),.op (.app 2 16 (.tmp 32) (.tmp 39))),(none,.op (.old (.mapUpdate 98 (.tmp 28) (.tmp 29) (.tmp 40)) 0))]) (.skip))) <|
  al [ay 41 .add 14 1,aa 14 41]
def vH:DF:=⟨.seq (al [cr 2 0,((some 4),.op (.bg (.val (.val (.map none)))))]) <|
  .seq (al [((some 11),.op (.lS)),aa 5 11]) <|
  .seq (.seq (al [aa 12 1,aI 13 12,aD 14 0]) <|
  .block 0 (.loop A8)) <|
  .seq (al [aa 42 5,aa 4 42]) <|
  .ret,
  [.tmp 4],43⟩
theorem ze:aS Tryz.prog 63 [2]=some vH:=by kernel_rfl
def xS:DF:=⟨.seq (al [cr 2 0,aD 4 0]) <|
  .seq (.seq (al [aa 5 1,ay 6 .lss 5 0]) <|
  .cond (.tmp 6) (.seq (al [aq 7 0 2,ao 8 7,aI 9 8,ay 10 .sub 9 1,aa 11 1,aK 12 .sub 10 11,aa 4 12]) <|
  .ret) (.skip)) <|
  .seq (al [aa 13 1,aa 4 13]) <|
  .ret,
  [.tmp 4],14⟩
theorem AW:aS Tryz.prog 111 [2]=some xS:=by kernel_rfl
def r6:DF:=⟨.seq (al [cr 2 0,((some 4),.op (.bg (.val (.emp 1))))]) <|
  .seq (.region [(0,2),(0,4)] [⟨none,[aJ 5 4 2,aa 6 1,aF 7 58 [6],((some 8),.op (.rO 59 [] [(.tmp 2)])),aF 9 57 [7,8],aF 10 56 [5,9],aa 4 10]⟩]) <|
  .ret,
  [.tmp 4],11⟩
theorem xj:aS Tryz.prog 22 [2,100001]=some r6:=by kernel_rfl
def qm:DF:=⟨.seq (al [cr 2 0,aQ 3 false]) <|
  .seq (al [aJ 4 4 1,aJ 5 2 2,aF 6 19 [4,5],bW 7 6,aa 3 7]) <|
  .ret,
  [.tmp 3],8⟩
theorem uR:aS Tryz.prog 59 [2]=some qm:=by kernel_rfl
def zu:DF:=⟨.seq (al [cr 2 0,cr 3 1,aQ 4 false]) <|
  .seq (.seq (.region [] [⟨none,[aJ 5 4 2,aF 6 52 [5],bW 7 6,aa 8 7]⟩,⟨(some (8,false)),[aq 9 0 3,ao 10 9,ay 11 .lss 10 (-1)]⟩,⟨none,[bF 12 8 11,aa 13 12]⟩,⟨(some (13,false)),[aq 14 0 3,ao 15 14,aq 16 2 2,ao 17 16,aI 18 17,aK 19 .geq 15 18]⟩,⟨none,[bF 20 13 19]⟩]) <|
  .cond (.tmp 20) (.seq (al [aQ 4 false]) <|
  .ret) (.skip)) <|
  .seq (.region [(5,9)] [⟨none,[aq 21 1 3,ao 22 21,ay 23 .geq 22 0,aa 24 23]⟩,⟨(some (24,true)),[aq 25 1 3,ao 26 25,aJ 27 4 2,aq 28 0 3,ao 29 28,aF 30 53 [27,29],aI 31 30,aK 32 .leq 26 31]⟩,⟨none,[bG 33 24 32,aa 4 33]⟩]) <|
  .ret,
  [.tmp 4],34⟩
theorem CI:aS Tryz.prog 19 [2,3]=some zu:=by kernel_rfl
def gY:DC :=
  .seq (.seq (al [aa 16 6,aa 17 0,aI 18 17,aK 19 .lss 16 18]) <|
  .cond (.tmp 19) (.skip) (.exit 0)) <|
  .seq (.block 1 (.seq (al [aa 22 0,aa 23 6,aL 24 2 22 23,aJ 25 2 24,((some 7),.op (.alloc [(.val (.int .i64 0)),(.val (.int .i64 0))])),(none,.op (.store 2 (.tmp 7) (.tmp 25)))]) <|
  .seq (al [aa 26 1,aJ 27 2 7,((some 28),.call (.tmp 26) [(.tmp 27)]),bW 29 28]) <|
  .cond (.tmp 29) (.seq (al [aa 30 0,aa 31 5,aJ 32 2 7,aL 33 2 30 31,(none,.op (.store 2 (.tmp 33) (.tmp 32)))]) <|
  al [aa 34 5,ay 35 .add 34 1,aa 5 35]) (.skip))) <|
  al [aa 20 6,ay 21 .add 20 1,aa 6 21]
def ew:DF:=⟨.seq (al [((some 4),.op (.bg (.val (.emp 1))))]) <|
  .seq (al [aa 8 0,aa 9 1,aF 10 107 [8,9],aa 5 10]) <|
  .seq (.seq (al [aa 11 5,ay 12 .eql 11 (-1)]) <|
  .cond (.tmp 12) (.seq (al [aa 13 0,aa 4 13]) <|
  .ret) (.skip)) <|
  .seq (.seq (al [aa 14 5,ay 15 .add 14 1,aa 6 15]) <|
  .block 0 (.loop gY)) <|
  .seq (al [aa 36 0,aa 37 5,((some 38),.op (.slice 2 (.tmp 36) (some (.tmp 37)) none)),(none,.op (.old (.call { callee:=.builtin .clear,args:=#[(.tmp 38)],argTypes:=#[27] }) 0))]) <|
  .seq (al [aa 39 0,aa 40 5,((some 41),.op (.slice 2 (.tmp 39) none (some (.tmp 40)))),aa 4 41]) <|
  .ret,
  [.tmp 4],42⟩
theorem gO:aS Tryz.prog 57 []=some ew:=by kernel_rfl
def hU:DC :=
  .seq (al [aK 9 .lss 8 7]) <|
  .seq (.cond (.tmp 9) (.skip) (.exit 0)) <|
  .seq (.block 1 (.seq (al [aa 10 8,aa 5 10]) <|
  .seq (al [aa 11 1,aa 12 0,aa 13 5,aL 14 2 12 13,aJ 15 2 14,((some 16),.call (.tmp 11) [(.tmp 15)])]) <|
  .cond (.tmp 16) (.seq (al [aa 17 5,aa 4 17]) <|
  .ret) (.skip))) <|
  al [ay 18 .add 8 1,aa 8 18]
def eE:DF:=⟨.seq (al [aD 4 0]) <|
  .seq (.seq (al [aa 6 0,aI 7 6,aD 8 0]) <|
  .block 0 (.loop hU)) <|
  .seq (al [aD 4 (-1)]) <|
  .ret,
  [.tmp 4],19⟩
theorem gZ:aS Tryz.prog 107 []=some eE:=by kernel_rfl
def Cw:DC :=
  .seq (al [aK 24 .lss 23 22]) <|
  .seq (.cond (.tmp 24) (.skip) (.exit 0)) <|
  .seq (.block 1 (.seq (al [aL 25 1 21 23,ao 26 25,((some 10),.op (.alloc [(.val (.int .i64 0))])),(none,.op (.store 1 (.tmp 10) (.tmp 26)))]) <|
  .seq (al [aa 27 0,aa 28 8,aL 29 2 27 28,aq 30 1 29,ao 31 30,((some 32),.op (.rO 69 [] [(.tmp 10)])),aF 33 68 [31,32],aa 11 33]) <|
  .seq (.seq (al [aa 34 11,ay 35 .lss 34 0]) <|
  .cond (.tmp 35) (.seq (al [aD 6 0,aQ 7 false]) <|
  .ret) (.skip)) <|
  .seq (al [aa 36 0,aa 37 8,aL 38 2 36 37,aq 39 1 38,ao 40 39,aa 41 11,aL 42 2 40 41,aq 43 1 42,ao 44 43,aa 8 44]) <|
  .seq (.region [] [⟨none,[aa 45 8,ay 46 .lss 45 0,aa 47 46]⟩,⟨(some (47,false)),[aa 48 8,aa 49 0,aI 50 49,aK 51 .geq 48 50]⟩,⟨none,[bF 52 47 51]⟩]) <|
  .cond (.tmp 52) (.seq (al [aD 6 0,aQ 7 false]) <|
  .ret) (.skip))) <|
  al [ay 53 .add 23 1,aa 23 53]
def xx:DF:=⟨.seq (al [aD 6 0,aQ 7 false]) <|
  .seq (al [aa 12 1,aa 8 12]) <|
  .seq (.seq (.region [] [⟨none,[aa 13 8,ay 14 .lss 13 0,aa 15 14]⟩,⟨(some (15,false)),[aa 16 8,aa 17 0,aI 18 17,aK 19 .geq 16 18]⟩,⟨none,[bF 20 15 19]⟩]) <|
  .cond (.tmp 20) (.seq (al [aD 6 0,aQ 7 false]) <|
  .ret) (.skip)) <|
  .seq (.seq (al [aa 21 2,aI 22 21,aD 23 0]) <|
  .block 0 (.loop Cw)) <|
  .seq (al [aa 54 8,aa 6 54,aQ 7 true]) <|
  .ret,
  [.tmp 6,.tmp 7],55⟩
theorem Bl:aS Tryz.prog 28 []=some xx:=by kernel_rfl
def uD:DF:=⟨.seq (al [cr 2 0,aQ 3 false]) <|
  .seq (al [aq 4 0 2,ao 5 4,ao 6 1,aK 7 .eql 5 6,aa 3 7]) <|
  .ret,
  [.tmp 3],8⟩
theorem yH:aS Tryz.prog 69 [2]=some uD:=by kernel_rfl
def ie:DC :=
  .seq (al [aK 9 .lss 8 7]) <|
  .seq (.cond (.tmp 9) (.skip) (.exit 0)) <|
  .seq (.block 1 (.seq (al [aa 10 8,aa 5 10]) <|
  .seq (al [aa 11 1,aa 12 0,aa 13 5,aL 14 2 12 13,aJ 15 2 14,((some 16),.call (.tmp 11) [(.tmp 15)])]) <|
  .cond (.tmp 16) (.seq (al [aa 17 5,aa 4 17]) <|
  .ret) (.skip))) <|
  al [ay 18 .add 8 1,aa 8 18]
def eF:DF:=⟨.seq (al [aD 4 0]) <|
  .seq (.seq (al [aa 6 0,aI 7 6,aD 8 0]) <|
  .block 0 (.loop ie)) <|
  .seq (al [aD 4 (-1)]) <|
  .ret,
  [.tmp 4],19⟩
theorem hD:aS Tryz.prog 68 []=some eF:=by kernel_rfl
def xw:DF:=⟨.seq (al [cr 2 0,cr 3 1,aD 4 0,aQ 5 false]) <|
  .seq (.seq (al [aJ 6 4 2,aJ 7 2 3,aF 8 19 [6,7],bW 9 8]) <|
  .cond (.tmp 9) (.seq (al [aD 4 0,aQ 5 false]) <|
  .ret) (.skip)) <|
  .seq (al [aJ 10 4 2,aJ 11 2 3,aF 12 50 [10,11],cM 13 0 12,cM 14 1 12,aa 4 13,aa 5 14]) <|
  .ret,
  [.tmp 4,.tmp 5],15⟩
theorem AR:aS Tryz.prog 17 [2,3]=some xw:=by kernel_rfl
def Ge:List (FuncId × DF):=[(15,mH),(24,vx),(64,xn),(112,eR),(167,qU),(207,oS),(208,oU),(166,fY),(199,eK),(113,vq),(126,nS),(173,pV),(168,uJ),(114,fh),(62,zt),(56,sM),(50,xu),(53,vF),(58,fB),(63,vH),(111,xS),(22,r6),(59,qm),(19,zu),(57,ew),(107,eE),(28,xx),(69,uD),(68,eF),(17,xw)]
theorem Hu:tM Tryz.prog Ge:=by
  intro p hp
  simp only[Ge,List.mem_cons,List.not_mem_nil,or_false] at hp
  rcases hp with rfl | rfl | rfl | rfl | rfl | rfl | rfl | rfl | rfl | rfl | rfl | rfl | rfl | rfl | rfl | rfl | rfl | rfl | rfl | rfl | rfl | rfl | rfl | rfl | rfl | rfl | rfl | rfl | rfl | rfl
  · exact ⟨_,rr⟩
  · exact ⟨_,zQ⟩
  · exact ⟨_,AU⟩
  · exact ⟨_,ic⟩
  · exact ⟨_,wc⟩
  · exact ⟨_,tq⟩
  · exact ⟨_,tK⟩
  · exact ⟨_,jh⟩
  · exact ⟨_,hQ⟩
  · exact ⟨_,zO⟩
  · exact ⟨_,sj⟩
  · exact ⟨_,uS⟩
  · exact ⟨_,yk⟩
  · exact ⟨_,iu⟩
  · exact ⟨_,CF⟩
  · exact ⟨_,xk⟩
  · exact ⟨_,Bd⟩
  · exact ⟨_,zy⟩
  · exact ⟨_,iO⟩
  · exact ⟨_,ze⟩
  · exact ⟨_,AW⟩
  · exact ⟨_,xj⟩
  · exact ⟨_,uR⟩
  · exact ⟨_,CI⟩
  · exact ⟨_,gO⟩
  · exact ⟨_,gZ⟩
  · exact ⟨_,Bl⟩
  · exact ⟨_,yH⟩
  · exact ⟨_,hD⟩
  · exact ⟨_,AR⟩
def Mo:List A7:=[(49,[E5 ME],xc nr,false),(61,[.agg (aw nr)],gb true,false),(61,[.agg (aw qC)],gb false,false),(52,[.agg (aw nr)],gb true,false)]
theorem K0:∀ x∈Mo,x.Ok Tryz.prog:=by
  intro x hx
  simp only[Mo,List.mem_cons,List.not_mem_nil,or_false] at hx
  rcases hx with rfl | rfl | rfl | rfl
  · exact ⟨by kernel_rfl,by simp only[Bool.false_eq_true,if_false]; exact .inl OC⟩
  · exact ⟨by kernel_rfl,by simp only[Bool.false_eq_true,if_false]; exact .inr ⟨(show isRed nr=true by kernel_rfl) ▸ Fa nr qO.1 qO.2,.val _⟩⟩
  · exact ⟨by kernel_rfl,by simp only[Bool.false_eq_true,if_false]; exact .inr ⟨(show isRed qC=false by kernel_rfl) ▸ Fa qC NQ ⟨by decide⟩,.val _⟩⟩
  · exact ⟨by kernel_rfl,by simp only[Bool.false_eq_true,if_false]; exact .inr ⟨(show bH nr=true by kernel_rfl) ▸ q6 nr qO.1 qO.2.names,.val _⟩⟩
theorem HP:aC Tryz.prog 15 [] (gb true) :=
  (tC mixed Hu (K5 K0) (by simp) (by kernel_rfl)).pure
def k5:SC :=
  .seq (.seq (ak [aa 7 3,aa 8 0,aI 9 8,aK 10 .lss 7 9]) <|
  .cond (.tmp 10) (.skip) (.exit 0)) <|
  .seq (.block 1 (.seq (.region false [⟨none,[aa 13 0,aa 14 3,aL 15 2 13 14,aq 16 0 15,ao 17 16,aI 18 17,ay 19 .gtr 18 300,aa 20 19]⟩,⟨(some (20,false)),[aa 21 0,aa 22 3,aL 23 2 21 22,aq 24 1 23,ao 25 24,aI 26 25,ay 27 .gtr 26 100]⟩,⟨none,[bF 28 20 27]⟩]) <|
  .cond (.tmp 28) (.seq (ak [aQ 2 true]) <|
  .ret) (.skip))) <|
  ak [aa 11 3,ay 12 .add 11 1,aa 3 12]
def mA:SF:=⟨.seq (ak [aQ 2 false]) <|
  .seq (.seq (ak [aa 4 0,aI 5 4,ay 6 .gtr 5 310]) <|
  .cond (.tmp 6) (.seq (ak [aQ 2 true]) <|
  .ret) (.skip)) <|
  .seq (.seq (ak [aD 3 0]) <|
  .block 0 (.loop k5)) <|
  .seq (ak [aQ 2 false]) <|
  .ret,
  [.tmp 2],29⟩
theorem rC:bh Tryz.prog 27 []=some mA:=by kernel_rfl
theorem Hj (a:List bo) (ha:aX a) (hs:∀ s∈a,aX s.bq∧aX s.bO):∃ b:Bool,aC Tryz.prog 27 [dE a] (gb b)∧(b=false→a.length≤310∧∀ s∈a,s.bq.length≤300∧s.bO.length≤100)∧(b=true→¬ (a.length≤310∧∀ s∈a,s.bq.length≤300∧s.bO.length≤100)):=by
  refine ⟨!decide (a.length≤310∧∀ s∈a,s.bq.length≤300∧s.bO.length≤100),?_,fun h=>by simpa only [Bool.not_eq_false',decide_eq_true_eq] using h,fun h=>by simpa only [Bool.not_eq_true',decide_eq_false_iff_not] using h⟩
  unfold aX at ha
  refine aC.val (by intro v hv; simp at hv; subst hv; exact Ff _) fun H=>?_
  refine aA.of mixed rC ?_
  simp (disch:=omega) only [↓wr,↓reduceIte,wq,ah,ag,aj,ab,ae,af,ai,isNil,Nat.reduceEqDiff,Nat.reduceAdd,Nat.reduceLT,Nat.reduceLeDiff,Int.reduceNeg,Int.reduceToNat,reduceCtorEq,mA,dE]
  refine av.dec (fun h1=>?_) (fun h1=>?_)
  · simp (disch:=omega) only [↓wr,↓reduceIte,wq,ah,ag,aj,ab,ae,af,ai,isNil,Nat.reduceEqDiff,Nat.reduceAdd,Nat.reduceLT,Nat.reduceLeDiff,Int.reduceNeg,Int.reduceToNat,reduceCtorEq]
    rw[decide_eq_false (fun h=>by have:=h.1; omega)]; rfl
  simp (disch:=omega) only [↓wr,↓reduceIte,wq,ah,ag,aj,ab,ae,af,ai,isNil,Nat.reduceEqDiff,Nat.reduceAdd,Nat.reduceLT,Nat.reduceLeDiff,Int.reduceNeg,Int.reduceToNat,reduceCtorEq]
  refine bw.up a.length (fun i T H'=>(∀ s∈a.take i,s.bq.length≤300∧s.bO.length≤100)∧T 0=dE a∧T 3=gi i) ⟨by simp,rfl,rfl⟩ ?_
  rintro i k T H' hk ⟨hall,t0,t3⟩
  simp (disch:=omega) only [↓wr,↓reduceIte,wq,ah,ag,aj,ab,ae,af,ai,isNil,Nat.reduceEqDiff,Nat.reduceAdd,Nat.reduceLT,Nat.reduceLeDiff,Int.reduceNeg,Int.reduceToNat,reduceCtorEq,k5,t0,t3,dE]
  refine av.dec (fun hc=>?_) (fun hc=>?_)
  · have hx:a[i]?=some (a[i]'(by omega)):=List.getElem?_eq_getElem (by omega)
    have hm:=List.getElem_mem (show i < a.length by omega)
    have htk:a.take (i+1)=a.take i ++ [a[i]'(by omega)]:=by rw[List.take_add_one,hx]; rfl
    generalize a[i]'(by omega)=x at hx hm htk
    obtain ⟨k1,k2⟩:=hs x hm
    unfold aX at k1 k2
    simp (disch:=omega) only [↓wr,↓reduceIte,wq,ah,ag,aj,ab,ae,af,ai,isNil,Nat.reduceEqDiff,Nat.reduceAdd,Nat.reduceLT,Nat.reduceLeDiff,Int.reduceNeg,Int.reduceToNat,reduceCtorEq,t0,t3,dE,List.getElem?_map,hx,Option.map_some,lP,bE,mw]
    refine av.dec (fun h2=>?_) (fun h2=>?_)
    · simp (disch:=omega) only [↓wr,↓reduceIte,wq,ah,ag,aj,ab,ae,af,ai,isNil,Nat.reduceEqDiff,Nat.reduceAdd,Nat.reduceLT,Nat.reduceLeDiff,Int.reduceNeg,Int.reduceToNat,reduceCtorEq]
      rw[decide_eq_false (fun h=>by have:=h.2 x hm; omega)]; rfl
    · simp (disch:=omega) only [↓wr,↓reduceIte,wq,ah,ag,aj,ab,ae,af,ai,isNil,Nat.reduceEqDiff,Nat.reduceAdd,Nat.reduceLT,Nat.reduceLeDiff,Int.reduceNeg,Int.reduceToNat,reduceCtorEq,t0,t3,dE,List.getElem?_map,hx,Option.map_some,lP,bE,mw]
      refine av.dec (fun h3=>?_) (fun h3=>?_)
      · simp (disch:=omega) only [↓wr,↓reduceIte,wq,ah,ag,aj,ab,ae,af,ai,isNil,Nat.reduceEqDiff,Nat.reduceAdd,Nat.reduceLT,Nat.reduceLeDiff,Int.reduceNeg,Int.reduceToNat,reduceCtorEq]
        rw[decide_eq_false (fun h=>by have:=h.2 x hm; omega)]; rfl
      · simp (disch:=omega) only [↓wr,↓reduceIte,wq,ah,ag,aj,ab,ae,af,ai,isNil,Nat.reduceEqDiff,Nat.reduceAdd,Nat.reduceLT,Nat.reduceLeDiff,Int.reduceNeg,Int.reduceToNat,reduceCtorEq,t0,t3]
        refine bt hk (by omega) ⟨fun s hs=>?_,t0,rfl⟩
        rw[htk] at hs
        rcases List.mem_append.1 hs with hs | hs
        · exact hall s hs
        · simp at hs; subst hs; omega
  · rw[List.take_of_length_le (by omega)] at hall
    simp (disch:=omega) only [↓wr,↓reduceIte,wq,ah,ag,aj,ab,ae,af,ai,isNil,Nat.reduceEqDiff,Nat.reduceAdd,Nat.reduceLT,Nat.reduceLeDiff,Int.reduceNeg,Int.reduceToNat,reduceCtorEq]
    rw[decide_eq_true ⟨by omega,hall⟩]; rfl
def bo.Ok (s:bo):Prop:=(aX s.bq∧∀ x∈s.bq,cm x.aG∧cm x.dot)∧aX s.bO∧∀ e∈s.bO,cm e.sym∧cm e.to
def jq:SC :=
  .seq (.seq (ak [aa 50 7,aa 51 6,aK 52 .lss 50 51]) <|
  .cond (.tmp 52) (.skip) (.exit 2)) <|
  .seq (.block 3 (.seq (ak [aa 55 3,aa 56 7,aL 57 2 55 56,aq 58 0 57,ao 59 58,aa 60 3,aa 61 6,aL 62 2 60 61,aq 63 0 62,ao 64 63,aF 65 21 [59,64]]) <|
  .cond (.tmp 65) (.seq (ak [aQ 2 false]) <|
  .ret) (.skip))) <|
  ak [aa 53 7,ay 54 .add 53 1,aa 7 54]
def jw:SC :=
  .seq (.seq (ak [aa 66 8,aa 67 3,aa 68 6,aL 69 2 67 68,aq 70 1 69,ao 71 70,aI 72 71,aK 73 .lss 66 72]) <|
  .cond (.tmp 73) (.skip) (.exit 4)) <|
  .seq (.block 5 (.seq (ak [aa 76 3,aa 77 6,aL 78 2 76 77,aq 79 1 78,ao 80 79,aa 81 8,aL 82 2 80 81,aq 83 1 82,ao 84 83,aa 9 84]) <|
  .seq (.seq (.region false [⟨none,[aa 85 5,aa 86 6,aL 87 1 85 86,ao 88 87,bW 89 88,aa 90 89]⟩,⟨(some (90,false)),[aa 91 9,ay 92 .lss 91 0]⟩,⟨none,[bF 93 90 92,aa 94 93]⟩,⟨(some (94,false)),[aa 95 9,aa 96 3,aI 97 96,aK 98 .geq 95 97]⟩,⟨none,[bF 99 94 98]⟩]) <|
  .cond (.tmp 99) (.seq (ak [aQ 2 false]) <|
  .ret) (.skip)) <|
  ak [aa 100 5,aa 101 9,aL 102 1 100 101,(none,.op (.store 1 (.tmp 102) (.val (.val (.bool true)))))])) <|
  ak [aa 74 8,ay 75 .add 74 1,aa 8 75]
def jk:SC :=
  .seq (.seq (ak [aa 44 6,aa 45 3,aI 46 45,aK 47 .lss 44 46]) <|
  .cond (.tmp 47) (.skip) (.exit 0)) <|
  .seq (.block 1 (.seq (.seq (ak [aD 7 0]) <|
  .block 2 (.loop jq)) <|
  .seq (.seq (ak [aD 8 0]) <|
  .block 4 (.loop jw)) <|
  .seq (ak [aa 103 5,aa 104 6,aL 105 1 103 104,ao 106 105,bW 107 106]) <|
  .cond (.tmp 107) (.seq (ak [aQ 2 false]) <|
  .ret) (.skip))) <|
  ak [aa 48 6,ay 49 .add 48 1,aa 6 49]
def kp:SF:=⟨.seq (ak [cr 1 0,aQ 2 false]) <|
  .seq (.seq (ak [aF 10 15 [],bW 11 10]) <|
  .cond (.tmp 11) (.seq (ak [aQ 2 false]) <|
  .ret) (.skip)) <|
  .seq (.seq (ak [aJ 12 4 1,aF 13 16 [12]]) <|
  .cond (.tmp 13) (.seq (ak [aQ 2 true]) <|
  .ret) (.skip)) <|
  .seq (ak [aJ 15 4 1,aF 16 24 [15],aa 14 16,cM 17 0 14,cM 18 1 14,aa 3 17,aa 4 18]) <|
  .seq (.seq (ak [aa 19 4,ay 20 .neq 19 0]) <|
  .cond (.tmp 20) (.seq (.region false [⟨none,[aa 21 3,aI 22 21,ay 23 .eql 22 0,aa 24 23]⟩,⟨(some (24,true)),[aa 25 4,ay 26 .eql 25 1,aJ 27 4 1,aF 28 30 [27],bW 29 28,((some 30),.op (.beq true (.tmp 26) (.tmp 29)))]⟩,⟨none,[bG 31 24 30,aa 2 31]⟩]) <|
  .ret) (.skip)) <|
  .seq (.seq (.region false [⟨none,[aa 32 3,aF 33 27 [32],aa 34 33]⟩,⟨(some (34,false)),[aa 35 3,aI 36 35,ay 37 .eql 36 0]⟩,⟨none,[bF 38 34 37]⟩]) <|
  .cond (.tmp 38) (.seq (ak [aQ 2 false]) <|
  .ret) (.skip)) <|
  .seq (ak [aa 39 3,aI 40 39,((some 41),.op (.make 1 1 [(.val (.bool false))] (.tmp 40) (.tmp 40))),aa 5 41]) <|
  .seq (ak [aa 42 5,((some 43),.op (.idx 1 (.tmp 42) (.val (.val (.int .i64 0))))),(none,.op (.store 1 (.tmp 43) (.val (.val (.bool true)))))]) <|
  .seq (.seq (ak [aD 6 0]) <|
  .block 0 (.loop jk)) <|
  .seq (ak [aQ 2 true]) <|
  .ret,
  [.tmp 2],108⟩
theorem pt:bh Tryz.prog 6 [1]=some kp:=by kernel_rfl
theorem FC (g:an):(eu g).1.length≤300∧∀ s∈(eu g).1,s.bq.length≤287∧s.bO.length≤40:=by
  rcases BF g with ⟨h,hr⟩ | ⟨h,_⟩ | ⟨h,_⟩
  · have hf:=tI hr
    obtain ⟨h1,h2,h3⟩:=C8 hf h
    exact ⟨h3,fun s hs=>⟨ye hf (h1.bq s hs).1 (h1.bq s hs).2.2,h1.bO s hs⟩⟩
  · rw[h]; simp
  · rw[h]; simp
structure ui (n:Nat) (B:List Bool) (l:List fT):Prop where
  len:B.length=n
  zero:B.getD 0 false=true
  all:∀ e∈l,B.getD e.to.toNat false=true
theorem ui.put {n:Nat} {B:List Bool} {l:List fT} (h:ui n B l) (e:fT) (he:e.to.toNat < n):ui n (B.set e.to.toNat true) (l ++ [e]):=by
  have hg:∀ m,B.getD m false=true→(B.set e.to.toNat true).getD m false=true:=fun m hm=>by
    rw[nN]; split
    · rfl
    · exact hm
  refine ⟨by rw[List.length_set]; exact h.len,hg 0 h.zero,fun x hx=>?_⟩
  rcases List.mem_append.1 hx with hx | hx
  · exact hg _ (h.all x hx)
  · rw[List.mem_singleton] at hx; subst hx
    rw[nN,if_pos ⟨rfl,by rw[h.len]; exact he⟩]
theorem ui.at {g:an} {a:List bo} (hX:C4 g a) {B:List Bool} {i:Nat} {l:List fT} (h:ui a.length B (((a.take i).flatMap bo.bO) ++ l)) (hi:i < a.length):B.getD i false=true:=by
  by_cases e:i=0
  · rw[e]; exact h.zero
  · obtain ⟨j,x,h1,h2,h3⟩:=hX.back i (by omega) hi
    have:=h.all x (List.mem_append_left _ (List.mem_flatMap.2 ⟨a.getD j bX,List.mem_take_iff_getElem.2 ⟨j,by omega,by
      simp[List.getD_eq_getElem?_getD,List.getElem?_eq_getElem (show j < a.length by omega)]⟩,h2⟩))
    rw[h3] at this
    simpa using this
theorem C4.NK {g:an} {a:List bo} (hX:C4 g a) {i j:Nat} {x y:bo} (hx:a[i]?=some x) (hy:a[j]?=some y) (hij:j < i):(y.bq == x.bq)=false:=by
  rw[beq_eq_false_iff_ne]
  intro e
  have hn:=hX.one
  have hi:=(List.getElem?_eq_some_iff.1 hx)
  have hj:=(List.getElem?_eq_some_iff.1 hy)
  have:=List.pairwise_iff_getElem.1 hn j i (by simpa using hj.1) (by simpa using hi.1) hij
  apply this
  rw[List.getElem_map,List.getElem_map,hi.2,hj.2,e]
set_option maxHeartbeats 16000000 in
theorem Fy (g:an) (hg:g.Ok):aC Tryz.prog 6 [.agg (aw g)] (gb true):=by
  refine aC.val (e9 g) fun H=>?_
  refine aA.of mixed pt ?_
  simp (disch:=omega) only [↓wr,↓reduceIte,wq,ah,ag,aj,ab,ae,af,ai,isNil,Nat.reduceEqDiff,Nat.reduceAdd,Nat.reduceLT,Nat.reduceLeDiff,Int.reduceNeg,Int.reduceToNat,reduceCtorEq,kp,aw,encS]
  refine aE.pure HP (by kernel_rfl) ?_
  simp (disch:=omega) only [↓wr,↓reduceIte,wq,ah,ag,aj,ab,ae,af,ai,isNil,Nat.reduceEqDiff,Nat.reduceAdd,Nat.reduceLT,Nat.reduceLeDiff,Int.reduceNeg,Int.reduceToNat,reduceCtorEq,aw,encS]
  refine aE.pure (K8 g) (by kernel_rfl) ?_
  simp (disch:=omega) only [↓wr,↓reduceIte,wq,ah,ag,aj,ab,ae,af,ai,isNil,Nat.reduceEqDiff,Nat.reduceAdd,Nat.reduceLT,Nat.reduceLeDiff,Int.reduceNeg,Int.reduceToNat,reduceCtorEq]
  refine av.split (fun e=>?_) (fun e=>?_)
  · simp (disch:=omega) only [↓wr,↓reduceIte,wq,ah,ag,aj,ab,ae,af,ai,isNil,Nat.reduceEqDiff,Nat.reduceAdd,Nat.reduceLT,Nat.reduceLeDiff,Int.reduceNeg,Int.reduceToNat,reduceCtorEq]
  have h1:=(I6 g hg (FA e)).pure
  have hI:=Oi g hg
  simp only[aw,encS] at h1 hI
  rcases BF g with ⟨h,hr⟩ | ⟨h,hr⟩ | ⟨h,hr⟩
  rotate_left
  · rw[h] at h1
    rw[hr] at hI
    simp (disch:=omega) only [↓wr,↓reduceIte,wq,ah,ag,aj,ab,ae,af,ai,isNil,Nat.reduceEqDiff,Nat.reduceAdd,Nat.reduceLT,Nat.reduceLeDiff,Int.reduceNeg,Int.reduceToNat,reduceCtorEq,aw,encS]
    refine aE.pure h1 (by kernel_rfl) ?_
    simp (disch:=omega) only [↓wr,↓reduceIte,wq,ah,ag,aj,ab,ae,af,ai,isNil,Nat.reduceEqDiff,Nat.reduceAdd,Nat.reduceLT,Nat.reduceLeDiff,Int.reduceNeg,Int.reduceToNat,reduceCtorEq,aw,encS,dE]
    refine av.ne (fun _=>?_) (fun h=>absurd h (by decide))
    simp (disch:=omega) only [↓wr,↓reduceIte,wq,ah,ag,aj,ab,ae,af,ai,isNil,Nat.reduceEqDiff,Nat.reduceAdd,Nat.reduceLT,Nat.reduceLeDiff,Int.reduceNeg,Int.reduceToNat,reduceCtorEq,aw,encS,dE]
    refine av.eq (fun _=>?_) (fun h=>absurd rfl h)
    simp (disch:=omega) only [↓wr,↓reduceIte,wq,ah,ag,aj,ab,ae,af,ai,isNil,Nat.reduceEqDiff,Nat.reduceAdd,Nat.reduceLT,Nat.reduceLeDiff,Int.reduceNeg,Int.reduceToNat,reduceCtorEq,aw,encS]
    refine aE.pure hI (by kernel_rfl) ?_
    simp (disch:=omega) only [↓wr,↓reduceIte,wq,ah,ag,aj,ab,ae,af,ai,isNil,Nat.reduceEqDiff,Nat.reduceAdd,Nat.reduceLT,Nat.reduceLeDiff,Int.reduceNeg,Int.reduceToNat,reduceCtorEq]
    rfl
  · rw[h] at h1
    rw[hr] at hI
    simp (disch:=omega) only [↓wr,↓reduceIte,wq,ah,ag,aj,ab,ae,af,ai,isNil,Nat.reduceEqDiff,Nat.reduceAdd,Nat.reduceLT,Nat.reduceLeDiff,Int.reduceNeg,Int.reduceToNat,reduceCtorEq,aw,encS]
    refine aE.pure h1 (by kernel_rfl) ?_
    simp (disch:=omega) only [↓wr,↓reduceIte,wq,ah,ag,aj,ab,ae,af,ai,isNil,Nat.reduceEqDiff,Nat.reduceAdd,Nat.reduceLT,Nat.reduceLeDiff,Int.reduceNeg,Int.reduceToNat,reduceCtorEq,aw,encS,dE]
    refine av.ne (fun _=>?_) (fun h=>absurd h (by decide))
    simp (disch:=omega) only [↓wr,↓reduceIte,wq,ah,ag,aj,ab,ae,af,ai,isNil,Nat.reduceEqDiff,Nat.reduceAdd,Nat.reduceLT,Nat.reduceLeDiff,Int.reduceNeg,Int.reduceToNat,reduceCtorEq,aw,encS,dE]
    refine av.eq (fun _=>?_) (fun h=>absurd rfl h)
    simp (disch:=omega) only [↓wr,↓reduceIte,wq,ah,ag,aj,ab,ae,af,ai,isNil,Nat.reduceEqDiff,Nat.reduceAdd,Nat.reduceLT,Nat.reduceLeDiff,Int.reduceNeg,Int.reduceToNat,reduceCtorEq,aw,encS]
    refine aE.pure hI (by kernel_rfl) ?_
    simp (disch:=omega) only [↓wr,↓reduceIte,wq,ah,ag,aj,ab,ae,af,ai,isNil,Nat.reduceEqDiff,Nat.reduceAdd,Nat.reduceLT,Nat.reduceLeDiff,Int.reduceNeg,Int.reduceToNat,reduceCtorEq]
    rfl
  have hf:=tI hr
  obtain ⟨o1,o2,o3⟩:=C8 hf h
  obtain ⟨l1,l2⟩:=FC g
  have hX:=HN hf h
  rw[h] at h1
  generalize (eu g).1=a at *
  obtain ⟨b,hb,_,hb3⟩:=Hj a (by unfold aX; omega) (fun s hs=>by have:=l2 s hs; unfold aX; omega)
  cases b with
  | true=>exact absurd ⟨by omega,fun s hs=>by have:=l2 s hs; omega⟩ (hb3 rfl)
  | false =>
  simp (disch:=omega) only [↓wr,↓reduceIte,wq,ah,ag,aj,ab,ae,af,ai,isNil,Nat.reduceEqDiff,Nat.reduceAdd,Nat.reduceLT,Nat.reduceLeDiff,Int.reduceNeg,Int.reduceToNat,reduceCtorEq,aw,encS]
  refine aE.pure h1 (by kernel_rfl) ?_
  simp (disch:=omega) only [↓wr,↓reduceIte,wq,ah,ag,aj,ab,ae,af,ai,isNil,Nat.reduceEqDiff,Nat.reduceAdd,Nat.reduceLT,Nat.reduceLeDiff,Int.reduceNeg,Int.reduceToNat,reduceCtorEq]
  refine av.ne (fun h=>absurd rfl h) (fun _=>?_)
  simp (disch:=omega) only [↓wr,↓reduceIte,wq,ah,ag,aj,ab,ae,af,ai,isNil,Nat.reduceEqDiff,Nat.reduceAdd,Nat.reduceLT,Nat.reduceLeDiff,Int.reduceNeg,Int.reduceToNat,reduceCtorEq]
  refine aE.pure hb (by kernel_rfl) ?_
  simp (disch:=omega) only [↓wr,↓reduceIte,wq,ah,ag,aj,ab,ae,af,ai,isNil,Nat.reduceEqDiff,Nat.reduceAdd,Nat.reduceLT,Nat.reduceLeDiff,Int.reduceNeg,Int.reduceToNat,reduceCtorEq,dE]
  refine av.dec (fun h0=>by omega) (fun _=>?_)
  simp (disch:=omega) only [↓wr,↓reduceIte,wq,ah,ag,aj,ab,ae,af,ai,isNil,Nat.reduceEqDiff,Nat.reduceAdd,Nat.reduceLT,Nat.reduceLeDiff,Int.reduceNeg,Int.reduceToNat,reduceCtorEq,dE]
  refine ⟨⟨by omega,by unfold aN; omega,by unfold aN; omega⟩,fun h0=>by omega,?_⟩
  intro _ q _
  refine ⟨by omega,by simp; omega,?_⟩
  refine bw.up a.length (fun i T H'=>∃ (q:Nat) (B:List Bool),ui a.length B (((a.take i).flatMap bo.bO) ++ [])∧H' q=.arr 1 (bV B)∧T 3=dE a∧T 5=.sl q 0 a.length 1∧T 6=gi i) ⟨q,(List.replicate a.length false).set 0 true,⟨by simp,?_,by simp⟩,?_,rfl,rfl,rfl⟩ ?_
  · rw[nN,if_pos ⟨rfl,by simp; omega⟩]
  · obtain ⟨n,hn⟩:∃ n,a.length=n+1:=⟨a.length - 1,by omega⟩
    rw[hn]
    simp[View.set,List.map_set,List.replicate_succ]
  rintro i k T H1 hk ⟨q,B,hB,hq,t3,t5,t6⟩
  simp (disch:=omega) only [↓wr,↓reduceIte,wq,ah,ag,aj,ab,ae,af,ai,isNil,Nat.reduceEqDiff,Nat.reduceAdd,Nat.reduceLT,Nat.reduceLeDiff,Int.reduceNeg,Int.reduceToNat,reduceCtorEq,jk,t3,t5,t6,dE]
  refine av.dec (fun hc=>?_) (fun hc=>?_)
  rotate_left
  · simp (disch:=omega) only [↓wr,↓reduceIte,wq,ah,ag,aj,ab,ae,af,ai,isNil,Nat.reduceEqDiff,Nat.reduceAdd,Nat.reduceLT,Nat.reduceLeDiff,Int.reduceNeg,Int.reduceToNat,reduceCtorEq]
  have hx:a[i]?=some (a[i]'(by omega)):=List.getElem?_eq_getElem (by omega)
  have hm:=List.getElem_mem (show i < a.length by omega)
  generalize a[i]'(by omega)=x at hx hm
  have hxk:=l2 x hm
  simp (disch:=omega) only [↓wr,↓reduceIte,wq,ah,ag,aj,ab,ae,af,ai,isNil,Nat.reduceEqDiff,Nat.reduceAdd,Nat.reduceLT,Nat.reduceLeDiff,Int.reduceNeg,Int.reduceToNat,reduceCtorEq,t3,t5,t6]
  refine bw.up i (fun j T H'=>H' q=.arr 1 (bV B)∧T 3=dE a∧T 5=.sl q 0 a.length 1∧T 6=gi i∧T 7=gi j) ⟨hq,t3,t5,t6,rfl⟩ ?_
  clear t3 t5 t6 hq
  rintro j m T H2 hm2 ⟨hq,t3,t5,t6,t7⟩
  simp (disch:=omega) only [↓wr,↓reduceIte,wq,ah,ag,aj,ab,ae,af,ai,isNil,Nat.reduceEqDiff,Nat.reduceAdd,Nat.reduceLT,Nat.reduceLeDiff,Int.reduceNeg,Int.reduceToNat,reduceCtorEq,jq,t3,t5,t6,t7]
  refine av.dec (fun hc2=>?_) (fun hc2=>?_)
  · have hy:a[j]?=some (a[j]'(by omega)):=List.getElem?_eq_getElem (by omega)
    have hym:=List.getElem_mem (show j < a.length by omega)
    generalize a[j]'(by omega)=y at hy hym
    have hyk:=l2 y hym
    have hI2:=Il y.bq x.bq (by unfold aX; omega) (by unfold aX; omega)
    rw[hX.NK hx hy (by omega)] at hI2
    simp (disch:=omega) only [↓wr,↓reduceIte,wq,ah,ag,aj,ab,ae,af,ai,isNil,Nat.reduceEqDiff,Nat.reduceAdd,Nat.reduceLT,Nat.reduceLeDiff,Int.reduceNeg,Int.reduceToNat,reduceCtorEq,t3,t5,t6,t7,dE,List.getElem?_map,hx,hy,Option.map_some,lP]
    refine aE.pure hI2 (by kernel_rfl) ?_
    simp (disch:=omega) only [↓wr,↓reduceIte,wq,ah,ag,aj,ab,ae,af,ai,isNil,Nat.reduceEqDiff,Nat.reduceAdd,Nat.reduceLT,Nat.reduceLeDiff,Int.reduceNeg,Int.reduceToNat,reduceCtorEq,t3,t5,t6,t7]
    exact bt hm2 (by omega) ⟨hq,t3,t5,t6,rfl⟩
  simp (disch:=omega) only [↓wr,↓reduceIte,wq,ah,ag,aj,ab,ae,af,ai,isNil,Nat.reduceEqDiff,Nat.reduceAdd,Nat.reduceLT,Nat.reduceLeDiff,Int.reduceNeg,Int.reduceToNat,reduceCtorEq,t3,t5,t6,t7]
  refine bw.up x.bO.length (fun j T H'=>∃ B,ui a.length B (((a.take i).flatMap bo.bO) ++ x.bO.take j)∧H' q=.arr 1 (bV B)∧T 3=dE a∧T 5=.sl q 0 a.length 1∧T 6=gi i∧T 8=gi j) ⟨B,by simpa using hB,hq,t3,t5,t6,rfl⟩ ?_
  clear t3 t5 t6 t7 hq hB
  clear B
  rintro j m T H2 hm2 ⟨B,hB,hq,t3,t5,t6,t8⟩
  have hBi:=hB.at hX (show i < a.length by omega)
  have hBl:=hB.len
  simp (disch:=omega) only [↓wr,↓reduceIte,wq,ah,ag,aj,ab,ae,af,ai,isNil,Nat.reduceEqDiff,Nat.reduceAdd,Nat.reduceLT,Nat.reduceLeDiff,Int.reduceNeg,Int.reduceToNat,reduceCtorEq,jw,t3,t5,t6,t8,dE,List.getElem?_map,hx,Option.map_some,lP,mw]
  refine av.dec (fun hc2=>?_) (fun hc2=>?_)
  · have hy:x.bO[j]?=some (x.bO[j]'(by omega)):=List.getElem?_eq_getElem (by omega)
    have hym:=List.getElem_mem (show j < x.bO.length by omega)
    have htk:x.bO.take (j+1)=x.bO.take j ++ [x.bO[j]'(by omega)]:=by rw[List.take_add_one,hy]; rfl
    generalize x.bO[j]'(by omega)=y at hy hym htk
    obtain ⟨y1,y2⟩:=o1.to x hm y hym
    obtain ⟨t,ht⟩:∃ t:Nat,y.to=(t:Int):=⟨y.to.toNat,by omega⟩
    have htt:y.to.toNat=t:=by omega
    have hset:(bV B).set t [gb true]=bV (B.set t true):=by simp[List.map_set]
    have hput:=hB.put y (by omega)
    rw[List.append_assoc,← htk,htt] at hput
    simp (disch:=omega) only [↓wr,↓reduceIte,wq,ah,ag,aj,ab,ae,af,ai,isNil,Nat.reduceEqDiff,Nat.reduceAdd,Nat.reduceLT,Nat.reduceLeDiff,Int.reduceNeg,Int.reduceToNat,reduceCtorEq,t3,t5,t6,t8,dE,List.getElem?_map,hx,hy,Option.map_some,lP,mw,yY,hq,vE (l:=B) (i:=i) (by omega),hBi,ht]
    refine ⟨by omega,by first | omega | (simp; omega),?_⟩
    refine av.dec (fun h3=>by omega) (fun _=>?_)
    simp (disch:=omega) only [↓wr,↓reduceIte,wq,ah,ag,aj,ab,ae,af,ai,isNil,Nat.reduceEqDiff,Nat.reduceAdd,Nat.reduceLT,Nat.reduceLeDiff,Int.reduceNeg,Int.reduceToNat,reduceCtorEq,t3,dE]
    refine av.dec (fun h3=>by omega) (fun _=>?_)
    have hbt:=vE (l:=B) (i:=t) (by omega)
    simp (disch:=omega) only [↓wr,↓reduceIte,wq,ah,ag,aj,ab,ae,af,ai,isNil,Nat.reduceEqDiff,Nat.reduceAdd,Nat.reduceLT,Nat.reduceLeDiff,Int.reduceNeg,Int.reduceToNat,reduceCtorEq,t3,t5,t6,t8,hq,hbt,List.tail_cons,hset]
    refine ⟨by omega,by first | omega | (simp; omega),?_⟩
    exact bt hm2 (by omega) ⟨B.set t true,hput,by simp[View.set],t3,t5,t6,rfl⟩
  have hal:(a.take (i+1)).flatMap bo.bO=(a.take i).flatMap bo.bO ++ x.bO:=by rw[List.take_add_one,hx]; simp
  rw[List.take_of_length_le (l:=x.bO) (i:=j) (by omega),← hal] at hB
  simp (disch:=omega) only [↓wr,↓reduceIte,wq,ah,ag,aj,ab,ae,af,ai,isNil,Nat.reduceEqDiff,Nat.reduceAdd,Nat.reduceLT,Nat.reduceLeDiff,Int.reduceNeg,Int.reduceToNat,reduceCtorEq,t3,t5,t6,t8,hq,vE (l:=B) (i:=i) (by omega),hBi]
  refine ⟨by omega,by first | omega | (simp; omega),?_⟩
  exact bt hk (by omega) ⟨q,B,by simpa using hB,hq,t3,t5,rfl⟩
end Gv
