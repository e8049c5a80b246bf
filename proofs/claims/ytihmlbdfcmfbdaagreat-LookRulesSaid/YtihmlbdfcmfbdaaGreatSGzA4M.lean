/-
  Part 13 of the proof: what the machine does and what the functions answer.
  Conditions: those that each lemma names.
-/
import Derived.Test.YtihmlbdfcmfbdaaGreatSGzA4L
set_option linter.unusedSimpArgs false
set_option linter.unusedVariables false
set_option maxRecDepth 100000
namespace Gv
open Go Go.Proofs
def xQ:SF:=⟨.seq (ar [((some 2),.op (.aX (.val (.val (.int .u32 0)))))]) <|
  .seq (.seq (.region false [⟨none,[aa 3 0,av 4 .lss 3 0,aa 5 4]⟩,⟨(some (5,false)),[aa 6 0,av 7 .geq 6 32]⟩,⟨none,[bU 8 5 7]⟩]) <|
  .cond (.tmp 8) (.seq (ar [((some 2),.op (.aX (.val (.val (.int .u32 0)))))]) <|
  .ret) (.skip)) <|
  .seq (ar [aa 9 0,((some 10),.op (.sh true (.val (.val (.int .u32 1))) (.tmp 9))),aa 2 10]) <|
  .ret,
  [.tmp 2],11⟩
theorem zK:bm Tryz.prog 124 []=some xQ:=by kernel_rfl
def yS:SF:=⟨.seq (ar [bd 4 false]) <|
  .seq (ar [aa 5 0,aa 6 1,aD 7 124 [6],aM 8 .and 5 7,((some 9),.op (.arith .neq (.tmp 8) (.val (.val (.int .u32 0))))),aa 4 9]) <|
  .ret,
  [.tmp 4],10⟩
theorem Ah:bm Tryz.prog 79 []=some yS:=by kernel_rfl
def o5:SC :=
  .seq (ar [aM 10 .lss 9 8]) <|
  .seq (.cond (.tmp 10) (.skip) (.exit 0)) <|
  .seq (.block 1 (.seq (ar [aL 11 2 7 9,aO 12 2 11,((some 6),.op (.alloc [(.val (.int .i64 0)),(.val (.int .u32 0))])),(none,.op (.store 2 (.tmp 6) (.tmp 12)))]) <|
  .seq (ar [al 13 1 6,ak 14 13,aa 15 1,aD 16 79 [14,15]]) <|
  .cond (.tmp 16) (ar [aa 17 4,al 18 0 6,ak 19 18,((some 20),.op (.bg 1 1 [(.val (.int .i64 0))] [(0,(.tmp 19))])),((some 21),.op (.app 1 8 (.tmp 17) (.tmp 20))),aa 4 21]) (.skip))) <|
  ar [av 22 .add 9 1,aa 9 22]
def rY:SF:=⟨.seq (ar [((some 4),.op (.aX (.val (.emp 1))))]) <|
  .seq (.seq (ar [aa 7 0,aK 8 7,aA 9 0]) <|
  .block 0 (.loop o5)) <|
  .seq (ar [aa 23 4,aa 4 23]) <|
  .ret,
  [.tmp 4],24⟩
theorem vi:bm Tryz.prog 38 []=some rY:=by kernel_rfl
theorem E9 (n:Int):aC Tryz.prog 124 [gi n] (gw (mG n)):=by
  refine aC.val (by intro v hv; simp at hv; subst hv; exact .val _) fun H=>?_
  have bad:¬ (0≤n∧n≤31)→mG n=0:=fun h=>by rw[mG,if_neg h]
  refine aH.of mixed zK ?_
  simp (disch:=omega) only [↓wr,↓reduceIte,wq,ai,ah,an,ab,af,ag,aj,isNil,Nat.reduceEqDiff,Nat.reduceAdd,Nat.reduceLT,Nat.reduceLeDiff,Int.reduceNeg,Int.reduceToNat,reduceCtorEq,xQ]
  refine ay.dec (fun h1=>?_) (fun h1=>?_)
  · simp (disch:=omega) only [↓wr,↓reduceIte,wq,ai,ah,an,ab,af,ag,aj,isNil,Nat.reduceEqDiff,Nat.reduceAdd,Nat.reduceLT,Nat.reduceLeDiff,Int.reduceNeg,Int.reduceToNat,reduceCtorEq]
    rw[bad (by omega)]; rfl
  simp (disch:=omega) only [↓wr,↓reduceIte,wq,ai,ah,an,ab,af,ag,aj,isNil,Nat.reduceEqDiff,Nat.reduceAdd,Nat.reduceLT,Nat.reduceLeDiff,Int.reduceNeg,Int.reduceToNat,reduceCtorEq]
  refine ay.dec (fun h2=>?_) (fun h2=>?_)
  · simp (disch:=omega) only [↓wr,↓reduceIte,wq,ai,ah,an,ab,af,ag,aj,isNil,Nat.reduceEqDiff,Nat.reduceAdd,Nat.reduceLT,Nat.reduceLeDiff,Int.reduceNeg,Int.reduceToNat,reduceCtorEq]
    rw[bad (by omega)]; rfl
  simp (disch:=omega) only [↓wr,↓reduceIte,wq,ai,ah,an,ab,af,ag,aj,isNil,Nat.reduceEqDiff,Nat.reduceAdd,Nat.reduceLT,Nat.reduceLeDiff,Int.reduceNeg,Int.reduceToNat,reduceCtorEq]
  have h31:(2:Nat) ^ n.toNat≤2 ^ 31:=Nat.pow_le_pow_right (by omega) (by omega)
  have e:w5 true .u32 1 n=(((mG n).toNat:Nat):Int):=by
    rw[zV (by omega)]
    unfold w5
    rw[if_pos rfl,show min n.toNat IntKind.u32.bits=n.toNat by rw[show IntKind.u32.bits=32 from rfl]; omega]
    have e2:((1:Int) * 2 ^ n.toNat)=((2 ^ n.toNat:Nat):Int):=by rw[Int.one_mul]; push_cast; rfl
    rw[e2]
    generalize (2:Nat) ^ n.toNat=z at h31
    exact DX (by omega) (by omega)
  rw[e]
  first | rfl | exact ⟨by omega,rfl⟩
theorem FF (s:BV) (n:Int):aC Tryz.prog 79 [gw s,gi n] (gb (hasB s n)):=by
  refine aC.val (by
    intro v hv; simp at hv
    rcases hv with rfl | rfl <;> exact .val _) fun H=>?_
  refine aH.of mixed Ah ?_
  simp (disch:=omega) only [↓wr,↓reduceIte,wq,ai,ah,an,ab,af,ag,aj,isNil,Nat.reduceEqDiff,Nat.reduceAdd,Nat.reduceLT,Nat.reduceLeDiff,Int.reduceNeg,Int.reduceToNat,reduceCtorEq,yS]
  refine aJ.pure (E9 n) (by kernel_rfl) ?_
  simp (disch:=omega) only [↓wr,↓reduceIte,wq,ai,ah,an,ab,af,ag,aj,isNil,Nat.reduceEqDiff,Nat.reduceAdd,Nat.reduceLT,Nat.reduceLeDiff,Int.reduceNeg,Int.reduceToNat,reduceCtorEq,Iu]
  congr 2
  unfold hasB
  rw[Bool.eq_iff_iff]
  simp only[bne_iff_ne,ne_eq,decide_eq_true_eq,toNat_zero]
theorem BN {l:List gf} {i:Nat} {x:gf} (hx:l[i]?=some x) (n:Int):ed (l.take (i+1)) n=if hasB x.set n=true then ed (l.take i) n ++ [x.aT] else ed (l.take i) n:=by
  unfold ed
  rw[xZ hx]
  split <;> simp
theorem yr (l:List gf) (i:Nat) (n:Int):(ed (l.take i) n).length≤i:=by
  unfold ed
  have:=List.length_filter_le (fun x:gf=>hasB x.set n) (l.take i)
  simp only[List.length_map,List.length_take] at this ⊢
  omega
theorem Gy (l:List gf) (hl:l.length≤10000) (n:Int):cJ Tryz.prog 38 [.aF (mq l),gi n] (encI (ed l n)):=by
  refine cJ.of (by
    intro v hv; simp at hv
    rcases hv with rfl | rfl
    · exact xp _
    · exact .val _) ?_
  refine aH.of mixed vi ?_
  simp (disch:=omega) only [↓wr,↓reduceIte,wq,ai,ah,an,ab,af,ag,aj,isNil,Nat.reduceEqDiff,Nat.reduceAdd,Nat.reduceLT,Nat.reduceLeDiff,Int.reduceNeg,Int.reduceToNat,reduceCtorEq,rY,mq]
  refine cH.up l.length (fun i T H'=>∃ u:V,aV H' u 1 (cA (ed (l.take i) n))∧T 1=gi n∧T 4=u∧T 7=.aF (mq l)∧T 8=gi l.length∧T 9=gi i) ⟨.emp 1,.nil,rfl,rfl,rfl,rfl,rfl⟩ ?_
  rintro i k T H hk ⟨u,ho,t1,t4,t7,t8,t9⟩
  simp (disch:=omega) only [↓wr,↓reduceIte,wq,ai,ah,an,ab,af,ag,aj,isNil,Nat.reduceEqDiff,Nat.reduceAdd,Nat.reduceLT,Nat.reduceLeDiff,Int.reduceNeg,Int.reduceToNat,reduceCtorEq,o5,t1,t4,t7,t8,t9,mq]
  refine ay.dec (fun hc=>?_) (fun hc=>?_)
  · have hx:l[i]?=some (l[i]'(by omega)):=List.getElem?_eq_getElem (by omega)
    generalize l[i]'(by omega)=x at hx
    have hft:=BN hx n
    have hfl:=yr l i n
    simp (disch:=omega) only [↓wr,↓reduceIte,wq,ai,ah,an,ab,af,ag,aj,isNil,Nat.reduceEqDiff,Nat.reduceAdd,Nat.reduceLT,Nat.reduceLeDiff,Int.reduceNeg,Int.reduceToNat,reduceCtorEq,t1,t4,t7,t8,t9,mq,List.getElem?_map,hx,Option.map_some,sO]
    intro q hq
    rw[set_set]
    have hqq:(H.set q (.arr 2 [[gi x.aT,gw x.set]])) q=.arr 2 [[gi x.aT,gw x.set]]:=by simp[View.set]
    have ho:=ho.fresh (o:=.arr 2 [[gi x.aT,gw x.set]]) hq
    generalize H.set q (.arr 2 [[gi x.aT,gw x.set]])=H4 at hqq ho
    refine aJ.pure (FF x.set n) (by kernel_rfl) ?_
    simp (disch:=omega) only [↓wr,↓reduceIte,wq,ai,ah,an,ab,af,ag,aj,isNil,Nat.reduceEqDiff,Nat.reduceAdd,Nat.reduceLT,Nat.reduceLeDiff,Int.reduceNeg,Int.reduceToNat,reduceCtorEq,t1,t4,t7,t8,t9]
    refine ay.split (fun he=>?_) (fun he=>?_)
    · simp (disch:=omega) only [↓wr,↓reduceIte,wq,ai,ah,an,ab,af,ag,aj,isNil,Nat.reduceEqDiff,Nat.reduceAdd,Nat.reduceLT,Nat.reduceLeDiff,Int.reduceNeg,Int.reduceToNat,reduceCtorEq,t1,t4,hqq]
      intro q2 hq2
      simp (disch:=omega) only [↓wr,↓reduceIte,wq,ai,ah,an,ab,af,ag,aj,isNil,Nat.reduceEqDiff,Nat.reduceAdd,Nat.reduceLT,Nat.reduceLeDiff,Int.reduceNeg,Int.reduceToNat,reduceCtorEq,e9]
      refine sd (ho.fresh hq2) (by simp[aN]) (by unfold aW; simp; omega) (by unfold aW; simp; omega) ?_
      intro u2 H2 o2 _
      simp (disch:=omega) only [↓wr,↓reduceIte,wq,ai,ah,an,ab,af,ag,aj,isNil,Nat.reduceEqDiff,Nat.reduceAdd,Nat.reduceLT,Nat.reduceLeDiff,Int.reduceNeg,Int.reduceToNat,reduceCtorEq,t1,t7,t8,t9]
      rw[if_pos he] at hft
      exact bO hk (by omega) ⟨u2,by rw[hft]; simpa using o2,t1,rfl,t7,t8,rfl⟩
    · simp (disch:=omega) only [↓wr,↓reduceIte,wq,ai,ah,an,ab,af,ag,aj,isNil,Nat.reduceEqDiff,Nat.reduceAdd,Nat.reduceLT,Nat.reduceLeDiff,Int.reduceNeg,Int.reduceToNat,reduceCtorEq,t1,t4,t7,t8,t9]
      rw[if_neg (by rw[he]; simp)] at hft
      exact bO hk (by omega) ⟨u,by rw[hft]; exact ho,t1,t4,t7,t8,rfl⟩
  · rw[List.take_of_length_le (by omega)] at ho
    simp (disch:=omega) only [↓wr,↓reduceIte,wq,ai,ah,an,ab,af,ag,aj,isNil,Nat.reduceEqDiff,Nat.reduceAdd,Nat.reduceLT,Nat.reduceLeDiff,Int.reduceNeg,Int.reduceToNat,reduceCtorEq,t4]
    rintro h' rfl
    exact iH ho
def Fu:List Int:=[37,37,32,115,32,58,32,108,32,39,61,39,32,114,32,124,32,114,32,59,32,108,32,58,32,39,42,39,32,114,32,124,32,39,105,39,32,59,32,114,32,58,32,108,32,59]
def kK:ao:=⟨[⟨⟨#[39,61,39]⟩,0,0⟩,⟨⟨#[39,42,39]⟩,0,0⟩,⟨⟨#[39,105,39]⟩,0,0⟩],[⟨#[115]⟩,⟨#[108]⟩,⟨#[114]⟩],[⟨0,[-2,0,-3],0⟩,⟨0,[-3],-1⟩,⟨1,[1,-3],1⟩,⟨1,[2],2⟩,⟨2,[-2],-1⟩],0⟩
def oC:DC :=
  .seq (.seq (ae [aa 71 14,aa 72 9,aK 73 72,aM 74 .lss 71 73]) <|
  .cond (.tmp 74) (.skip) (.exit 0)) <|
  .seq (.block 1 (.seq (.region [] [⟨none,[aa 77 9,aa 78 14,aL 79 1 77 78,ak 80 79,aK 81 80,av 82 .eql 81 1,aa 83 82]⟩,⟨(some (83,true)),[aa 84 9,aa 85 14,aL 86 1 84 85,ak 87 86,((some 88),.op (.idx 2 (.tmp 87) (.val (.val (.int .i64 0))))),aO 89 2 88,((some 90),.op (.build [(.val (.int .i64 0)),(.val (.int .u32 0))] [(0,1,(.val (.val (.int .i64 4)))),(1,1,(.val (.val (.int .u32 8))))])),((some 91),.op (.old (.binOp .eql 69 (.tmp 89) (.tmp 90) 69) 4))]⟩,⟨none,[bC 92 83 91]⟩]) <|
  .cond (.tmp 92) (ae [aa 93 13,av 94 .add 93 1,aa 13 94]) (.skip))) <|
  ae [aa 75 14,av 76 .add 75 1,aa 14 76]
def jO:DF:=⟨.seq (ae [bd 0 false]) <|
  .seq (ae [((some 16),.op (.bg 16 1 [(.val (.int .u8 0))] [(0,(.val (.val (.int .u8 37)))),(1,(.val (.val (.int .u8 37)))),(2,(.val (.val (.int .u8 32)))),(3,(.val (.val (.int .u8 115)))),(4,(.val (.val (.int .u8 32)))),(5,(.val (.val (.int .u8 58)))),(6,(.val (.val (.int .u8 32)))),(7,(.val (.val (.int .u8 39)))),(8,(.val (.val (.int .u8 97)))),(9,(.val (.val (.int .u8 39)))),(10,(.val (.val (.int .u8 32)))),(11,(.val (.val (.int .u8 115)))),(12,(.val (.val (.int .u8 32)))),(13,(.val (.val (.int .u8 124)))),(14,(.val (.val (.int .u8 32)))),(15,(.val (.val (.int .u8 59))))])),((some 17),.op (.old (.convert 91 91 (.tmp 16)) 91)),aD 18 49 [17],aa 15 18,ct 19 0 15,ct 20 1 15,ct 21 2 15,((some 1),.op (.alloc [(.emp 1),(.emp 1),(.emp 1),(.val (.int .i64 0))])),(none,.op (.store 4 (.tmp 1) (.tmp 19))),aa 2 20,aa 3 21]) <|
  .seq (ae [aO 23 4 1,aD 24 33 [23],aa 22 24,ct 25 0 22,ct 26 1 22,aa 4 25,aa 5 26]) <|
  .seq (ae [((some 28),.op (.bg 46 1 [(.val (.int .u8 0))] [(0,(.val (.val (.int .u8 37)))),(1,(.val (.val (.int .u8 37)))),(2,(.val (.val (.int .u8 32)))),(3,(.val (.val (.int .u8 115)))),(4,(.val (.val (.int .u8 32)))),(5,(.val (.val (.int .u8 58)))),(6,(.val (.val (.int .u8 32)))),(7,(.val (.val (.int .u8 108)))),(8,(.val (.val (.int .u8 32)))),(9,(.val (.val (.int .u8 39)))),(10,(.val (.val (.int .u8 61)))),(11,(.val (.val (.int .u8 39)))),(12,(.val (.val (.int .u8 32)))),(13,(.val (.val (.int .u8 114)))),(14,(.val (.val (.int .u8 32)))),(15,(.val (.val (.int .u8 124)))),(16,(.val (.val (.int .u8 32)))),(17,(.val (.val (.int .u8 114)))),(18,(.val (.val (.int .u8 32)))),(19,(.val (.val (.int .u8 59)))),(20,(.val (.val (.int .u8 32)))),(21,(.val (.val (.int .u8 108)))),(22,(.val (.val (.int .u8 32)))),(23,(.val (.val (.int .u8 58)))),(24,(.val (.val (.int .u8 32)))),(25,(.val (.val (.int .u8 39)))),(26,(.val (.val (.int .u8 42)))),(27,(.val (.val (.int .u8 39)))),(28,(.val (.val (.int .u8 32)))),(29,(.val (.val (.int .u8 114)))),(30,(.val (.val (.int .u8 32)))),(31,(.val (.val (.int .u8 124)))),(32,(.val (.val (.int .u8 32)))),(33,(.val (.val (.int .u8 39)))),(34,(.val (.val (.int .u8 105)))),(35,(.val (.val (.int .u8 39)))),(36,(.val (.val (.int .u8 32)))),(37,(.val (.val (.int .u8 59)))),(38,(.val (.val (.int .u8 32)))),(39,(.val (.val (.int .u8 114)))),(40,(.val (.val (.int .u8 32)))),(41,(.val (.val (.int .u8 58)))),(42,(.val (.val (.int .u8 32)))),(43,(.val (.val (.int .u8 108)))),(44,(.val (.val (.int .u8 32)))),(45,(.val (.val (.int .u8 59))))])),((some 29),.op (.old (.convert 91 91 (.tmp 28)) 91)),aD 30 49 [29],aa 27 30,ct 31 0 27,ct 32 1 27,ct 33 2 27,((some 6),.op (.alloc [(.emp 1),(.emp 1),(.emp 1),(.val (.int .i64 0))])),(none,.op (.store 4 (.tmp 6) (.tmp 31))),aa 7 32,aa 8 33]) <|
  .seq (ae [aO 35 4 6,aD 36 33 [35],aa 34 36,ct 37 0 34,ct 38 1 34,aa 9 37,aa 10 38]) <|
  .seq (ae [((some 40),.op (.build [(.emp 1),(.emp 1),(.emp 1),(.val (.int .i64 0))] [])),aD 41 33 [40],aa 39 41,ct 42 0 39,ct 43 1 39,aa 11 42,aa 12 43]) <|
  .seq (.seq (.region [] [⟨none,[aa 44 5,av 45 .neq 44 0,aa 46 45]⟩,⟨(some (46,false)),[aa 47 10,av 48 .neq 47 0]⟩,⟨none,[bU 49 46 48,aa 50 49]⟩,⟨(some (50,false)),[aa 51 12,av 52 .neq 51 1]⟩,⟨none,[bU 53 50 52,aa 54 53]⟩,⟨(some (54,false)),[aa 55 4,aK 56 55,av 57 .neq 56 4]⟩,⟨none,[bU 58 54 57,aa 59 58]⟩,⟨(some (59,false)),[aa 60 4,((some 61),.op (.idx 1 (.tmp 60) (.val (.val (.int .i64 0))))),ak 62 61,aK 63 62,av 64 .neq 63 1]⟩,⟨none,[bU 65 59 64,aa 66 65]⟩,⟨(some (66,false)),[aa 67 9,aK 68 67,av 69 .neq 68 10]⟩,⟨none,[bU 70 66 69]⟩]) <|
  .cond (.tmp 70) (.seq (ae [bd 0 false]) <|
  .ret) (.skip)) <|
  .seq (ae [aA 13 0]) <|
  .seq (.seq (ae [aA 14 0]) <|
  .block 0 (.loop oC)) <|
  .seq (.region [] [⟨none,[aa 95 4,((some 96),.op (.idx 1 (.tmp 95) (.val (.val (.int .i64 0))))),ak 97 96,((some 98),.op (.idx 2 (.tmp 97) (.val (.val (.int .i64 0))))),aO 99 2 98,((some 100),.op (.build [(.val (.int .i64 0)),(.val (.int .u32 0))] [(0,1,(.val (.val (.int .i64 1)))),(1,1,(.val (.val (.int .u32 2))))])),((some 101),.op (.old (.binOp .eql 69 (.tmp 99) (.tmp 100) 69) 4)),aa 102 101]⟩,⟨(some (102,true)),[aa 103 4,((some 104),.op (.idx 1 (.tmp 103) (.val (.val (.int .i64 0))))),ak 105 104,ca 106 38 [(.tmp 105),(.val (.val (.int .i64 1)))],((some 107),.op (.bg 1 1 [(.val (.int .i64 0))] [(0,(.val (.val (.int .i64 1))))])),aD 108 37 [106,107]]⟩,⟨none,[bC 109 102 108,aa 110 109]⟩,⟨(some (110,true)),[aa 111 4,((some 112),.op (.idx 1 (.tmp 111) (.val (.val (.int .i64 0))))),ak 113 112,ca 114 38 [(.tmp 113),(.val (.val (.int .i64 0)))],aK 115 114,av 116 .eql 115 0]⟩,⟨none,[bC 117 110 116,aa 118 117]⟩,⟨(some (118,true)),[aa 119 13,av 120 .eql 119 1]⟩,⟨none,[bC 121 118 120,aa 0 121]⟩]) <|
  .ret,
  [.tmp 0],122⟩
theorem nR:aE Tryz.prog 31 []=some jO:=by kernel_rfl
def BX:DC :=
  .seq (ae [aM 57 .lss 56 55]) <|
  .seq (.cond (.tmp 57) (.skip) (.exit 2)) <|
  .seq (.block 3 (.seq (ae [aa 58 56,aL 59 3 54 56,aO 60 3 59,((some 11),.op (.alloc [(.val (.int .i64 0)),(.emp 1),(.val (.int .i64 0))])),aa 10 58,(none,.op (.store 3 (.tmp 11) (.tmp 60)))]) <|
  .seq (ae [al 61 0 11,ak 62 61,al 63 1 9,ak 64 63,aM 65 .eql 62 64]) <|
  .cond (.tmp 65) (.seq (ae [aa 66 6,aO 67 2 9,aO 68 3 11,aD 69 74 [66,67,68],aa 70 10,((some 71),.op (.build [(.val (.int .i64 0)),(.val (.int .i64 0))] [(0,1,(.tmp 69)),(1,1,(.tmp 70))])),((some 12),.op (.alloc [(.val (.int .i64 0)),(.val (.int .i64 0))])),(none,.op (.store 2 (.tmp 12) (.tmp 71)))]) <|
  ae [aa 72 7,aO 73 2 12,aa 75 8,((some 76),.op (.bg 1 1 [(.val (.int .i64 0))] [(0,(.tmp 75))])),((some 77),.op (.old (.mapEntry 114 (.tmp 72) (.tmp 73)) 0)),ct 74 0 77,((some 78),.op (.app 1 8 (.tmp 74) (.tmp 76))),ct 79 1 77,(none,.op (.old (.entryStore 114 (.tmp 72) (.tmp 79) (.tmp 78)) 0))]) (.skip))) <|
  ae [av 80 .add 56 1,aa 56 80]
def BU:DC :=
  .seq (ae [aM 49 .lss 48 47]) <|
  .seq (.cond (.tmp 49) (.skip) (.exit 0)) <|
  .seq (.block 1 (.seq (ae [aa 50 48,aL 51 2 46 48,aO 52 2 51,((some 9),.op (.alloc [(.val (.int .i64 0)),(.val (.int .i64 0))])),aa 8 50,(none,.op (.store 2 (.tmp 9) (.tmp 52)))]) <|
  .seq (ae [al 53 2 1,ak 54 53,aK 55 54,aA 56 0]) <|
  .block 2 (.loop BX))) <|
  ae [av 81 .add 48 1,aa 48 81]
def BR:DC :=
  .seq (ae [aM 111 .lss 110 109]) <|
  .seq (.cond (.tmp 111) (.skip) (.exit 8)) <|
  .seq (.block 9 (.seq (ae [aL 112 1 108 110,ak 113 112,aa 19 113]) <|
  ae [al 114 1 17,ak 115 114,aa 116 6,aZ 117 116,al 118 8 117,ak 119 118,aa 120 19,aL 121 1 119 120,ak 122 121,aM 123 .or 115 122,al 124 1 17,(none,.op (.store 1 (.tmp 124) (.tmp 123)))])) <|
  ae [av 125 .add 110 1,aa 110 125]
def B4:DC :=
  .seq (ae [aM 96 .lss 95 94]) <|
  .seq (.cond (.tmp 96) (.skip) (.exit 6)) <|
  .seq (.block 7 (.seq (ae [aa 97 95,aa 15 97]) <|
  .seq (ae [aa 98 7,aa 99 14,aa 100 15,((some 101),.op (.build [(.val (.int .i64 0)),(.val (.int .i64 0))] [(0,1,(.tmp 99)),(1,1,(.tmp 100))])),((some 102),.op (.old (.lookup 114 (.tmp 98) (.tmp 101) false) 43)),aa 16 102]) <|
  .seq (.seq (ae [aa 103 16,aK 104 103,av 105 .eql 104 0]) <|
  .cond (.tmp 105) (.exit 7) (.skip)) <|
  .seq (ae [aa 106 15,((some 107),.op (.build [(.val (.int .i64 0)),(.val (.int .u32 0))] [(0,1,(.tmp 106))])),((some 17),.op (.alloc [(.val (.int .i64 0)),(.val (.int .u32 0))])),(none,.op (.store 2 (.tmp 17) (.tmp 107)))]) <|
  .seq (.seq (ae [aa 108 16,aK 109 108,aA 110 0]) <|
  .block 8 (.loop BR)) <|
  ae [aa 126 13,aa 127 14,aa 128 13,aa 129 14,aL 130 1 128 129,ak 131 130,aO 132 2 17,((some 133),.op (.bg 1 2 [(.val (.int .i64 0)),(.val (.int .u32 0))] [(0,(.tmp 132))])),((some 134),.op (.app 2 16 (.tmp 131) (.tmp 133))),aL 135 1 126 127,(none,.op (.store 1 (.tmp 135) (.tmp 134)))])) <|
  ae [av 136 .add 95 1,aa 95 136]
def BS:DC :=
  .seq (ae [aM 90 .lss 89 88]) <|
  .seq (.cond (.tmp 90) (.skip) (.exit 4)) <|
  .seq (.block 5 (.seq (ae [aa 91 89,aa 14 91]) <|
  .seq (ae [al 92 2 1,ak 93 92,aK 94 93,aA 95 0]) <|
  .block 6 (.loop B4))) <|
  ae [av 137 .add 89 1,aa 89 137]
def xY:DF:=⟨.seq (ae [cX 1 0,((some 2),.op (.aX (.val (.emp 1)))),aA 3 0]) <|
  .seq (ae [aO 21 4 1,aD 22 24 [21],aa 20 22,ct 23 0 20,ct 24 1 20,aa 4 23,aa 5 24]) <|
  .seq (.seq (ae [aa 25 5,av 26 .neq 25 0]) <|
  .cond (.tmp 26) (.seq (ae [aa 27 5,((some 2),.op (.aX (.val (.emp 1)))),aa 3 27]) <|
  .ret) (.skip)) <|
  .seq (ae [aO 28 4 1,aa 29 4,aD 30 72 [28,29],aa 6 30]) <|
  .seq (ae [aa 31 6,aD 32 73 [31]]) <|
  .seq (ae [aa 33 6,aa 34 6,aZ 35 34,al 36 7 35,ak 37 36,aK 38 37,((some 39),.op (.make 1 24 [(.emp 1)] (.tmp 38) (.tmp 38))),aZ 40 33,al 41 9 40,(none,.op (.store 1 (.tmp 41) (.tmp 39)))]) <|
  .seq (ae [((some 42),.op (.jt)),aa 7 42]) <|
  .seq (.seq (ae [aa 43 6,aZ 44 43,al 45 7 44,ak 46 45,aK 47 46,aA 48 0]) <|
  .block 0 (.loop BU)) <|
  .seq (ae [aa 82 6,aD 83 75 [82]]) <|
  .seq (ae [aa 84 4,aK 85 84,((some 86),.op (.make 1 24 [(.emp 1)] (.tmp 85) (.tmp 85))),aa 13 86]) <|
  .seq (.seq (ae [aa 87 4,aK 88 87,aA 89 0]) <|
  .block 4 (.loop BS)) <|
  .seq (ae [aa 138 13,aa 2 138,aA 3 0]) <|
  .ret,
  [.tmp 2,.tmp 3],139⟩
theorem Ad:aE Tryz.prog 33 [1]=some xY:=by kernel_rfl
def so:DC :=
  .seq (ae [aM 17 .lss 16 15]) <|
  .seq (.cond (.tmp 17) (.skip) (.exit 0)) <|
  .seq (.block 1 (.seq (ae [aa 18 16,aL 19 1 14 16,ak 20 19,aa 8 18,aa 9 20]) <|
  .seq (.seq (.region [] [⟨none,[aa 21 9,av 22 .lss 21 0,aa 23 22]⟩,⟨(some (23,true)),[aa 24 0,al 25 1 5,ak 26 25,aa 27 8,av 28 .add 27 1,((some 29),.op (.slice 1 (.tmp 26) (some (.tmp 28)) none)),aD 30 121 [24,29]]⟩,⟨none,[bC 31 23 30]⟩]) <|
  .cond (.tmp 31) (.seq (ae [aa 32 0,aZ 33 32,al 34 6 33,ak 35 34,aa 36 7,aa 37 9,((some 38),.op (.arith .sub (.val (.val (.int .i64 (-1)))) (.tmp 37))),((some 39),.op (.build [(.val (.int .i64 0)),(.val (.int .i64 0))] [(0,1,(.tmp 36)),(1,1,(.tmp 38))])),((some 40),.op (.old (.lookup 110 (.tmp 35) (.tmp 39) false) 3)),aa 10 40]) <|
  .region [(3,19)] [⟨none,[aa 41 0,aZ 42 41,al 43 9 42,ak 44 43,aa 45 10,aa 46 0,aZ 47 46,al 48 9 47,ak 49 48,aa 50 10,aL 51 1 49 50,ak 52 51,aa 53 0,aZ 54 53,al 55 6 54,ak 56 55,aO 57 2 4,((some 58),.op (.old (.lookup 110 (.tmp 56) (.tmp 57) false) 3)),((some 59),.op (.bg 1 1 [(.val (.int .i64 0))] [(0,(.tmp 58))])),((some 60),.op (.app 1 8 (.tmp 52) (.tmp 59))),aL 61 1 44 45,(none,.op (.store 1 (.tmp 61) (.tmp 60)))]⟩]) (.skip)) <|
  ae [aa 62 0,aa 63 7,aa 64 9,aD 65 119 [62,63,64],aa 7 65])) <|
  ae [av 66 .add 16 1,aa 16 66]
def mQ:DF:=⟨.seq (ae [cX 4 1,cX 5 2,aA 6 0]) <|
  .seq (ae [al 11 0 4,ak 12 11,aa 7 12]) <|
  .seq (.seq (ae [al 13 1 5,ak 14 13,aK 15 14,aA 16 0]) <|
  .block 0 (.loop so)) <|
  .seq (ae [aa 67 7,aa 6 67]) <|
  .ret,
  [.tmp 6],68⟩
theorem q4:aE Tryz.prog 74 [4,5]=some mQ:=by kernel_rfl
def mP:DF:=⟨.seq (ae [cX 2 0,bd 4 false]) <|
  .seq (ae [aa 5 1,((some 6),.op (.mD 172 [] [(.tmp 2)])),aD 7 91 [5,6],cF 8 7,aa 4 8]) <|
  .ret,
  [.tmp 4],9⟩
theorem qZ:aE Tryz.prog 121 [2]=some mP:=by kernel_rfl
def kV:DF:=⟨.seq (ae [bd 3 false]) <|
  .seq (.region [] [⟨none,[aa 4 0,av 5 .geq 4 0,aa 6 5]⟩,⟨(some (6,false)),[ak 7 1,aZ 8 7,al 9 5 8,ak 10 9,aa 11 0,((some 12),.op (.arith .sub (.val (.val (.int .i64 (-1)))) (.tmp 11))),aL 13 1 10 12,ak 14 13,cF 15 14]⟩,⟨none,[bU 16 6 15,aa 3 16]⟩]) <|
  .ret,
  [.tmp 3],17⟩
theorem oz:aE Tryz.prog 172 []=some kV:=by kernel_rfl
def eD:DF:=⟨.seq (ae [bd 4 false]) <|
  .seq (ae [aa 5 0,aa 6 1,aD 7 133 [5,6],av 8 .geq 7 0,aa 4 8]) <|
  .ret,
  [.tmp 4],9⟩
theorem gT:aE Tryz.prog 91 []=some eD:=by kernel_rfl
def ja:DC :=
  .seq (ae [aM 9 .lss 8 7]) <|
  .seq (.cond (.tmp 9) (.skip) (.exit 0)) <|
  .seq (.block 1 (.seq (ae [aa 10 8,aa 5 10]) <|
  .seq (ae [aa 11 1,aa 12 0,aa 13 5,aL 14 1 12 13,ak 15 14,((some 16),.call (.tmp 11) [(.tmp 15)])]) <|
  .cond (.tmp 16) (.seq (ae [aa 17 5,aa 4 17]) <|
  .ret) (.skip))) <|
  ae [av 18 .add 8 1,aa 8 18]
def fa:DF:=⟨.seq (ae [aA 4 0]) <|
  .seq (.seq (ae [aa 6 0,aK 7 6,aA 8 0]) <|
  .block 0 (.loop ja)) <|
  .seq (ae [aA 4 (-1)]) <|
  .ret,
  [.tmp 4],19⟩
theorem iG:aE Tryz.prog 133 []=some fa:=by kernel_rfl
def qN:DF:=⟨.seq (ae [aA 6 0]) <|
  .seq (ae [aa 10 0,aZ 11 10,al 12 4 11,ak 13 12,aa 14 1,aa 15 2,((some 16),.op (.bg 1 1 [(.val (.int .i64 0))] [(0,(.tmp 15))])),aD 17 28 [13,14,16],aa 9 17,ct 18 0 9,ct 19 1 9,aa 7 18,aa 8 19]) <|
  .seq (ae [aa 20 7,aa 6 20]) <|
  .ret,
  [.tmp 6],21⟩
theorem uz:aE Tryz.prog 119 []=some qN:=by kernel_rfl
def y6:DC :=
  .seq (ae [aM 24 .lss 23 22]) <|
  .seq (.cond (.tmp 24) (.skip) (.exit 0)) <|
  .seq (.block 1 (.seq (ae [aL 25 1 21 23,ak 26 25,((some 10),.op (.alloc [(.val (.int .i64 0))])),(none,.op (.store 1 (.tmp 10) (.tmp 26)))]) <|
  .seq (ae [aa 27 0,aa 28 8,aL 29 2 27 28,al 30 1 29,ak 31 30,((some 32),.op (.mD 69 [] [(.tmp 10)])),aD 33 68 [31,32],aa 11 33]) <|
  .seq (.seq (ae [aa 34 11,av 35 .lss 34 0]) <|
  .cond (.tmp 35) (.seq (ae [aA 6 0,bd 7 false]) <|
  .ret) (.skip)) <|
  .seq (ae [aa 36 0,aa 37 8,aL 38 2 36 37,al 39 1 38,ak 40 39,aa 41 11,aL 42 2 40 41,al 43 1 42,ak 44 43,aa 8 44]) <|
  .seq (.region [] [⟨none,[aa 45 8,av 46 .lss 45 0,aa 47 46]⟩,⟨(some (47,false)),[aa 48 8,aa 49 0,aK 50 49,aM 51 .geq 48 50]⟩,⟨none,[bU 52 47 51]⟩]) <|
  .cond (.tmp 52) (.seq (ae [aA 6 0,bd 7 false]) <|
  .ret) (.skip))) <|
  ae [av 53 .add 23 1,aa 23 53]
def tw:DF:=⟨.seq (ae [aA 6 0,bd 7 false]) <|
  .seq (ae [aa 12 1,aa 8 12]) <|
  .seq (.seq (.region [] [⟨none,[aa 13 8,av 14 .lss 13 0,aa 15 14]⟩,⟨(some (15,false)),[aa 16 8,aa 17 0,aK 18 17,aM 19 .geq 16 18]⟩,⟨none,[bU 20 15 19]⟩]) <|
  .cond (.tmp 20) (.seq (ae [aA 6 0,bd 7 false]) <|
  .ret) (.skip)) <|
  .seq (.seq (ae [aa 21 2,aK 22 21,aA 23 0]) <|
  .block 0 (.loop y6)) <|
  .seq (ae [aa 54 8,aa 6 54,bd 7 true]) <|
  .ret,
  [.tmp 6,.tmp 7],55⟩
theorem wZ:aE Tryz.prog 28 []=some tw:=by kernel_rfl
def qS:DF:=⟨.seq (ae [cX 2 0,bd 3 false]) <|
  .seq (ae [al 4 0 2,ak 5 4,ak 6 1,aM 7 .eql 5 6,aa 3 7]) <|
  .ret,
  [.tmp 3],8⟩
theorem uR:aE Tryz.prog 69 [2]=some qS:=by kernel_rfl
def fp:DC :=
  .seq (ae [aM 9 .lss 8 7]) <|
  .seq (.cond (.tmp 9) (.skip) (.exit 0)) <|
  .seq (.block 1 (.seq (ae [aa 10 8,aa 5 10]) <|
  .seq (ae [aa 11 1,aa 12 0,aa 13 5,aL 14 2 12 13,aO 15 2 14,((some 16),.call (.tmp 11) [(.tmp 15)])]) <|
  .cond (.tmp 16) (.seq (ae [aa 17 5,aa 4 17]) <|
  .ret) (.skip))) <|
  ae [av 18 .add 8 1,aa 8 18]
def dp:DF:=⟨.seq (ae [aA 4 0]) <|
  .seq (.seq (ae [aa 6 0,aK 7 6,aA 8 0]) <|
  .block 0 (.loop fp)) <|
  .seq (ae [aA 4 (-1)]) <|
  .ret,
  [.tmp 4],19⟩
theorem fi:aE Tryz.prog 68 []=some dp:=by kernel_rfl
def xc:DC :=
  .seq (ae [aM 49 .lss 48 47]) <|
  .seq (.cond (.tmp 49) (.skip) (.exit 2)) <|
  .seq (.block 3 (.seq (ae [aa 50 48,aa 9 50]) <|
  .seq (ae [aa 51 8,aa 52 9,((some 53),.op (.old (.lookup 98 (.tmp 51) (.tmp 52) false) 27)),aD 54 64 [53],aa 10 54]) <|
  .seq (.seq (ae [aa 55 10,aK 56 55,av 57 .eql 56 0]) <|
  .cond (.tmp 57) (.exit 3) (.skip)) <|
  .seq (ae [aa 58 9,aa 11 58]) <|
  .seq (.seq (ae [aa 59 9,al 60 0 1,ak 61 60,aK 62 61,aM 63 .geq 59 62]) <|
  .cond (.tmp 63) (ae [al 64 0 1,ak 65 64,aK 66 65,av 67 .sub 66 1,aa 68 9,aM 69 .sub 67 68,aa 11 69]) (.skip)) <|
  .seq (ae [aa 71 6,aa 72 10,aD 73 62 [72],((some 74),.op (.old (.lookup 97 (.tmp 71) (.tmp 73) true) 30)),aa 70 74,ct 75 0 70,ct 76 1 70,aa 12 75,aa 13 76]) <|
  .seq (.seq (ae [aa 77 13,cF 78 77]) <|
  .cond (.tmp 78) (.seq (ae [aa 79 5,aK 80 79,aa 12 80]) <|
  .seq (ae [aa 81 6,aa 82 10,aD 83 62 [82],aa 84 12,(none,.op (.old (.mapUpdate 97 (.tmp 81) (.tmp 83) (.tmp 84)) 0))]) <|
  ae [aa 85 5,aa 86 10,((some 87),.op (.build [(.emp 1),(.emp 1)] [(0,1,(.tmp 86))])),((some 88),.op (.bg 1 2 [(.emp 1),(.emp 1)] [(0,(.tmp 87))])),((some 89),.op (.app 2 48 (.tmp 85) (.tmp 88))),aa 5 89]) (.skip)) <|
  ae [aa 90 5,aa 91 7,aa 92 5,aa 93 7,aL 94 2 92 93,al 95 1 94,ak 96 95,aa 97 11,aa 98 12,((some 99),.op (.build [(.val (.int .i64 0)),(.val (.int .i64 0))] [(0,1,(.tmp 97)),(1,1,(.tmp 98))])),((some 100),.op (.bg 1 2 [(.val (.int .i64 0)),(.val (.int .i64 0))] [(0,(.tmp 99))])),((some 101),.op (.app 2 16 (.tmp 96) (.tmp 100))),aL 102 2 90 91,al 103 1 102,(none,.op (.store 1 (.tmp 103) (.tmp 101)))])) <|
  ae [av 104 .add 48 1,aa 48 104]
def w8:DC :=
  .seq (.seq (ae [aa 26 7,aa 27 5,aK 28 27,aM 29 .lss 26 28]) <|
  .cond (.tmp 29) (.skip) (.exit 0)) <|
  .seq (.block 1 (.seq (.region [(0,7)] [⟨none,[aO 32 4 1,aO 33 4 1,aa 34 5,aa 35 7,aL 36 2 34 35,al 37 0 36,ak 38 37,aD 39 56 [33,38],aD 40 63 [32,39],aa 8 40]⟩]) <|
  .seq (.seq (ae [al 41 0 1,ak 42 41,aK 43 42,al 44 1 1,ak 45 44,aK 46 45,aM 47 .add 43 46,aA 48 0]) <|
  .block 2 (.loop xc)) <|
  .seq (ae [aa 105 5,aK 106 105,av 107 .gtr 106 300]) <|
  .cond (.tmp 107) (.seq (ae [((some 2),.op (.aX (.val (.emp 1)))),aA 3 5]) <|
  .ret) (.skip))) <|
  ae [aa 30 7,av 31 .add 30 1,aa 7 31]
def rR:DF:=⟨.seq (ae [cX 1 0,((some 2),.op (.aX (.val (.emp 1)))),aA 3 0]) <|
  .seq (.seq (ae [aO 14 4 1,aD 15 61 [14],cF 16 15]) <|
  .cond (.tmp 16) (.seq (ae [((some 2),.op (.aX (.val (.emp 1)))),aA 3 1]) <|
  .ret) (.skip)) <|
  .seq (ae [((some 17),.op (.build [(.val (.int .i64 0)),(.val (.int .i64 0))] [(0,1,(.val (.val (.int .i64 (-1)))))])),((some 18),.op (.bg 1 2 [(.val (.int .i64 0)),(.val (.int .i64 0))] [(0,(.tmp 17))])),aa 4 18]) <|
  .seq (ae [aa 19 4,((some 20),.op (.build [(.emp 1),(.emp 1)] [(0,1,(.tmp 19))])),((some 21),.op (.bg 1 2 [(.emp 1),(.emp 1)] [(0,(.tmp 20))])),aa 5 21]) <|
  .seq (ae [((some 22),.op (.jt)),aa 23 4,aD 24 62 [23],(none,.op (.old (.insert 97 (.tmp 22) (.tmp 24) (.const (.int .i64 0))) 0)),aa 25 22,aa 6 25]) <|
  .seq (.seq (ae [aA 7 0]) <|
  .block 0 (.loop w8)) <|
  .seq (ae [aa 108 5,aa 2 108,aA 3 0]) <|
  .ret,
  [.tmp 2,.tmp 3],109⟩
theorem vz:aE Tryz.prog 24 [1]=some rR:=by kernel_rfl
def tq:DF:=⟨.seq (ae [((some 2),.op (.aX (.val (.emp 1))))]) <|
  .seq (ae [aa 3 0,ca 4 112 [(.tmp 3),(.val (.fn 113 [] []))]]) <|
  .seq (ae [aa 5 0,aD 6 114 [5],aa 2 6]) <|
  .ret,
  [.tmp 2],7⟩
theorem xF:aE Tryz.prog 64 []=some tq:=by kernel_rfl
def dx:DF:=⟨.seq (ae [aa 5 0,aK 6 5,aa 4 6]) <|
  ae [aa 7 0,aa 8 4,aa 9 4,((some 10),.op (.conv .u64 (.tmp 9))),aD 11 167 [10],aa 12 1,ca 13 166 [(.tmp 7),(.val (.val (.int .i64 0))),(.tmp 8),(.tmp 11),(.tmp 12)]],
  [],14⟩
theorem fq:aE Tryz.prog 112 []=some dx:=by kernel_rfl
def m0:DF:=⟨.seq (ae [aA 2 0]) <|
  .seq (.cond (.val (.val (.bool false))) (.seq (ae [aa 3 0,((some 4),.op (.conv .u32 (.tmp 3))),aD 5 207 [4],aa 2 5]) <|
  .ret) (.skip)) <|
  .seq (ae [aa 6 0,aD 7 208 [6],aa 2 7]) <|
  .ret,
  [.tmp 2],8⟩
theorem rD:aE Tryz.prog 167 []=some m0:=by kernel_rfl
def lB:DF:=⟨.seq (ae [aA 2 0]) <|
  .seq (.seq (ae [aa 3 0,((some 4),.op (.arith .geq (.tmp 3) (.val (.val (.int .u32 65536)))))]) <|
  .cond (.tmp 4) (.seq (ae [aa 5 0,((some 6),.op (.sh false (.tmp 5) (.val (.val (.int .u64 16))))),aa 0 6]) <|
  ae [aA 2 16]) (.skip)) <|
  .seq (.seq (ae [aa 7 0,((some 8),.op (.arith .geq (.tmp 7) (.val (.val (.int .u32 256)))))]) <|
  .cond (.tmp 8) (.seq (ae [aa 9 0,((some 10),.op (.sh false (.tmp 9) (.val (.val (.int .u64 8))))),aa 0 10]) <|
  ae [aa 11 2,av 12 .add 11 8,aa 2 12]) (.skip)) <|
  .seq (.region [] [⟨none,[aa 13 2,aa 14 0,((some 15),.op (.conv .u8 (.tmp 14))),((some 16),.op (.dY (.val (.val (.string ⟨#[0,1,2,2,3,3,3,3,4,4,4,4,4,4,4,4,5,5,5,5,5,5,5,5,5,5,5,5,5,5,5,5,6,6,6,6,6,6,6,6,6,6,6,6,6,6,6,6,6,6,6,6,6,6,6,6,6,6,6,6,6,6,6,6,7,7,7,7,7,7,7,7,7,7,7,7,7,7,7,7,7,7,7,7,7,7,7,7,7,7,7,7,7,7,7,7,7,7,7,7,7,7,7,7,7,7,7,7,7,7,7,7,7,7,7,7,7,7,7,7,7,7,7,7,7,7,7,7,8,8,8,8,8,8,8,8,8,8,8,8,8,8,8,8,8,8,8,8,8,8,8,8,8,8,8,8,8,8,8,8,8,8,8,8,8,8,8,8,8,8,8,8,8,8,8,8,8,8,8,8,8,8,8,8,8,8,8,8,8,8,8,8,8,8,8,8,8,8,8,8,8,8,8,8,8,8,8,8,8,8,8,8,8,8,8,8,8,8,8,8,8,8,8,8,8,8,8,8,8,8,8,8,8,8,8,8,8,8,8,8,8,8,8,8,8,8,8,8,8,8,8,8,8,8,8,8]⟩))) (.tmp 15))),((some 17),.op (.conv .i64 (.tmp 16))),aM 18 .add 13 17,aa 2 18]⟩]) <|
  .ret,
  [.tmp 2],19⟩
theorem pF:aE Tryz.prog 207 []=some lB:=by kernel_rfl
def lG:DF:=⟨.seq (ae [aA 2 0]) <|
  .seq (.seq (ae [aa 3 0,((some 4),.op (.arith .geq (.tmp 3) (.val (.val (.int .u64 4294967296)))))]) <|
  .cond (.tmp 4) (.seq (ae [aa 5 0,((some 6),.op (.sh false (.tmp 5) (.val (.val (.int .u64 32))))),aa 0 6]) <|
  ae [aA 2 32]) (.skip)) <|
  .seq (.seq (ae [aa 7 0,((some 8),.op (.arith .geq (.tmp 7) (.val (.val (.int .u64 65536)))))]) <|
  .cond (.tmp 8) (.seq (ae [aa 9 0,((some 10),.op (.sh false (.tmp 9) (.val (.val (.int .u64 16))))),aa 0 10]) <|
  ae [aa 11 2,av 12 .add 11 16,aa 2 12]) (.skip)) <|
  .seq (.seq (ae [aa 13 0,((some 14),.op (.arith .geq (.tmp 13) (.val (.val (.int .u64 256)))))]) <|
  .cond (.tmp 14) (.seq (ae [aa 15 0,((some 16),.op (.sh false (.tmp 15) (.val (.val (.int .u64 8))))),aa 0 16]) <|
  ae [aa 17 2,av 18 .add 17 8,aa 2 18]) (.skip)) <|
  .seq (.region [] [⟨none,[aa 19 2,aa 20 0,((some 21),.op (.conv .u8 (.tmp 20))),((some 22),.op (.dY (.val (.val (.string ⟨#[0,1,2,2,3,3,3,3,4,4,4,4,4,4,4,4,5,5,5,5,5,5,5,5,5,5,5,5,5,5,5,5,6,6,6,6,6,6,6,6,6,6,6,6,6,6,6,6,6,6,6,6,6,6,6,6,6,6,6,6,6,6,6,6,7,7,7,7,7,7,7,7,7,7,7,7,7,7,7,7,7,7,7,7,7,7,7,7,7,7,7,7,7,7,7,7,7,7,7,7,7,7,7,7,7,7,7,7,7,7,7,7,7,7,7,7,7,7,7,7,7,7,7,7,7,7,7,7,8,8,8,8,8,8,8,8,8,8,8,8,8,8,8,8,8,8,8,8,8,8,8,8,8,8,8,8,8,8,8,8,8,8,8,8,8,8,8,8,8,8,8,8,8,8,8,8,8,8,8,8,8,8,8,8,8,8,8,8,8,8,8,8,8,8,8,8,8,8,8,8,8,8,8,8,8,8,8,8,8,8,8,8,8,8,8,8,8,8,8,8,8,8,8,8,8,8,8,8,8,8,8,8,8,8,8,8,8,8,8,8,8,8,8,8,8,8,8,8,8,8,8,8,8,8,8,8]⟩))) (.tmp 21))),((some 23),.op (.conv .i64 (.tmp 22))),aM 24 .add 19 23,aa 2 24]⟩]) <|
  .ret,
  [.tmp 2],25⟩
theorem pY:aE Tryz.prog 208 []=some lG:=by kernel_rfl
def gR:DC :=
  .block 1 (.seq (ae [aa 21 2,aa 22 1,aM 23 .sub 21 22,aa 12 23]) <|
  .seq (.seq (ae [aa 24 12,av 25 .leq 24 12]) <|
  .cond (.tmp 25) (.seq (ae [aa 26 0,aa 27 1,aa 28 2,aa 29 4,aD 30 199 [26,27,28,29]]) <|
  .ret) (.skip)) <|
  .seq (.seq (ae [aa 31 3,av 32 .eql 31 0]) <|
  .cond (.tmp 32) (.seq (ae [aa 33 0,aa 34 1,aa 35 2,aa 36 4,aD 37 200 [33,34,35,36]]) <|
  .ret) (.skip)) <|
  .seq (.seq (ae [aa 38 10,cF 39 38]) <|
  .cond (.tmp 39) (.seq (ae [aa 40 0,aa 41 1,aa 42 2,aa 43 4,aD 44 201 [40,41,42,43]]) <|
  ae [aa 45 3,av 46 .sub 45 1,aa 3 46]) (.skip)) <|
  .seq (ae [aa 48 0,aa 49 1,aa 50 2,aa 51 4,aD 52 202 [48,49,50,51],aa 47 52,ct 53 0 47,ct 54 1 47,aa 13 53,aa 14 54]) <|
  .seq (.seq (ae [aa 55 14,av 56 .eql 55 2]) <|
  .cond (.tmp 56) (.seq (ae [aa 57 0,aa 58 1,aa 59 2,aa 60 4,aD 61 203 [57,58,59,60]]) <|
  .seq (ae [aa 62 2,av 63 .sub 62 1,aa 64 13,aa 65 1,aM 66 .sub 64 65,aM 67 .sub 63 66,aa 13 67]) <|
  ae [aA 14 1]) (.skip)) <|
  .seq (.seq (.region [] [⟨none,[aa 68 10,aa 69 68]⟩,⟨(some (69,true)),[aa 70 11]⟩,⟨none,[bC 71 69 70,aa 72 71]⟩,⟨(some (72,true)),[aa 73 14,av 74 .eql 73 1]⟩,⟨none,[bC 75 72 74]⟩]) <|
  .cond (.tmp 75) (.seq (ae [aa 76 0,aa 77 1,aa 78 2,aa 79 4,aD 80 204 [76,77,78,79]]) <|
  .cond (.tmp 80) (.ret) (.skip)) (.skip)) <|
  .seq (.seq (.region [] [⟨none,[aa 81 1,av 82 .gtr 81 0,aa 83 82]⟩,⟨(some (83,true)),[aa 84 4,aa 85 0,aa 86 1,av 87 .sub 86 1,aL 88 2 85 87,aO 89 2 88,aa 90 0,aa 91 13,aL 92 2 90 91,aO 93 2 92,((some 94),.call (.tmp 84) [(.tmp 89),(.tmp 93)]),av 95 .lss 94 0,cF 96 95]⟩,⟨none,[bC 97 83 96]⟩]) <|
  .cond (.tmp 97) (.seq (ae [aa 98 0,aa 99 1,aa 100 2,aa 101 13,aa 102 4,aD 103 205 [98,99,100,101,102],aa 15 103]) <|
  .seq (ae [aa 104 15,aa 1 104]) <|
  .exit 1) (.skip)) <|
  .seq (ae [aa 106 0,aa 107 1,aa 108 2,aa 109 13,aa 110 4,aD 111 206 [106,107,108,109,110],aa 105 111,ct 112 0 105,ct 113 1 105,aa 16 112,aa 17 113]) <|
  .seq (ae [aa 114 17,aa 11 114]) <|
  .seq (ae [aa 115 16,aa 116 1,aM 117 .sub 115 116,aa 118 2,aa 119 16,aM 120 .sub 118 119,aa 18 117,aa 19 120]) <|
  .seq (ae [aa 121 12,av 122 .quo 121 8,aa 20 122]) <|
  .seq (ae [aa 123 18,aa 124 19,aM 125 .lss 123 124]) <|
  .cond (.tmp 125) (.seq (ae [aa 126 18,aa 127 20,aM 128 .geq 126 127,aa 10 128]) <|
  .seq (ae [aa 129 0,aa 130 1,aa 131 16,aa 132 3,aa 133 4,aD 134 166 [129,130,131,132,133]]) <|
  ae [aa 135 16,av 136 .add 135 1,aa 1 136]) (.seq (ae [aa 137 19,aa 138 20,aM 139 .geq 137 138,aa 10 139]) <|
  .seq (ae [aa 140 0,aa 141 16,av 142 .add 141 1,aa 143 2,aa 144 3,aa 145 4,aD 146 166 [140,142,143,144,145]]) <|
  ae [aa 147 16,aa 2 147]))
def ep:DF:=⟨.seq (ae [bd 10 true]) <|
  .seq (ae [bd 11 true]) <|
  .block 0 (.loop gR),
  [],148⟩
theorem gI:aE Tryz.prog 166 []=some ep:=by kernel_rfl
def fv:DC :=
  .seq (.seq (.region [] [⟨none,[aa 18 9,aa 19 1,aM 20 .gtr 18 19,aa 21 20]⟩,⟨(some (21,true)),[aa 22 3,aa 23 0,aa 24 9,aL 25 2 23 24,aO 26 2 25,aa 27 0,aa 28 9,av 29 .sub 28 1,aL 30 2 27 29,aO 31 2 30,((some 32),.call (.tmp 22) [(.tmp 26),(.tmp 31)]),av 33 .lss 32 0]⟩,⟨none,[bC 34 21 33]⟩]) <|
  .cond (.tmp 34) (.skip) (.exit 2)) <|
  .seq (.block 3 (ae [aa 37 0,aa 38 9,aa 39 0,aa 40 9,av 41 .sub 40 1,aa 42 0,aa 43 9,av 44 .sub 43 1,aL 45 2 42 44,aO 46 2 45,aa 47 0,aa 48 9,aL 49 2 47 48,aO 50 2 49,aL 51 2 37 38,(none,.op (.store 2 (.tmp 51) (.tmp 46))),aL 52 2 39 41,(none,.op (.store 2 (.tmp 52) (.tmp 50)))])) <|
  ae [aa 35 9,av 36 .sub 35 1,aa 9 36]
def fw:DC :=
  .seq (.seq (ae [aa 12 8,aa 13 2,aM 14 .lss 12 13]) <|
  .cond (.tmp 14) (.skip) (.exit 0)) <|
  .seq (.block 1 (.seq (ae [aa 17 8,aa 9 17]) <|
  .block 2 (.loop fv))) <|
  ae [aa 15 8,av 16 .add 15 1,aa 8 16]
def dt:DF:=⟨.seq (ae [aa 10 1,av 11 .add 10 1,aa 8 11]) <|
  .block 0 (.loop fw),
  [],53⟩
theorem fm:aE Tryz.prog 199 []=some dt:=by kernel_rfl
def rn:DF:=⟨.seq (ae [cX 2 0,cX 3 1,aA 4 0]) <|
  .seq (.region [(4,6),(4,8)] [⟨none,[al 5 0 2,ak 6 5,al 7 0 3,ak 8 7,aD 9 126 [6,8],al 10 1 2,ak 11 10,al 12 1 3,ak 13 12,aD 14 126 [11,13],((some 15),.op (.bg 2 1 [(.val (.int .i64 0))] [(0,(.tmp 9)),(1,(.tmp 14))])),aD 16 168 [15],aa 4 16]⟩]) <|
  .ret,
  [.tmp 4],17⟩
theorem vS:aE Tryz.prog 113 [2,3]=some rn:=by kernel_rfl
def kN:DF:=⟨.seq (ae [aA 4 0]) <|
  .seq (ae [aa 7 0,aD 8 173 [7],aa 5 8]) <|
  .seq (ae [aa 9 1,aD 10 173 [9],aa 6 10]) <|
  .seq (.seq (ae [aa 11 5]) <|
  .cond (.tmp 11) (.seq (.seq (ae [aa 12 6]) <|
  .cond (.tmp 12) (.seq (ae [aA 4 0]) <|
  .ret) (.skip)) <|
  .seq (ae [aA 4 (-1)]) <|
  .ret) (.skip)) <|
  .seq (.seq (ae [aa 13 6]) <|
  .cond (.tmp 13) (.seq (ae [aA 4 1]) <|
  .ret) (.skip)) <|
  .seq (.seq (ae [aa 14 0,aa 15 1,aM 16 .lss 14 15]) <|
  .cond (.tmp 16) (.seq (ae [aA 4 (-1)]) <|
  .ret) (.skip)) <|
  .seq (.seq (ae [aa 17 0,aa 18 1,aM 19 .gtr 17 18]) <|
  .cond (.tmp 19) (.seq (ae [aA 4 1]) <|
  .ret) (.skip)) <|
  .seq (ae [aA 4 0]) <|
  .ret,
  [.tmp 4],20⟩
theorem oJ:aE Tryz.prog 126 []=some kN:=by kernel_rfl
def mL:DF:=⟨.seq (ae [bd 2 false]) <|
  .seq (ae [aa 3 0,aa 4 0,aM 5 .neq 3 4,aa 2 5]) <|
  .ret,
  [.tmp 2],6⟩
theorem qY:aE Tryz.prog 173 []=some mL:=by kernel_rfl
def vY:DC :=
  .seq (ae [aM 9 .lss 8 7]) <|
  .seq (.cond (.tmp 9) (.skip) (.exit 0)) <|
  .seq (.block 1 (.seq (ae [aL 10 1 6 8,ak 11 10,aa 5 11]) <|
  .seq (ae [aa 12 5,aa 13 3,aM 14 .neq 12 13]) <|
  .cond (.tmp 14) (.seq (ae [aa 15 5,aa 2 15]) <|
  .ret) (.skip))) <|
  ae [av 16 .add 8 1,aa 8 16]
def qA:DF:=⟨.seq (ae [aA 2 0]) <|
  .seq (ae [aA 3 0]) <|
  .seq (.seq (ae [aa 6 0,aK 7 6,aA 8 0]) <|
  .block 0 (.loop vY)) <|
  .seq (ae [aa 17 3,aa 2 17]) <|
  .ret,
  [.tmp 2],18⟩
theorem uJ:aE Tryz.prog 168 []=some qA:=by kernel_rfl
def fO:DC :=
  .seq (.seq (ae [aa 29 5,aa 30 4,aK 31 30,aM 32 .lss 29 31]) <|
  .cond (.tmp 32) (.skip) (.exit 2)) <|
  .seq (.block 3 (.seq (ae [aa 35 4,aa 36 5,aL 37 2 35 36,aO 38 2 37,aa 39 4,aa 40 5,av 41 .sub 40 1,aL 42 2 39 41,aO 43 2 42,((some 44),.op (.old (.binOp .neq 33 (.tmp 38) (.tmp 43) 33) 4))]) <|
  .cond (.tmp 44) (.seq (ae [aa 45 0,aa 46 3,aa 47 4,aa 48 5,aL 49 2 47 48,aO 50 2 49,aL 51 2 45 46,(none,.op (.store 2 (.tmp 51) (.tmp 50)))]) <|
  ae [aa 52 3,av 53 .add 52 1,aa 3 53]) (.skip))) <|
  ae [aa 33 5,av 34 .add 33 1,aa 5 34]
def fJ:DC :=
  .seq (.seq (ae [aa 10 3,aa 11 0,aK 12 11,aM 13 .lss 10 12]) <|
  .cond (.tmp 13) (.skip) (.exit 0)) <|
  .seq (.block 1 (.seq (ae [aa 16 0,aa 17 3,aL 18 2 16 17,aO 19 2 18,aa 20 0,aa 21 3,av 22 .sub 21 1,aL 23 2 20 22,aO 24 2 23,((some 25),.op (.old (.binOp .eql 33 (.tmp 19) (.tmp 24) 33) 4))]) <|
  .cond (.tmp 25) (.seq (ae [aa 26 0,aa 27 3,((some 28),.op (.slice 2 (.tmp 26) (some (.tmp 27)) none)),aa 4 28]) <|
  .seq (.seq (ae [aA 5 1]) <|
  .block 2 (.loop fO)) <|
  .seq (ae [aa 54 0,aa 55 3,((some 56),.op (.slice 2 (.tmp 54) (some (.tmp 55)) none)),(none,.op (.old (.call { callee:=.builtin .clear,args:=#[(.tmp 56)],argTypes:=#[27] }) 0))]) <|
  .seq (ae [aa 57 0,aa 58 3,((some 59),.op (.slice 2 (.tmp 57) none (some (.tmp 58)))),aa 2 59]) <|
  .ret) (.skip))) <|
  ae [aa 14 3,av 15 .add 14 1,aa 3 15]
def dH:DF:=⟨.seq (ae [((some 2),.op (.aX (.val (.emp 1))))]) <|
  .seq (.seq (ae [aa 6 0,aK 7 6,av 8 .lss 7 2]) <|
  .cond (.tmp 8) (.seq (ae [aa 9 0,aa 2 9]) <|
  .ret) (.skip)) <|
  .seq (.seq (ae [aA 3 1]) <|
  .block 0 (.loop fJ)) <|
  .seq (ae [aa 60 0,aa 2 60]) <|
  .ret,
  [.tmp 2],61⟩
theorem fB:aE Tryz.prog 114 []=some dH:=by kernel_rfl
def AF:DC :=
  .seq (ae [aM 9 .lss 8 7]) <|
  .seq (.cond (.tmp 9) (.skip) (.exit 0)) <|
  .seq (.block 1 (.seq (ae [aL 10 2 6 8,aO 11 2 10,((some 5),.op (.alloc [(.val (.int .i64 0)),(.val (.int .i64 0))])),(none,.op (.store 2 (.tmp 5) (.tmp 11)))]) <|
  ae [aa 12 3,al 13 0 5,ak 14 13,av 15 .add 14 1,((some 16),.op (.conv .u8 (.tmp 15))),al 17 1 5,ak 18 17,((some 19),.op (.conv .u8 (.tmp 18))),((some 20),.op (.bg 2 1 [(.val (.int .u8 0))] [(0,(.tmp 16)),(1,(.tmp 19))])),((some 21),.op (.app 1 1 (.tmp 12) (.tmp 20))),aa 3 21])) <|
  ae [av 22 .add 8 1,aa 8 22]
def wv:DF:=⟨.seq (.region [] [⟨none,[((some 2),.op (.aX (.val (.val (.string ⟨#[]⟩)))))]⟩]) <|
  .seq (ae [((some 3),.op (.aX (.val (.emp 1))))]) <|
  .seq (.seq (ae [aa 6 0,aK 7 6,aA 8 0]) <|
  .block 0 (.loop AF)) <|
  .seq (ae [aa 23 3,((some 24),.op (.old (.convert 91 9 (.tmp 23)) 9)),aa 2 24]) <|
  .ret,
  [.tmp 2],25⟩
theorem y0:aE Tryz.prog 62 []=some wv:=by kernel_rfl
def uI:DC :=
  .seq (ae [aM 54 .lss 53 52]) <|
  .seq (.cond (.tmp 54) (.skip) (.exit 2)) <|
  .seq (.block 3 (.seq (ae [aa 55 53,aL 56 3 51 53,aO 57 3 56,((some 11),.op (.alloc [(.val (.int .i64 0)),(.emp 1),(.val (.int .i64 0))])),aa 10 55,(none,.op (.store 3 (.tmp 11) (.tmp 57)))]) <|
  .seq (ae [al 58 0 11,ak 59 58,aa 60 8,((some 61),.op (.arith .sub (.val (.val (.int .i64 (-1)))) (.tmp 60))),aM 62 .eql 59 61]) <|
  .cond (.tmp 62) (ae [aa 63 5,aa 64 10,((some 65),.op (.build [(.val (.int .i64 0)),(.val (.int .i64 0))] [(0,1,(.tmp 64))])),((some 66),.op (.bg 1 2 [(.val (.int .i64 0)),(.val (.int .i64 0))] [(0,(.tmp 65))])),((some 67),.op (.app 2 16 (.tmp 63) (.tmp 66))),aa 5 67]) (.skip))) <|
  ae [av 68 .add 53 1,aa 53 68]
def uq:DC :=
  .seq (.seq (ae [aa 18 7,aa 19 5,aK 20 19,aM 21 .lss 18 20]) <|
  .cond (.tmp 21) (.skip) (.exit 0)) <|
  .seq (.block 1 (.seq (ae [aO 25 4 2,aa 26 5,aa 27 7,aL 28 2 26 27,aO 29 2 28,aD 30 50 [25,29],aa 24 30,ct 31 0 24,ct 32 1 24,aa 8 31,aa 9 32]) <|
  .seq (.seq (.region [] [⟨none,[aa 33 9,cF 34 33,aa 35 34]⟩,⟨(some (35,false)),[aa 36 8,av 37 .geq 36 0]⟩,⟨none,[bU 38 35 37,aa 39 38]⟩,⟨(some (39,false)),[aa 40 6,aa 41 8,((some 42),.op (.arith .sub (.val (.val (.int .i64 (-1)))) (.tmp 41))),aL 43 1 40 42,ak 44 43]⟩,⟨none,[bU 45 39 44]⟩]) <|
  .cond (.tmp 45) (.exit 1) (.skip)) <|
  .seq (ae [aa 46 6,aa 47 8,((some 48),.op (.arith .sub (.val (.val (.int .i64 (-1)))) (.tmp 47))),aL 49 1 46 48,(none,.op (.store 1 (.tmp 49) (.val (.val (.bool true)))))]) <|
  .seq (ae [al 50 2 2,ak 51 50,aK 52 51,aA 53 0]) <|
  .block 2 (.loop uI))) <|
  ae [aa 22 7,av 23 .add 22 1,aa 7 23]
def pv:DF:=⟨.seq (ae [cX 2 0,((some 4),.op (.aX (.val (.emp 1))))]) <|
  .seq (ae [aa 12 1,aD 13 58 [12],aa 5 13]) <|
  .seq (ae [al 14 1 2,ak 15 14,aK 16 15,((some 17),.op (.make 1 1 [(.val (.bool false))] (.tmp 16) (.tmp 16))),aa 6 17]) <|
  .seq (.seq (ae [aA 7 0]) <|
  .block 0 (.loop uq)) <|
  .seq (ae [aa 69 5,aD 70 64 [69],aa 4 70]) <|
  .ret,
  [.tmp 4],71⟩
theorem tg:aE Tryz.prog 56 [2]=some pv:=by kernel_rfl
def tL:DF:=⟨.seq (ae [cX 2 0,cX 3 1,aA 4 0,bd 5 false]) <|
  .seq (.seq (ae [aO 7 4 2,al 8 0 3,ak 9 8,aD 10 53 [7,9],aa 6 10]) <|
  .seq (ae [al 11 1 3,ak 12 11,aa 13 6,aK 14 13,aM 15 .lss 12 14]) <|
  .cond (.tmp 15) (.seq (ae [aa 16 6,al 17 1 3,ak 18 17,aL 19 1 16 18,ak 20 19,aa 4 20,bd 5 true]) <|
  .ret) (.skip)) <|
  .seq (ae [aA 4 0,bd 5 false]) <|
  .ret,
  [.tmp 4,.tmp 5],21⟩
theorem xA:aE Tryz.prog 50 [2,3]=some tL:=by kernel_rfl
def sj:DF:=⟨.seq (ae [cX 2 0,((some 4),.op (.aX (.val (.emp 1))))]) <|
  .seq (.seq (ae [aa 5 1,av 6 .eql 5 (-1)]) <|
  .cond (.tmp 6) (.seq (ae [al 7 3 2,ak 8 7,((some 9),.op (.arith .sub (.val (.val (.int .i64 (-1)))) (.tmp 8))),((some 10),.op (.bg 1 1 [(.val (.int .i64 0))] [(0,(.tmp 9))])),aa 4 10]) <|
  .ret) (.skip)) <|
  .seq (ae [al 11 2 2,ak 12 11,aa 13 1,aL 14 3 12 13,al 15 1 14,ak 16 15,aa 4 16]) <|
  .ret,
  [.tmp 4],17⟩
theorem vy:aE Tryz.prog 53 [2]=some sj:=by kernel_rfl
def dU:DF:=⟨.seq (ae [((some 2),.op (.aX (.val (.emp 1))))]) <|
  .seq (.seq (ae [aa 3 0,((some 4),.op (.nil true 0 (.tmp 3) (.val (.emp 1))))]) <|
  .cond (.tmp 4) (.seq (ae [((some 2),.op (.aX (.val (.emp 1))))]) <|
  .ret) (.skip)) <|
  .seq (ae [((some 5),.op (.aX (.val (.emp 2)))),aa 6 0,((some 7),.op (.app 2 16 (.tmp 5) (.tmp 6))),aa 2 7]) <|
  .ret,
  [.tmp 2],8⟩
theorem fT:aE Tryz.prog 58 []=some dU:=by kernel_rfl
def xl:DC :=
  .seq (ae [aM 15 .lss 14 13]) <|
  .seq (.cond (.tmp 15) (.skip) (.exit 0)) <|
  .seq (.block 1 (.seq (ae [aL 16 2 12 14,aO 17 2 16,((some 7),.op (.alloc [(.val (.int .i64 0)),(.val (.int .i64 0))])),(none,.op (.store 2 (.tmp 7) (.tmp 17)))]) <|
  .seq (ae [aO 19 4 2,aO 20 2 7,aD 21 50 [19,20],aa 18 21,ct 22 0 18,ct 23 1 18,aa 8 22,aa 9 23]) <|
  .seq (ae [aa 24 9]) <|
  .cond (.tmp 24) (.seq (ae [aO 25 4 2,aa 26 8,aD 27 111 [25,26],aa 10 27]) <|
  ae [aa 28 5,aa 29 10,aa 30 5,aa 31 10,((some 32),.op (.old (.lookup 98 (.tmp 30) (.tmp 31) false) 27)),al 33 0 7,ak 34 33,al 35 1 7,ak 36 35,av 37 .add 36 1,((some 38),.op (.build [(.val (.int .i64 0)),(.val (.int .i64 0))] [(0,1,(.tmp 34)),(1,1,(.tmp 37))])),((some 39),.op (.bg 1 2 [(.val (.int .i64 0)),(.val (.int .i64 0))] [(0,(.tmp 38))])),((some 40),.op (.app 2 16 (.tmp 32) (.tmp 39))),(none,.op (.old (.mapUpdate 98 (.tmp 28) (.tmp 29) (.tmp 40)) 0))]) (.skip))) <|
  ae [av 41 .add 14 1,aa 14 41]
def sK:DF:=⟨.seq (ae [cX 2 0,((some 4),.op (.aX (.val (.val (.map none)))))]) <|
  .seq (ae [((some 11),.op (.jt)),aa 5 11]) <|
  .seq (.seq (ae [aa 12 1,aK 13 12,aA 14 0]) <|
  .block 0 (.loop xl)) <|
  .seq (ae [aa 42 5,aa 4 42]) <|
  .ret,
  [.tmp 4],43⟩
theorem vM:aE Tryz.prog 63 [2]=some sK:=by kernel_rfl
def tH:DF:=⟨.seq (ae [cX 2 0,aA 4 0]) <|
  .seq (.seq (ae [aa 5 1,av 6 .lss 5 0]) <|
  .cond (.tmp 6) (.seq (ae [al 7 0 2,ak 8 7,aK 9 8,av 10 .sub 9 1,aa 11 1,aM 12 .sub 10 11,aa 4 12]) <|
  .ret) (.skip)) <|
  .seq (ae [aa 13 1,aa 4 13]) <|
  .ret,
  [.tmp 4],14⟩
theorem xw:aE Tryz.prog 111 [2]=some tH:=by kernel_rfl
def xd:DC :=
  .seq (ae [aM 29 .lss 28 27]) <|
  .seq (.cond (.tmp 29) (.skip) (.exit 2)) <|
  .seq (.block 3 (.seq (ae [aL 30 2 26 28,aO 31 2 30,((some 9),.op (.alloc [(.val (.int .i64 0)),(.val (.int .i64 0))])),(none,.op (.store 2 (.tmp 9) (.tmp 31)))]) <|
  .seq (ae [al 32 0 9,ak 33 32,av 34 .lss 33 0]) <|
  .cond (.tmp 34) (.seq (ae [aa 35 6,al 36 0 9,ak 37 36,((some 38),.op (.arith .sub (.val (.val (.int .i64 (-1)))) (.tmp 37))),((some 39),.op (.build [(.val (.int .i64 0)),(.val (.int .i64 0))] [(0,1,(.tmp 35)),(1,1,(.tmp 38))])),((some 10),.op (.alloc [(.val (.int .i64 0)),(.val (.int .i64 0))])),(none,.op (.store 2 (.tmp 10) (.tmp 39)))]) <|
  .seq (ae [aa 40 5,aZ 41 40,al 42 6 41,ak 43 42,aO 44 2 10,aa 45 5,aZ 46 45,al 47 7 46,ak 48 47,aK 49 48,(none,.op (.old (.mapUpdate 110 (.tmp 43) (.tmp 44) (.tmp 49)) 0))]) <|
  ae [aa 50 5,aa 51 5,aZ 52 51,al 53 7 52,ak 54 53,aO 55 2 10,((some 56),.op (.bg 1 2 [(.val (.int .i64 0)),(.val (.int .i64 0))] [(0,(.tmp 55))])),((some 57),.op (.app 2 16 (.tmp 54) (.tmp 56))),aZ 58 50,al 59 7 58,(none,.op (.store 1 (.tmp 59) (.tmp 57)))]) (.skip))) <|
  ae [av 60 .add 28 1,aa 28 60]
def xq:DC :=
  .seq (ae [aM 21 .lss 20 19]) <|
  .seq (.cond (.tmp 21) (.skip) (.exit 0)) <|
  .seq (.block 1 (.seq (ae [aa 22 20,aL 23 2 18 20,aO 24 2 23,((some 7),.op (.alloc [(.emp 1),(.emp 1)])),aa 6 22,(none,.op (.store 2 (.tmp 7) (.tmp 24)))]) <|
  .seq (ae [al 25 1 7,ak 26 25,aK 27 26,aA 28 0]) <|
  .block 2 (.loop xd))) <|
  ae [av 61 .add 20 1,aa 20 61]
def su:DF:=⟨.seq (ae [cX 2 0,((some 4),.op (.aX (.val (.val (.pointer none)))))]) <|
  .seq (.region [(0,3),(3,4)] [⟨none,[aO 11 4 2,aa 12 1,aO 13 4 2,aD 14 118 [13],((some 15),.op (.jt)),((some 16),.op (.build [(.emp 1),(.emp 1),(.emp 1),(.val (.int .i64 0)),(.emp 1),(.emp 1),(.val (.map none)),(.emp 1),(.emp 1),(.emp 1)] [(0,4,(.tmp 11)),(4,1,(.tmp 12)),(5,1,(.tmp 14)),(6,1,(.tmp 15))])),((some 17),.op (.box (.tmp 16))),aa 5 17]⟩]) <|
  .seq (.seq (ae [aa 18 1,aK 19 18,aA 20 0]) <|
  .block 0 (.loop xq)) <|
  .seq (ae [aa 62 5,aa 63 5,aZ 64 63,al 65 7 64,ak 66 65,aK 67 66,((some 68),.op (.make 1 4 [(.val (.int .u32 0))] (.tmp 67) (.tmp 67))),aZ 69 62,al 70 8 69,(none,.op (.store 1 (.tmp 70) (.tmp 68)))]) <|
  .seq (ae [aa 71 5,aa 72 5,aZ 73 72,al 74 7 73,ak 75 74,aK 76 75,((some 77),.op (.make 1 24 [(.emp 1)] (.tmp 76) (.tmp 76))),aZ 78 71,al 79 9 78,(none,.op (.store 1 (.tmp 79) (.tmp 77)))]) <|
  .seq (ae [aa 80 5,aa 4 80]) <|
  .ret,
  [.tmp 4],81⟩
theorem vw:aE Tryz.prog 72 [2]=some su:=by kernel_rfl
def th:DC :=
  .seq (ae [aM 73 .lss 72 71]) <|
  .seq (.cond (.tmp 73) (.skip) (.exit 2)) <|
  .seq (.block 3 (.seq (ae [aL 74 2 70 72,aO 75 2 74,((some 6),.op (.alloc [(.val (.int .i64 0)),(.val (.int .i64 0))])),(none,.op (.store 2 (.tmp 6) (.tmp 75)))]) <|
  .seq (ae [al 76 0 6,ak 77 76,av 78 .geq 77 0]) <|
  .cond (.tmp 78) (.region [(3,10),(6,10)] [⟨none,[aa 79 0,aZ 80 79,al 81 8 80,ak 82 81,aa 83 2,aL 84 1 82 83,ak 85 84,al 86 0 6,ak 87 86,((some 88),.op (.bg 1 1 [(.val (.int .i64 0))] [(0,(.tmp 87))])),aD 89 120 [88],aM 90 .or 85 89,aL 91 1 82 83,(none,.op (.store 1 (.tmp 91) (.tmp 90)))]⟩]) (.seq (ae [aa 92 0,aZ 93 92,al 94 5 93,ak 95 94,al 96 0 6,ak 97 96,((some 98),.op (.arith .sub (.val (.val (.int .i64 (-1)))) (.tmp 97))),aL 99 1 95 98,ak 100 99]) <|
  .cond (.tmp 100) (.region [(3,23)] [⟨none,[aa 101 0,aZ 102 101,al 103 9 102,ak 104 103,aa 105 2,aa 106 0,aZ 107 106,al 108 9 107,ak 109 108,aa 110 2,aL 111 1 109 110,ak 112 111,aa 113 0,aZ 114 113,al 115 6 114,ak 116 115,aa 117 4,al 118 0 6,ak 119 118,((some 120),.op (.arith .sub (.val (.val (.int .i64 (-1)))) (.tmp 119))),((some 121),.op (.build [(.val (.int .i64 0)),(.val (.int .i64 0))] [(0,1,(.tmp 117)),(1,1,(.tmp 120))])),((some 122),.op (.old (.lookup 110 (.tmp 116) (.tmp 121) false) 3)),((some 123),.op (.bg 1 1 [(.val (.int .i64 0))] [(0,(.tmp 122))])),((some 124),.op (.app 1 8 (.tmp 112) (.tmp 123))),aL 125 1 104 105,(none,.op (.store 1 (.tmp 125) (.tmp 124)))]⟩]) (.skip)))) <|
  ae [av 126 .add 72 1,aa 72 126]
def tj:DC :=
  .seq (ae [aM 22 .lss 21 20]) <|
  .seq (.cond (.tmp 22) (.skip) (.exit 0)) <|
  .seq (.block 1 (.seq (ae [aa 23 21,aL 24 2 19 21,aO 25 2 24,((some 3),.op (.alloc [(.val (.int .i64 0)),(.val (.int .i64 0))])),aa 2 23,(none,.op (.store 2 (.tmp 3) (.tmp 25)))]) <|
  .seq (ae [aa 26 0,al 27 0 3,ak 28 27,al 29 1 3,ak 30 29,((some 31),.op (.arith .sub (.val (.val (.int .i64 (-1)))) (.tmp 30))),aD 32 119 [26,28,31],aa 4 32]) <|
  .seq (.seq (.region [] [⟨none,[al 33 0 3,ak 34 33,av 35 .eql 34 0,aa 36 35]⟩,⟨(some (36,true)),[al 37 1 3,ak 38 37,aa 39 0,aZ 40 39,al 41 0 40,al 42 3 41,ak 43 42,aM 44 .eql 38 43]⟩,⟨none,[bC 45 36 44]⟩]) <|
  .cond (.tmp 45) (.region [(3,14),(6,14)] [⟨none,[aa 46 0,aZ 47 46,al 48 8 47,ak 49 48,aa 50 2,aL 51 1 49 50,ak 52 51,aa 53 0,aZ 54 53,al 55 0 54,al 56 0 55,ak 57 56,aK 58 57,((some 59),.op (.bg 1 1 [(.val (.int .i64 0))] [(0,(.tmp 58))])),aD 60 120 [59],aM 61 .or 52 60,aL 62 1 49 50,(none,.op (.store 1 (.tmp 62) (.tmp 61)))]⟩]) (.skip)) <|
  .seq (ae [aa 63 0,aZ 64 63,al 65 4 64,ak 66 65,aa 67 4,aL 68 2 66 67,al 69 1 68,ak 70 69,aK 71 70,aA 72 0]) <|
  .block 2 (.loop th))) <|
  ae [av 127 .add 21 1,aa 21 127]
def m7:DF:=⟨.seq (ae [aa 7 0,aa 8 0,aZ 9 8,al 10 7 9,ak 11 10,aK 12 11,((some 13),.op (.make 1 24 [(.emp 1)] (.tmp 12) (.tmp 12))),aZ 14 7,al 15 9 14,(none,.op (.store 1 (.tmp 15) (.tmp 13)))]) <|
  .seq (.seq (ae [aa 16 0,aZ 17 16,al 18 7 17,ak 19 18,aK 20 19,aA 21 0]) <|
  .block 0 (.loop tj)) <|
  ae [aa 128 0,aD 129 75 [128]],
  [],130⟩
theorem rq:aE Tryz.prog 73 []=some m7:=by kernel_rfl
def Ei:DC :=
  .seq (ae [aM 8 .lss 7 6]) <|
  .seq (.cond (.tmp 8) (.skip) (.exit 0)) <|
  .seq (.block 1 (.seq (ae [aL 9 1 5 7,ak 10 9,aa 4 10]) <|
  ae [aa 11 2,aa 12 4,aD 13 124 [12],aM 14 .or 11 13,aa 2 14])) <|
  ae [av 15 .add 7 1,aa 7 15]
def Af:DF:=⟨.seq (ae [((some 2),.op (.aX (.val (.val (.int .u32 0)))))]) <|
  .seq (.seq (ae [aa 5 0,aK 6 5,aA 7 0]) <|
  .block 0 (.loop Ei)) <|
  .seq (ae [aa 16 2,aa 2 16]) <|
  .ret,
  [.tmp 2],17⟩
theorem BG:aE Tryz.prog 120 []=some Af:=by kernel_rfl
def yI:DF:=⟨.seq (ae [((some 2),.op (.aX (.val (.val (.int .u32 0)))))]) <|
  .seq (.seq (.region [] [⟨none,[aa 3 0,av 4 .lss 3 0,aa 5 4]⟩,⟨(some (5,false)),[aa 6 0,av 7 .geq 6 32]⟩,⟨none,[bU 8 5 7]⟩]) <|
  .cond (.tmp 8) (.seq (ae [((some 2),.op (.aX (.val (.val (.int .u32 0)))))]) <|
  .ret) (.skip)) <|
  .seq (ae [aa 9 0,((some 10),.op (.sh true (.val (.val (.int .u32 1))) (.tmp 9))),aa 2 10]) <|
  .ret,
  [.tmp 2],11⟩
theorem z8:aE Tryz.prog 124 []=some yI:=by kernel_rfl
def qW:DC :=
  .seq (ae [aM 19 .lss 18 17]) <|
  .seq (.cond (.tmp 19) (.skip) (.exit 0)) <|
  .seq (.block 1 (.seq (ae [aa 20 18,aa 5 20]) <|
  .seq (ae [ak 21 2,aa 22 5,aL 23 1 21 22,ak 24 23,av 25 .eql 24 0]) <|
  .cond (.tmp 25) (ae [ak 26 4,aa 27 5,((some 28),.call (.tmp 26) [(.tmp 27)])]) (.skip))) <|
  ae [av 29 .add 18 1,aa 18 29]
def lJ:DF:=⟨.seq (ae [cX 1 0]) <|
  .seq (ae [ak 6 1,aZ 7 6,al 8 7 7,ak 9 8,aK 10 9,((some 11),.op (.make 1 8 [(.val (.int .i64 0))] (.tmp 10) (.tmp 10))),((some 2),.op (.alloc [(.emp 1)])),(none,.op (.store 1 (.tmp 2) (.tmp 11)))]) <|
  .seq (ae [((some 3),.op (.alloc [(.emp 1)]))]) <|
  .seq (ae [((some 4),.op (.alloc [(.val .nilFunc)]))]) <|
  .seq (ae [((some 12),.op (.mD 122 [] [(.tmp 3),(.tmp 2),(.tmp 1),(.tmp 4)])),(none,.op (.store 1 (.tmp 4) (.tmp 12)))]) <|
  .seq (ae [ak 13 1,aZ 14 13,al 15 7 14,ak 16 15,aK 17 16,aA 18 0]) <|
  .block 0 (.loop qW),
  [],30⟩
theorem qj:aE Tryz.prog 75 [1]=some lJ:=by kernel_rfl
def pq:DC :=
  .seq (ae [aM 30 .lss 29 28]) <|
  .seq (.cond (.tmp 30) (.skip) (.exit 0)) <|
  .seq (.block 1 (.seq (ae [aL 31 1 27 29,ak 32 31,aa 8 32]) <|
  .seq (.seq (ae [ak 33 2,aa 34 8,aL 35 1 33 34,ak 36 35,av 37 .eql 36 0]) <|
  .cond (.tmp 37) (ae [ak 38 4,aa 39 8,((some 40),.call (.tmp 38) [(.tmp 39)])]) (.skip)) <|
  .seq (ae [ak 41 2,aa 42 0,ak 43 2,aa 44 0,aL 45 1 43 44,ak 46 45,ak 47 2,aa 48 8,aL 49 1 47 48,ak 50 49,((some 51),.op (.mm false (.tmp 46) (.tmp 50))),aL 52 1 41 42,(none,.op (.store 1 (.tmp 52) (.tmp 51)))]) <|
  ae [ak 53 3,aZ 54 53,al 55 8 54,ak 56 55,aa 57 0,aL 58 1 56 57,ak 59 58,ak 60 3,aZ 61 60,al 62 8 61,ak 63 62,aa 64 8,aL 65 1 63 64,ak 66 65,aM 67 .or 59 66,aL 68 1 56 57,(none,.op (.store 1 (.tmp 68) (.tmp 67)))])) <|
  ae [av 69 .add 29 1,aa 29 69]
def oI:DC :=
  .seq (ae [aM 82 .lss 81 80]) <|
  .seq (.cond (.tmp 82) (.skip) (.exit 2)) <|
  .seq (.block 3 (.seq (ae [aL 83 1 79 81,ak 84 83,aa 10 84]) <|
  .seq (ae [ak 85 2,aa 86 10,aL 87 1 85 86,(none,.op (.store 1 (.tmp 87) (.val (.val (.int .i64 1073741824)))))]) <|
  ae [ak 88 3,aZ 89 88,al 90 8 89,ak 91 90,aa 92 10,ak 93 3,aZ 94 93,al 95 8 94,ak 96 95,aa 97 0,aL 98 1 96 97,ak 99 98,aL 100 1 91 92,(none,.op (.store 1 (.tmp 100) (.tmp 99)))])) <|
  ae [av 101 .add 81 1,aa 81 101]
def jL:DF:=⟨.seq (ae [ak 11 1,aa 12 0,((some 13),.op (.bg 1 1 [(.val (.int .i64 0))] [(0,(.tmp 12))])),((some 14),.op (.app 1 8 (.tmp 11) (.tmp 13))),(none,.op (.store 1 (.tmp 1) (.tmp 14)))]) <|
  .seq (ae [ak 15 1,aK 16 15,aa 6 16]) <|
  .seq (ae [ak 17 2,aa 18 0,aa 19 6,aL 20 1 17 18,(none,.op (.store 1 (.tmp 20) (.tmp 19)))]) <|
  .seq (.seq (ae [ak 21 3,aZ 22 21,al 23 9 22,ak 24 23,aa 25 0,aL 26 1 24 25,ak 27 26,aK 28 27,aA 29 0]) <|
  .block 0 (.loop pq)) <|
  .seq (.seq (ae [ak 70 2,aa 71 0,aL 72 1 70 71,ak 73 72,aa 74 6,aM 75 .neq 73 74]) <|
  .cond (.tmp 75) (.ret) (.skip)) <|
  .seq (.seq (ae [ak 76 1,aa 77 6,av 78 .sub 77 1,((some 79),.op (.slice 1 (.tmp 76) (some (.tmp 78)) none)),aK 80 79,aA 81 0]) <|
  .block 2 (.loop oI)) <|
  ae [ak 102 1,aa 103 6,av 104 .sub 103 1,((some 105),.op (.slice 1 (.tmp 102) none (some (.tmp 104)))),(none,.op (.store 1 (.tmp 1) (.tmp 105)))],
  [],106⟩
theorem og:aE Tryz.prog 122 []=some jL:=by kernel_rfl
def xC:DC :=
  .seq (ae [aM 10 .lss 9 8]) <|
  .seq (.cond (.tmp 10) (.skip) (.exit 0)) <|
  .seq (.block 1 (.seq (ae [aL 11 2 7 9,aO 12 2 11,((some 6),.op (.alloc [(.val (.int .i64 0)),(.val (.int .u32 0))])),(none,.op (.store 2 (.tmp 6) (.tmp 12)))]) <|
  .seq (ae [al 13 1 6,ak 14 13,aa 15 1,aD 16 79 [14,15]]) <|
  .cond (.tmp 16) (ae [aa 17 4,al 18 0 6,ak 19 18,((some 20),.op (.bg 1 1 [(.val (.int .i64 0))] [(0,(.tmp 19))])),((some 21),.op (.app 1 8 (.tmp 17) (.tmp 20))),aa 4 21]) (.skip))) <|
  ae [av 22 .add 9 1,aa 9 22]
def sx:DF:=⟨.seq (ae [((some 4),.op (.aX (.val (.emp 1))))]) <|
  .seq (.seq (ae [aa 7 0,aK 8 7,aA 9 0]) <|
  .block 0 (.loop xC)) <|
  .seq (ae [aa 23 4,aa 4 23]) <|
  .ret,
  [.tmp 4],24⟩
theorem wy:aE Tryz.prog 38 []=some sx:=by kernel_rfl
def yw:DF:=⟨.seq (ae [bd 4 false]) <|
  .seq (ae [aa 5 0,aa 6 1,aD 7 124 [6],aM 8 .and 5 7,((some 9),.op (.arith .neq (.tmp 8) (.val (.val (.int .u32 0))))),aa 4 9]) <|
  .ret,
  [.tmp 4],10⟩
theorem Bu:aE Tryz.prog 79 []=some yw:=by kernel_rfl
def pS:DC :=
  .seq (.seq (ae [aa 11 5,aa 12 0,aK 13 12,aM 14 .lss 11 13]) <|
  .cond (.tmp 14) (.skip) (.exit 0)) <|
  .seq (.block 1 (.seq (ae [aa 17 0,aa 18 5,aL 19 1 17 18,ak 20 19,aa 21 1,aa 22 5,aL 23 1 21 22,ak 24 23,aM 25 .neq 20 24]) <|
  .cond (.tmp 25) (.seq (ae [bd 4 false]) <|
  .ret) (.skip))) <|
  ae [aa 15 5,av 16 .add 15 1,aa 5 16]
def kU:DF:=⟨.seq (ae [bd 4 false]) <|
  .seq (.seq (ae [aa 6 0,aK 7 6,aa 8 1,aK 9 8,aM 10 .neq 7 9]) <|
  .cond (.tmp 10) (.seq (ae [bd 4 false]) <|
  .ret) (.skip)) <|
  .seq (.seq (ae [aA 5 0]) <|
  .block 0 (.loop pS)) <|
  .seq (ae [bd 4 true]) <|
  .ret,
  [.tmp 4],26⟩
theorem oE:aE Tryz.prog 37 []=some kU:=by kernel_rfl
def Cy:List (FuncId × DF):=[(31,jO),(33,xY),(74,mQ),(121,mP),(172,kV),(91,eD),(133,fa),(119,qN),(28,tw),(69,qS),(68,dp),(24,rR),(64,tq),(112,dx),(167,m0),(207,lB),(208,lG),(166,ep),(199,dt),(113,rn),(126,kN),(173,mL),(168,qA),(114,dH),(62,wv),(56,pv),(50,tL),(53,sj),(58,dU),(63,sK),(111,tH),(72,su),(73,m7),(120,Af),(124,yI),(75,lJ),(122,jL),(38,sx),(79,yw),(37,kU)]
theorem DE:pV Tryz.prog Cy:=by
  intro p hp
  simp only[Cy,List.mem_cons,List.not_mem_nil,or_false] at hp
  rcases hp with rfl | rfl | rfl | rfl | rfl | rfl | rfl | rfl | rfl | rfl | rfl | rfl | rfl | rfl | rfl | rfl | rfl | rfl | rfl | rfl | rfl | rfl | rfl | rfl | rfl | rfl | rfl | rfl | rfl | rfl | rfl | rfl | rfl | rfl | rfl | rfl | rfl | rfl | rfl | rfl
  · exact ⟨_,nR⟩
  · exact ⟨_,Ad⟩
  · exact ⟨_,q4⟩
  · exact ⟨_,qZ⟩
  · exact ⟨_,oz⟩
  · exact ⟨_,gT⟩
  · exact ⟨_,iG⟩
  · exact ⟨_,uz⟩
  · exact ⟨_,wZ⟩
  · exact ⟨_,uR⟩
  · exact ⟨_,fi⟩
  · exact ⟨_,vz⟩
  · exact ⟨_,xF⟩
  · exact ⟨_,fq⟩
  · exact ⟨_,rD⟩
  · exact ⟨_,pF⟩
  · exact ⟨_,pY⟩
  · exact ⟨_,gI⟩
  · exact ⟨_,fm⟩
  · exact ⟨_,vS⟩
  · exact ⟨_,oJ⟩
  · exact ⟨_,qY⟩
  · exact ⟨_,uJ⟩
  · exact ⟨_,fB⟩
  · exact ⟨_,y0⟩
  · exact ⟨_,tg⟩
  · exact ⟨_,xA⟩
  · exact ⟨_,vy⟩
  · exact ⟨_,fT⟩
  · exact ⟨_,vM⟩
  · exact ⟨_,xw⟩
  · exact ⟨_,vw⟩
  · exact ⟨_,rq⟩
  · exact ⟨_,BG⟩
  · exact ⟨_,z8⟩
  · exact ⟨_,qj⟩
  · exact ⟨_,og⟩
  · exact ⟨_,wy⟩
  · exact ⟨_,Bu⟩
  · exact ⟨_,oE⟩
theorem Ju:cJ Tryz.prog 49 [uA Fu] (lZ kK):=B5 (by kernel_rfl)
theorem lW:kK.Ok∧kK.Small:=E5 (by kernel_rfl)
def Is:List rr:=[(49,[uA Fu],lZ kK,false),(49,[uA Iy],lZ nk,false),(61,[.agg (aR nk)],gb true,false),(61,[.agg (aR kK)],gb true,false),(61,[.agg (aR pr)],gb false,false),
  (118,[.agg (aR nk)],.aF [[gb true]],false),(118,[.agg (aR kK)],.aF [[gb false],[gb false],[gb false]],false)]
theorem HD:∀ x∈Is,x.Ok Tryz.prog:=by
  have hi:∀ (g:ao),g.Ok→g.Small→∀ b,isRed g=b→rr.Ok Tryz.prog (61,[.agg (aR g)],gb b,false):=fun g h1 h2 b e=>⟨by kernel_rfl,by simp only[Bool.false_eq_true,if_false]; exact .inr ⟨e ▸ JS g h1 h2,.val _⟩⟩
  have hn:∀ (g:ao),g.Ok→g.Small→∀ b,cg (aB g false)=b→rr.Ok Tryz.prog (118,[.agg (aR g)],b,false):=fun g h1 h2 b e=>⟨by kernel_rfl,by simp only[Bool.false_eq_true,if_false]; exact .inl (e ▸ A8 g h1 h2)⟩
  intro x hx
  simp only[Is,List.mem_cons,List.not_mem_nil,or_false] at hx
  rcases hx with rfl | rfl | rfl | rfl | rfl | rfl | rfl
  · exact ⟨by kernel_rfl,by simp only[Bool.false_eq_true,if_false]; exact .inl Ju⟩
  · exact ⟨by kernel_rfl,by simp only[Bool.false_eq_true,if_false]; exact .inl J1⟩
  · exact hi nk m6.1 m6.2 true (by kernel_rfl)
  · exact hi kK lW.1 lW.2 true (by kernel_rfl)
  · exact hi pr Jp ⟨by decide⟩ false (by kernel_rfl)
  · exact hn nk m6.1 m6.2 _ (by kernel_rfl)
  · exact hn kK lW.1 lW.2 _ (by kernel_rfl)
theorem Et:aC Tryz.prog 31 [] (gb true) :=
  (qx mixed DE (G8 HD) (by simp) (by kernel_rfl)).pure
def g9:SF:=⟨.seq (ar [bd 4 false]) <|
  .seq (.seq (ar [aD 5 31 [],cF 6 5]) <|
  .cond (.tmp 6) (.seq (ar [bd 4 false]) <|
  .ret) (.skip)) <|
  .seq (.seq (ar [aa 7 0,aK 8 7,av 9 .gtr 8 100]) <|
  .cond (.tmp 9) (.seq (ar [bd 4 true]) <|
  .ret) (.skip)) <|
  .seq (ar [aa 10 0,aa 11 1,aD 12 38 [10,11],aa 13 0,aa 14 1,aD 15 39 [13,14],aD 16 37 [12,15],aa 4 16]) <|
  .ret,
  [.tmp 4],17⟩
theorem lp:bm Tryz.prog 9 []=some g9:=by kernel_rfl
set_option maxHeartbeats 4000000 in
theorem zx (l:List gf) (hl:aU l) (hn:∀ x∈l,cd x.aT) (n:Int) (h64:cd n):aC Tryz.prog 9 [.aF (mq l),gi n] (gb true):=by
  refine aC.val (by
    intro v hv; simp at hv
    rcases hv with rfl | rfl
    · exact xp _
    · exact .val _) fun H=>?_
  unfold aU at hl
  refine aH.of mixed lp ?_
  simp (disch:=omega) only [↓wr,↓reduceIte,wq,ai,ah,an,ab,af,ag,aj,isNil,Nat.reduceEqDiff,Nat.reduceAdd,Nat.reduceLT,Nat.reduceLeDiff,Int.reduceNeg,Int.reduceToNat,reduceCtorEq,g9]
  refine aJ.pure Et (by kernel_rfl) ?_
  simp (disch:=omega) only [↓wr,↓reduceIte,wq,ai,ah,an,ab,af,ag,aj,isNil,Nat.reduceEqDiff,Nat.reduceAdd,Nat.reduceLT,Nat.reduceLeDiff,Int.reduceNeg,Int.reduceToNat,reduceCtorEq,mq]
  refine ay.dec (fun h3=>?_) (fun h3=>?_)
  · simp (disch:=omega) only [↓wr,↓reduceIte,wq,ai,ah,an,ab,af,ag,aj,isNil,Nat.reduceEqDiff,Nat.reduceAdd,Nat.reduceLT,Nat.reduceLeDiff,Int.reduceNeg,Int.reduceToNat,reduceCtorEq]
  have h1:=(Gy l (by omega) n).pure
  have h2:=(DK l (by omega) n).pure
  have hr:=yr l l.length n
  rw[List.take_length] at hr
  simp (disch:=omega) only [↓wr,↓reduceIte,wq,ai,ah,an,ab,af,ag,aj,isNil,Nat.reduceEqDiff,Nat.reduceAdd,Nat.reduceLT,Nat.reduceLeDiff,Int.reduceNeg,Int.reduceToNat,reduceCtorEq]
  refine aJ.pure h1 (by kernel_rfl) ?_
  simp (disch:=omega) only [↓wr,↓reduceIte,wq,ai,ah,an,ab,af,ag,aj,isNil,Nat.reduceEqDiff,Nat.reduceAdd,Nat.reduceLT,Nat.reduceLeDiff,Int.reduceNeg,Int.reduceToNat,reduceCtorEq]
  refine aJ.pure h2 (by kernel_rfl) ?_
  simp (disch:=omega) only [↓wr,↓reduceIte,wq,ai,ah,an,ab,af,ag,aj,isNil,Nat.reduceEqDiff,Nat.reduceAdd,Nat.reduceLT,Nat.reduceLeDiff,Int.reduceNeg,Int.reduceToNat,reduceCtorEq]
  refine aJ.xJ ((IG _ _ (by unfold aU; omega) _).mono ?_)
  rintro r H2 ⟨rfl,rfl⟩
  simp (disch:=omega) only [↓wr,↓reduceIte,wq,ai,ah,an,ab,af,ag,aj,isNil,Nat.reduceEqDiff,Nat.reduceAdd,Nat.reduceLT,Nat.reduceLeDiff,Int.reduceNeg,Int.reduceToNat,reduceCtorEq]
  simp
theorem Jg:yW Tryz.prog 67 (fun s:BV=>[gw s]) (fun _=>True):=fun enc w base sp held fuel cs x h hw=>by
  obtain ⟨n,h1,h2⟩:=Fk Tryz.underlying67 enc w base sp held fuel cs x h hw
  simp only[Lit.wf,Bool.and_eq_true,decide_eq_true_eq] at h1
  have h3:0≤n∧n≤4294967295:=h1
  refine ⟨BitVec.ofNat 32 n.toNat,trivial,?_⟩
  have e:((BitVec.ofNat 32 n.toNat).toNat:Int)=n:=by
    rw[BitVec.toNat_ofNat]; omega
  show qf w.heap cs [.val (.int .u32 ((BitVec.ofNat 32 n.toNat).toNat:Int))]
  rw[e]
  exact h2
theorem IF:yW Tryz.prog 69 sO (fun x=>cd x.aT):=fun enc w base sp held fuel cs x h hw=>by
  obtain ⟨hl,hf⟩:=GA Tryz.underlying69 (by
    intro i f hi
    match i,hi with
    | 0,hi=>simp at hi; subst hi; exact ⟨rfl,by kernel_rfl⟩
    | 1,hi=>simp at hi; subst hi; exact ⟨rfl,by kernel_rfl⟩
    | n+2,hi=>simp at hi) (by kernel_rfl) h hw
  obtain ⟨a,h0,h1⟩:=hf 0 _ rfl Ht
  obtain ⟨b,h2,h3⟩:=hf 1 _ rfl Jg
  refine ⟨⟨a,b⟩,h0,?_⟩
  rw[Lv hl]
  exact xN h1 (xN h3 Ha)
theorem HW:yW Tryz.prog 61 (fun l:List gf=>[.aF (mq l)]) (fun l=>aU l∧∀ x∈l,cd x.aT) :=
  Hw Tryz.underlying61 (of_decide_eq_true (by kernel_rfl)) (of_decide_eq_true (by kernel_rfl)) IF
end Gv
