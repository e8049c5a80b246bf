/-
  Part 6 of the proof: what the machine does and what the functions answer.
  Conditions: those that each lemma names.
-/
import Derived.Test.YtgniimkconobpaaGreatSGzOE
set_option linter.unusedSimpArgs false
set_option linter.unusedVariables false
set_option linter.unusedSimpArgs false
set_option maxRecDepth 100000
namespace Gv
open Go Go.Proofs
abbrev gy (x:Int):V:=.val (.int .u8 x)
def pZ (c:Int):Bool:=(decide (97≤c) && decide (c≤122)) || (decide (65≤c) && decide (c≤90)) || c == 95
def jG (c:Int):Bool:=pZ c || (decide (48≤c) && decide (c≤57)) || c == 46
def kC:SF:=⟨.seq (al [aP 2 false]) <|
  .seq (.region false [⟨none,[aa 3 0,((some 4),.op (.arith .geq (.tmp 3) (.val (.val (.int .u8 97))))),aa 5 4]⟩,⟨(some (5,true)),[aa 6 0,((some 7),.op (.arith .leq (.tmp 6) (.val (.val (.int .u8 122)))))]⟩,⟨none,[bk 8 5 7,aa 9 8]⟩,⟨(some (9,false)),[aa 10 0,((some 11),.op (.arith .geq (.tmp 10) (.val (.val (.int .u8 65))))),aa 12 11]⟩,⟨(some (12,true)),[aa 13 0,((some 14),.op (.arith .leq (.tmp 13) (.val (.val (.int .u8 90)))))]⟩,⟨(some (9,false)),[bk 15 12 14]⟩,⟨none,[bf 16 9 15,aa 17 16]⟩,⟨(some (17,false)),[aa 18 0,((some 19),.op (.arith .eql (.tmp 18) (.val (.val (.int .u8 95)))))]⟩,⟨none,[bf 20 17 19,aa 2 20]⟩]) <|
  .ret,
  [.tmp 2],21⟩
theorem o9:aR Tryz.prog 148 []=some kC:=by kernel_rfl
def kD:SF:=⟨.seq (al [aP 2 false]) <|
  .seq (.region false [⟨none,[aa 3 0,aF 4 148 [3],aa 5 4]⟩,⟨(some (5,false)),[aa 6 0,((some 7),.op (.arith .geq (.tmp 6) (.val (.val (.int .u8 48))))),aa 8 7]⟩,⟨(some (8,true)),[aa 9 0,((some 10),.op (.arith .leq (.tmp 9) (.val (.val (.int .u8 57)))))]⟩,⟨(some (5,false)),[bk 11 8 10]⟩,⟨none,[bf 12 5 11,aa 13 12]⟩,⟨(some (13,false)),[aa 14 0,((some 15),.op (.arith .eql (.tmp 14) (.val (.val (.int .u8 46)))))]⟩,⟨none,[bf 16 13 15,aa 2 16]⟩]) <|
  .ret,
  [.tmp 2],17⟩
theorem pr:aR Tryz.prog 149 []=some kD:=by kernel_rfl
theorem G5 (c:Int) (H:View):aB Tryz.prog 148 [gy c] H fun r H'=>r=gb (pZ c)∧H'=H:=by
  refine aB.of mixed o9 ?_
  repeat' (first | (refine an.dec (fun _=>?_) (fun _=>?_)) | (refine an.eq (fun _=>?_) (fun _=>?_)) | (refine an.ne (fun _=>?_) (fun _=>?_)) | (refine an.split (fun _=>?_) (fun _=>?_)) | (simp (disch:=omega) only [↓wr,↓reduceIte,wq,ai,ah,ak,ae,af,ag,aj,isNil,Nat.reduceEqDiff,Nat.reduceAdd,Nat.reduceLT,Nat.reduceLeDiff,Int.reduceNeg,Int.reduceToNat,reduceCtorEq,kC]))
  all_goals (congr 2; simp only[pZ]; grind)
theorem Ap (c:Int):aC Tryz.prog 148 [gy c] (gb (pZ c)) :=
  aC.of (by intro v hv; simp at hv; subst hv; exact .val _) ((G5 c _).mono fun r H' h h' _=>by rw[h.1]; exact .tree _ (.val _))
theorem GU (c:Int) (H:View):aB Tryz.prog 149 [gy c] H fun r H'=>r=gb (jG c)∧H'=H:=by
  refine aB.of mixed pr ?_
  repeat' (first | (refine an.dec (fun _=>?_) (fun _=>?_)) | (refine an.eq (fun _=>?_) (fun _=>?_)) | (refine an.ne (fun _=>?_) (fun _=>?_)) | (refine an.split (fun _=>?_) (fun _=>?_)) | (simp (disch:=omega) only [↓wr,↓reduceIte,wq,ai,ah,ak,ae,af,ag,aj,isNil,Nat.reduceEqDiff,Nat.reduceAdd,Nat.reduceLT,Nat.reduceLeDiff,Int.reduceNeg,Int.reduceToNat,reduceCtorEq,kD]))
  refine az.pure (Ap c) (by kernel_rfl) ?_
  repeat' (first | (refine an.dec (fun _=>?_) (fun _=>?_)) | (refine an.eq (fun _=>?_) (fun _=>?_)) | (refine an.ne (fun _=>?_) (fun _=>?_)) | (refine an.split (fun _=>?_) (fun _=>?_)) | (simp (disch:=omega) only [↓wr,↓reduceIte,wq,ai,ah,ak,ae,af,ag,aj,isNil,Nat.reduceEqDiff,Nat.reduceAdd,Nat.reduceLT,Nat.reduceLeDiff,Int.reduceNeg,Int.reduceToNat,reduceCtorEq]))
  all_goals (congr 2; simp only[jG]; grind)
theorem Hc (c:Int):aC Tryz.prog 149 [gy c] (gb (jG c)) :=
  aC.of (by intro v hv; simp at hv; subst hv; exact .val _) ((GU c _).mono fun r H' h h' _=>by rw[h.1]; exact .tree _ (.val _))
def dE (l:List Int):Bool:=decide (0 < l.length) && decide (l.length≤20) && (match l with | c :: _=>pZ c | []=>false) && l.all jG
def j0:SC :=
  .seq (.seq (al [aa 18 3,aa 19 0,((some 20),.op (.eO (.tmp 19))),aK 21 .lss 18 20]) <|
  .cond (.tmp 21) (.skip) (.exit 0)) <|
  .seq (.block 1 (.seq (al [aa 24 0,aa 25 3,((some 26),.op (.ct (.tmp 24) (.tmp 25))),aF 27 149 [26],bQ 28 27]) <|
  .cond (.tmp 28) (.seq (al [aP 2 false]) <|
  .ret) (.skip))) <|
  al [aa 22 3,ax 23 .add 22 1,aa 3 23]
def lA:SF:=⟨.seq (al [aP 2 false]) <|
  .seq (.seq (.region false [⟨none,[aa 4 0,((some 5),.op (.eO (.tmp 4))),ax 6 .eql 5 0,aa 7 6]⟩,⟨(some (7,false)),[aa 8 0,((some 9),.op (.eO (.tmp 8))),ax 10 .gtr 9 20]⟩,⟨none,[bf 11 7 10,aa 12 11]⟩,⟨(some (12,false)),[aa 13 0,((some 14),.op (.ct (.tmp 13) (.val (.val (.int .i64 0))))),aF 15 148 [14],bQ 16 15]⟩,⟨none,[bf 17 12 16]⟩]) <|
  .cond (.tmp 17) (.seq (al [aP 2 false]) <|
  .ret) (.skip)) <|
  .seq (.seq (al [aG 3 0]) <|
  .block 0 (.loop j0)) <|
  .seq (al [aP 2 true]) <|
  .ret,
  [.tmp 2],29⟩
theorem qa:aR Tryz.prog 116 []=some lA:=by kernel_rfl
theorem E7 (s:ByteArray) (H:View):aB Tryz.prog 116 [gs s] H fun r H'=>r=gb (dE (df s))∧H'=H:=by
  refine aB.of mixed qa ?_
  repeat' (first | (refine an.dec (fun _=>?_) (fun _=>?_)) | (refine an.eq (fun _=>?_) (fun _=>?_)) | (refine an.ne (fun _=>?_) (fun _=>?_)) | (refine an.split (fun _=>?_) (fun _=>?_)) | (simp (disch:=omega) only [↓wr,↓reduceIte,wq,ai,ah,ak,ae,af,ag,aj,isNil,Nat.reduceEqDiff,Nat.reduceAdd,Nat.reduceLT,Nat.reduceLeDiff,Int.reduceNeg,Int.reduceToNat,reduceCtorEq,lA,cQ]))
  · rename_i h
    congr 2; simp[dE,show (df s).length=0 by omega]
  · rename_i h
    congr 2; simp[dE,show ¬ (df s).length≤20 by omega]
  · rename_i h1 h2
    cases hb:df s with
    | nil=>simp[hb] at h1
    | cons c l =>
      repeat' (first | (refine an.dec (fun _=>?_) (fun _=>?_)) | (refine an.eq (fun _=>?_) (fun _=>?_)) | (refine an.ne (fun _=>?_) (fun _=>?_)) | (refine an.split (fun _=>?_) (fun _=>?_)) | (simp (disch:=omega) only [↓wr,↓reduceIte,wq,ai,ah,ak,ae,af,ag,aj,isNil,Nat.reduceEqDiff,Nat.reduceAdd,Nat.reduceLT,Nat.reduceLeDiff,Int.reduceNeg,Int.reduceToNat,reduceCtorEq,hb,List.getElem?_cons_zero,cQ]))
      refine az.pure (Ap c) (by kernel_rfl) ?_
      repeat' (first | (refine an.dec (fun _=>?_) (fun _=>?_)) | (refine an.eq (fun _=>?_) (fun _=>?_)) | (refine an.ne (fun _=>?_) (fun _=>?_)) | (refine an.split (fun _=>?_) (fun _=>?_)) | (simp (disch:=omega) only [↓wr,↓reduceIte,wq,ai,ah,ak,ae,af,ag,aj,isNil,Nat.reduceEqDiff,Nat.reduceAdd,Nat.reduceLT,Nat.reduceLeDiff,Int.reduceNeg,Int.reduceToNat,reduceCtorEq,hb,List.getElem?_cons_zero,cQ]))
      · rename_i hf
        refine bo.intro (fun k T H'=>∃ i:Nat,i+k=(c :: l).length∧((c :: l).take i).all jG=true∧T 0=gs s∧T 3=gi i∧H'=H) (c :: l).length ?_ ?_
        · exact ⟨0,by omega,by simp,rfl,rfl,rfl⟩
        · rintro k T H' ⟨i,hk,hi,h0,h3,rfl⟩
          rw[hb] at h1 h2
          simp (disch:=omega) only [↓wr,↓reduceIte,wq,ai,ah,ak,ae,af,ag,aj,isNil,Nat.reduceEqDiff,Nat.reduceAdd,Nat.reduceLT,Nat.reduceLeDiff,Int.reduceNeg,Int.reduceToNat,reduceCtorEq,j0,h0,h3,cQ,hb]
          refine an.dec (fun hc=>?_) (fun hc=>?_)
          · simp only[List.length_cons] at hc hk h2
            have hg:(c :: l)[i]?=some ((c :: l)[i]'(by simp; omega)):=List.getElem?_eq_getElem (by simp; omega)
            have hm:(c :: l)[i]'(by simp; omega)∈c :: l:=List.getElem_mem _
            generalize (c :: l)[i]'(by simp; omega)=d at hg hm
            simp (disch:=omega) only [↓wr,↓reduceIte,wq,ai,ah,ak,ae,af,ag,aj,isNil,Nat.reduceEqDiff,Nat.reduceAdd,Nat.reduceLT,Nat.reduceLeDiff,Int.reduceNeg,Int.reduceToNat,reduceCtorEq,h0,h3,cQ,hb,hg]
            refine az.pure (Hc d) (by kernel_rfl) ?_
            repeat' (first | (refine an.dec (fun _=>?_) (fun _=>?_)) | (refine an.eq (fun _=>?_) (fun _=>?_)) | (refine an.ne (fun _=>?_) (fun _=>?_)) | (refine an.split (fun _=>?_) (fun _=>?_)) | (simp (disch:=omega) only [↓wr,↓reduceIte,wq,ai,ah,ak,ae,af,ag,aj,isNil,Nat.reduceEqDiff,Nat.reduceAdd,Nat.reduceLT,Nat.reduceLeDiff,Int.reduceNeg,Int.reduceToNat,reduceCtorEq,h0,h3,cQ,hb,hg]))
            · rename_i hd
              refine ⟨k - 1,by omega,i+1,by omega,?_,rfl⟩
              rw[List.take_add_one,hg]
              simp only[Option.toList_some,List.all_append,hi,List.all_cons,hd,List.all_nil,Bool.and_self]
            · rename_i hd
              congr 2
              have:(c :: l).all jG=false:=by
                rw[List.all_eq_false]; exact ⟨d,hm,by simp[hd]⟩
              simp only[dE,this,Bool.and_false]
          · simp (disch:=omega) only [↓wr,↓reduceIte,wq,ai,ah,ak,ae,af,ag,aj,isNil,Nat.reduceEqDiff,Nat.reduceAdd,Nat.reduceLT,Nat.reduceLeDiff,Int.reduceNeg,Int.reduceToNat,reduceCtorEq,h0,h3]
            simp only[List.length_cons] at hc hk h2
            rw[List.take_of_length_le (by simp; omega)] at hi
            congr 2
            simp only[dE,hi,List.length_cons]
            simp[hf]; omega
      · rename_i hf
        congr 2; simp[dE,hf]
end Gv
set_option linter.unusedSimpArgs false
set_option maxRecDepth 100000
namespace Gv
open Go Go.Proofs
def iT:List Int→Bool
  | [a,b,c]=>a == 39 && c == 39 && decide (32≤b) && decide (b≤126) && b != 39 && b != 92
  | [a,b,c,d]=>a == 39 && d == 39 && b == 92 && (c == 110 || c == 116 || c == 92 || c == 39)
  | _=>false
theorem Hm {l:List Int} (h3:l.length≠3) (h4:l.length≠4):iT l=false:=by
  match l,h3,h4 with
  | [],_,_=>rfl
  | [_],_,_=>rfl
  | [_,_],_,_=>rfl
  | [_,_,_],h3,_=>exact absurd rfl h3
  | [_,_,_,_],_,h4=>exact absurd rfl h4
  | _ :: _ :: _ :: _ :: _ :: _,_,_=>rfl
theorem JL {α:Type} {l:List α} (h:l.length=3):∃ a b c,l=[a,b,c]:=by
  match l,h with
  | [a,b,c],_=>exact ⟨a,b,c,rfl⟩
theorem JV {α:Type} {l:List α} (h:l.length=4):∃ a b c d,l=[a,b,c,d]:=by
  match l,h with
  | [a,b,c,d],_=>exact ⟨a,b,c,d,rfl⟩
def ji:SF:=⟨.seq (al [aP 2 false]) <|
  .seq (.seq (al [aa 3 0,((some 4),.op (.eO (.tmp 3))),ax 5 .eql 4 3]) <|
  .cond (.tmp 5) (.seq (.region false [⟨none,[aa 6 0,((some 7),.op (.ct (.tmp 6) (.val (.val (.int .i64 0))))),((some 8),.op (.arith .eql (.tmp 7) (.val (.val (.int .u8 39))))),aa 9 8]⟩,⟨(some (9,true)),[aa 10 0,((some 11),.op (.ct (.tmp 10) (.val (.val (.int .i64 2))))),((some 12),.op (.arith .eql (.tmp 11) (.val (.val (.int .u8 39)))))]⟩,⟨none,[bk 13 9 12,aa 14 13]⟩,⟨(some (14,true)),[aa 15 0,((some 16),.op (.ct (.tmp 15) (.val (.val (.int .i64 1))))),((some 17),.op (.arith .geq (.tmp 16) (.val (.val (.int .u8 32)))))]⟩,⟨none,[bk 18 14 17,aa 19 18]⟩,⟨(some (19,true)),[aa 20 0,((some 21),.op (.ct (.tmp 20) (.val (.val (.int .i64 1))))),((some 22),.op (.arith .leq (.tmp 21) (.val (.val (.int .u8 126)))))]⟩,⟨none,[bk 23 19 22,aa 24 23]⟩,⟨(some (24,true)),[aa 25 0,((some 26),.op (.ct (.tmp 25) (.val (.val (.int .i64 1))))),((some 27),.op (.arith .neq (.tmp 26) (.val (.val (.int .u8 39)))))]⟩,⟨none,[bk 28 24 27,aa 29 28]⟩,⟨(some (29,true)),[aa 30 0,((some 31),.op (.ct (.tmp 30) (.val (.val (.int .i64 1))))),((some 32),.op (.arith .neq (.tmp 31) (.val (.val (.int .u8 92)))))]⟩,⟨none,[bk 33 29 32,aa 2 33]⟩]) <|
  .ret) (.skip)) <|
  .seq (.region false [⟨none,[aa 34 0,((some 35),.op (.eO (.tmp 34))),ax 36 .eql 35 4,aa 37 36]⟩,⟨(some (37,true)),[aa 38 0,((some 39),.op (.ct (.tmp 38) (.val (.val (.int .i64 0))))),((some 40),.op (.arith .eql (.tmp 39) (.val (.val (.int .u8 39)))))]⟩,⟨none,[bk 41 37 40,aa 42 41]⟩,⟨(some (42,true)),[aa 43 0,((some 44),.op (.ct (.tmp 43) (.val (.val (.int .i64 3))))),((some 45),.op (.arith .eql (.tmp 44) (.val (.val (.int .u8 39)))))]⟩,⟨none,[bk 46 42 45,aa 47 46]⟩,⟨(some (47,true)),[aa 48 0,((some 49),.op (.ct (.tmp 48) (.val (.val (.int .i64 1))))),((some 50),.op (.arith .eql (.tmp 49) (.val (.val (.int .u8 92)))))]⟩,⟨none,[bk 51 47 50,aa 52 51]⟩,⟨(some (52,true)),[aa 53 0,((some 54),.op (.ct (.tmp 53) (.val (.val (.int .i64 2))))),((some 55),.op (.arith .eql (.tmp 54) (.val (.val (.int .u8 110))))),aa 56 55]⟩,⟨(some (56,false)),[aa 57 0,((some 58),.op (.ct (.tmp 57) (.val (.val (.int .i64 2))))),((some 59),.op (.arith .eql (.tmp 58) (.val (.val (.int .u8 116)))))]⟩,⟨(some (52,true)),[bf 60 56 59,aa 61 60]⟩,⟨(some (61,false)),[aa 62 0,((some 63),.op (.ct (.tmp 62) (.val (.val (.int .i64 2))))),((some 64),.op (.arith .eql (.tmp 63) (.val (.val (.int .u8 92)))))]⟩,⟨(some (52,true)),[bf 65 61 64,aa 66 65]⟩,⟨(some (66,false)),[aa 67 0,((some 68),.op (.ct (.tmp 67) (.val (.val (.int .i64 2))))),((some 69),.op (.arith .eql (.tmp 68) (.val (.val (.int .u8 39)))))]⟩,⟨(some (52,true)),[bf 70 66 69]⟩,⟨none,[bk 71 52 70,aa 2 71]⟩]) <|
  .ret,
  [.tmp 2],72⟩
theorem nK:aR Tryz.prog 147 []=some ji:=by kernel_rfl
def kA:SF:=⟨.seq (al [aP 2 false]) <|
  .seq (.region false [⟨none,[aa 3 0,aF 4 116 [3],aa 5 4]⟩,⟨(some (5,false)),[aa 6 0,aF 7 147 [6]]⟩,⟨none,[bf 8 5 7,aa 2 8]⟩]) <|
  .ret,
  [.tmp 2],9⟩
theorem pg:aR Tryz.prog 113 []=some kA:=by kernel_rfl
set_option maxHeartbeats 1000000 in
theorem Gn (s:ByteArray) (H:View):aB Tryz.prog 147 [gs s] H fun r H'=>r=gb (iT (df s))∧H'=H:=by
  refine aB.of mixed nK ?_
  simp (disch:=omega) only [↓wr,↓reduceIte,wq,ai,ah,ak,ae,af,ag,aj,isNil,Nat.reduceEqDiff,Nat.reduceAdd,Nat.reduceLT,Nat.reduceLeDiff,Int.reduceNeg,Int.reduceToNat,reduceCtorEq,ji,cQ]
  refine an.eq (fun h=>?_) (fun h=>?_)
  · obtain ⟨a,b,c,hb⟩:=JL (l:=df s) (by omega)
    repeat' (first | (refine an.dec (fun _=>?_) (fun _=>?_)) | (refine an.eq (fun _=>?_) (fun _=>?_)) | (refine an.ne (fun _=>?_) (fun _=>?_)) | (refine an.split (fun _=>?_) (fun _=>?_)) | (simp (disch:=omega) only [↓wr,↓reduceIte,wq,ai,ah,ak,ae,af,ag,aj,isNil,Nat.reduceEqDiff,Nat.reduceAdd,Nat.reduceLT,Nat.reduceLeDiff,Int.reduceNeg,Int.reduceToNat,reduceCtorEq,hb,List.getElem?_cons_zero,List.getElem?_cons_succ]))
    all_goals (congr 2; simp only[iT]; grind)
  · simp (disch:=omega) only [↓wr,↓reduceIte,wq,ai,ah,ak,ae,af,ag,aj,isNil,Nat.reduceEqDiff,Nat.reduceAdd,Nat.reduceLT,Nat.reduceLeDiff,Int.reduceNeg,Int.reduceToNat,reduceCtorEq,cQ]
    refine an.eq (fun h4=>?_) (fun h4=>?_)
    · obtain ⟨a,b,c,d,hb⟩:=JV (l:=df s) (by omega)
      repeat' (first | (refine an.dec (fun _=>?_) (fun _=>?_)) | (refine an.eq (fun _=>?_) (fun _=>?_)) | (refine an.ne (fun _=>?_) (fun _=>?_)) | (refine an.split (fun _=>?_) (fun _=>?_)) | (simp (disch:=omega) only [↓wr,↓reduceIte,wq,ai,ah,ak,ae,af,ag,aj,isNil,Nat.reduceEqDiff,Nat.reduceAdd,Nat.reduceLT,Nat.reduceLeDiff,Int.reduceNeg,Int.reduceToNat,reduceCtorEq,hb,List.getElem?_cons_zero,List.getElem?_cons_succ]))
      all_goals (congr 2; simp only[iT]; grind)
    · repeat' (first | (refine an.dec (fun _=>?_) (fun _=>?_)) | (refine an.eq (fun _=>?_) (fun _=>?_)) | (refine an.ne (fun _=>?_) (fun _=>?_)) | (refine an.split (fun _=>?_) (fun _=>?_)) | (simp (disch:=omega) only [↓wr,↓reduceIte,wq,ai,ah,ak,ae,af,ag,aj,isNil,Nat.reduceEqDiff,Nat.reduceAdd,Nat.reduceLT,Nat.reduceLeDiff,Int.reduceNeg,Int.reduceToNat,reduceCtorEq,cQ]))
      rw[Hm (by omega) (by omega)]
theorem kZ (s:ByteArray):∀ v∈[gs s],Tree v:=by intro v hv; simp at hv; subst hv; exact .val _
theorem yN (s:ByteArray):aC Tryz.prog 116 [gs s] (gb (dE (df s))) :=
  aC.of (kZ s) ((E7 s _).mono fun r H' h h' _=>by rw[h.1]; exact .tree _ (.val _))
theorem GQ (s:ByteArray):aC Tryz.prog 147 [gs s] (gb (iT (df s))) :=
  aC.of (kZ s) ((Gn s _).mono fun r H' h h' _=>by rw[h.1]; exact .tree _ (.val _))
def lu (l:List Int):Bool:=dE l || iT l
theorem DZ (s:ByteArray) (H:View):aB Tryz.prog 113 [gs s] H fun r H'=>r=gb (lu (df s))∧H'=H:=by
  refine aB.of mixed pg ?_
  simp (disch:=omega) only [↓wr,↓reduceIte,wq,ai,ah,ak,ae,af,ag,aj,isNil,Nat.reduceEqDiff,Nat.reduceAdd,Nat.reduceLT,Nat.reduceLeDiff,Int.reduceNeg,Int.reduceToNat,reduceCtorEq,kA]
  refine az.pure (yN s) (by kernel_rfl) ?_
  repeat' (first | (refine an.dec (fun _=>?_) (fun _=>?_)) | (refine an.eq (fun _=>?_) (fun _=>?_)) | (refine an.ne (fun _=>?_) (fun _=>?_)) | (refine an.split (fun _=>?_) (fun _=>?_)) | (simp (disch:=omega) only [↓wr,↓reduceIte,wq,ai,ah,ak,ae,af,ag,aj,isNil,Nat.reduceEqDiff,Nat.reduceAdd,Nat.reduceLT,Nat.reduceLeDiff,Int.reduceNeg,Int.reduceToNat,reduceCtorEq]))
  · rename_i h; simp[lu,h]
  · rename_i h
    refine az.pure (GQ s) (by kernel_rfl) ?_
    repeat' (first | (refine an.dec (fun _=>?_) (fun _=>?_)) | (refine an.eq (fun _=>?_) (fun _=>?_)) | (refine an.ne (fun _=>?_) (fun _=>?_)) | (refine an.split (fun _=>?_) (fun _=>?_)) | (simp (disch:=omega) only [↓wr,↓reduceIte,wq,ai,ah,ak,ae,af,ag,aj,isNil,Nat.reduceEqDiff,Nat.reduceAdd,Nat.reduceLT,Nat.reduceLeDiff,Int.reduceNeg,Int.reduceToNat,reduceCtorEq]))
    simp[lu,h]
theorem D2 (s:ByteArray):aC Tryz.prog 113 [gs s] (gb (lu (df s))) :=
  aC.of (kZ s) ((DZ s _).mono fun r H' h h' _=>by rw[h.1]; exact .tree _ (.val _))
end Gv
set_option linter.unusedSimpArgs false
set_option maxRecDepth 100000
namespace Gv
open Go Go.Proofs
def jQ (s:ByteArray):List ByteArray→Int→Int
  | [],_=>-1
  | x :: l,i=>if fo x s=true then i else jQ s l (i+1)
def iI (g:au) (s:ByteArray):Int:=jQ s (g.aw.map Term.name) 0
def ta (g:au) (s:ByteArray):Int:=jQ s g.aD 0
theorem eE {α:Type} {l:List α} {i:Nat} (h:i < l.length):l.drop i=l[i] :: l.drop (i+1):=List.drop_eq_getElem_cons h
theorem zg (g:au) (s:ByteArray):∀ v∈[V.agg (ar g),gs s],Tree v:=by
  intro v hv; simp at hv
  rcases hv with rfl | rfl
  · exact bF _ (bB g)
  · exact .val _
theorem k7 (g:au):∀ v∈[V.agg (ar g)],Tree v:=by intro v hv; simp at hv; subst hv; exact bF _ (bB g)
theorem zt (g:au) (x:Int):∀ v∈[V.agg (ar g),gi x],Tree v:=by
  intro v hv; simp at hv
  rcases hv with rfl | rfl
  · exact bF _ (bB g)
  · exact .val _
theorem aC.val {P:Program} {f:FuncId} {vs:List V} {x:Value} (ht:∀ v∈vs,Tree v) (h:∀ H,aB P f vs H fun r _=>r=.val x):aC P f vs (.val x) :=
  aC.of ht ((h _).mono fun r H' e h' _=>by rw[e]; exact .tree _ (.val _))
def jF:SC :=
  .seq (.seq (al [aa 6 5,aq 7 0 2,ao 8 7,aI 9 8,aK 10 .lss 6 9]) <|
  .cond (.tmp 10) (.skip) (.exit 0)) <|
  .seq (.block 1 (.seq (al [aq 13 0 2,ao 14 13,aa 15 5,aX 16 3 14 15,aq 17 0 16,ao 18 17,aa 19 1,((some 20),.op (.fO .eql (.tmp 18) (.tmp 19)))]) <|
  .cond (.tmp 20) (.seq (al [aa 21 5,aa 4 21]) <|
  .ret) (.skip))) <|
  al [aa 11 5,ax 12 .add 11 1,aa 5 12]
def mc:SF:=⟨.seq (al [b7 2 0,aG 4 0]) <|
  .seq (.seq (al [aG 5 0]) <|
  .block 0 (.loop jF)) <|
  .seq (al [aG 4 (-1)]) <|
  .ret,
  [.tmp 4],22⟩
theorem qt:aR Tryz.prog 114 [2]=some mc:=by kernel_rfl
def kl:SC :=
  .seq (.seq (al [aa 6 5,aq 7 1 2,ao 8 7,aI 9 8,aK 10 .lss 6 9]) <|
  .cond (.tmp 10) (.skip) (.exit 0)) <|
  .seq (.block 1 (.seq (al [aq 13 1 2,ao 14 13,aa 15 5,aX 16 1 14 15,ao 17 16,aa 18 1,((some 19),.op (.fO .eql (.tmp 17) (.tmp 18)))]) <|
  .cond (.tmp 19) (.seq (al [aa 20 5,aa 4 20]) <|
  .ret) (.skip))) <|
  al [aa 11 5,ax 12 .add 11 1,aa 5 12]
def mK:SF:=⟨.seq (al [b7 2 0,aG 4 0]) <|
  .seq (.seq (al [aG 5 0]) <|
  .block 0 (.loop kl)) <|
  .seq (al [aG 4 (-1)]) <|
  .ret,
  [.tmp 4],21⟩
theorem qV:aR Tryz.prog 95 [2]=some mK:=by kernel_rfl
def jr:SC :=
  .seq (.seq (al [aa 8 6,aq 9 0 2,ao 10 9,aI 11 10,aK 12 .lss 8 11]) <|
  .cond (.tmp 12) (.skip) (.exit 0)) <|
  .seq (.block 1 (.seq (.region false [⟨none,[aq 15 0 2,ao 16 15,aa 17 6,aX 18 3 16 17,aO 19 3 18,((some 7),.op (.alloc [(.val (.string ⟨#[]⟩)),(.val (.int .i64 0)),(.val (.int .i64 0))])),(none,.op (.store 3 (.tmp 7) (.tmp 19)))]⟩]) <|
  .seq (.seq (al [aq 20 1 7,ao 21 20,aa 22 1,aK 23 .neq 21 22]) <|
  .cond (.tmp 23) (.exit 1) (.skip)) <|
  .seq (.seq (.region false [⟨none,[aa 24 5,ax 25 .neq 24 0,aa 26 25]⟩,⟨(some (26,true)),[aa 27 5,aq 28 2 7,ao 29 28,aK 30 .neq 27 29]⟩,⟨none,[bk 31 26 30]⟩]) <|
  .cond (.tmp 31) (.seq (al [aP 4 false]) <|
  .ret) (.skip)) <|
  al [aq 32 2 7,ao 33 32,aa 5 33])) <|
  al [aa 13 6,ax 14 .add 13 1,aa 6 14]
def kz:SF:=⟨.seq (al [b7 2 0,aP 4 false]) <|
  .seq (al [aG 5 0]) <|
  .seq (.seq (al [aG 6 0]) <|
  .block 0 (.loop jr)) <|
  .seq (al [aa 34 5,ax 35 .neq 34 0,aa 4 35]) <|
  .ret,
  [.tmp 4],36⟩
theorem px:aR Tryz.prog 115 [2]=some kz:=by kernel_rfl
theorem Eo (g:au) (hg:g.Ok) (s:ByteArray) (H:View):aB Tryz.prog 114 [.agg (ar g),gs s] H fun r _=>r=gi (iI g s):=by
  refine aB.of mixed qt ?_
  have hs:g.aw.length < 4611686018427387904:=hg.aw
  simp (disch:=omega) only [↓wr,↓reduceIte,wq,ai,ah,ak,ae,af,ag,aj,isNil,Nat.reduceEqDiff,Nat.reduceAdd,Nat.reduceLT,Nat.reduceLeDiff,Int.reduceNeg,Int.reduceToNat,reduceCtorEq,mc,ar,encS]
  refine bo.intro (fun k T _=>∃ i:Nat,i+k=g.aw.length∧jQ s ((g.aw.drop i).map Term.name) i=iI g s∧T 1=gs s∧T 2=.aJ (ar g) 0∧T 5=gi i) g.aw.length ?_ ?_
  · exact ⟨0,by omega,rfl,rfl,rfl,rfl⟩
  · rintro k T H' ⟨i,hk,hi,h1,h2,h5⟩
    simp (disch:=omega) only [↓wr,↓reduceIte,wq,ai,ah,ak,ae,af,ag,aj,isNil,Nat.reduceEqDiff,Nat.reduceAdd,Nat.reduceLT,Nat.reduceLeDiff,Int.reduceNeg,Int.reduceToNat,reduceCtorEq,jF,h1,h2,h5,ar]
    refine an.dec (fun hc=>?_) (fun hc=>?_)
    · have hg2:g.aw[i]?=some (g.aw[i]'(by omega)):=List.getElem?_eq_getElem (by omega)
      rw[eE (show i < g.aw.length by omega)] at hi
      generalize g.aw[i]'(by omega)=t at hg2 hi
      simp only[List.map_cons,jQ] at hi
      simp (disch:=omega) only [↓wr,↓reduceIte,wq,ai,ah,ak,ae,af,ag,aj,isNil,Nat.reduceEqDiff,Nat.reduceAdd,Nat.reduceLT,Nat.reduceLeDiff,Int.reduceNeg,Int.reduceToNat,reduceCtorEq,h1,h2,h5,ar,cZ,List.getElem?_map,hg2,Option.map_some]
      refine an.split (fun hd=>?_) (fun hd=>?_)
      · rw[if_pos hd] at hi
        simp (disch:=omega) only [↓wr,↓reduceIte,wq,ai,ah,ak,ae,af,ag,aj,isNil,Nat.reduceEqDiff,Nat.reduceAdd,Nat.reduceLT,Nat.reduceLeDiff,Int.reduceNeg,Int.reduceToNat,reduceCtorEq,h1,h2,h5]
        rw[hi]
      · rw[hd,if_neg (by simp)] at hi
        simp (disch:=omega) only [↓wr,↓reduceIte,wq,ai,ah,ak,ae,af,ag,aj,isNil,Nat.reduceEqDiff,Nat.reduceAdd,Nat.reduceLT,Nat.reduceLeDiff,Int.reduceNeg,Int.reduceToNat,reduceCtorEq,h1,h2,h5]
        exact ⟨k - 1,by omega,i+1,by omega,by push_cast; exact hi,rfl,rfl⟩
    · rw[List.drop_eq_nil_of_le (by omega)] at hi
      simp only[List.map_nil,jQ] at hi
      simp (disch:=omega) only [↓wr,↓reduceIte,wq,ai,ah,ak,ae,af,ag,aj,isNil,Nat.reduceEqDiff,Nat.reduceAdd,Nat.reduceLT,Nat.reduceLeDiff,Int.reduceNeg,Int.reduceToNat,reduceCtorEq,h1,h2,h5]
      rw[hi]
theorem yF (g:au) (hg:g.Ok) (s:ByteArray):aC Tryz.prog 114 [.agg (ar g),gs s] (gi (iI g s)):=aC.val (zg g s) (Eo g hg s)
theorem GB (g:au) (hg:g.Ok) (s:ByteArray) (H:View):aB Tryz.prog 95 [.agg (ar g),gs s] H fun r _=>r=gi (ta g s):=by
  refine aB.of mixed qV ?_
  have hs:g.aD.length < 4611686018427387904:=hg.aD
  simp (disch:=omega) only [↓wr,↓reduceIte,wq,ai,ah,ak,ae,af,ag,aj,isNil,Nat.reduceEqDiff,Nat.reduceAdd,Nat.reduceLT,Nat.reduceLeDiff,Int.reduceNeg,Int.reduceToNat,reduceCtorEq,mK,ar,encS]
  refine bo.intro (fun k T _=>∃ i:Nat,i+k=g.aD.length∧jQ s (g.aD.drop i) i=ta g s∧T 1=gs s∧T 2=.aJ (ar g) 0∧T 5=gi i) g.aD.length ?_ ?_
  · exact ⟨0,by omega,rfl,rfl,rfl,rfl⟩
  · rintro k T H' ⟨i,hk,hi,h1,h2,h5⟩
    simp (disch:=omega) only [↓wr,↓reduceIte,wq,ai,ah,ak,ae,af,ag,aj,isNil,Nat.reduceEqDiff,Nat.reduceAdd,Nat.reduceLT,Nat.reduceLeDiff,Int.reduceNeg,Int.reduceToNat,reduceCtorEq,kl,h1,h2,h5,ar,encS]
    refine an.dec (fun hc=>?_) (fun hc=>?_)
    · have hg2:g.aD[i]?=some (g.aD[i]'(by omega)):=List.getElem?_eq_getElem (by omega)
      rw[eE (show i < g.aD.length by omega)] at hi
      generalize g.aD[i]'(by omega)=t at hg2 hi
      simp only[List.map_cons,jQ] at hi
      simp (disch:=omega) only [↓wr,↓reduceIte,wq,ai,ah,ak,ae,af,ag,aj,isNil,Nat.reduceEqDiff,Nat.reduceAdd,Nat.reduceLT,Nat.reduceLeDiff,Int.reduceNeg,Int.reduceToNat,reduceCtorEq,h1,h2,h5,ar,encS,List.getElem?_map,hg2,Option.map_some]
      refine an.split (fun hd=>?_) (fun hd=>?_)
      · rw[if_pos hd] at hi
        simp (disch:=omega) only [↓wr,↓reduceIte,wq,ai,ah,ak,ae,af,ag,aj,isNil,Nat.reduceEqDiff,Nat.reduceAdd,Nat.reduceLT,Nat.reduceLeDiff,Int.reduceNeg,Int.reduceToNat,reduceCtorEq,h1,h2,h5]
        rw[hi]
      · rw[hd,if_neg (by simp)] at hi
        simp (disch:=omega) only [↓wr,↓reduceIte,wq,ai,ah,ak,ae,af,ag,aj,isNil,Nat.reduceEqDiff,Nat.reduceAdd,Nat.reduceLT,Nat.reduceLeDiff,Int.reduceNeg,Int.reduceToNat,reduceCtorEq,h1,h2,h5]
        exact ⟨k - 1,by omega,i+1,by omega,by push_cast; exact hi,rfl,rfl⟩
    · rw[List.drop_eq_nil_of_le (by omega)] at hi
      simp only[List.map_nil,jQ] at hi
      simp (disch:=omega) only [↓wr,↓reduceIte,wq,ai,ah,ak,ae,af,ag,aj,isNil,Nat.reduceEqDiff,Nat.reduceAdd,Nat.reduceLT,Nat.reduceLeDiff,Int.reduceNeg,Int.reduceToNat,reduceCtorEq,h1,h2,h5]
      rw[hi]
theorem GM (g:au) (hg:g.Ok) (s:ByteArray):aC Tryz.prog 95 [.agg (ar g),gs s] (gi (ta g s)):=aC.val (zg g s) (GB g hg s)
def eZ (n:Int):List Term→Int→Option Int
  | [],way=>some way
  | t :: r,way=>if t.level=n then (if way≠0∧way≠t.assoc then none else eZ n r t.assoc) else eZ n r way
def dV (l:List Term) (n:Int):Bool:=match eZ n l 0 with
  | some w=>w != 0
  | none=>false
theorem D4 (g:au) (hg:g.Ok) (n:Int) (H:View):aB Tryz.prog 115 [.agg (ar g),gi n] H fun r _=>r=gb (dV g.aw n):=by
  refine aB.of mixed px ?_
  have hs:g.aw.length < 4611686018427387904:=hg.aw
  simp (disch:=omega) only [↓wr,↓reduceIte,wq,ai,ah,ak,ae,af,ag,aj,isNil,Nat.reduceEqDiff,Nat.reduceAdd,Nat.reduceLT,Nat.reduceLeDiff,Int.reduceNeg,Int.reduceToNat,reduceCtorEq,kz,ar,encS]
  refine bo.intro (fun k T _=>∃ (i:Nat) (w:Int),i+k=g.aw.length∧eZ n (g.aw.drop i) w=eZ n g.aw 0∧T 1=gi n∧T 2=.aJ (ar g) 0∧T 5=gi w∧T 6=gi i) g.aw.length ?_ ?_
  · exact ⟨0,0,by omega,rfl,rfl,rfl,rfl,rfl⟩
  · rintro k T H' ⟨i,w,hk,hi,h1,h2,h5,h6⟩
    simp (disch:=omega) only [↓wr,↓reduceIte,wq,ai,ah,ak,ae,af,ag,aj,isNil,Nat.reduceEqDiff,Nat.reduceAdd,Nat.reduceLT,Nat.reduceLeDiff,Int.reduceNeg,Int.reduceToNat,reduceCtorEq,jr,h1,h2,h5,h6,ar]
    refine an.dec (fun hc=>?_) (fun hc=>?_)
    · have hg2:g.aw[i]?=some (g.aw[i]'(by omega)):=List.getElem?_eq_getElem (by omega)
      rw[eE (show i < g.aw.length by omega)] at hi
      generalize g.aw[i]'(by omega)=t at hg2 hi
      simp only[eZ] at hi
      simp (disch:=omega) only [↓wr,↓reduceIte,wq,ai,ah,ak,ae,af,ag,aj,isNil,Nat.reduceEqDiff,Nat.reduceAdd,Nat.reduceLT,Nat.reduceLeDiff,Int.reduceNeg,Int.reduceToNat,reduceCtorEq,h1,h2,h5,h6,ar,cZ,List.getElem?_map,hg2,Option.map_some]
      intro m hm
      try simp (disch:=omega) only [↓wr,↓reduceIte,wq,ai,ah,ak,ae,af,ag,aj,isNil,Nat.reduceEqDiff,Nat.reduceAdd,Nat.reduceLT,Nat.reduceLeDiff,Int.reduceNeg,Int.reduceToNat,reduceCtorEq,h1,h2,h5,h6]
      refine an.ne (fun hd=>?_) (fun hd=>?_)
      · rw[if_neg hd] at hi
        simp (disch:=omega) only [↓wr,↓reduceIte,wq,ai,ah,ak,ae,af,ag,aj,isNil,Nat.reduceEqDiff,Nat.reduceAdd,Nat.reduceLT,Nat.reduceLeDiff,Int.reduceNeg,Int.reduceToNat,reduceCtorEq,h1,h2,h5,h6]
        exact ⟨k - 1,by omega,i+1,w,by omega,hi,by first | rfl | exact ⟨rfl,rfl⟩ | exact ⟨rfl,rfl,rfl⟩⟩
      · rw[if_pos hd] at hi
        repeat' (first | (refine an.dec (fun _=>?_) (fun _=>?_)) | (refine an.eq (fun _=>?_) (fun _=>?_)) | (refine an.ne (fun _=>?_) (fun _=>?_)) | (refine an.split (fun _=>?_) (fun _=>?_)) | (simp (disch:=omega) only [↓wr,↓reduceIte,wq,ai,ah,ak,ae,af,ag,aj,isNil,Nat.reduceEqDiff,Nat.reduceAdd,Nat.reduceLT,Nat.reduceLeDiff,Int.reduceNeg,Int.reduceToNat,reduceCtorEq,h1,h2,h5,h6]))
        · rename_i a b
          rw[if_pos ⟨a,b⟩] at hi
          simp only[dV,← hi]
        · rename_i a b
          rw[if_neg (fun e=>e.2 b)] at hi
          exact ⟨k - 1,by omega,i+1,_,by omega,hi,by first | rfl | exact ⟨rfl,rfl⟩ | exact ⟨rfl,rfl,rfl⟩⟩
        · rename_i a
          rw[if_neg (fun e=>e.1 a)] at hi
          exact ⟨k - 1,by omega,i+1,_,by omega,hi,by first | rfl | exact ⟨rfl,rfl⟩ | exact ⟨rfl,rfl,rfl⟩⟩
    · rw[List.drop_eq_nil_of_le (by omega)] at hi
      simp only[eZ] at hi
      simp (disch:=omega) only [↓wr,↓reduceIte,wq,ai,ah,ak,ae,af,ag,aj,isNil,Nat.reduceEqDiff,Nat.reduceAdd,Nat.reduceLT,Nat.reduceLeDiff,Int.reduceNeg,Int.reduceToNat,reduceCtorEq,h1,h2,h5,h6]
      simp only[dV,← hi]
theorem C7 (g:au) (hg:g.Ok) (n:Int):aC Tryz.prog 115 [.agg (ar g),gi n] (gb (dV g.aw n)):=aC.val (zt g n) (D4 g hg n)
end Gv
set_option linter.unusedSimpArgs false
set_option maxRecDepth 100000
namespace Gv
open Go Go.Proofs
def m0 (g:au) (t:Term):Bool:=(List.range t.level.toNat).all fun k=>dV g.aw ((k:Int)+1)
def fP (g:au) (i:Int) (t:Term):Bool :=
  lu (df t.name) && (iI g t.name == i) && decide (0≤t.level) && decide (t.level≤24) && decide (0≤t.assoc) && decide (t.assoc≤3) && ((t.level == 0) == (t.assoc == 0)) && m0 g t
def fw (g:au):List Term→Int→Bool
  | [],_=>true
  | t :: r,i=>fP g i t && fw g r (i+1)
def fG (g:au):Bool:=decide (g.aw.length≤24) && fw g g.aw 0
def jn:SC :=
  .seq (.seq (al [aa 63 5,aq 64 1 4,ao 65 64,aK 66 .leq 63 65]) <|
  .cond (.tmp 66) (.skip) (.exit 2)) <|
  .seq (.block 3 (.seq (al [aO 69 4 1,aa 70 5,aF 71 115 [69,70],bQ 72 71]) <|
  .cond (.tmp 72) (.seq (al [aP 2 false]) <|
  .ret) (.skip))) <|
  al [aa 67 5,ax 68 .add 67 1,aa 5 68]
def jd:SC :=
  .seq (.seq (al [aa 10 3,aq 11 0 1,ao 12 11,aI 13 12,aK 14 .lss 10 13]) <|
  .cond (.tmp 14) (.skip) (.exit 0)) <|
  .seq (.block 1 (.seq (.region false [⟨none,[aq 17 0 1,ao 18 17,aa 19 3,aX 20 3 18 19,aO 21 3 20,((some 4),.op (.alloc [(.val (.string ⟨#[]⟩)),(.val (.int .i64 0)),(.val (.int .i64 0))])),(none,.op (.store 3 (.tmp 4) (.tmp 21)))]⟩]) <|
  .seq (.seq (.region false [⟨none,[aq 22 0 4,ao 23 22,aF 24 113 [23],bQ 25 24,aa 26 25]⟩,⟨(some (26,false)),[aO 27 4 1,aq 28 0 4,ao 29 28,aF 30 114 [27,29],aa 31 3,aK 32 .neq 30 31]⟩,⟨none,[bf 33 26 32,aa 34 33]⟩,⟨(some (34,false)),[aq 35 1 4,ao 36 35,ax 37 .lss 36 0]⟩,⟨none,[bf 38 34 37,aa 39 38]⟩,⟨(some (39,false)),[aq 40 1 4,ao 41 40,ax 42 .gtr 41 24]⟩,⟨none,[bf 43 39 42,aa 44 43]⟩,⟨(some (44,false)),[aq 45 2 4,ao 46 45,ax 47 .lss 46 0]⟩,⟨none,[bf 48 44 47,aa 49 48]⟩,⟨(some (49,false)),[aq 50 2 4,ao 51 50,ax 52 .gtr 51 3]⟩,⟨none,[bf 53 49 52,aa 54 53]⟩,⟨(some (54,false)),[aq 55 1 4,ao 56 55,ax 57 .eql 56 0,aq 58 2 4,ao 59 58,ax 60 .eql 59 0,((some 61),.op (.beq false (.tmp 57) (.tmp 60)))]⟩,⟨none,[bf 62 54 61]⟩]) <|
  .cond (.tmp 62) (.seq (al [aP 2 false]) <|
  .ret) (.skip)) <|
  .seq (al [aG 5 1]) <|
  .block 2 (.loop jn))) <|
  al [aa 15 3,ax 16 .add 15 1,aa 3 16]
def kr:SF:=⟨.seq (al [b7 1 0,aP 2 false]) <|
  .seq (.seq (al [aq 6 0 1,ao 7 6,aI 8 7,ax 9 .gtr 8 24]) <|
  .cond (.tmp 9) (.seq (al [aP 2 false]) <|
  .ret) (.skip)) <|
  .seq (.seq (al [aG 3 0]) <|
  .block 0 (.loop jd)) <|
  .seq (al [aP 2 true]) <|
  .ret,
  [.tmp 2],73⟩
theorem pa:aR Tryz.prog 68 [1]=some kr:=by kernel_rfl
def jL:SC :=
  .seq (.seq (al [aa 14 3,aq 15 1 1,ao 16 15,aI 17 16,aK 18 .lss 14 17]) <|
  .cond (.tmp 18) (.skip) (.exit 0)) <|
  .seq (.block 1 (.seq (.region false [⟨none,[aq 21 1 1,ao 22 21,aa 23 3,aX 24 1 22 23,ao 25 24,aF 26 116 [25],bQ 27 26,aa 28 27]⟩,⟨(some (28,false)),[aO 29 4 1,aq 30 1 1,ao 31 30,aa 32 3,aX 33 1 31 32,ao 34 33,aF 35 95 [29,34],aa 36 3,aK 37 .neq 35 36]⟩,⟨none,[bf 38 28 37,aa 39 38]⟩,⟨(some (39,false)),[aO 40 4 1,aq 41 1 1,ao 42 41,aa 43 3,aX 44 1 42 43,ao 45 44,aF 46 114 [40,45],ax 47 .geq 46 0]⟩,⟨none,[bf 48 39 47]⟩]) <|
  .cond (.tmp 48) (.seq (al [aP 2 false]) <|
  .ret) (.skip))) <|
  al [aa 19 3,ax 20 .add 19 1,aa 3 20]
def mj:SF:=⟨.seq (al [b7 1 0,aP 2 false]) <|
  .seq (.seq (.region false [⟨none,[aq 4 1 1,ao 5 4,aI 6 5,ax 7 .lss 6 1,aa 8 7]⟩,⟨(some (8,false)),[aq 9 1 1,ao 10 9,aI 11 10,ax 12 .gtr 11 16]⟩,⟨none,[bf 13 8 12]⟩]) <|
  .cond (.tmp 13) (.seq (al [aP 2 false]) <|
  .ret) (.skip)) <|
  .seq (.seq (al [aG 3 0]) <|
  .block 0 (.loop jL)) <|
  .seq (al [aP 2 true]) <|
  .ret,
  [.tmp 2],49⟩
theorem qx:aR Tryz.prog 69 [1]=some mj:=by kernel_rfl
def jz:SC :=
  .seq (.seq (al [aa 23 5,aq 24 1 3,ao 25 24,aI 26 25,aK 27 .lss 23 26]) <|
  .cond (.tmp 27) (.skip) (.exit 0)) <|
  .seq (.block 1 (.seq (.region false [⟨none,[aO 30 4 2,aq 31 1 3,ao 32 31,aa 33 5,aX 34 1 32 33,ao 35 34,aF 36 85 [30,35],bQ 37 36,aa 38 37]⟩,⟨(some (38,false)),[aq 39 1 3,ao 40 39,aa 41 5,aX 42 1 40 41,ao 43 42,ax 44 .geq 43 0,aa 45 44]⟩,⟨(some (45,true)),[aq 46 2 3,ao 47 46,ax 48 .eql 47 (-1)]⟩,⟨(some (38,false)),[bk 49 45 48]⟩,⟨none,[bf 50 38 49]⟩]) <|
  .cond (.tmp 50) (.seq (al [aP 4 false]) <|
  .ret) (.skip))) <|
  al [aa 28 5,ax 29 .add 28 1,aa 5 29]
def lp:SF:=⟨.seq (al [b7 2 0,b7 3 1,aP 4 false]) <|
  .seq (.seq (.region false [⟨none,[aq 6 1 3,ao 7 6,aI 8 7,ax 9 .gtr 8 6,aa 10 9]⟩,⟨(some (10,false)),[aq 11 2 3,ao 12 11,ax 13 .lss 12 (-1)]⟩,⟨none,[bf 14 10 13,aa 15 14]⟩,⟨(some (15,false)),[aq 16 2 3,ao 17 16,aq 18 0 2,ao 19 18,aI 20 19,aK 21 .geq 17 20]⟩,⟨none,[bf 22 15 21]⟩]) <|
  .cond (.tmp 22) (.seq (al [aP 4 false]) <|
  .ret) (.skip)) <|
  .seq (.seq (al [aG 5 0]) <|
  .block 0 (.loop jz)) <|
  .seq (al [aP 4 true]) <|
  .ret,
  [.tmp 4],51⟩
theorem pI:aR Tryz.prog 70 [2,3]=some lp:=by kernel_rfl
def jk:SC :=
  .seq (.seq (al [aa 39 4,aq 40 2 1,ao 41 40,aI 42 41,aK 43 .lss 39 42]) <|
  .cond (.tmp 43) (.skip) (.exit 0)) <|
  .seq (.block 1 (.seq (al [aq 46 2 1,ao 47 46,aa 48 4,aX 49 3 47 48,aO 50 3 49,((some 5),.op (.alloc [(.val (.int .i64 0)),(.emp 1),(.val (.int .i64 0))])),(none,.op (.store 3 (.tmp 5) (.tmp 50)))]) <|
  .seq (.seq (.region false [⟨none,[aq 51 0 5,ao 52 51,ax 53 .lss 52 0,aa 54 53]⟩,⟨(some (54,false)),[aq 55 0 5,ao 56 55,aa 57 3,ax 58 .add 57 1,aK 59 .gtr 56 58]⟩,⟨none,[bf 60 54 59,aa 61 60]⟩,⟨(some (61,false)),[aO 62 4 1,aO 63 3 5,aF 64 70 [62,63],bQ 65 64]⟩,⟨none,[bf 66 61 65]⟩]) <|
  .cond (.tmp 66) (.seq (al [aP 2 false]) <|
  .ret) (.skip)) <|
  .seq (al [aq 67 0 5,ao 68 67,aa 69 3,aK 70 .gtr 68 69]) <|
  .cond (.tmp 70) (al [aq 71 0 5,ao 72 71,aa 3 72]) (.skip))) <|
  al [aa 44 4,ax 45 .add 44 1,aa 4 45]
def ko:SF:=⟨.seq (al [b7 1 0,aP 2 false]) <|
  .seq (.seq (.region false [⟨none,[aO 6 4 1,aF 7 68 [6],bQ 8 7,aa 9 8]⟩,⟨(some (9,false)),[aO 10 4 1,aF 11 69 [10],bQ 12 11]⟩,⟨none,[bf 13 9 12,aa 14 13]⟩,⟨(some (14,false)),[aq 15 2 1,ao 16 15,aI 17 16,ax 18 .lss 17 1]⟩,⟨none,[bf 19 14 18,aa 20 19]⟩,⟨(some (20,false)),[aq 21 2 1,ao 22 21,aI 23 22,ax 24 .gtr 23 40]⟩,⟨none,[bf 25 20 24,aa 26 25]⟩,⟨(some (26,false)),[aq 27 3 1,ao 28 27,ax 29 .lss 28 0]⟩,⟨none,[bf 30 26 29,aa 31 30]⟩,⟨(some (31,false)),[aq 32 3 1,ao 33 32,aq 34 1 1,ao 35 34,aI 36 35,aK 37 .geq 33 36]⟩,⟨none,[bf 38 31 37]⟩]) <|
  .cond (.tmp 38) (.seq (al [aP 2 false]) <|
  .ret) (.skip)) <|
  .seq (al [aG 3 (-1)]) <|
  .seq (.seq (al [aG 4 0]) <|
  .block 0 (.loop jk)) <|
  .seq (al [aa 73 3,aq 74 1 1,ao 75 74,aI 76 75,ax 77 .sub 76 1,aK 78 .eql 73 77,aa 2 78]) <|
  .ret,
  [.tmp 2],79⟩
theorem oU:aR Tryz.prog 41 [1]=some ko:=by kernel_rfl
set_option maxHeartbeats 2000000 in
theorem DD (g:au) (hg:g.Ok) (H:View):aB Tryz.prog 68 [.agg (ar g)] H fun r _=>r=gb (fG g):=by
  refine aB.of mixed pa ?_
  simp (disch:=omega) only [↓wr,↓reduceIte,wq,ai,ah,ak,ae,af,ag,aj,isNil,Nat.reduceEqDiff,Nat.reduceAdd,Nat.reduceLT,Nat.reduceLeDiff,Int.reduceNeg,Int.reduceToNat,reduceCtorEq,kr,ar,encS]
  refine an.dec (fun h=>?_) (fun h=>?_)
  · simp (disch:=omega) only [↓wr,↓reduceIte,wq,ai,ah,ak,ae,af,ag,aj,isNil,Nat.reduceEqDiff,Nat.reduceAdd,Nat.reduceLT,Nat.reduceLeDiff,Int.reduceNeg,Int.reduceToNat,reduceCtorEq]
    simp[fG,show ¬ g.aw.length≤24 by omega]
  · have hle:g.aw.length≤24:=by omega
    simp (disch:=omega) only [↓wr,↓reduceIte,wq,ai,ah,ak,ae,af,ag,aj,isNil,Nat.reduceEqDiff,Nat.reduceAdd,Nat.reduceLT,Nat.reduceLeDiff,Int.reduceNeg,Int.reduceToNat,reduceCtorEq]
    refine bo.intro (fun k T _=>∃ i:Nat,i+k=g.aw.length∧fw g (g.aw.drop i) i=fw g g.aw 0∧T 1=.aJ (ar g) 0∧T 3=gi i) g.aw.length ?_ ?_
    · exact ⟨0,by omega,rfl,rfl,rfl⟩
    · rintro k T H' ⟨i,hk,hi,h1,h3⟩
      simp (disch:=omega) only [↓wr,↓reduceIte,wq,ai,ah,ak,ae,af,ag,aj,isNil,Nat.reduceEqDiff,Nat.reduceAdd,Nat.reduceLT,Nat.reduceLeDiff,Int.reduceNeg,Int.reduceToNat,reduceCtorEq,jd,h1,h3,ar]
      refine an.dec (fun hc=>?_) (fun hc=>?_)
      · have hg2:g.aw[i]?=some (g.aw[i]'(by omega)):=List.getElem?_eq_getElem (by omega)
        rw[eE (show i < g.aw.length by omega)] at hi
        have hmem:g.aw[i]'(by omega)∈g.aw:=List.getElem_mem _
        generalize g.aw[i]'(by omega)=t at hg2 hi hmem
        obtain ⟨⟨hl1,hl2⟩,⟨ha1,ha2⟩⟩:=hg.term t hmem
        simp only[fw] at hi
        have hbad:fP g i t=false→gb false=gb (fG g):=fun e=>by rw[e,Bool.false_and] at hi; simp[fG,← hi]
        simp (disch:=omega) only [↓wr,↓reduceIte,wq,ai,ah,ak,ae,af,ag,aj,isNil,Nat.reduceEqDiff,Nat.reduceAdd,Nat.reduceLT,Nat.reduceLeDiff,Int.reduceNeg,Int.reduceToNat,reduceCtorEq,h1,h3,ar,cZ,List.getElem?_map,hg2,Option.map_some]
        intro m hm
        try simp (disch:=omega) only [↓wr,↓reduceIte,wq,ai,ah,ak,ae,af,ag,aj,isNil,Nat.reduceEqDiff,Nat.reduceAdd,Nat.reduceLT,Nat.reduceLeDiff,Int.reduceNeg,Int.reduceToNat,reduceCtorEq,h1,h3]
        refine az.pure (D2 t.name) (by kernel_rfl) ?_
        repeat' (first | (refine an.dec (fun _=>?_) (fun _=>?_)) | (refine an.eq (fun _=>?_) (fun _=>?_)) | (refine an.ne (fun _=>?_) (fun _=>?_)) | (refine an.split (fun _=>?_) (fun _=>?_)) | (simp (disch:=omega) only [↓wr,↓reduceIte,wq,ai,ah,ak,ae,af,ag,aj,isNil,Nat.reduceEqDiff,Nat.reduceAdd,Nat.reduceLT,Nat.reduceLeDiff,Int.reduceNeg,Int.reduceToNat,reduceCtorEq,h1,h3,ar]))
        all_goals try (refine hbad ?_; simp[fP, *]; done)
        rename_i hnm
        refine az.pure (yF g hg t.name) (by kernel_rfl) ?_
        repeat' (first | (refine an.dec (fun _=>?_) (fun _=>?_)) | (refine an.eq (fun _=>?_) (fun _=>?_)) | (refine an.ne (fun _=>?_) (fun _=>?_)) | (refine an.split (fun _=>?_) (fun _=>?_)) | (simp (disch:=omega) only [↓wr,↓reduceIte,wq,ai,ah,ak,ae,af,ag,aj,isNil,Nat.reduceEqDiff,Nat.reduceAdd,Nat.reduceLT,Nat.reduceLeDiff,Int.reduceNeg,Int.reduceToNat,reduceCtorEq,h1,h3,ar]))
        all_goals try (refine hbad ?_; simp[fP, *]; done)
        all_goals try (refine hbad ?_; simp[fP]; grind)
        rename_i e1 e2 e3 e4 e5 e6
        have hpre:fP g i t=m0 g t:=by
          have e6':((t.level == 0) == (t.assoc == 0))=true:=by simpa using e6
          simp[fP,hnm,e1,e6',show (0:Int)≤t.level by omega,show t.level≤24 by omega,show (0:Int)≤t.assoc by omega,show t.assoc≤3 by omega]
        refine bo.intro (fun k' T H''=>∃ j:Nat,1≤j∧j+k'=t.level.toNat+1∧(∀ q:Nat,q+1 < j→dV g.aw ((q:Int)+1)=true)∧T 1=.aJ (ar g) 0∧T 3=gi i∧T 4=.ptr m 0 0∧H'' m=.arr 3 [[gs t.name,gi t.level,gi t.assoc]]∧T 5=gi j) t.level.toNat ?_ ?_
        · refine ⟨1,by omega,by omega,fun q hq=>by omega,?_⟩
          simp (disch:=omega) only [↓wr,↓reduceIte,wq,ai,ah,ak,ae,af,ag,aj,isNil,Nat.reduceEqDiff,Nat.reduceAdd,Nat.reduceLT,Nat.reduceLeDiff,Int.reduceNeg,Int.reduceToNat,reduceCtorEq,h1,h3,ar]
          rfl
        · rintro k' T' H'' ⟨j,hj1,hj2,hj3,f1,f3,f4,fm,f5⟩
          simp (disch:=omega) only [↓wr,↓reduceIte,wq,ai,ah,ak,ae,af,ag,aj,isNil,Nat.reduceEqDiff,Nat.reduceAdd,Nat.reduceLT,Nat.reduceLeDiff,Int.reduceNeg,Int.reduceToNat,reduceCtorEq,jn,f1,f3,f4,f5,fm]
          refine an.dec (fun hd=>?_) (fun hd=>?_)
          · simp (disch:=omega) only [↓wr,↓reduceIte,wq,ai,ah,ak,ae,af,ag,aj,isNil,Nat.reduceEqDiff,Nat.reduceAdd,Nat.reduceLT,Nat.reduceLeDiff,Int.reduceNeg,Int.reduceToNat,reduceCtorEq,f1,f3,f4,f5,fm,ar]
            refine az.pure (C7 g hg j) (by kernel_rfl) ?_
            repeat' (first | (refine an.dec (fun _=>?_) (fun _=>?_)) | (refine an.eq (fun _=>?_) (fun _=>?_)) | (refine an.ne (fun _=>?_) (fun _=>?_)) | (refine an.split (fun _=>?_) (fun _=>?_)) | (simp (disch:=omega) only [↓wr,↓reduceIte,wq,ai,ah,ak,ae,af,ag,aj,isNil,Nat.reduceEqDiff,Nat.reduceAdd,Nat.reduceLT,Nat.reduceLeDiff,Int.reduceNeg,Int.reduceToNat,reduceCtorEq,f1,f3,f4,f5,fm,ar]))
            · rename_i hb
              refine ⟨k' - 1,by omega,j+1,by omega,by omega,fun q hq=>?_,by first | rfl | exact ⟨rfl,rfl⟩ | exact ⟨rfl,rfl,rfl⟩⟩
              by_cases e:q+1=j
              · have:(q:Int)+1=j:=by omega
                rw[this]; exact hb
              · exact hj3 q (by omega)
            · rename_i hb
              refine hbad ?_
              rw[hpre,m0,List.all_eq_false]
              refine ⟨j - 1,by simp; omega,?_⟩
              have:((j - 1:Nat):Int)+1=j:=by omega
              rw[this,hb]; simp
          · simp (disch:=omega) only [↓wr,↓reduceIte,wq,ai,ah,ak,ae,af,ag,aj,isNil,Nat.reduceEqDiff,Nat.reduceAdd,Nat.reduceLT,Nat.reduceLeDiff,Int.reduceNeg,Int.reduceToNat,reduceCtorEq,f1,f3,f4,f5,fm]
            refine ⟨k - 1,by omega,i+1,by omega,?_,by first | rfl | exact ⟨rfl,rfl⟩ | exact ⟨rfl,rfl,rfl⟩⟩
            have hlv:m0 g t=true:=by
              rw[m0,List.all_eq_true]
              intro q hq
              exact hj3 q (by simp at hq; omega)
            rw[hpre,hlv,Bool.true_and] at hi
            push_cast; exact hi
      · rw[List.drop_eq_nil_of_le (by omega)] at hi
        simp only[fw] at hi
        simp (disch:=omega) only [↓wr,↓reduceIte,wq,ai,ah,ak,ae,af,ag,aj,isNil,Nat.reduceEqDiff,Nat.reduceAdd,Nat.reduceLT,Nat.reduceLeDiff,Int.reduceNeg,Int.reduceToNat,reduceCtorEq,h1,h3]
        simp[fG,hle,← hi]
theorem C5 (g:au) (hg:g.Ok):aC Tryz.prog 68 [.agg (ar g)] (gb (fG g)):=aC.val (k7 g) (DD g hg)
def ic (g:au) (i:Int) (s:ByteArray):Bool:=dE (df s) && (ta g s == i) && decide (iI g s < 0)
def m9 (g:au):List ByteArray→Int→Bool
  | [],_=>true
  | s :: r,i=>ic g i s && m9 g r (i+1)
def gg (g:au):Bool:=decide (1≤g.aD.length) && decide (g.aD.length≤16) && m9 g g.aD 0
set_option maxHeartbeats 1000000 in
theorem F0 (g:au) (hg:g.Ok) (H:View):aB Tryz.prog 69 [.agg (ar g)] H fun r _=>r=gb (gg g):=by
  refine aB.of mixed qx ?_
  repeat' (first | (refine an.dec (fun _=>?_) (fun _=>?_)) | (refine an.eq (fun _=>?_) (fun _=>?_)) | (refine an.ne (fun _=>?_) (fun _=>?_)) | (refine an.split (fun _=>?_) (fun _=>?_)) | (simp (disch:=omega) only [↓wr,↓reduceIte,wq,ai,ah,ak,ae,af,ag,aj,isNil,Nat.reduceEqDiff,Nat.reduceAdd,Nat.reduceLT,Nat.reduceLeDiff,Int.reduceNeg,Int.reduceToNat,reduceCtorEq,mj,ar,encS]))
  · simp[gg,show ¬ 1≤g.aD.length by omega]
  · simp[gg,show ¬ g.aD.length≤16 by omega]
  · have hle:g.aD.length≤16:=by omega
    refine bo.intro (fun k T _=>∃ i:Nat,i+k=g.aD.length∧m9 g (g.aD.drop i) i=m9 g g.aD 0∧T 1=.aJ (ar g) 0∧T 3=gi i) g.aD.length ?_ ?_
    · exact ⟨0,by omega,rfl,rfl,rfl⟩
    · rintro k T H' ⟨i,hk,hi,h1,h3⟩
      simp (disch:=omega) only [↓wr,↓reduceIte,wq,ai,ah,ak,ae,af,ag,aj,isNil,Nat.reduceEqDiff,Nat.reduceAdd,Nat.reduceLT,Nat.reduceLeDiff,Int.reduceNeg,Int.reduceToNat,reduceCtorEq,jL,h1,h3,ar,encS]
      refine an.dec (fun hc=>?_) (fun hc=>?_)
      · have hg2:g.aD[i]?=some (g.aD[i]'(by omega)):=List.getElem?_eq_getElem (by omega)
        rw[eE (show i < g.aD.length by omega)] at hi
        generalize g.aD[i]'(by omega)=t at hg2 hi
        simp only[m9] at hi
        have hbad:ic g i t=false→gb false=gb (gg g):=fun e=>by rw[e,Bool.false_and] at hi; simp[gg,← hi]
        simp (disch:=omega) only [↓wr,↓reduceIte,wq,ai,ah,ak,ae,af,ag,aj,isNil,Nat.reduceEqDiff,Nat.reduceAdd,Nat.reduceLT,Nat.reduceLeDiff,Int.reduceNeg,Int.reduceToNat,reduceCtorEq,h1,h3,ar,encS,List.getElem?_map,hg2,Option.map_some]
        refine az.pure (yN t) (by kernel_rfl) ?_
        repeat' (first | (refine an.dec (fun _=>?_) (fun _=>?_)) | (refine an.eq (fun _=>?_) (fun _=>?_)) | (refine an.ne (fun _=>?_) (fun _=>?_)) | (refine an.split (fun _=>?_) (fun _=>?_)) | (simp (disch:=omega) only [↓wr,↓reduceIte,wq,ai,ah,ak,ae,af,ag,aj,isNil,Nat.reduceEqDiff,Nat.reduceAdd,Nat.reduceLT,Nat.reduceLeDiff,Int.reduceNeg,Int.reduceToNat,reduceCtorEq,h1,h3,ar,encS,List.getElem?_map,hg2,Option.map_some]))
        all_goals try (refine hbad ?_; simp[ic, *]; done)
        rename_i hnm
        refine az.pure (GM g hg t) (by kernel_rfl) ?_
        repeat' (first | (refine an.dec (fun _=>?_) (fun _=>?_)) | (refine an.eq (fun _=>?_) (fun _=>?_)) | (refine an.ne (fun _=>?_) (fun _=>?_)) | (refine an.split (fun _=>?_) (fun _=>?_)) | (simp (disch:=omega) only [↓wr,↓reduceIte,wq,ai,ah,ak,ae,af,ag,aj,isNil,Nat.reduceEqDiff,Nat.reduceAdd,Nat.reduceLT,Nat.reduceLeDiff,Int.reduceNeg,Int.reduceToNat,reduceCtorEq,h1,h3,ar,encS,List.getElem?_map,hg2,Option.map_some]))
        all_goals try (refine hbad ?_; simp[ic, *]; done)
        rename_i hno
        refine az.pure (yF g hg t) (by kernel_rfl) ?_
        repeat' (first | (refine an.dec (fun _=>?_) (fun _=>?_)) | (refine an.eq (fun _=>?_) (fun _=>?_)) | (refine an.ne (fun _=>?_) (fun _=>?_)) | (refine an.split (fun _=>?_) (fun _=>?_)) | (simp (disch:=omega) only [↓wr,↓reduceIte,wq,ai,ah,ak,ae,af,ag,aj,isNil,Nat.reduceEqDiff,Nat.reduceAdd,Nat.reduceLT,Nat.reduceLeDiff,Int.reduceNeg,Int.reduceToNat,reduceCtorEq,h1,h3,ar,encS]))
        all_goals try (refine hbad ?_; simp[ic, *]; done)
        rename_i hte
        refine ⟨k - 1,by omega,i+1,by omega,?_,by first | rfl | exact ⟨rfl,rfl⟩ | exact ⟨rfl,rfl,rfl⟩⟩
        have:ic g i t=true:=by simp[ic,hnm,hno,show iI g t < 0 by omega]
        rw[this,Bool.true_and] at hi
        push_cast; exact hi
      · rw[List.drop_eq_nil_of_le (by omega)] at hi
        simp only[m9] at hi
        simp (disch:=omega) only [↓wr,↓reduceIte,wq,ai,ah,ak,ae,af,ag,aj,isNil,Nat.reduceEqDiff,Nat.reduceAdd,Nat.reduceLT,Nat.reduceLeDiff,Int.reduceNeg,Int.reduceToNat,reduceCtorEq,h1,h3]
        simp[gg,hle,show 1≤g.aD.length by omega,← hi]
theorem EY (g:au) (hg:g.Ok):aC Tryz.prog 69 [.agg (ar g)] (gb (gg g)):=aC.val (k7 g) (F0 g hg)
def iX (g:au) (prec s:Int):Bool:=kS g s && !(decide (0≤s) && prec == -1)
def ey (g:au) (r:aZ):Bool:=decide (r.right.length≤6) && decide (-1≤r.prec) && decide (r.prec < g.aw.length) && r.right.all (iX g r.prec)
theorem zk (g:au) (r:aZ):∀ v∈[V.agg (ar g),V.agg (bj r)],Tree v:=by
  intro v hv; simp at hv
  rcases hv with rfl | rfl
  · exact bF _ (bB g)
  · exact bF _ (gn r)
set_option maxHeartbeats 1000000 in
theorem D5 (g:au) (r:aZ) (hr:aL r.right∧∀ x∈r.right,bJ x) (H:View):aB Tryz.prog 70 [.agg (ar g),.agg (bj r)] H fun v _=>v=gb (ey g r):=by
  refine aB.of mixed pI ?_
  repeat' (first | (refine an.dec (fun _=>?_) (fun _=>?_)) | (refine an.eq (fun _=>?_) (fun _=>?_)) | (refine an.ne (fun _=>?_) (fun _=>?_)) | (refine an.split (fun _=>?_) (fun _=>?_)) | (simp (disch:=omega) only [↓wr,↓reduceIte,wq,ai,ah,ak,ae,af,ag,aj,isNil,Nat.reduceEqDiff,Nat.reduceAdd,Nat.reduceLT,Nat.reduceLeDiff,Int.reduceNeg,Int.reduceToNat,reduceCtorEq,lp,ar,encS,bj,encI]))
  · simp[ey,show ¬ r.right.length≤6 by omega]
  · simp[ey,show ¬ -1≤r.prec by omega]
  · simp[ey,show ¬ r.prec < g.aw.length by omega]
  · have hle:r.right.length≤6:=by omega
    have hp1 : -1≤r.prec:=by omega
    have hp2:r.prec < g.aw.length:=by omega
    refine bo.intro (fun k T _=>∃ i:Nat,i+k=r.right.length∧(r.right.drop i).all (iX g r.prec)=r.right.all (iX g r.prec)∧T 2=.aJ (ar g) 0∧T 3=.aJ (bj r) 0∧T 5=gi i) r.right.length ?_ ?_
    · exact ⟨0,by omega,rfl,rfl,rfl,rfl⟩
    · rintro k T H' ⟨i,hk,hi,h2,h3,h5⟩
      simp (disch:=omega) only [↓wr,↓reduceIte,wq,ai,ah,ak,ae,af,ag,aj,isNil,Nat.reduceEqDiff,Nat.reduceAdd,Nat.reduceLT,Nat.reduceLeDiff,Int.reduceNeg,Int.reduceToNat,reduceCtorEq,jz,h2,h3,h5,bj,encI]
      refine an.dec (fun hc=>?_) (fun hc=>?_)
      · have hg2:r.right[i]?=some (r.right[i]'(by omega)):=List.getElem?_eq_getElem (by omega)
        rw[eE (show i < r.right.length by omega)] at hi
        have hmem:r.right[i]'(by omega)∈r.right:=List.getElem_mem _
        generalize r.right[i]'(by omega)=t at hg2 hi hmem
        have hin:=hr.2 t hmem
        simp only[List.all_cons] at hi
        have hbad:iX g r.prec t=false→gb false=gb (ey g r):=fun e=>by rw[e,Bool.false_and] at hi; simp only[ey,← hi,Bool.and_false]
        have hok:iX g r.prec t=true→(r.right.drop (i+1)).all (iX g r.prec)=r.right.all (iX g r.prec):=fun e=>by rw[e,Bool.true_and] at hi; exact hi
        simp (disch:=omega) only [↓wr,↓reduceIte,wq,ai,ah,ak,ae,af,ag,aj,isNil,Nat.reduceEqDiff,Nat.reduceAdd,Nat.reduceLT,Nat.reduceLeDiff,Int.reduceNeg,Int.reduceToNat,reduceCtorEq,h2,h3,h5,ar,encS,bj,encI,List.getElem?_map,hg2,Option.map_some]
        refine az.pure (I1 g t hin) (by kernel_rfl) ?_
        repeat' (first | (refine an.dec (fun _=>?_) (fun _=>?_)) | (refine an.eq (fun _=>?_) (fun _=>?_)) | (refine an.ne (fun _=>?_) (fun _=>?_)) | (refine an.split (fun _=>?_) (fun _=>?_)) | (simp (disch:=omega) only [↓wr,↓reduceIte,wq,ai,ah,ak,ae,af,ag,aj,isNil,Nat.reduceEqDiff,Nat.reduceAdd,Nat.reduceLT,Nat.reduceLeDiff,Int.reduceNeg,Int.reduceToNat,reduceCtorEq,h2,h3,h5,ar,encS,bj,encI,List.getElem?_map,hg2,Option.map_some]))
        all_goals first
          | (refine hbad ?_; simp[iX, *]; done)
          | (refine ⟨k - 1,by omega,i+1,by omega,hok (by simp[iX, *]; done),by first | rfl | exact ⟨rfl,rfl⟩ | exact ⟨rfl,rfl,rfl⟩⟩)
          | skip
      · rw[List.drop_eq_nil_of_le (by omega)] at hi
        simp only[List.all_nil] at hi
        simp (disch:=omega) only [↓wr,↓reduceIte,wq,ai,ah,ak,ae,af,ag,aj,isNil,Nat.reduceEqDiff,Nat.reduceAdd,Nat.reduceLT,Nat.reduceLeDiff,Int.reduceNeg,Int.reduceToNat,reduceCtorEq,h2,h3,h5]
        simp only[ey,hle,hp1,hp2,decide_true,Bool.true_and,← hi]
theorem EP (g:au) (r:aZ) (hr:aL r.right∧∀ x∈r.right,bJ x):aC Tryz.prog 70 [.agg (ar g),.agg (bj r)] (gb (ey g r)):=aC.val (zk g r) (D5 g r hr)
def dW (g:au):List aZ→Int→Bool
  | [],top=>top == (g.aD.length:Int) - 1
  | r :: l,top=>decide (0≤r.left) && decide (r.left≤top+1) && ey g r && dW g l (if r.left > top then r.left else top)
def aT (g:au):Bool :=
  fG g && gg g && decide (1≤g.rules.length) && decide (g.rules.length≤40) && decide (0≤g.start) && decide (g.start < g.aD.length) && dW g g.rules (-1)
set_option maxHeartbeats 1000000 in
theorem DX (g:au) (hg:g.Ok) (H:View):aB Tryz.prog 41 [.agg (ar g)] H fun r _=>r=gb (aT g):=by
  refine aB.of mixed oU ?_
  have hn:=hg.aD
  unfold aL at hn
  simp (disch:=omega) only [↓wr,↓reduceIte,wq,ai,ah,ak,ae,af,ag,aj,isNil,Nat.reduceEqDiff,Nat.reduceAdd,Nat.reduceLT,Nat.reduceLeDiff,Int.reduceNeg,Int.reduceToNat,reduceCtorEq,ko,ar,encS]
  refine az.pure (C5 g hg) (by kernel_rfl) ?_
  repeat' (first | (refine an.dec (fun _=>?_) (fun _=>?_)) | (refine an.eq (fun _=>?_) (fun _=>?_)) | (refine an.ne (fun _=>?_) (fun _=>?_)) | (refine an.split (fun _=>?_) (fun _=>?_)) | (simp (disch:=omega) only [↓wr,↓reduceIte,wq,ai,ah,ak,ae,af,ag,aj,isNil,Nat.reduceEqDiff,Nat.reduceAdd,Nat.reduceLT,Nat.reduceLeDiff,Int.reduceNeg,Int.reduceToNat,reduceCtorEq,ar,encS]))
  · rename_i h1
    refine az.pure (EY g hg) (by kernel_rfl) ?_
    repeat' (first | (refine an.dec (fun _=>?_) (fun _=>?_)) | (refine an.eq (fun _=>?_) (fun _=>?_)) | (refine an.ne (fun _=>?_) (fun _=>?_)) | (refine an.split (fun _=>?_) (fun _=>?_)) | (simp (disch:=omega) only [↓wr,↓reduceIte,wq,ai,ah,ak,ae,af,ag,aj,isNil,Nat.reduceEqDiff,Nat.reduceAdd,Nat.reduceLT,Nat.reduceLeDiff,Int.reduceNeg,Int.reduceToNat,reduceCtorEq,ar,encS]))
    all_goals try (simp[aT, *]; done)
    all_goals try (simp[aT]; omega)
    rename_i h2 h3 h4 h5 h6
    have hle:g.rules.length≤40:=by omega
    have hpre:∀ b,dW g g.rules (-1)=b→gb b=gb (aT g):=fun b e=>by
      simp[aT,h1,h2,show 1≤g.rules.length by omega,hle,show 0≤g.start by omega,show g.start < g.aD.length by omega,e]
    refine bo.intro (fun k T _=>∃ (i:Nat) (w:Int),i+k=g.rules.length∧-1≤w∧w < i∧dW g (g.rules.drop i) w=dW g g.rules (-1)∧T 1=.aJ (ar g) 0∧T 3=gi w∧T 4=gi i) g.rules.length ?_ ?_
    · exact ⟨0,-1,by omega,by omega,by omega,rfl,rfl,rfl,rfl⟩
    · rintro k T H' ⟨i,w,hk,hw1,hw2,hi,f1,f3,f4⟩
      simp (disch:=omega) only [↓wr,↓reduceIte,wq,ai,ah,ak,ae,af,ag,aj,isNil,Nat.reduceEqDiff,Nat.reduceAdd,Nat.reduceLT,Nat.reduceLeDiff,Int.reduceNeg,Int.reduceToNat,reduceCtorEq,jk,f1,f3,f4,ar]
      refine an.dec (fun hc=>?_) (fun hc=>?_)
      · have hg2:g.rules[i]?=some (g.rules[i]'(by omega)):=List.getElem?_eq_getElem (by omega)
        rw[eE (show i < g.rules.length by omega)] at hi
        have hmem:g.rules[i]'(by omega)∈g.rules:=List.getElem_mem _
        generalize g.rules[i]'(by omega)=t at hg2 hi hmem
        obtain ⟨⟨hl1,hl2⟩,hp,hr1,hr2⟩:=hg.bq t hmem
        simp only[dW] at hi
        simp (disch:=omega) only [↓wr,↓reduceIte,wq,ai,ah,ak,ae,af,ag,aj,isNil,Nat.reduceEqDiff,Nat.reduceAdd,Nat.reduceLT,Nat.reduceLeDiff,Int.reduceNeg,Int.reduceToNat,reduceCtorEq,f1,f3,f4,ar,encS,bj,encI,List.getElem?_map,hg2,Option.map_some]
        intro m hm
        try simp (disch:=omega) only [↓wr,↓reduceIte,wq,ai,ah,ak,ae,af,ag,aj,isNil,Nat.reduceEqDiff,Nat.reduceAdd,Nat.reduceLT,Nat.reduceLeDiff,Int.reduceNeg,Int.reduceToNat,reduceCtorEq,f1,f3,f4]
        repeat' (first | (refine an.dec (fun _=>?_) (fun _=>?_)) | (refine an.eq (fun _=>?_) (fun _=>?_)) | (refine an.ne (fun _=>?_) (fun _=>?_)) | (refine an.split (fun _=>?_) (fun _=>?_)) | (simp (disch:=omega) only [↓wr,↓reduceIte,wq,ai,ah,ak,ae,af,ag,aj,isNil,Nat.reduceEqDiff,Nat.reduceAdd,Nat.reduceLT,Nat.reduceLeDiff,Int.reduceNeg,Int.reduceToNat,reduceCtorEq,f1,f3,f4,ar,encS,bj,encI]))
        all_goals try (refine hpre _ ?_; simp only[← hi]; simp; omega)
        rename_i e1 e2
        refine az.pure (EP g t ⟨hr1,hr2⟩) (by kernel_rfl) ?_
        repeat' (first | (refine an.dec (fun _=>?_) (fun _=>?_)) | (refine an.eq (fun _=>?_) (fun _=>?_)) | (refine an.ne (fun _=>?_) (fun _=>?_)) | (refine an.split (fun _=>?_) (fun _=>?_)) | (simp (disch:=omega) only [↓wr,↓reduceIte,wq,ai,ah,ak,ae,af,ag,aj,isNil,Nat.reduceEqDiff,Nat.reduceAdd,Nat.reduceLT,Nat.reduceLeDiff,Int.reduceNeg,Int.reduceToNat,reduceCtorEq,f1,f3,f4,ar,encS,bj,encI]))
        all_goals simp only[show 0≤t.left by omega,show t.left≤w+1 by omega,decide_true,Bool.true_and] at hi
        · rename_i e3 e4
          rw[e3,Bool.true_and,if_pos e4] at hi
          exact ⟨k - 1,by omega,i+1,_,by omega,by omega,by push_cast; omega,hi,by first | rfl | exact ⟨rfl,rfl⟩ | exact ⟨rfl,rfl,rfl⟩⟩
        · rename_i e3 e4
          rw[e3,Bool.true_and,if_neg e4] at hi
          exact ⟨k - 1,by omega,i+1,_,by omega,by omega,by push_cast; omega,hi,by first | rfl | exact ⟨rfl,rfl⟩ | exact ⟨rfl,rfl,rfl⟩⟩
        · rename_i e3
          rw[e3,Bool.false_and] at hi
          exact hpre _ hi.symm
      · rw[List.drop_eq_nil_of_le (by omega)] at hi
        simp only[dW] at hi
        simp (disch:=omega) only [↓wr,↓reduceIte,wq,ai,ah,ak,ae,af,ag,aj,isNil,Nat.reduceEqDiff,Nat.reduceAdd,Nat.reduceLT,Nat.reduceLeDiff,Int.reduceNeg,Int.reduceToNat,reduceCtorEq,f1,f3,f4,ar,encS]
        exact hpre _ hi.symm
  · rename_i h1; simp[aT,h1]
theorem rA (g:au) (hg:g.Ok):aC Tryz.prog 41 [.agg (ar g)] (gb (aT g)):=aC.val (k7 g) (DX g hg)
end Gv
namespace Gv
open Go
inductive bC (α:Type) where
  | nil
  | node (v:α) (l r:bC α)
noncomputable def bC.get {α:Type} (z:α) (t:bC α):Nat→α :=
  bC.rec (motive:=fun _=>Nat→α) (fun _=>z) (fun v _ _ gl gr i=>Bool.rec (Bool.rec (gr (i / 2 - 1)) (gl (i / 2)) (Nat.beq (i % 2) 1)) v (Nat.beq i 0)) t
theorem bC.get_nil {α:Type} (z:α) (i:Nat):bC.get z .nil i=z:=rfl
theorem bC.Ho {α:Type} (z v:α) (l r:bC α) (i:Nat):bC.get z (.node v l r) i=match Nat.beq i 0 with
    | true=>v
    | false=>match Nat.beq (i % 2) 1 with
      | true=>bC.get z l (i / 2)
      | false=>bC.get z r (i / 2 - 1):=by
  change (Bool.rec (motive:=fun _=>α) _ _ _:α)=_
  cases Nat.beq i 0 with
  | true=>rfl
  | false=>cases Nat.beq (i % 2) 1 <;> rfl
def bC.val {α:Type} (z:α):bC α→α
  | .nil=>z
  | .node v _ _=>v
def bC.left {α:Type} : bC α→bC α
  | .nil=>.nil
  | .node _ l _=>l
def bC.right {α:Type} : bC α→bC α
  | .nil=>.nil
  | .node _ _ r=>r
noncomputable def bC.put {α:Type} (z:α) (x:α) (d:Nat):bC α→Nat→bC α :=
  Nat.rec (motive:=fun _=>bC α→Nat→bC α) (fun t _=>t) (fun _ pd t i =>
    Bool.rec (Bool.rec (.node (t.val z) t.left (pd t.right (i / 2 - 1))) (.node (t.val z) (pd t.left (i / 2)) t.right) (Nat.beq (i % 2) 1)) (.node x t.left t.right) (Nat.beq i 0)) d
theorem bC.Gy {α:Type} (z x:α) (d:Nat) (t:bC α) (i:Nat):bC.put z x (d+1) t i=match Nat.beq i 0 with
    | true=>.node x t.left t.right
    | false=>match Nat.beq (i % 2) 1 with
      | true=>.node (t.val z) (bC.put z x d t.left (i / 2)) t.right
      | false=>.node (t.val z) t.left (bC.put z x d t.right (i / 2 - 1)):=by
  change (Bool.rec (motive:=fun _=>bC α) _ _ _:bC α)=_
  cases Nat.beq i 0 with
  | true=>rfl
  | false=>cases Nat.beq (i % 2) 1 <;> rfl
theorem bC.iZ {α:Type} (z:α) (t:bC α) (j:Nat):t.get z j=if j=0 then t.val z else if j % 2=1 then t.left.get z (j / 2) else t.right.get z (j / 2 - 1):=by
  cases t with
  | nil=>simp[bC.get_nil,bC.val,bC.left,bC.right]
  | node v l r =>
    simp only[bC.Ho,bC.val,bC.left,bC.right]
    by_cases h:j=0
    · subst h; rfl
    · have:Nat.beq j 0=false:=by cases e:Nat.beq j 0 with | true=>exact absurd (Nat.eq_of_beq_eq_true e) h | false=>rfl
      rw[this,if_neg h]
      simp only
      by_cases h2:j % 2=1
      · have:Nat.beq (j % 2) 1=true:=by rw[h2]; rfl
        rw[this,if_pos h2]
      · have:Nat.beq (j % 2) 1=false:=by cases e:Nat.beq (j % 2) 1 with | true=>exact absurd (Nat.eq_of_beq_eq_true e) h2 | false=>rfl
        rw[this,if_neg h2]
theorem bC.je {α:Type} (z x:α):∀ (d:Nat) (t:bC α) (i j:Nat),i+1 < 2 ^ d→(bC.put z x d t i).get z j=if j=i then x else t.get z j
  | 0,t,i,j,h=>by simp at h
  | d+1,t,i,j,h=>by
    rw[Nat.pow_succ] at h
    simp only[bC.Gy]
    by_cases hi:i=0
    · subst hi
      have:Nat.beq 0 0=true:=rfl
      rw[this]
      simp only
      rw[bC.iZ,bC.iZ z t]
      simp only[bC.val,bC.left,bC.right]
      by_cases hj:j=0
      · rw[if_pos hj,if_pos hj]
      · rw[if_neg hj,if_neg hj,if_neg hj]
    · have:Nat.beq i 0=false:=by cases e:Nat.beq i 0 with | true=>exact absurd (Nat.eq_of_beq_eq_true e) hi | false=>rfl
      rw[this]
      simp only
      by_cases h2:i % 2=1
      · have:Nat.beq (i % 2) 1=true:=by rw[h2]; rfl
        rw[this]
        simp only
        rw[bC.iZ,bC.iZ z t]
        simp only[bC.val,bC.left,bC.right]
        by_cases hj:j=0
        · subst hj; rw[if_pos rfl,if_neg (fun e=>hi e.symm),if_pos rfl]
        · rw[if_neg hj,if_neg hj]
          by_cases hj2:j % 2=1
          · rw[if_pos hj2,if_pos hj2,bC.je z x d _ _ _ (by omega)]
            by_cases e:j=i
            · subst e; simp
            · rw[if_neg e,if_neg (by omega)]
          · rw[if_neg hj2,if_neg hj2,if_neg (fun e=>hj2 (by rw[e]; exact h2))]
      · have:Nat.beq (i % 2) 1=false:=by cases e:Nat.beq (i % 2) 1 with | true=>exact absurd (Nat.eq_of_beq_eq_true e) h2 | false=>rfl
        rw[this]
        simp only
        rw[bC.iZ,bC.iZ z t]
        simp only[bC.val,bC.left,bC.right]
        by_cases hj:j=0
        · subst hj; rw[if_pos rfl,if_neg (fun e=>hi e.symm),if_pos rfl]
        · rw[if_neg hj,if_neg hj]
          by_cases hj2:j % 2=1
          · rw[if_pos hj2,if_pos hj2,if_neg (fun e=>h2 (by rw[← e]; exact hj2))]
          · rw[if_neg hj2,if_neg hj2,bC.je z x d _ _ _ (by omega)]
            by_cases e:j=i
            · subst e; simp
            · rw[if_neg e,if_neg (by omega)]
abbrev deep:Nat:=13
structure ES where
  L:bC V
  H:bC br
  n:Nat
  w:List Nat
noncomputable def ES.T (s:ES):Env:=s.L.get .any
noncomputable def ES.V (s:ES):View:=s.H.get .dead
noncomputable def ES.put (s:ES) (d:Option Nat) (v:Gv.V):ES:=match d with
  | some t=>⟨s.L.put .any v deep t,s.H,s.n,s.w⟩
  | none=>s
theorem ES.HB {s:ES} {d:Option Nat} {v:Gv.V} (h:∀ t,d=some t→t < 8000):(s.put d v).T=s.T.put d v:=by
  cases d with
  | none=>rfl
  | some t =>
    funext k
    have:=h t rfl
    simp only[ES.put,ES.T,Env.put]
    rw[bC.je _ _ _ _ _ _ (by simp[deep]; omega)]
noncomputable def AV (v:V) (aA:ba) (rd:List Nat) (s:ES):Option (V × ES × Rec):=match aA with
  | .none=>some (v,s,⟨rd,[],false,s.n,s.n⟩)
  | .new o=>match Nat.ble s.n 8000 with
    | true=>some (v,⟨s.L,s.H.put .dead o deep s.n,s.n+1,s.w⟩,⟨rd,[],false,s.n,s.n+1⟩)
    | false=>none
  | .dw id o=>match Nat.ble id 8000 with
    | true=>some (v,⟨s.L,s.H.put .dead o deep id,s.n,id :: s.w⟩,⟨rd,[id],false,s.n,s.n⟩)
    | false=>none
  | .bg id o=>match Nat.ble s.n 8000,Nat.ble id 8000 with
    | true,true=>some (v,⟨s.L,(s.H.put .dead .dead deep id).put .dead o deep s.n,s.n+1,id :: s.w⟩,⟨rd,[id],false,s.n,s.n+1⟩)
    | _,_=>none
noncomputable def JR (x:SX) (_:Program) (T:Env) (_:View) (_:Nat):Out:=some (x.at T,.none,[])
noncomputable def Ju (c a b:SX) (_:Program) (T:Env) (_:View) (_:Nat):Out:=match c.at T with
  | .val (.bool t)=>some (if t then a.at T else b.at T,.none,[])
  | _=>none
noncomputable def Js (sz:Option Nat) (a:SX) (_:Program) (T:Env) (H:View) (_:Nat):Out:=rJ sz (a.at T) H
noncomputable def Jd (sz:Nat) (a x:SX) (_:Program) (T:Env) (H:View) (_:Nat):Out:=wb sz (a.at T) (x.at T) H
noncomputable def Jz (off:Nat) (x:SX) (_:Program) (T:Env) (_:View) (_:Nat):Out:=tM off (x.at T)
noncomputable def JU (sz:Nat) (x i:SX) (_:Program) (T:Env) (_:View) (_:Nat):Out:=xe sz (x.at T) (i.at T)
noncomputable def JY (x:SX) (_:Program) (T:Env) (_:View) (_:Nat):Out:=(dK (x.at T)).map fun n=>(ak n,.none,[])
noncomputable def IJ (op:BinOp) (x y:SX) (_:Program) (T:Env) (_:View) (_:Nat):Out:=tB op (x.at T) (y.at T)
noncomputable def JP (op:BinOp) (x y:SX) (_:Program) (T:Env) (_:View) (_:Nat):Out:=uL op (x.at T) (y.at T)
noncomputable def JS (x:SX) (_:Program) (T:Env) (_:View) (_:Nat):Out:=match x.at T with
  | .val (.bool t)=>some (.val (.bool (!t)),.none,[])
  | _=>none
noncomputable def JX (i:Nat) (x:SX) (_:Program) (T:Env) (_:View) (_:Nat):Out:=match x.at T with
  | .bp vs=>if i < vs.length then some (vs.getD i .any,.none,[]) else none
  | _=>none
noncomputable def Jx (x:SX) (_:Program) (T:Env) (_:View) (_:Nat):Out:=match x.at T with
  | .ptr id i j=>some (.ptr id i j,.none,[])
  | .aJ e j=>some (.aJ e j,.none,[])
  | .fn f a b=>some (.fn f a b,.none,[])
  | _=>none
noncomputable def eI (s:SI):Program→Env→View→Nat→Out:=match s with
  | .bg x=>JR x
  | .pick c a b=>Ju c a b
  | .load sz a=>Js sz a
  | .store sz a x=>Jd sz a x
  | .addr o x=>Jz o x
  | .idx sz x i=>JU sz x i
  | .len x=>JY x
  | .arith op x y=>IJ op x y
  | .fO op x y=>JP op x y
  | .not x=>JS x
  | .ext i x=>JX i x
  | .uS x=>Jx x
  | s=>fun P T H n=>sI P s T H n
theorem DW (s:SI) (P:Program) (T:Env) (H:View) (n:Nat):eI s P T H n=sI P s T H n:=by
  cases s <;> rfl
abbrev en:=FuncId→List V→ES→Option (V × ES)
noncomputable def FQ (P:Program) (s:SI) (e:ES):Option (V × ES × Rec):=match eI s P e.T e.V e.n with
  | some (v,aA,rd)=>AV v aA rd e
  | none=>none
noncomputable def Fh (call:en) (f:SX) (args:List SX) (e:ES):Option (V × ES × Rec):=match f.at e.T with
  | .fn g first cap=>match call g (first ++ args.map (SX.at e.T) ++ cap) e with
    | some (v,e')=>some (v,⟨e.L,e'.H,e'.n,e'.w ++ e.w⟩,⟨[],e'.w,true,e.n,e'.n⟩)
    | none=>none
  | _=>none
noncomputable def eB (P:Program) (call:en) (b:SB):ES→Option (V × ES × Rec):=match b with
  | .op s=>FQ P s
  | .call f args=>Fh call f args
noncomputable def CM (P:Program) (call:en):List (Option Nat × SB)→List Rec→ES→Option (ES × List Rec)
  | [],a,e=>some (e,a)
  | (d,b) :: r,a,e=>match eB P call b e with
    | some (v,e',c)=>CM P call r (a ++ [c]) (e'.put d v)
    | none=>none
noncomputable def Hu (e:ES):Rec:=⟨[],[],false,e.n,e.n⟩
noncomputable def qN:List (Option Nat × SB)→List Rec→ES→ES × List Rec
  | [],a,e=>(e,a)
  | (d,_) :: r,a,e=>qN r (a ++ [Hu e]) (e.put d (.bp []))
noncomputable def E5 (P:Program) (call:en) (ops:List (Option Nat × SB)) (want:Bool) (v:V) (a:List Rec) (e:ES):Option (ES × List Rec):=match v with
  | .val (.bool b)=>match xor b want with
    | true=>some (qN ops a e)
    | false=>CM P call ops a e
  | .bp []=>some (qN ops a e)
  | _=>none
noncomputable def eG (P:Program) (call:en) (g:SG) (a:List Rec) (e:ES):Option (ES × List Rec):=match g.guard with
  | none=>CM P call g.ops a e
  | some (d,want)=>E5 P call g.ops want (e.T d) a e
noncomputable def FA (P:Program) (call:en):List SG→List Rec→ES→Option (ES × List Rec)
  | [],a,e=>some (e,a)
  | g :: r,a,e=>match eG P call g a e with
    | some (e',a')=>FA P call r a' e'
    | none=>none
inductive DC where
  | skip
  | region (ps:List (Nat × Nat)) (gs:List SG)
  | seq (x y:DC)
  | cond (c:SX) (x y:DC)
  | block (id:Nat) (c:DC)
  | loop (c:DC)
  | exit (id:Nat)
  | ret
  deriving Inhabited
def E9 (recs:List Rec) (ps:List (Nat × Nat)):Bool:=ps.all fun (i,k)=>match recs[i]?,recs[k]? with
  | some a,some b=>xb a b
  | _,_=>false
abbrev ER:=Option (Exit × ES)
abbrev rY:=DC→ES→ER
noncomputable def Gb:ES→ER:=fun e=>some (.normal,e)
noncomputable def CL (P:Program) (call:en) (ps:List (Nat × Nat)) (gs:List SG) (e:ES):ER:=match FA P call gs [] e with
  | some (e',recs)=>match E9 recs ps with
    | true=>some (.normal,e')
    | false=>none
  | none=>none
noncomputable def IV (run:rY) (x y:DC) (e:ES):ER:=match run x e with
  | some (.normal,e')=>run y e'
  | r=>r
noncomputable def Hy (run:rY) (c:SX) (x y:DC) (e:ES):ER:=match c.at e.T with
  | .val (.bool true)=>run x e
  | .val (.bool false)=>run y e
  | _=>none
noncomputable def FL (run:rY) (id:Nat) (c:DC) (e:ES):ER:=match run c e with
  | some (r,e')=>some (m3 id r,e')
  | none=>none
noncomputable def Hv (run:rY) (c:DC) (e:ES):ER:=match run c e with
  | some (.normal,e')=>run (.loop c) e'
  | r=>r
noncomputable def iB (P:Program) (call:en) (run:rY) (c:DC):ES→ER:=match c with
  | .skip=>Gb
  | .region ps gs=>CL P call ps gs
  | .seq x y=>IV run x y
  | .cond c x y=>Hy run c x y
  | .block id c=>FL run id c
  | .loop c=>Hv run c
  | .exit id=>fun e=>some (.exit id,e)
  | .ret=>fun e=>some (.ret,e)
noncomputable def G9 (r:SR) (e:ES):Option V:=match r with
  | .tmp t=>some (e.T t)
  | .cell t sz=>match e.T t with
    | .ptr id i j=>match e.V id with
      | .arr _ es=>if i < es.length then iD sz (es.getD i []) j else none
      | _=>none
    | .aJ e j=>iD sz e j
    | _=>none
noncomputable def qM:List SR→ES→Option (List V)
  | [],_=>some []
  | r :: l,e=>match G9 r e,qM l e with
    | some v,some vs=>some (v :: vs)
    | _,_=>none
noncomputable def jw:List V→Nat→bC V→bC V
  | [],_,t=>t
  | v :: vs,i,t=>jw vs (i+1) (t.put .any v deep i)
structure DF where
  code:DC
  res:List SR
  n:Nat
noncomputable def IU (l:List SR) (r:ER):Option (V × ES):=match r with
  | some (.ret,e)=>(qM l e).map fun vs=>(ai vs,e)
  | some (.normal,e)=>(qM l e).map fun vs=>(ai vs,e)
  | _=>none
noncomputable def I4 (m:Nat) (r:Option (V × ES)):Option (V × ES):=match r with
  | some (v,e)=>some (v,⟨e.L,e.H,e.n,e.w.filter fun id=>Nat.blt id m⟩)
  | none=>none
noncomputable def IL (run:rY) (F:DF) (vs:List V) (e:ES):Option (V × ES):=match Nat.ble vs.length F.n,Nat.ble F.n 8000 with
  | true,true=>I4 e.n (IU F.res (run F.code ⟨jw vs 0 .nil,e.H,e.n,[]⟩))
  | _,_=>none
abbrev uV:=FuncId→List V→Option V
noncomputable def zb (P:Program) (tab:List (FuncId × DF)) (ext:uV) (run:rY) (g:FuncId) (vs:List V) (e:ES):Option (V × ES):=match ext g vs with
  | some t=>some (t,⟨e.L,e.H,e.n,[]⟩)
  | none=>match tab.find? (fun p=>Nat.beq p.1 g) with
    | some (_,F)=>IL run F vs e
    | none=>none
noncomputable def zL (P:Program) (tab:List (FuncId × DF)) (ext:uV):Nat→rY
  | 0=>fun _ _=>none
  | k+1=>iB P (zb P tab ext (zL P tab ext k)) (zL P tab ext k)
def wh (all:List Oper) (ls:List Nat):List (Nat × Nat) :=
  let b:=dp all []
  (ls.zipIdx.map fun (x,i)=>(ls.zipIdx.filter fun (y,k)=>decide (i < k) && !(ordered b i k || x == 0 || y == 0 || (decide (x≤1) && decide (y≤1)))).map fun (_,k)=>(i,k)).flatten
def zo (P:Program) (n:Nat) (fz:List Nat) (ops:List Oper) (draw:Bool):Option DC:=match b9 P n ops ⟨fz,false⟩ ops with
  | none=>none
  | some l=>if !(group l).all oL then none else
    if draw then (if ir ops then some (.region (wh ops (l.map fun s=>eS P false s.b)) (group l)) else none) else some (.region [] (group l))
def eX (P:Program) (n:Nat) (fz:List Nat):Code→Option DC
  | .skip=>some .skip
  | .region _ ops draw=>zo P n fz ops.toList draw
  | .seq x y=>match eX P n fz x,eX P n fz y with
    | some a,some b=>some (.seq a b)
    | _,_=>none
  | .cond c x y=>match eX P n fz x,eX P n fz y with
    | some a,some b=>some (.cond (SX.of c) a b)
    | _,_=>none
  | .block id c=>(eX P n fz c).map (.block id)
  | .loop c=>(eX P n fz c).map .loop
  | .exit id=>some (.exit id)
  | .ret=>some .ret
  | _=>none
abbrev av (l:List (Option Nat × SB)):DC:=.region [] [⟨none,l⟩]
def bm (P:Program) (f:FuncId) (fz:List Nat):Option DF:=match P.funcs[f]? with
  | some fn=>match fn.body with
    | some c=>match eX P fn.ntmps fz c,dr P fn.results.toList,bY P f with
      | some sc,some rs,true=>some ⟨sc,rs,fn.ntmps⟩
      | _,_,_=>none
    | none=>none
  | none=>none
end Gv
namespace Gv
open Go
section
variable {P:Program} {n:Nat} {all:List Oper}
def eL (h:aE) (e:ES):Prop:=e.V=h.view∧e.n=h.length
def Calm (e e':ES) (h h':aE):Prop:=h.length≤h'.length∧(∀ id,id < h.length→¬ id∈e'.w→h'.view id=h.view id∧¬ id∈e.w)
theorem Calm.trans {a b c:ES} {h1 h2 h3:aE} (x:Calm a b h1 h2) (y:Calm b c h2 h3):Calm a c h1 h3 :=
  ⟨Nat.le_trans x.1 y.1,fun id hid hw =>
    let ⟨e1,d1⟩:=y.2 id (Nat.lt_of_lt_of_le hid x.1) hw
    let ⟨e2,d2⟩:=x.2 id hid d1
    ⟨e1.trans e2,d2⟩⟩
theorem Calm.refl (e:ES) (h:aE):Calm e e h h:=⟨Nat.le_refl _,fun _ _ hw=>⟨rfl,hw⟩⟩
def gp (P:Program) (call:en):Prop:=∀ g vs e v e' h,call g vs e=some (v,e')→eL h e →
  bY P g=true∧∃ h',bL P g vs h v h'∧eL h' e'∧(∀ id,id < h.length→¬ id∈e'.w→h'.view id=h.view id)∧∀ id,id∈e'.w→id < h.length
def qE (P:Program) (run:rY):Prop:=∀ (n:Nat) (fz:List Nat) (c:Code) (sc:DC),eX P n fz c=some sc→n≤8000→∀ (e e':ES) (r:Exit) (h:aE),run sc e=some (r,e')→eL h e →
  ∃ h',bX P n c e.T h r e'.T h'∧eL h' e'∧Calm e e' h h'∧∀ c0,c=.loop c0→lf P n c0 e.T h r e'.T h'
theorem Ef {h:aE} {e:ES} {d:Option Nat} {v:V} (he:eL h e):eL h (e.put d v):=by cases d <;> exact he
theorem HE {e:ES} {d:Option Nat} {v:V} : (e.put d v).w=e.w:=by cases d <;> rfl
theorem Gk {h:aE} {e e':ES} {h':aE} {d:Option Nat} {v:V} (x:Calm e e' h h'):Calm e (e'.put d v) h h':=⟨x.1,fun id hid hw=>x.2 id hid (by rw[HE] at hw; exact hw)⟩
theorem wK {a:Nat} (h:Nat.ble a 8000=true):a+1 < 2 ^ 13:=by
  have:=Nat.le_of_ble_eq_true h
  omega
theorem It {h:aE} {e e':ES} {v v':V} {aA:ba} {rd:List Nat} {c:Rec} (he:eL h e) (hx:AV v aA rd e=some (v',e',c)) :
    v'=v∧e'.T=e.T∧e'.V=aA.view h.view h.length∧e'.n=(aA.apply h).length∧c=⟨rd,aA.wr,false,h.length,(aA.apply h).length⟩∧e'.w=aA.wr ++ e.w:=by
  obtain ⟨h1,h2⟩:=he
  unfold AV at hx
  cases aA with
  | none =>
    simp only[Option.some.injEq,Prod.mk.injEq] at hx
    obtain ⟨rfl,rfl,rfl⟩:=hx
    exact ⟨rfl,rfl,h1,h2,by rw[h2]; rfl,rfl⟩
  | new o =>
    simp only at hx
    split at hx
    · rename_i hb
      simp only[Option.some.injEq,Prod.mk.injEq] at hx
      obtain ⟨rfl,rfl,rfl⟩:=hx
      refine ⟨rfl,rfl,?_,by simp[dN,h2],by simp[dN,h2,ba.wr],rfl⟩
      funext k
      simp only[ES.V,ba.view,View.set]
      rw[bC.je _ _ _ _ _ _ (wK hb),h2]
      have:=congrFun h1 k
      simp only[ES.V] at this
      rw[this]
    · simp at hx
  | dw id o =>
    simp only at hx
    split at hx
    · rename_i hb
      simp only[Option.some.injEq,Prod.mk.injEq] at hx
      obtain ⟨rfl,rfl,rfl⟩:=hx
      refine ⟨rfl,rfl,?_,by simp[dN,h2],by simp[dN,h2,ba.wr],rfl⟩
      funext k
      simp only[ES.V,ba.view,View.set]
      rw[bC.je _ _ _ _ _ _ (wK hb)]
      have:=congrFun h1 k
      simp only[ES.V] at this
      rw[this]
    · simp at hx
  | bg id o =>
    simp only at hx
    split at hx
    · rename_i hb1 hb2
      simp only[Option.some.injEq,Prod.mk.injEq] at hx
      obtain ⟨rfl,rfl,rfl⟩:=hx
      refine ⟨rfl,rfl,?_,by simp[dN,h2],by simp[dN,h2,ba.wr],rfl⟩
      funext k
      simp only[ES.V,ba.view,View.set]
      rw[bC.je _ _ _ _ _ _ (wK hb1),bC.je _ _ _ _ _ _ (wK hb2),h2]
      have:=congrFun h1 k
      simp only[ES.V] at this
      rw[this]
    · simp at hx
theorem IM {o:Oper} {e e':ES} {h:aE} {s:SI} {v:V} {c:Rec} (hg:bW n all e.T o=some true) (hc:∀ v aA rd,sI P s e.T h.view h.length=some (v,aA,rd)→bz P o e.T h.view h.length=some (v,aA,rd))
    (he:eL h e) (hx:FQ P s e=some (v,e',c)):∃ h',cw P n all o e.T h v h' c.rd c.wr c.call∧eL h' e'∧e'.T=e.T∧Calm e e' h h'∧gH (oN P s) c.rd c.wr c.call h.length h'.length∧c.lo=h.length∧c.hi=h'.length:=by
  unfold FQ at hx
  rw[DW,he.1,he.2] at hx
  split at hx
  · rename_i v0 aA rd hs
    obtain ⟨rfl,g1,g2,g3,rfl,g5⟩:=It he hx
    have ha:=hc _ _ _ hs
    have st:=cw.op (P:=P) (n:=n) (all:=all) hg ha
    refine ⟨aA.apply h,st,⟨?_,g3⟩,g1,⟨oF st,fun id hid hw=>?_⟩,⟨fun h0=>?_,fun h1=>?_⟩,rfl,rfl⟩
    · rw[gK (fun id hid=>(iR ha id hid).1)]; exact g2
    · rw[g5] at hw
      simp only[List.mem_append,not_or] at hw
      exact ⟨nf st hid hw.1,hw.2⟩
    · obtain ⟨rfl,rfl⟩:=(nv hs).1 h0
      exact ⟨rfl,rfl,rfl,rfl⟩
    · rcases Nat.lt_or_ge (oN P s) 1 with h2 | h2
      · obtain ⟨rfl,rfl⟩:=(nv hs).1 (by omega); rfl
      · exact (nv hs).2 (by omega)
  · simp at hx
theorem Jq {call:en} (hcall:gp P call) {fz:Fz} {o:Oper} {e e':ES} {h:aE} {v:V} {c:Rec} (hg:bW n all e.T o=some true) (he:eL h e) (hx:eB P call (jJ P fz o) e=some (v,e',c)) :
    ∃ h',cw P n all o e.T h v h' c.rd c.wr c.call∧eL h' e'∧e'.T=e.T∧Calm e e' h h'∧gH (eS P false (jJ P fz o)) c.rd c.wr c.call h.length h'.length∧c.lo=h.length∧c.hi=h'.length:=by
  rcases uv P fz o with ⟨f,args,ats,ho,hc⟩ | ⟨t,x,ho,hc⟩ | ⟨s,d,x,ho,hcv,hc⟩ | hc
  · rw[hc] at hx ⊢
    simp only[eB,Fh] at hx
    split at hx
    · rename_i g first cap hf
      rw[AH] at hx
      rw[SX.bI] at hf
      split at hx
      · rename_i v0 e0 hv
        obtain ⟨hok,h',hr,hek,hd,hd2⟩:=hcall _ _ _ _ _ _ hv he
        simp only[Option.some.injEq,Prod.mk.injEq] at hx
        obtain ⟨rfl,rfl,rfl⟩:=hx
        exact ⟨h',.call hg ho hf hok hr hd hd2,hek,rfl,⟨hr.1,fun id hid hw=>by
          simp only[List.mem_append,not_or] at hw
          exact ⟨hd id hid hw.1,hw.2⟩⟩,Hr (by simp[eS]),he.2,hek.2⟩
      · simp at hx
    · simp at hx
  · rw[hc] at hx ⊢
    simp only[eB,FQ,DW,sI,SX.bI] at hx
    split at hx
    · rename_i v0 aA rd hs
      split at hs
      · rename_i hok
        simp only[Option.some.injEq,Prod.mk.injEq] at hs
        obtain ⟨rfl,rfl,rfl⟩:=hs
        simp only[AV,Option.some.injEq,Prod.mk.injEq] at hx
        obtain ⟨rfl,rfl,rfl⟩:=hx
        exact ⟨h,.fg hg ho hok,he,rfl,Calm.refl _ _,⟨fun _=>⟨rfl,rfl,rfl,rfl⟩,fun _=>rfl⟩,he.2,he.2⟩
      · simp at hs
    · simp at hx
  · rw[hc] at hx ⊢
    obtain ⟨ty,h1,h2,h3⟩:=uc hcv
    simp only[eB,FQ,DW,sI,SX.bI] at hx
    split at hx
    · rename_i v0 aA rd hs
      split at hs
      · rename_i st hst
        simp only[Option.some.injEq,Prod.mk.injEq] at hs
        obtain ⟨rfl,rfl,rfl⟩:=hs
        simp only[AV,Option.some.injEq,Prod.mk.injEq] at hx
        obtain ⟨rfl,rfl,rfl⟩:=hx
        exact ⟨h,.dH hg ho h1 h2 h3 hst,he,rfl,Calm.refl _ _,⟨fun _=>⟨rfl,rfl,rfl,rfl⟩,fun _=>rfl⟩,he.2,he.2⟩
      · simp at hs
    · simp at hx
  · rw[hc] at hx ⊢
    exact IM (s:=tH P fz.fr (comp P o)) hg (fun v aA rd hs=>BT (BZ hs)) he hx
theorem IS {o:Oper} (hd:ni n o=true) (hn:n≤8000):∀ t,o.dst=some t→t < 8000:=by
  intro t ht
  unfold ni at hd
  rw[ht] at hd
  have:t < n:=by simpa using hd
  exact Nat.lt_of_lt_of_le this hn
theorem Ie {c:Rec} {a b:Nat} (h1:c.lo=a) (h2:c.hi=b):c=⟨c.rd,c.wr,c.call,a,b⟩:=by cases c; subst h1; subst h2; rfl
theorem AQ {call:en} (hcall:gp P call) (hn:n≤8000) {fz:Fz} (g:Option (Nat × Bool)):∀ (l:List (Option Nat × SB)) (os:List Oper) (e e':ES) (h:aE) (a a':List Rec),
    b9 P n all fz os=some (l.map fun (d,b)=>⟨d,g,b⟩)→(∀ d w,g=some (d,w)→e.T d=.val (.bool w)∧(l.all fun x=>x.1 != some d)=true)→eL h e→CM P call l a e=some (e',a') →
    ∃ recs h',a'=a ++ recs∧Tr P n all os e.T h recs e'.T h'∧eL h' e'∧Calm e e' h h'∧dz P false (l.map fun (d,b)=>⟨d,g,b⟩) recs
  | [],os,e,e',h,a,a',hc,hg,he,hx=>by
    have:=gQ hc; subst this
    simp only[CM,Option.some.injEq,Prod.mk.injEq] at hx; obtain ⟨rfl,rfl⟩:=hx
    exact ⟨[],h,by simp,.nil,he,Calm.refl _ _,.nil⟩
  | (d,b) :: l,os,e,e',h,a,a',hc,hg,he,hx=>by
    obtain ⟨o,r,rfl,h1,h2⟩:=iy hc
    obtain ⟨hd,hd1,hb1,hg1⟩:=ou h1
    simp only at hd1 hb1 hg1
    have hgv:bW n all e.T o=some true:=by
      cases g with
      | none=>exact wy hg1
      | some p =>
        obtain ⟨d',w⟩:=p
        have:=(gY (T:=e.T) hg1).1 w (hg d' w rfl).1
        rw[this]; simp
    simp only[CM] at hx
    rw[hb1] at hx
    split at hx
    · rename_i v e1 c hv
      obtain ⟨h1',st,he1,hT1,hcm,hl,hlo,hhi⟩:=Jq hcall hgv he hv
      have hput:(e1.put d v).T=e.T.put o.dst v:=by
        rw[ES.HB (by rw[hd1]; exact IS hd hn),hT1,hd1]
      obtain ⟨recs,h'',ha,tr,he2,hcm2,hro⟩:=AQ hcall hn g l r (e1.put d v) e' h1' _ a' h2 (fun d' w eq=>by
        have:=hg d' w eq
        simp only[List.all_cons,Bool.and_eq_true,bne_iff_ne,ne_eq] at this
        refine ⟨?_,this.2.2⟩
        rw[← this.1,hput,← hd1]
        cases d with
        | none=>rfl
        | some t=>simp only[Env.put]; rw[if_neg]; intro e; subst e; exact this.2.1 rfl) (Ef he1) hx
      rw[hput] at tr
      refine ⟨_,h'',?_,.cons st hd tr,he2,(Gk hcm).trans hcm2,hro.cons (by rw[hb1]; exact hl)⟩
      rw[ha,List.append_assoc,← Ie hlo hhi]; rfl
    · simp at hx
theorem Bd {fz:Fz} (hn:n≤8000) (d:Nat) (w:Bool) (h:aE):∀ (l:List (Option Nat × SB)) (os:List Oper) (e e':ES) (a a':List Rec),
    b9 P n all fz os=some (l.map fun (d',b)=>⟨d',some (d,w),b⟩)→(e.T d=.val (.bool !w)∨e.T d=.bp [])→(l.all fun x=>x.1 != some d)=true→eL h e→qN l a e=(e',a') →
    ∃ recs,a'=a ++ recs∧Tr P n all os e.T h recs e'.T h∧eL h e'∧e'.w=e.w∧dz P false (l.map fun (d',b)=>⟨d',some (d,w),b⟩) recs
  | [],os,e,e',a,a',hc,hd,hl,he,hx=>by
    have:=gQ hc; subst this
    simp only[qN,Prod.mk.injEq] at hx; obtain ⟨rfl,rfl⟩:=hx
    exact ⟨[],by simp,.nil,he,rfl,.nil⟩
  | (d',b) :: l,os,e,e',a,a',hc,hd,hl,he,hx=>by
    obtain ⟨o,r,rfl,h1,h2⟩:=iy hc
    obtain ⟨hd0,hd1,hb1,hg1⟩:=ou h1
    simp only at hd1 hb1 hg1
    have hgv:bW n all e.T o=some false:=by
      rcases hd with hd | hd
      · rw[(gY (T:=e.T) hg1).1 _ hd]; cases w <;> rfl
      · exact (gY (T:=e.T) hg1).2 hd
    simp only[List.all_cons,Bool.and_eq_true,bne_iff_ne,ne_eq] at hl
    have hput:(e.put d' (.bp [])).T=e.T.put o.dst (.bp []):=by
      rw[ES.HB (by rw[hd1]; exact IS hd0 hn),hd1]
    simp only[qN] at hx
    obtain ⟨recs,ha,tr,he2,hd2,hro⟩:=Bd hn d w h l r (e.put d' (.bp [])) e' _ a' h2 (by
      have:(e.put d' (.bp [])).T d=e.T d:=by
        rw[hput,← hd1]
        cases d' with
        | none=>rfl
        | some t=>simp only[Env.put]; rw[if_neg]; intro e; subst e; exact hl.1 rfl
      rw[this]; exact hd) hl.2 (Ef he) hx
    rw[hput] at tr
    refine ⟨_,?_,Tr.cons (.skip hgv) hd0 tr,he2,by rw[hd2,HE],hro.cons (r:=⟨[],[],false,h.length,h.length⟩) ⟨fun _=>⟨rfl,rfl,rfl,rfl⟩,fun _=>rfl⟩⟩
    rw[ha,List.append_assoc,Hu,he.2]; rfl
theorem yP {fz:Fz} (hn:n≤8000) {d:Nat} {w:Bool} {h:aE} {l:List (Option Nat × SB)} {os:List Oper} {e e':ES} {a a':List Rec}
    (hc:b9 P n all fz os=some (l.map fun (d',b)=>⟨d',some (d,w),b⟩)) (hd:e.T d=.val (.bool !w)∨e.T d=.bp []) (hl:(l.all fun x=>x.1 != some d)=true) (he:eL h e) (hx:qN l a e=(e',a')) :
    ∃ recs h',a'=a ++ recs∧Tr P n all os e.T h recs e'.T h'∧eL h' e'∧Calm e e' h h'∧dz P false (l.map fun (d',b)=>⟨d',some (d,w),b⟩) recs:=by
  obtain ⟨recs,h1,h2,h3,h4,h5⟩:=Bd hn d w h l os e e' a a' hc hd hl he hx
  exact ⟨recs,h,h1,h2,h3,⟨Nat.le_refl _,fun id _ hw=>⟨rfl,by rw[h4] at hw; exact hw⟩⟩,h5⟩
theorem Jt {call:en} (hcall:gp P call) (hn:n≤8000) {fz:Fz} {g:SG} {os:List Oper} {e e':ES} {h:aE} {a a':List Rec} (hc:b9 P n all fz os=some g.flat) (hok:oL g=true) (he:eL h e) (hx:eG P call g a e=some (e',a')) :
    ∃ recs h',a'=a ++ recs∧Tr P n all os e.T h recs e'.T h'∧eL h' e'∧Calm e e' h h'∧dz P false g.flat recs:=by
  unfold eG at hx
  unfold SG.flat at hc ⊢
  unfold oL at hok
  split at hx
  · rename_i hg
    rw[hg] at hc ⊢
    exact AQ hcall hn none g.ops os e e' h a a' hc (fun d w e=>by simp at e) he hx
  · rename_i d want hg
    rw[hg] at hc hok ⊢
    simp only at hok
    unfold E5 at hx
    split at hx
    · rename_i b hb
      split at hx
      · rename_i hxor
        simp only[Option.some.injEq] at hx
        have e':b = !want:=by cases b <;> cases want <;> simp_all
        subst e'
        exact yP hn hc (.inl hb) hok he hx
      · rename_i hxor
        have e':b=want:=by cases b <;> cases want <;> simp_all
        subst e'
        exact AQ hcall hn (some (d,b)) g.ops os e _ h a a' hc (fun d' w e=>by simp at e; obtain ⟨rfl,rfl⟩:=e; exact ⟨hb,hok⟩) he hx
    · rename_i hb
      simp only[Option.some.injEq] at hx
      exact yP hn hc (.inr hb) hok he hx
    · simp at hx
theorem FP {call:en} (hcall:gp P call) (hn:n≤8000) {fz:Fz} : ∀ (gs:List SG) (os:List Oper) (e e':ES) (h:aE) (a a':List Rec),b9 P n all fz os=some (fZ gs)→gs.all oL=true→eL h e→FA P call gs a e=some (e',a') →
    ∃ recs h',a'=a ++ recs∧Tr P n all os e.T h recs e'.T h'∧eL h' e'∧Calm e e' h h'∧dz P false (fZ gs) recs
  | [],os,e,e',h,a,a',hc,_,he,hx=>by
    have:=gQ hc; subst this
    simp only[FA,Option.some.injEq,Prod.mk.injEq] at hx; obtain ⟨rfl,rfl⟩:=hx
    exact ⟨[],h,by simp,.nil,he,Calm.refl _ _,.nil⟩
  | g :: gs,os,e,e',h,a,a',hc,hok,he,hx=>by
    simp only[fZ,List.map_cons,List.flatten_cons] at hc ⊢
    simp only[List.all_cons,Bool.and_eq_true] at hok
    obtain ⟨o1,o2,rfl,h1,h2⟩:=mw hc
    simp only[FA] at hx
    split at hx
    · rename_i e1 a1 hx1
      obtain ⟨r1,h1',ha1,tr1,he1,hc1,ro1⟩:=Jt hcall hn h1 hok.1 he hx1
      obtain ⟨r2,h2',ha2,tr2,he2,hc2,ro2⟩:=FP hcall hn gs o2 e1 e' h1' a1 a' h2 hok.2 he1 hx
      exact ⟨_,h2',by rw[ha2,ha1,List.append_assoc],tr1.append tr2,he2,hc1.trans hc2,ro1.append ro2⟩
    · simp at hx
theorem FC {ls:List Nat} {i k x y:Nat} (hik:i < k) (hx:ls[i]?=some x) (hy:ls[k]?=some y) (ho:ordered (dp all []) i k=false) (h:¬ (x=0∨y=0∨(x≤1∧y≤1))):(i,k)∈wh all ls:=by
  unfold wh
  simp only[List.mem_flatten,List.mem_map]
  refine ⟨_,⟨(x,i),by rw[List.mem_zipIdx_iff_getElem?]; exact hx,rfl⟩,?_⟩
  simp only[List.mem_map,List.mem_filter]
  refine ⟨(y,k),⟨by rw[List.mem_zipIdx_iff_getElem?]; exact hy,?_⟩,rfl⟩
  simp only[hik,decide_true,ho,Bool.false_or,Bool.true_and,Bool.not_eq_true',Bool.or_eq_false_iff,beq_eq_false_iff_ne,Bool.and_eq_false_iff,decide_eq_false_iff_not]
  omega
theorem Hi {ls:List Nat} {recs:List Rec} (h:E9 recs (wh all ls)=true) (hl:ls.length=recs.length) (hr:∀ (i x:Nat) (r:Rec),ls[i]?=some x→recs[i]?=some r→gH x r.rd r.wr r.call r.lo r.hi):oZ all recs:=by
  intro i k a b hik ha hb ho
  have hi:i < recs.length:=(List.getElem?_eq_some_iff.1 ha).1
  have hk:k < recs.length:=(List.getElem?_eq_some_iff.1 hb).1
  have hx:ls[i]?=some (ls[i]'(by omega)):=List.getElem?_eq_getElem (by omega)
  have hy:ls[k]?=some (ls[k]'(by omega)):=List.getElem?_eq_getElem (by omega)
  generalize ls[i]'(by omega)=x at hx
  generalize ls[k]'(by omega)=y at hy
  have la:=hr i _ a hx ha
  have lb:=hr k _ b hy hb
  by_cases hc:x=0∨y=0∨(x≤1∧y≤1)
  · rcases hc with h1 | h1 | h1
    · obtain ⟨e1,e2,e3,e4⟩:=la.1 h1
      exact ⟨fun id hid=>by simp[e2] at hid,fun id _=>by simp[e1],fun hc=>by simp[e3] at hc,fun _=>e2,fun id _ hx=>by omega⟩
    · obtain ⟨e1,e2,e3,e4⟩:=lb.1 h1
      exact ⟨fun id _=>by simp[e1],fun id hid=>by simp[e2] at hid,fun _=>e2,fun hc=>by simp[e3] at hc,fun id hid=>by simp[e2] at hid⟩
    · have e1:=la.2 h1.1
      have e2:=lb.2 h1.2
      exact ⟨fun id hid=>by simp[e1] at hid,fun id hid=>by simp[e2] at hid,fun _=>e2,fun _=>e1,fun id hid=>by simp[e2] at hid⟩
  · have:=List.all_eq_true.1 h _ (FC hik hx hy ho hc)
    simp only[ha,hb] at this
    exact FN this
theorem Ic (hm:P.follows .mixedOrders=true) {call:en} (hcall:gp P call) (hn:n≤8000) {fz:List Nat} {id:Nat} {ops:Array Oper} {draw:Bool} {sc:DC} {run:rY} {e e':ES} {r:Exit} {h:aE}
    (hc:zo P n fz ops.toList draw=some sc) (he:eL h e) (hx:iB P call run sc e=some (r,e')) :
    ∃ h',bX P n (.region id ops draw) e.T h r e'.T h'∧eL h' e'∧Calm e e' h h':=by
  unfold zo at hc
  split at hc
  · simp at hc
  · rename_i l hl
    split at hc
    · simp at hc
    · rename_i hok
      have hok:(group l).all oL=true:=by simpa using hok
      have hl':b9 P n ops.toList ⟨fz,false⟩ ops.toList=some (fZ (group l)):=by rw[dC]; exact hl
      have key:∀ ps,iB P call run (.region ps (group l)) e=some (r,e')→(draw=true→ir ops.toList=true∧ps=wh ops.toList (l.map fun s=>eS P false s.b)) →
          ∃ h',bX P n (.region id ops draw) e.T h r e'.T h'∧eL h' e'∧Calm e e' h h':=by
        intro ps hx hdr
        simp only[iB,CL] at hx
        split at hx
        · rename_i e1 recs0 hx1
          split at hx
          · rename_i hchk
            simp only[Option.some.injEq,Prod.mk.injEq] at hx
            obtain ⟨rfl,rfl⟩:=hx
            obtain ⟨recs,h',ha,tr,hk,hcm,hro⟩:=FP hcall hn (group l) ops.toList e e1 h [] recs0 hl' hok he hx1
            simp only[List.nil_append] at ha
            subst ha
            rw[dC] at hro
            refine ⟨h',?_,hk,hcm⟩
            cases hd:draw with
            | false=>simpa using zD (id:=id) tr
            | true =>
              obtain ⟨h1,rfl⟩:=hdr hd
              have hcf:oZ ops.toList recs0:=Hi hchk (by simpa using hro.1) (fun i x r hx hr=>by
                simp only[List.getElem?_map,Option.map_eq_some_iff] at hx
                obtain ⟨s,hs,rfl⟩:=hx
                exact hro.2 i s r hs hr)
              simpa using tg hm (id:=id) tr h1 hcf
          · simp at hx
        · simp at hx
      split at hc
      · rename_i hd
        split at hc
        · rename_i ht
          simp at hc; subst hc
          exact key _ hx (fun _=>⟨ht,rfl⟩)
        · simp at hc
      · rename_i hd
        simp at hc; subst hc
        exact key _ hx (fun e=>absurd e hd)
theorem Hp (hm:P.follows .mixedOrders=true) {call:en} (hcall:gp P call) {run:rY} (hrun:qE P run):qE P (iB P call run):=by
  intro n fz c sc hc hn e e' r h hx he
  cases c with
  | skip =>
    simp[eX] at hc; subst hc
    simp only[iB,Gb,Option.some.injEq,Prod.mk.injEq] at hx
    obtain ⟨rfl,rfl⟩:=hx
    exact ⟨h,.skip,he,Calm.refl _ _,fun _ h=>by simp at h⟩
  | region id ops draw =>
    obtain ⟨h',a,b,d⟩:=Ic (id:=id) hm hcall hn hc he hx
    exact ⟨h',a,b,d,fun _ h=>by simp at h⟩
  | seq x y =>
    simp only[eX] at hc
    split at hc
    · rename_i a b h1 h2
      simp at hc; subst hc
      simp only[iB,IV] at hx
      split at hx
      · rename_i e1 hx1
        obtain ⟨h1',x1,he1,c1,l1⟩:=hrun n fz x a h1 hn e e1 .normal h hx1 he
        obtain ⟨h2',x2,he2,c2,l2⟩:=hrun n fz y b h2 hn e1 e' r h1' hx he1
        exact ⟨h2',x1.seq x2,he2,c1.trans c2,fun _ h=>by simp at h⟩
      · rename_i hne
        obtain ⟨h1',x1,he1,c1,l1⟩:=hrun n fz x a h1 hn e e' r h hx he
        refine ⟨h1',x1.BW (fun e=>?_),he1,c1,fun _ h=>by simp at h⟩
        subst e
        exact absurd hx (hne e')
    · simp at hc
  | cond cc x y =>
    simp only[eX] at hc
    split at hc
    · rename_i a b h1 h2
      simp at hc; subst hc
      simp only[iB,Hy,SX.bI] at hx
      split at hx
      · rename_i ht
        obtain ⟨h1',x1,he1,c1,l1⟩:=hrun n fz x a h1 hn e e' r h hx he
        exact ⟨h1',.cond ht x1,he1,c1,fun _ h=>by simp at h⟩
      · rename_i ht
        obtain ⟨h1',x1,he1,c1,l1⟩:=hrun n fz y b h2 hn e e' r h hx he
        exact ⟨h1',.cond ht x1,he1,c1,fun _ h=>by simp at h⟩
      · simp at hx
    · simp at hc
  | block id c =>
    simp only[eX,Option.map_eq_some_iff] at hc
    obtain ⟨a,h1,rfl⟩:=hc
    simp only[iB,FL] at hx
    split at hx
    · rename_i r1 e1 hx1
      simp only[Option.some.injEq,Prod.mk.injEq] at hx
      obtain ⟨rfl,rfl⟩:=hx
      obtain ⟨h1',x1,he1,c1,l1⟩:=hrun n fz c a h1 hn e e1 r1 h hx1 he
      exact ⟨h1',x1.block,he1,c1,fun _ h=>by simp at h⟩
    · simp at hx
  | loop c =>
    have hc0:=hc
    simp only[eX,Option.map_eq_some_iff] at hc
    obtain ⟨a,h1,rfl⟩:=hc
    simp only[iB,Hv] at hx
    split at hx
    · rename_i e1 hx1
      obtain ⟨h1',x1,he1,c1,l1⟩:=hrun n fz c a h1 hn e e1 .normal h hx1 he
      obtain ⟨h2',x2,he2,c2,l2⟩:=hrun n fz (.loop c) (.loop a) hc0 hn e1 e' r h1' hx he1
      have hL:=lf.step x1 (l2 c rfl)
      exact ⟨h2',.loop hL,he2,c1.trans c2,fun c0 h0=>by simp only[Code.loop.injEq] at h0; subst h0; exact hL⟩
    · rename_i hne
      obtain ⟨h1',x1,he1,c1,l1⟩:=hrun n fz c a h1 hn e e' r h hx he
      have hL:=lf.out x1 (fun e=>by subst e; exact absurd hx (hne e'))
      exact ⟨h1',.loop hL,he1,c1,fun c0 h0=>by simp only[Code.loop.injEq] at h0; subst h0; exact hL⟩
  | exit id =>
    simp[eX] at hc; subst hc
    simp only[iB,Option.some.injEq,Prod.mk.injEq] at hx
    obtain ⟨rfl,rfl⟩:=hx
    exact ⟨h,.exit,he,Calm.refl _ _,fun _ h=>by simp at h⟩
  | ret =>
    simp[eX] at hc; subst hc
    simp only[iB,Option.some.injEq,Prod.mk.injEq] at hx
    obtain ⟨rfl,rfl⟩:=hx
    exact ⟨h,.ret,he,Calm.refl _ _,fun _ h=>by simp at h⟩
  | _=>simp[eX] at hc
theorem xN:∀ (vs:List V) (i:Nat) (t:bC V),i+vs.length≤8000→∀ k,(jw vs i t).get .any k=if i≤k∧k < i+vs.length then vs.getD (k - i) .any else t.get .any k
  | [],i,t,h,k=>by
    rw[jw,if_neg (by simp only[List.length_nil]; omega)]
  | v :: vs,i,t,h,k=>by
    simp only[List.length_cons] at h
    rw[jw,xN vs (i+1) _ (by omega),bC.je _ _ _ _ _ _ (by simp only[deep]; omega)]
    simp only[List.length_cons]
    by_cases h1:k=i
    · subst h1; rw[if_neg (by omega),if_pos rfl,if_pos (by omega)]; simp
    · by_cases h2:i+1≤k∧k < i+1+vs.length
      · rw[if_pos h2,if_pos (by omega)]
        have:k - i=(k - (i+1))+1:=by omega
        rw[this]; rfl
      · rw[if_neg h2,if_neg h1,if_neg (by omega)]
theorem BH (vs:List V) (h:vs.length≤8000):(jw vs 0 .nil).get .any=gT vs:=by
  funext k
  rw[xN vs 0 .nil (by omega)]
  simp only[gT,Nat.zero_le,true_and,Nat.zero_add,Nat.sub_zero]
  split
  · rfl
  · rename_i hk
    rw[List.getD_eq_getElem?_getD,List.getElem?_eq_none (by omega)]; rfl
theorem Ii {e:ES} {h:aE} {r:ResultVar} {rest:List ResultVar} {l:List SR} (he:eL h e) (hc:dr P (r :: rest)=some l):∃ s l',l=s :: l'∧dr P rest=some l'∧∀ v,G9 s e=some v→nC P e.T h r=some v:=by
  cases r with
  | tmp t =>
    simp only[dr,Option.map_eq_some_iff] at hc
    obtain ⟨l',h1,rfl⟩:=hc
    exact ⟨.tmp t,l',rfl,h1,fun v hv=>hv⟩
  | cell a t =>
    simp only[dr] at hc
    split at hc
    · rename_i k l' h1 h2
      simp at hc; subst hc
      refine ⟨.cell a k,l',rfl,h2,fun v hv=>?_⟩
      simp only[G9] at hv
      simp only[nC,iH,rB h1]
      rw[he.1] at hv
      split at hv
      · rename_i id i j ha
        split at hv
        · rename_i es hH
          split at hv
          · rename_i hlt
            rw[ha]; simp only[hH]; rw[if_pos hlt,hv]; rfl
          · simp at hv
        · simp at hv
      · rename_i e j ha
        rw[ha]; simp only; rw[hv]; rfl
      · simp at hv
    · simp at hc
theorem A8 {e:ES} {h:aE} (he:eL h e):∀ (rs:List ResultVar) (l:List SR) (vs:List V),dr P rs=some l→qM l e=some vs→iu P e.T h rs=some vs
  | [],l,vs,hc,hw=>by simp[dr] at hc; subst hc; simp[qM] at hw; subst hw; rfl
  | r :: rest,l,vs,hc,hw=>by
    obtain ⟨s,l',rfl,h1,h2⟩:=Ii (e:=e) (h:=h) he hc
    simp only[qM] at hw
    split at hw
    · rename_i v vs' hv hvs
      simp at hw; subst hw
      simp[iu,h2 v hv,A8 he rest l' vs' h1 hvs]
    · simp at hw
def rI (P:Program) (tab:List (FuncId × DF)):Prop:=∀ p∈tab,∃ fz,bm P p.1 fz=some p.2
def q5 (P:Program) (ext:uV):Prop:=∀ g vs t,ext g vs=some t→bY P g=true∧aC P g vs t
theorem An {tab:List (FuncId × DF)} {ext:uV} (ht:rI P tab) (hx:q5 P ext) {run:rY} (hrun:qE P run):gp P (zb P tab ext run):=by
  intro g vs e v e' h hcall he
  unfold zb at hcall
  split at hcall
  · rename_i t hext
    simp only[Option.some.injEq,Prod.mk.injEq] at hcall
    obtain ⟨rfl,rfl⟩:=hcall
    obtain ⟨h1,h2⟩:=hx _ _ _ hext
    exact ⟨h1,h,bL.gZ h2 h,he,fun _ _ _=>rfl,fun _ hw=>by simp at hw⟩
  · split at hcall
    · rename_i g' F hf
      have hmem:=List.mem_of_find?_eq_some hf
      have hgg:g'=g:=by
        have:=List.find?_some hf
        exact Nat.eq_of_beq_eq_true this
      subst hgg
      obtain ⟨fz,hF⟩:=ht _ hmem
      simp only at hF
      unfold bm at hF
      split at hF
      · rename_i fn hfn
        split at hF
        · rename_i c hb
          split at hF
          · rename_i sc rs h1 h2 h3
            simp at hF; subst hF
            refine ⟨h3,?_⟩
            unfold IL at hcall
            split at hcall
            · rename_i hlen hn
              have hlen:=Nat.le_of_ble_eq_true hlen
              have hn:=Nat.le_of_ble_eq_true hn
              simp only at hlen hn
              unfold I4 at hcall
              split at hcall
              · rename_i v1 e1' hend
                simp only[Option.some.injEq,Prod.mk.injEq] at hcall
                obtain ⟨rfl,rfl⟩:=hcall
                unfold IU at hend
                have go:∀ (r:Exit) (e1:ES),(r=.ret∨r=.normal)→run sc ⟨jw vs 0 .nil,e.H,e.n,[]⟩=some (r,e1)→(qM rs e1).map (fun vs=>(ai vs,e1))=some (v1,e1') →
                    ∃ h',bL P g' vs h v1 h'∧eL h' e1'∧(∀ id,id < h.length→¬ id∈e1'.w→h'.view id=h.view id):=by
                  intro r e1 hr hrn hres
                  simp only[Option.map_eq_some_iff,Prod.mk.injEq] at hres
                  obtain ⟨vs',hvs,rfl,rfl⟩:=hres
                  obtain ⟨h',hx,he1,hc1,_⟩:=hrun fn.ntmps fz c sc h1 hn _ e1 r h hrn he
                  have hT:(ES.T ⟨jw vs 0 .nil,e.H,e.n,[]⟩)=gT vs:=BH vs (by omega)
                  rw[hT] at hx
                  refine ⟨h',bL.Cj hfn hb hlen hx (by rcases hr with rfl | rfl <;> simp) ?_,he1,fun id hid hw=>(hc1.2 id hid hw).1⟩
                  unfold Du
                  rw[A8 he1 _ _ _ h2 hvs]
                  cases vs' with
                  | nil=>rfl
                  | cons a l=>cases l <;> rfl
                have done:(∃ h',bL P g' vs h v1 h'∧eL h' e1'∧(∀ id,id < h.length→¬ id∈e1'.w→h'.view id=h.view id)) →
                    ∃ h',bL P g' vs h v1 h'∧eL h' ⟨e1'.L,e1'.H,e1'.n,e1'.w.filter fun id=>Nat.blt id e.n⟩∧(∀ id,id < h.length→¬ id∈e1'.w.filter (fun id=>Nat.blt id e.n)→h'.view id=h.view id)∧∀ id,id∈e1'.w.filter (fun id=>Nat.blt id e.n)→id < h.length:=by
                  rintro ⟨h',k1,k2,k3⟩
                  refine ⟨h',k1,k2,fun id hid hw=>k3 id hid (fun hm=>hw ?_),fun id hw=>?_⟩
                  · rw[List.mem_filter]
                    exact ⟨hm,by rw[he.2]; exact Nat.ble_eq_true_of_le hid⟩
                  · rw[List.mem_filter] at hw
                    have:=Nat.le_of_ble_eq_true hw.2
                    rw[he.2] at this; exact this
                split at hend
                · rename_i e1 hrn; exact done (go _ _ (.inl rfl) hrn hend)
                · rename_i e1 hrn; exact done (go _ _ (.inr rfl) hrn hend)
                · simp at hend
              · simp at hcall
            · simp at hcall
          · simp at hF
        · simp at hF
      · simp at hF
    · simp at hcall
theorem B4 (hm:P.follows .mixedOrders=true) {tab:List (FuncId × DF)} {ext:uV} (ht:rI P tab) (hx:q5 P ext):∀ k,qE P (zL P tab ext k)
  | 0=>fun n fz c sc hc hn e e' r h hr he=>by simp[zL] at hr
  | k+1=>by
    have ih:=B4 hm ht hx k
    have:=Hp hm (An ht hx ih) ih
    exact this
end
end Gv
