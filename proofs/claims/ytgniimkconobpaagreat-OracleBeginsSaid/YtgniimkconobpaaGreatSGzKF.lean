/-
  Part 6 of the proof: what the machine does and what the functions answer.
  Conditions: those that each lemma names.
-/
import Derived.Test.YtgniimkconobpaaGreatSGzKE
set_option linter.unusedSimpArgs false
set_option linter.unusedVariables false
set_option linter.unusedSimpArgs false
set_option maxRecDepth 100000
namespace Gv
open Go Go.Proofs
abbrev gy (x:Int):V:=.val (.int .u8 x)
def q6 (c:Int):Bool:=(decide (97≤c) && decide (c≤122)) || (decide (65≤c) && decide (c≤90)) || c == 95
def ke (c:Int):Bool:=q6 c || (decide (48≤c) && decide (c≤57)) || c == 46
def ll:SF:=⟨.seq (al [aU 2 false]) <|
  .seq (.region false [⟨none,[aa 3 0,((some 4),.op (.arith .geq (.tmp 3) (.val (.val (.int .u8 97))))),aa 5 4]⟩,⟨(some (5,true)),[aa 6 0,((some 7),.op (.arith .leq (.tmp 6) (.val (.val (.int .u8 122)))))]⟩,⟨none,[br 8 5 7,aa 9 8]⟩,⟨(some (9,false)),[aa 10 0,((some 11),.op (.arith .geq (.tmp 10) (.val (.val (.int .u8 65))))),aa 12 11]⟩,⟨(some (12,true)),[aa 13 0,((some 14),.op (.arith .leq (.tmp 13) (.val (.val (.int .u8 90)))))]⟩,⟨(some (9,false)),[br 15 12 14]⟩,⟨none,[bt 16 9 15,aa 17 16]⟩,⟨(some (17,false)),[aa 18 0,((some 19),.op (.arith .eql (.tmp 18) (.val (.val (.int .u8 95)))))]⟩,⟨none,[bt 20 17 19,aa 2 20]⟩]) <|
  .ret,
  [.tmp 2],21⟩
theorem p7:aX Tryz.prog 148 []=some ll:=by kernel_rfl
def lh:SF:=⟨.seq (al [aU 2 false]) <|
  .seq (.region false [⟨none,[aa 3 0,aG 4 148 [3],aa 5 4]⟩,⟨(some (5,false)),[aa 6 0,((some 7),.op (.arith .geq (.tmp 6) (.val (.val (.int .u8 48))))),aa 8 7]⟩,⟨(some (8,true)),[aa 9 0,((some 10),.op (.arith .leq (.tmp 9) (.val (.val (.int .u8 57)))))]⟩,⟨(some (5,false)),[br 11 8 10]⟩,⟨none,[bt 12 5 11,aa 13 12]⟩,⟨(some (13,false)),[aa 14 0,((some 15),.op (.arith .eql (.tmp 14) (.val (.val (.int .u8 46)))))]⟩,⟨none,[bt 16 13 15,aa 2 16]⟩]) <|
  .ret,
  [.tmp 2],17⟩
theorem pQ:aX Tryz.prog 149 []=some lh:=by kernel_rfl
theorem G5 (c:Int) (H:View):aD Tryz.prog 148 [gy c] H fun r H'=>r=gb (q6 c)∧H'=H:=by
  refine aD.of mixed p7 ?_
  repeat' (first | (refine aq.dec (fun _=>?_) (fun _=>?_)) | (refine aq.eq (fun _=>?_) (fun _=>?_)) | (refine aq.ne (fun _=>?_) (fun _=>?_)) | (refine aq.split (fun _=>?_) (fun _=>?_)) | (simp (disch:=omega) only [↓wr,↓reduceIte,wq,ai,ah,ak,ae,af,ag,aj,isNil,Nat.reduceEqDiff,Nat.reduceAdd,Nat.reduceLT,Nat.reduceLeDiff,Int.reduceNeg,Int.reduceToNat,reduceCtorEq,ll]))
  all_goals (congr 2; simp only[q6]; grind)
theorem z7 (c:Int):aE Tryz.prog 148 [gy c] (gb (q6 c)) :=
  aE.of (by intro v hv; simp at hv; subst hv; exact .val _) ((G5 c _).mono fun r H' h h' _=>by rw[h.1]; exact .tree _ (.val _))
theorem Ht (c:Int) (H:View):aD Tryz.prog 149 [gy c] H fun r H'=>r=gb (ke c)∧H'=H:=by
  refine aD.of mixed pQ ?_
  repeat' (first | (refine aq.dec (fun _=>?_) (fun _=>?_)) | (refine aq.eq (fun _=>?_) (fun _=>?_)) | (refine aq.ne (fun _=>?_) (fun _=>?_)) | (refine aq.split (fun _=>?_) (fun _=>?_)) | (simp (disch:=omega) only [↓wr,↓reduceIte,wq,ai,ah,ak,ae,af,ag,aj,isNil,Nat.reduceEqDiff,Nat.reduceAdd,Nat.reduceLT,Nat.reduceLeDiff,Int.reduceNeg,Int.reduceToNat,reduceCtorEq,lh]))
  refine az.pure (z7 c) (by kernel_rfl) ?_
  repeat' (first | (refine aq.dec (fun _=>?_) (fun _=>?_)) | (refine aq.eq (fun _=>?_) (fun _=>?_)) | (refine aq.ne (fun _=>?_) (fun _=>?_)) | (refine aq.split (fun _=>?_) (fun _=>?_)) | (simp (disch:=omega) only [↓wr,↓reduceIte,wq,ai,ah,ak,ae,af,ag,aj,isNil,Nat.reduceEqDiff,Nat.reduceAdd,Nat.reduceLT,Nat.reduceLeDiff,Int.reduceNeg,Int.reduceToNat,reduceCtorEq]))
  all_goals (congr 2; simp only[ke]; grind)
theorem HE (c:Int):aE Tryz.prog 149 [gy c] (gb (ke c)) :=
  aE.of (by intro v hv; simp at hv; subst hv; exact .val _) ((Ht c _).mono fun r H' h h' _=>by rw[h.1]; exact .tree _ (.val _))
def dZ (l:List Int):Bool:=decide (0 < l.length) && decide (l.length≤20) && (match l with | c :: _=>q6 c | []=>false) && l.all ke
def kK:SC :=
  .seq (.seq (al [aa 18 3,aa 19 0,((some 20),.op (.fC (.tmp 19))),bb 21 .lss 18 20]) <|
  .cond (.tmp 21) (.skip) (.exit 0)) <|
  .seq (.block 1 (.seq (al [aa 24 0,aa 25 3,((some 26),.op (.cM (.tmp 24) (.tmp 25))),aG 27 149 [26],bL 28 27]) <|
  .cond (.tmp 28) (.seq (al [aU 2 false]) <|
  .ret) (.skip))) <|
  al [aa 22 3,ay 23 .add 22 1,aa 3 23]
def m5:SF:=⟨.seq (al [aU 2 false]) <|
  .seq (.seq (.region false [⟨none,[aa 4 0,((some 5),.op (.fC (.tmp 4))),ay 6 .eql 5 0,aa 7 6]⟩,⟨(some (7,false)),[aa 8 0,((some 9),.op (.fC (.tmp 8))),ay 10 .gtr 9 20]⟩,⟨none,[bt 11 7 10,aa 12 11]⟩,⟨(some (12,false)),[aa 13 0,((some 14),.op (.cM (.tmp 13) (.val (.val (.int .i64 0))))),aG 15 148 [14],bL 16 15]⟩,⟨none,[bt 17 12 16]⟩]) <|
  .cond (.tmp 17) (.seq (al [aU 2 false]) <|
  .ret) (.skip)) <|
  .seq (.seq (al [aH 3 0]) <|
  .block 0 (.loop kK)) <|
  .seq (al [aU 2 true]) <|
  .ret,
  [.tmp 2],29⟩
theorem qB:aX Tryz.prog 116 []=some m5:=by kernel_rfl
theorem E9 (s:ByteArray) (H:View):aD Tryz.prog 116 [gs s] H fun r H'=>r=gb (dZ (dF s))∧H'=H:=by
  refine aD.of mixed qB ?_
  repeat' (first | (refine aq.dec (fun _=>?_) (fun _=>?_)) | (refine aq.eq (fun _=>?_) (fun _=>?_)) | (refine aq.ne (fun _=>?_) (fun _=>?_)) | (refine aq.split (fun _=>?_) (fun _=>?_)) | (simp (disch:=omega) only [↓wr,↓reduceIte,wq,ai,ah,ak,ae,af,ag,aj,isNil,Nat.reduceEqDiff,Nat.reduceAdd,Nat.reduceLT,Nat.reduceLeDiff,Int.reduceNeg,Int.reduceToNat,reduceCtorEq,m5,dg]))
  · rename_i h
    congr 2; simp[dZ,show (dF s).length=0 by omega]
  · rename_i h
    congr 2; simp[dZ,show ¬ (dF s).length≤20 by omega]
  · rename_i h1 h2
    cases hb:dF s with
    | nil=>simp[hb] at h1
    | cons c l =>
      repeat' (first | (refine aq.dec (fun _=>?_) (fun _=>?_)) | (refine aq.eq (fun _=>?_) (fun _=>?_)) | (refine aq.ne (fun _=>?_) (fun _=>?_)) | (refine aq.split (fun _=>?_) (fun _=>?_)) | (simp (disch:=omega) only [↓wr,↓reduceIte,wq,ai,ah,ak,ae,af,ag,aj,isNil,Nat.reduceEqDiff,Nat.reduceAdd,Nat.reduceLT,Nat.reduceLeDiff,Int.reduceNeg,Int.reduceToNat,reduceCtorEq,hb,List.getElem?_cons_zero,dg]))
      refine az.pure (z7 c) (by kernel_rfl) ?_
      repeat' (first | (refine aq.dec (fun _=>?_) (fun _=>?_)) | (refine aq.eq (fun _=>?_) (fun _=>?_)) | (refine aq.ne (fun _=>?_) (fun _=>?_)) | (refine aq.split (fun _=>?_) (fun _=>?_)) | (simp (disch:=omega) only [↓wr,↓reduceIte,wq,ai,ah,ak,ae,af,ag,aj,isNil,Nat.reduceEqDiff,Nat.reduceAdd,Nat.reduceLT,Nat.reduceLeDiff,Int.reduceNeg,Int.reduceToNat,reduceCtorEq,hb,List.getElem?_cons_zero,dg]))
      · rename_i hf
        refine bo.intro (fun k T H'=>∃ i:Nat,i+k=(c :: l).length∧((c :: l).take i).all ke=true∧T 0=gs s∧T 3=gi i∧H'=H) (c :: l).length ?_ ?_
        · exact ⟨0,by omega,by simp,rfl,rfl,rfl⟩
        · rintro k T H' ⟨i,hk,hi,h0,h3,rfl⟩
          rw[hb] at h1 h2
          simp (disch:=omega) only [↓wr,↓reduceIte,wq,ai,ah,ak,ae,af,ag,aj,isNil,Nat.reduceEqDiff,Nat.reduceAdd,Nat.reduceLT,Nat.reduceLeDiff,Int.reduceNeg,Int.reduceToNat,reduceCtorEq,kK,h0,h3,dg,hb]
          refine aq.dec (fun hc=>?_) (fun hc=>?_)
          · simp only[List.length_cons] at hc hk h2
            have hg:(c :: l)[i]?=some ((c :: l)[i]'(by simp; omega)):=List.getElem?_eq_getElem (by simp; omega)
            have hm:(c :: l)[i]'(by simp; omega)∈c :: l:=List.getElem_mem _
            generalize (c :: l)[i]'(by simp; omega)=d at hg hm
            simp (disch:=omega) only [↓wr,↓reduceIte,wq,ai,ah,ak,ae,af,ag,aj,isNil,Nat.reduceEqDiff,Nat.reduceAdd,Nat.reduceLT,Nat.reduceLeDiff,Int.reduceNeg,Int.reduceToNat,reduceCtorEq,h0,h3,dg,hb,hg]
            refine az.pure (HE d) (by kernel_rfl) ?_
            repeat' (first | (refine aq.dec (fun _=>?_) (fun _=>?_)) | (refine aq.eq (fun _=>?_) (fun _=>?_)) | (refine aq.ne (fun _=>?_) (fun _=>?_)) | (refine aq.split (fun _=>?_) (fun _=>?_)) | (simp (disch:=omega) only [↓wr,↓reduceIte,wq,ai,ah,ak,ae,af,ag,aj,isNil,Nat.reduceEqDiff,Nat.reduceAdd,Nat.reduceLT,Nat.reduceLeDiff,Int.reduceNeg,Int.reduceToNat,reduceCtorEq,h0,h3,dg,hb,hg]))
            · rename_i hd
              refine ⟨k - 1,by omega,i+1,by omega,?_,rfl⟩
              rw[List.take_add_one,hg]
              simp only[Option.toList_some,List.all_append,hi,List.all_cons,hd,List.all_nil,Bool.and_self]
            · rename_i hd
              congr 2
              have:(c :: l).all ke=false:=by
                rw[List.all_eq_false]; exact ⟨d,hm,by simp[hd]⟩
              simp only[dZ,this,Bool.and_false]
          · simp (disch:=omega) only [↓wr,↓reduceIte,wq,ai,ah,ak,ae,af,ag,aj,isNil,Nat.reduceEqDiff,Nat.reduceAdd,Nat.reduceLT,Nat.reduceLeDiff,Int.reduceNeg,Int.reduceToNat,reduceCtorEq,h0,h3]
            simp only[List.length_cons] at hc hk h2
            rw[List.take_of_length_le (by simp; omega)] at hi
            congr 2
            simp only[dZ,hi,List.length_cons]
            simp[hf]; omega
      · rename_i hf
        congr 2; simp[dZ,hf]
end Gv
set_option linter.unusedSimpArgs false
set_option maxRecDepth 100000
namespace Gv
open Go Go.Proofs
def jH:List Int→Bool
  | [a,b,c]=>a == 39 && c == 39 && decide (32≤b) && decide (b≤126) && b != 39 && b != 92
  | [a,b,c,d]=>a == 39 && d == 39 && b == 92 && (c == 110 || c == 116 || c == 92 || c == 39)
  | _=>false
theorem He {l:List Int} (h3:l.length≠3) (h4:l.length≠4):jH l=false:=by
  match l,h3,h4 with
  | [],_,_=>rfl
  | [_],_,_=>rfl
  | [_,_],_,_=>rfl
  | [_,_,_],h3,_=>exact absurd rfl h3
  | [_,_,_,_],_,h4=>exact absurd rfl h4
  | _ :: _ :: _ :: _ :: _ :: _,_,_=>rfl
theorem J7 {α:Type} {l:List α} (h:l.length=3):∃ a b c,l=[a,b,c]:=by
  match l,h with
  | [a,b,c],_=>exact ⟨a,b,c,rfl⟩
theorem Kd {α:Type} {l:List α} (h:l.length=4):∃ a b c d,l=[a,b,c,d]:=by
  match l,h with
  | [a,b,c,d],_=>exact ⟨a,b,c,d,rfl⟩
def jP:SF:=⟨.seq (al [aU 2 false]) <|
  .seq (.seq (al [aa 3 0,((some 4),.op (.fC (.tmp 3))),ay 5 .eql 4 3]) <|
  .cond (.tmp 5) (.seq (.region false [⟨none,[aa 6 0,((some 7),.op (.cM (.tmp 6) (.val (.val (.int .i64 0))))),((some 8),.op (.arith .eql (.tmp 7) (.val (.val (.int .u8 39))))),aa 9 8]⟩,⟨(some (9,true)),[aa 10 0,((some 11),.op (.cM (.tmp 10) (.val (.val (.int .i64 2))))),((some 12),.op (.arith .eql (.tmp 11) (.val (.val (.int .u8 39)))))]⟩,⟨none,[br 13 9 12,aa 14 13]⟩,⟨(some (14,true)),[aa 15 0,((some 16),.op (.cM (.tmp 15) (.val (.val (.int .i64 1))))),((some 17),.op (.arith .geq (.tmp 16) (.val (.val (.int .u8 32)))))]⟩,⟨none,[br 18 14 17,aa 19 18]⟩,⟨(some (19,true)),[aa 20 0,((some 21),.op (.cM (.tmp 20) (.val (.val (.int .i64 1))))),((some 22),.op (.arith .leq (.tmp 21) (.val (.val (.int .u8 126)))))]⟩,⟨none,[br 23 19 22,aa 24 23]⟩,⟨(some (24,true)),[aa 25 0,((some 26),.op (.cM (.tmp 25) (.val (.val (.int .i64 1))))),((some 27),.op (.arith .neq (.tmp 26) (.val (.val (.int .u8 39)))))]⟩,⟨none,[br 28 24 27,aa 29 28]⟩,⟨(some (29,true)),[aa 30 0,((some 31),.op (.cM (.tmp 30) (.val (.val (.int .i64 1))))),((some 32),.op (.arith .neq (.tmp 31) (.val (.val (.int .u8 92)))))]⟩,⟨none,[br 33 29 32,aa 2 33]⟩]) <|
  .ret) (.skip)) <|
  .seq (.region false [⟨none,[aa 34 0,((some 35),.op (.fC (.tmp 34))),ay 36 .eql 35 4,aa 37 36]⟩,⟨(some (37,true)),[aa 38 0,((some 39),.op (.cM (.tmp 38) (.val (.val (.int .i64 0))))),((some 40),.op (.arith .eql (.tmp 39) (.val (.val (.int .u8 39)))))]⟩,⟨none,[br 41 37 40,aa 42 41]⟩,⟨(some (42,true)),[aa 43 0,((some 44),.op (.cM (.tmp 43) (.val (.val (.int .i64 3))))),((some 45),.op (.arith .eql (.tmp 44) (.val (.val (.int .u8 39)))))]⟩,⟨none,[br 46 42 45,aa 47 46]⟩,⟨(some (47,true)),[aa 48 0,((some 49),.op (.cM (.tmp 48) (.val (.val (.int .i64 1))))),((some 50),.op (.arith .eql (.tmp 49) (.val (.val (.int .u8 92)))))]⟩,⟨none,[br 51 47 50,aa 52 51]⟩,⟨(some (52,true)),[aa 53 0,((some 54),.op (.cM (.tmp 53) (.val (.val (.int .i64 2))))),((some 55),.op (.arith .eql (.tmp 54) (.val (.val (.int .u8 110))))),aa 56 55]⟩,⟨(some (56,false)),[aa 57 0,((some 58),.op (.cM (.tmp 57) (.val (.val (.int .i64 2))))),((some 59),.op (.arith .eql (.tmp 58) (.val (.val (.int .u8 116)))))]⟩,⟨(some (52,true)),[bt 60 56 59,aa 61 60]⟩,⟨(some (61,false)),[aa 62 0,((some 63),.op (.cM (.tmp 62) (.val (.val (.int .i64 2))))),((some 64),.op (.arith .eql (.tmp 63) (.val (.val (.int .u8 92)))))]⟩,⟨(some (52,true)),[bt 65 61 64,aa 66 65]⟩,⟨(some (66,false)),[aa 67 0,((some 68),.op (.cM (.tmp 67) (.val (.val (.int .i64 2))))),((some 69),.op (.arith .eql (.tmp 68) (.val (.val (.int .u8 39)))))]⟩,⟨(some (52,true)),[bt 70 66 69]⟩,⟨none,[br 71 52 70,aa 2 71]⟩]) <|
  .ret,
  [.tmp 2],72⟩
theorem oQ:aX Tryz.prog 147 []=some jP:=by kernel_rfl
def lz:SF:=⟨.seq (al [aU 2 false]) <|
  .seq (.region false [⟨none,[aa 3 0,aG 4 116 [3],aa 5 4]⟩,⟨(some (5,false)),[aa 6 0,aG 7 147 [6]]⟩,⟨none,[bt 8 5 7,aa 2 8]⟩]) <|
  .ret,
  [.tmp 2],9⟩
theorem pV:aX Tryz.prog 113 []=some lz:=by kernel_rfl
set_option maxHeartbeats 1000000 in
theorem GU (s:ByteArray) (H:View):aD Tryz.prog 147 [gs s] H fun r H'=>r=gb (jH (dF s))∧H'=H:=by
  refine aD.of mixed oQ ?_
  simp (disch:=omega) only [↓wr,↓reduceIte,wq,ai,ah,ak,ae,af,ag,aj,isNil,Nat.reduceEqDiff,Nat.reduceAdd,Nat.reduceLT,Nat.reduceLeDiff,Int.reduceNeg,Int.reduceToNat,reduceCtorEq,jP,dg]
  refine aq.eq (fun h=>?_) (fun h=>?_)
  · obtain ⟨a,b,c,hb⟩:=J7 (l:=dF s) (by omega)
    repeat' (first | (refine aq.dec (fun _=>?_) (fun _=>?_)) | (refine aq.eq (fun _=>?_) (fun _=>?_)) | (refine aq.ne (fun _=>?_) (fun _=>?_)) | (refine aq.split (fun _=>?_) (fun _=>?_)) | (simp (disch:=omega) only [↓wr,↓reduceIte,wq,ai,ah,ak,ae,af,ag,aj,isNil,Nat.reduceEqDiff,Nat.reduceAdd,Nat.reduceLT,Nat.reduceLeDiff,Int.reduceNeg,Int.reduceToNat,reduceCtorEq,hb,List.getElem?_cons_zero,List.getElem?_cons_succ]))
    all_goals (congr 2; simp only[jH]; grind)
  · simp (disch:=omega) only [↓wr,↓reduceIte,wq,ai,ah,ak,ae,af,ag,aj,isNil,Nat.reduceEqDiff,Nat.reduceAdd,Nat.reduceLT,Nat.reduceLeDiff,Int.reduceNeg,Int.reduceToNat,reduceCtorEq,dg]
    refine aq.eq (fun h4=>?_) (fun h4=>?_)
    · obtain ⟨a,b,c,d,hb⟩:=Kd (l:=dF s) (by omega)
      repeat' (first | (refine aq.dec (fun _=>?_) (fun _=>?_)) | (refine aq.eq (fun _=>?_) (fun _=>?_)) | (refine aq.ne (fun _=>?_) (fun _=>?_)) | (refine aq.split (fun _=>?_) (fun _=>?_)) | (simp (disch:=omega) only [↓wr,↓reduceIte,wq,ai,ah,ak,ae,af,ag,aj,isNil,Nat.reduceEqDiff,Nat.reduceAdd,Nat.reduceLT,Nat.reduceLeDiff,Int.reduceNeg,Int.reduceToNat,reduceCtorEq,hb,List.getElem?_cons_zero,List.getElem?_cons_succ]))
      all_goals (congr 2; simp only[jH]; grind)
    · repeat' (first | (refine aq.dec (fun _=>?_) (fun _=>?_)) | (refine aq.eq (fun _=>?_) (fun _=>?_)) | (refine aq.ne (fun _=>?_) (fun _=>?_)) | (refine aq.split (fun _=>?_) (fun _=>?_)) | (simp (disch:=omega) only [↓wr,↓reduceIte,wq,ai,ah,ak,ae,af,ag,aj,isNil,Nat.reduceEqDiff,Nat.reduceAdd,Nat.reduceLT,Nat.reduceLeDiff,Int.reduceNeg,Int.reduceToNat,reduceCtorEq,dg]))
      rw[He (by omega) (by omega)]
theorem lM (s:ByteArray):∀ v∈[gs s],Tree v:=by intro v hv; simp at hv; subst hv; exact .val _
theorem zm (s:ByteArray):aE Tryz.prog 116 [gs s] (gb (dZ (dF s))) :=
  aE.of (lM s) ((E9 s _).mono fun r H' h h' _=>by rw[h.1]; exact .tree _ (.val _))
theorem Hf (s:ByteArray):aE Tryz.prog 147 [gs s] (gb (jH (dF s))) :=
  aE.of (lM s) ((GU s _).mono fun r H' h h' _=>by rw[h.1]; exact .tree _ (.val _))
def my (l:List Int):Bool:=dZ l || jH l
theorem DQ (s:ByteArray) (H:View):aD Tryz.prog 113 [gs s] H fun r H'=>r=gb (my (dF s))∧H'=H:=by
  refine aD.of mixed pV ?_
  simp (disch:=omega) only [↓wr,↓reduceIte,wq,ai,ah,ak,ae,af,ag,aj,isNil,Nat.reduceEqDiff,Nat.reduceAdd,Nat.reduceLT,Nat.reduceLeDiff,Int.reduceNeg,Int.reduceToNat,reduceCtorEq,lz]
  refine az.pure (zm s) (by kernel_rfl) ?_
  repeat' (first | (refine aq.dec (fun _=>?_) (fun _=>?_)) | (refine aq.eq (fun _=>?_) (fun _=>?_)) | (refine aq.ne (fun _=>?_) (fun _=>?_)) | (refine aq.split (fun _=>?_) (fun _=>?_)) | (simp (disch:=omega) only [↓wr,↓reduceIte,wq,ai,ah,ak,ae,af,ag,aj,isNil,Nat.reduceEqDiff,Nat.reduceAdd,Nat.reduceLT,Nat.reduceLeDiff,Int.reduceNeg,Int.reduceToNat,reduceCtorEq]))
  · rename_i h; simp[my,h]
  · rename_i h
    refine az.pure (Hf s) (by kernel_rfl) ?_
    repeat' (first | (refine aq.dec (fun _=>?_) (fun _=>?_)) | (refine aq.eq (fun _=>?_) (fun _=>?_)) | (refine aq.ne (fun _=>?_) (fun _=>?_)) | (refine aq.split (fun _=>?_) (fun _=>?_)) | (simp (disch:=omega) only [↓wr,↓reduceIte,wq,ai,ah,ak,ae,af,ag,aj,isNil,Nat.reduceEqDiff,Nat.reduceAdd,Nat.reduceLT,Nat.reduceLeDiff,Int.reduceNeg,Int.reduceToNat,reduceCtorEq]))
    simp[my,h]
theorem Em (s:ByteArray):aE Tryz.prog 113 [gs s] (gb (my (dF s))) :=
  aE.of (lM s) ((DQ s _).mono fun r H' h h' _=>by rw[h.1]; exact .tree _ (.val _))
end Gv
set_option linter.unusedSimpArgs false
set_option maxRecDepth 100000
namespace Gv
open Go Go.Proofs
def kh (s:ByteArray):List ByteArray→Int→Int
  | [],_=>-1
  | x :: l,i=>if iD x s=true then i else kh s l (i+1)
def ju (g:av) (s:ByteArray):Int:=kh s (g.aC.map Term.name) 0
def tC (g:av) (s:ByteArray):Int:=kh s g.au 0
theorem dK {α:Type} {l:List α} {i:Nat} (h:i < l.length):l.drop i=l[i] :: l.drop (i+1):=List.drop_eq_getElem_cons h
theorem A2 (g:av) (s:ByteArray):∀ v∈[V.agg (ao g),gs s],Tree v:=by
  intro v hv; simp at hv
  rcases hv with rfl | rfl
  · exact bV _ (bK g)
  · exact .val _
theorem fk (g:av):∀ v∈[V.agg (ao g)],Tree v:=by intro v hv; simp at hv; subst hv; exact bV _ (bK g)
theorem AN (g:av) (x:Int):∀ v∈[V.agg (ao g),gi x],Tree v:=by
  intro v hv; simp at hv
  rcases hv with rfl | rfl
  · exact bV _ (bK g)
  · exact .val _
theorem aE.val {P:Program} {f:FuncId} {vs:List V} {x:Value} (ht:∀ v∈vs,Tree v) (h:∀ H,aD P f vs H fun r _=>r=.val x):aE P f vs (.val x) :=
  aE.of ht ((h _).mono fun r H' e h' _=>by rw[e]; exact .tree _ (.val _))
def ko:SC :=
  .seq (.seq (al [aa 6 5,ar 7 0 2,an 8 7,aL 9 8,bb 10 .lss 6 9]) <|
  .cond (.tmp 10) (.skip) (.exit 0)) <|
  .seq (.block 1 (.seq (al [ar 13 0 2,an 14 13,aa 15 5,aN 16 3 14 15,ar 17 0 16,an 18 17,aa 19 1,((some 20),.op (.hO .eql (.tmp 18) (.tmp 19)))]) <|
  .cond (.tmp 20) (.seq (al [aa 21 5,aa 4 21]) <|
  .ret) (.skip))) <|
  al [aa 11 5,ay 12 .add 11 1,aa 5 12]
def mz:SF:=⟨.seq (al [cE 2 0,aH 4 0]) <|
  .seq (.seq (al [aH 5 0]) <|
  .block 0 (.loop ko)) <|
  .seq (al [aH 4 (-1)]) <|
  .ret,
  [.tmp 4],22⟩
theorem qW:aX Tryz.prog 114 [2]=some mz:=by kernel_rfl
def lj:SC :=
  .seq (.seq (al [aa 6 5,ar 7 1 2,an 8 7,aL 9 8,bb 10 .lss 6 9]) <|
  .cond (.tmp 10) (.skip) (.exit 0)) <|
  .seq (.block 1 (.seq (al [ar 13 1 2,an 14 13,aa 15 5,aN 16 1 14 15,an 17 16,aa 18 1,((some 19),.op (.hO .eql (.tmp 17) (.tmp 18)))]) <|
  .cond (.tmp 19) (.seq (al [aa 20 5,aa 4 20]) <|
  .ret) (.skip))) <|
  al [aa 11 5,ay 12 .add 11 1,aa 5 12]
def nC:SF:=⟨.seq (al [cE 2 0,aH 4 0]) <|
  .seq (.seq (al [aH 5 0]) <|
  .block 0 (.loop lj)) <|
  .seq (al [aH 4 (-1)]) <|
  .ret,
  [.tmp 4],21⟩
theorem r5:aX Tryz.prog 95 [2]=some nC:=by kernel_rfl
def jR:SC :=
  .seq (.seq (al [aa 8 6,ar 9 0 2,an 10 9,aL 11 10,bb 12 .lss 8 11]) <|
  .cond (.tmp 12) (.skip) (.exit 0)) <|
  .seq (.block 1 (.seq (.region false [⟨none,[ar 15 0 2,an 16 15,aa 17 6,aN 18 3 16 17,aM 19 3 18,((some 7),.op (.alloc [(.val (.string ⟨#[]⟩)),(.val (.int .i64 0)),(.val (.int .i64 0))])),(none,.op (.store 3 (.tmp 7) (.tmp 19)))]⟩]) <|
  .seq (.seq (al [ar 20 1 7,an 21 20,aa 22 1,bb 23 .neq 21 22]) <|
  .cond (.tmp 23) (.exit 1) (.skip)) <|
  .seq (.seq (.region false [⟨none,[aa 24 5,ay 25 .neq 24 0,aa 26 25]⟩,⟨(some (26,true)),[aa 27 5,ar 28 2 7,an 29 28,bb 30 .neq 27 29]⟩,⟨none,[br 31 26 30]⟩]) <|
  .cond (.tmp 31) (.seq (al [aU 4 false]) <|
  .ret) (.skip)) <|
  al [ar 32 2 7,an 33 32,aa 5 33])) <|
  al [aa 13 6,ay 14 .add 13 1,aa 6 14]
def lp:SF:=⟨.seq (al [cE 2 0,aU 4 false]) <|
  .seq (al [aH 5 0]) <|
  .seq (.seq (al [aH 6 0]) <|
  .block 0 (.loop jR)) <|
  .seq (al [aa 34 5,ay 35 .neq 34 0,aa 4 35]) <|
  .ret,
  [.tmp 4],36⟩
theorem qg:aX Tryz.prog 115 [2]=some lp:=by kernel_rfl
theorem Gf (g:av) (hg:g.Ok) (s:ByteArray) (H:View):aD Tryz.prog 114 [.agg (ao g),gs s] H fun r _=>r=gi (ju g s):=by
  refine aD.of mixed qW ?_
  have hs:g.aC.length < 4611686018427387904:=hg.aC
  simp (disch:=omega) only [↓wr,↓reduceIte,wq,ai,ah,ak,ae,af,ag,aj,isNil,Nat.reduceEqDiff,Nat.reduceAdd,Nat.reduceLT,Nat.reduceLeDiff,Int.reduceNeg,Int.reduceToNat,reduceCtorEq,mz,ao,encS]
  refine bo.intro (fun k T _=>∃ i:Nat,i+k=g.aC.length∧kh s ((g.aC.drop i).map Term.name) i=ju g s∧T 1=gs s∧T 2=.aK (ao g) 0∧T 5=gi i) g.aC.length ?_ ?_
  · exact ⟨0,by omega,rfl,rfl,rfl,rfl⟩
  · rintro k T H' ⟨i,hk,hi,h1,h2,h5⟩
    simp (disch:=omega) only [↓wr,↓reduceIte,wq,ai,ah,ak,ae,af,ag,aj,isNil,Nat.reduceEqDiff,Nat.reduceAdd,Nat.reduceLT,Nat.reduceLeDiff,Int.reduceNeg,Int.reduceToNat,reduceCtorEq,ko,h1,h2,h5,ao]
    refine aq.dec (fun hc=>?_) (fun hc=>?_)
    · have hg2:g.aC[i]?=some (g.aC[i]'(by omega)):=List.getElem?_eq_getElem (by omega)
      rw[dK (show i < g.aC.length by omega)] at hi
      generalize g.aC[i]'(by omega)=t at hg2 hi
      simp only[List.map_cons,kh] at hi
      simp (disch:=omega) only [↓wr,↓reduceIte,wq,ai,ah,ak,ae,af,ag,aj,isNil,Nat.reduceEqDiff,Nat.reduceAdd,Nat.reduceLT,Nat.reduceLeDiff,Int.reduceNeg,Int.reduceToNat,reduceCtorEq,h1,h2,h5,ao,ch,List.getElem?_map,hg2,Option.map_some]
      refine aq.split (fun hd=>?_) (fun hd=>?_)
      · rw[if_pos hd] at hi
        simp (disch:=omega) only [↓wr,↓reduceIte,wq,ai,ah,ak,ae,af,ag,aj,isNil,Nat.reduceEqDiff,Nat.reduceAdd,Nat.reduceLT,Nat.reduceLeDiff,Int.reduceNeg,Int.reduceToNat,reduceCtorEq,h1,h2,h5]
        rw[hi]
      · rw[hd,if_neg (by simp)] at hi
        simp (disch:=omega) only [↓wr,↓reduceIte,wq,ai,ah,ak,ae,af,ag,aj,isNil,Nat.reduceEqDiff,Nat.reduceAdd,Nat.reduceLT,Nat.reduceLeDiff,Int.reduceNeg,Int.reduceToNat,reduceCtorEq,h1,h2,h5]
        exact ⟨k - 1,by omega,i+1,by omega,by push_cast; exact hi,rfl,rfl⟩
    · rw[List.drop_eq_nil_of_le (by omega)] at hi
      simp only[List.map_nil,kh] at hi
      simp (disch:=omega) only [↓wr,↓reduceIte,wq,ai,ah,ak,ae,af,ag,aj,isNil,Nat.reduceEqDiff,Nat.reduceAdd,Nat.reduceLT,Nat.reduceLeDiff,Int.reduceNeg,Int.reduceToNat,reduceCtorEq,h1,h2,h5]
      rw[hi]
theorem y4 (g:av) (hg:g.Ok) (s:ByteArray):aE Tryz.prog 114 [.agg (ao g),gs s] (gi (ju g s)):=aE.val (A2 g s) (Gf g hg s)
theorem Hh (g:av) (hg:g.Ok) (s:ByteArray) (H:View):aD Tryz.prog 95 [.agg (ao g),gs s] H fun r _=>r=gi (tC g s):=by
  refine aD.of mixed r5 ?_
  have hs:g.au.length < 4611686018427387904:=hg.au
  simp (disch:=omega) only [↓wr,↓reduceIte,wq,ai,ah,ak,ae,af,ag,aj,isNil,Nat.reduceEqDiff,Nat.reduceAdd,Nat.reduceLT,Nat.reduceLeDiff,Int.reduceNeg,Int.reduceToNat,reduceCtorEq,nC,ao,encS]
  refine bo.intro (fun k T _=>∃ i:Nat,i+k=g.au.length∧kh s (g.au.drop i) i=tC g s∧T 1=gs s∧T 2=.aK (ao g) 0∧T 5=gi i) g.au.length ?_ ?_
  · exact ⟨0,by omega,rfl,rfl,rfl,rfl⟩
  · rintro k T H' ⟨i,hk,hi,h1,h2,h5⟩
    simp (disch:=omega) only [↓wr,↓reduceIte,wq,ai,ah,ak,ae,af,ag,aj,isNil,Nat.reduceEqDiff,Nat.reduceAdd,Nat.reduceLT,Nat.reduceLeDiff,Int.reduceNeg,Int.reduceToNat,reduceCtorEq,lj,h1,h2,h5,ao,encS]
    refine aq.dec (fun hc=>?_) (fun hc=>?_)
    · have hg2:g.au[i]?=some (g.au[i]'(by omega)):=List.getElem?_eq_getElem (by omega)
      rw[dK (show i < g.au.length by omega)] at hi
      generalize g.au[i]'(by omega)=t at hg2 hi
      simp only[List.map_cons,kh] at hi
      simp (disch:=omega) only [↓wr,↓reduceIte,wq,ai,ah,ak,ae,af,ag,aj,isNil,Nat.reduceEqDiff,Nat.reduceAdd,Nat.reduceLT,Nat.reduceLeDiff,Int.reduceNeg,Int.reduceToNat,reduceCtorEq,h1,h2,h5,ao,encS,List.getElem?_map,hg2,Option.map_some]
      refine aq.split (fun hd=>?_) (fun hd=>?_)
      · rw[if_pos hd] at hi
        simp (disch:=omega) only [↓wr,↓reduceIte,wq,ai,ah,ak,ae,af,ag,aj,isNil,Nat.reduceEqDiff,Nat.reduceAdd,Nat.reduceLT,Nat.reduceLeDiff,Int.reduceNeg,Int.reduceToNat,reduceCtorEq,h1,h2,h5]
        rw[hi]
      · rw[hd,if_neg (by simp)] at hi
        simp (disch:=omega) only [↓wr,↓reduceIte,wq,ai,ah,ak,ae,af,ag,aj,isNil,Nat.reduceEqDiff,Nat.reduceAdd,Nat.reduceLT,Nat.reduceLeDiff,Int.reduceNeg,Int.reduceToNat,reduceCtorEq,h1,h2,h5]
        exact ⟨k - 1,by omega,i+1,by omega,by push_cast; exact hi,rfl,rfl⟩
    · rw[List.drop_eq_nil_of_le (by omega)] at hi
      simp only[List.map_nil,kh] at hi
      simp (disch:=omega) only [↓wr,↓reduceIte,wq,ai,ah,ak,ae,af,ag,aj,isNil,Nat.reduceEqDiff,Nat.reduceAdd,Nat.reduceLT,Nat.reduceLeDiff,Int.reduceNeg,Int.reduceToNat,reduceCtorEq,h1,h2,h5]
      rw[hi]
theorem G2 (g:av) (hg:g.Ok) (s:ByteArray):aE Tryz.prog 95 [.agg (ao g),gs s] (gi (tC g s)):=aE.val (A2 g s) (Hh g hg s)
def fQ (n:Int):List Term→Int→Option Int
  | [],way=>some way
  | t :: r,way=>if t.level=n then (if way≠0∧way≠t.assoc then none else fQ n r t.assoc) else fQ n r way
def eD (l:List Term) (n:Int):Bool:=match fQ n l 0 with
  | some w=>w != 0
  | none=>false
theorem DS (g:av) (hg:g.Ok) (n:Int) (H:View):aD Tryz.prog 115 [.agg (ao g),gi n] H fun r _=>r=gb (eD g.aC n):=by
  refine aD.of mixed qg ?_
  have hs:g.aC.length < 4611686018427387904:=hg.aC
  simp (disch:=omega) only [↓wr,↓reduceIte,wq,ai,ah,ak,ae,af,ag,aj,isNil,Nat.reduceEqDiff,Nat.reduceAdd,Nat.reduceLT,Nat.reduceLeDiff,Int.reduceNeg,Int.reduceToNat,reduceCtorEq,lp,ao,encS]
  refine bo.intro (fun k T _=>∃ (i:Nat) (w:Int),i+k=g.aC.length∧fQ n (g.aC.drop i) w=fQ n g.aC 0∧T 1=gi n∧T 2=.aK (ao g) 0∧T 5=gi w∧T 6=gi i) g.aC.length ?_ ?_
  · exact ⟨0,0,by omega,rfl,rfl,rfl,rfl,rfl⟩
  · rintro k T H' ⟨i,w,hk,hi,h1,h2,h5,h6⟩
    simp (disch:=omega) only [↓wr,↓reduceIte,wq,ai,ah,ak,ae,af,ag,aj,isNil,Nat.reduceEqDiff,Nat.reduceAdd,Nat.reduceLT,Nat.reduceLeDiff,Int.reduceNeg,Int.reduceToNat,reduceCtorEq,jR,h1,h2,h5,h6,ao]
    refine aq.dec (fun hc=>?_) (fun hc=>?_)
    · have hg2:g.aC[i]?=some (g.aC[i]'(by omega)):=List.getElem?_eq_getElem (by omega)
      rw[dK (show i < g.aC.length by omega)] at hi
      generalize g.aC[i]'(by omega)=t at hg2 hi
      simp only[fQ] at hi
      simp (disch:=omega) only [↓wr,↓reduceIte,wq,ai,ah,ak,ae,af,ag,aj,isNil,Nat.reduceEqDiff,Nat.reduceAdd,Nat.reduceLT,Nat.reduceLeDiff,Int.reduceNeg,Int.reduceToNat,reduceCtorEq,h1,h2,h5,h6,ao,ch,List.getElem?_map,hg2,Option.map_some]
      intro m hm
      try simp (disch:=omega) only [↓wr,↓reduceIte,wq,ai,ah,ak,ae,af,ag,aj,isNil,Nat.reduceEqDiff,Nat.reduceAdd,Nat.reduceLT,Nat.reduceLeDiff,Int.reduceNeg,Int.reduceToNat,reduceCtorEq,h1,h2,h5,h6]
      refine aq.ne (fun hd=>?_) (fun hd=>?_)
      · rw[if_neg hd] at hi
        simp (disch:=omega) only [↓wr,↓reduceIte,wq,ai,ah,ak,ae,af,ag,aj,isNil,Nat.reduceEqDiff,Nat.reduceAdd,Nat.reduceLT,Nat.reduceLeDiff,Int.reduceNeg,Int.reduceToNat,reduceCtorEq,h1,h2,h5,h6]
        exact ⟨k - 1,by omega,i+1,w,by omega,hi,by first | rfl | exact ⟨rfl,rfl⟩ | exact ⟨rfl,rfl,rfl⟩⟩
      · rw[if_pos hd] at hi
        repeat' (first | (refine aq.dec (fun _=>?_) (fun _=>?_)) | (refine aq.eq (fun _=>?_) (fun _=>?_)) | (refine aq.ne (fun _=>?_) (fun _=>?_)) | (refine aq.split (fun _=>?_) (fun _=>?_)) | (simp (disch:=omega) only [↓wr,↓reduceIte,wq,ai,ah,ak,ae,af,ag,aj,isNil,Nat.reduceEqDiff,Nat.reduceAdd,Nat.reduceLT,Nat.reduceLeDiff,Int.reduceNeg,Int.reduceToNat,reduceCtorEq,h1,h2,h5,h6]))
        · rename_i a b
          rw[if_pos ⟨a,b⟩] at hi
          simp only[eD,← hi]
        · rename_i a b
          rw[if_neg (fun e=>e.2 b)] at hi
          exact ⟨k - 1,by omega,i+1,_,by omega,hi,by first | rfl | exact ⟨rfl,rfl⟩ | exact ⟨rfl,rfl,rfl⟩⟩
        · rename_i a
          rw[if_neg (fun e=>e.1 a)] at hi
          exact ⟨k - 1,by omega,i+1,_,by omega,hi,by first | rfl | exact ⟨rfl,rfl⟩ | exact ⟨rfl,rfl,rfl⟩⟩
    · rw[List.drop_eq_nil_of_le (by omega)] at hi
      simp only[fQ] at hi
      simp (disch:=omega) only [↓wr,↓reduceIte,wq,ai,ah,ak,ae,af,ag,aj,isNil,Nat.reduceEqDiff,Nat.reduceAdd,Nat.reduceLT,Nat.reduceLeDiff,Int.reduceNeg,Int.reduceToNat,reduceCtorEq,h1,h2,h5,h6]
      simp only[eD,← hi]
theorem D2 (g:av) (hg:g.Ok) (n:Int):aE Tryz.prog 115 [.agg (ao g),gi n] (gb (eD g.aC n)):=aE.val (AN g n) (DS g hg n)
end Gv
set_option linter.unusedSimpArgs false
set_option maxRecDepth 100000
namespace Gv
open Go Go.Proofs
def nS (g:av) (t:Term):Bool:=(List.range t.level.toNat).all fun k=>eD g.aC ((k:Int)+1)
def gR (g:av) (i:Int) (t:Term):Bool :=
  my (dF t.name) && (ju g t.name == i) && decide (0≤t.level) && decide (t.level≤24) && decide (0≤t.assoc) && decide (t.assoc≤3) && ((t.level == 0) == (t.assoc == 0)) && nS g t
def gq (g:av):List Term→Int→Bool
  | [],_=>true
  | t :: r,i=>gR g i t && gq g r (i+1)
def gA (g:av):Bool:=decide (g.aC.length≤24) && gq g g.aC 0
def j4:SC :=
  .seq (.seq (al [aa 63 5,ar 64 1 4,an 65 64,bb 66 .leq 63 65]) <|
  .cond (.tmp 66) (.skip) (.exit 2)) <|
  .seq (.block 3 (.seq (al [aM 69 4 1,aa 70 5,aG 71 115 [69,70],bL 72 71]) <|
  .cond (.tmp 72) (.seq (al [aU 2 false]) <|
  .ret) (.skip))) <|
  al [aa 67 5,ay 68 .add 67 1,aa 5 68]
def j6:SC :=
  .seq (.seq (al [aa 10 3,ar 11 0 1,an 12 11,aL 13 12,bb 14 .lss 10 13]) <|
  .cond (.tmp 14) (.skip) (.exit 0)) <|
  .seq (.block 1 (.seq (.region false [⟨none,[ar 17 0 1,an 18 17,aa 19 3,aN 20 3 18 19,aM 21 3 20,((some 4),.op (.alloc [(.val (.string ⟨#[]⟩)),(.val (.int .i64 0)),(.val (.int .i64 0))])),(none,.op (.store 3 (.tmp 4) (.tmp 21)))]⟩]) <|
  .seq (.seq (.region false [⟨none,[ar 22 0 4,an 23 22,aG 24 113 [23],bL 25 24,aa 26 25]⟩,⟨(some (26,false)),[aM 27 4 1,ar 28 0 4,an 29 28,aG 30 114 [27,29],aa 31 3,bb 32 .neq 30 31]⟩,⟨none,[bt 33 26 32,aa 34 33]⟩,⟨(some (34,false)),[ar 35 1 4,an 36 35,ay 37 .lss 36 0]⟩,⟨none,[bt 38 34 37,aa 39 38]⟩,⟨(some (39,false)),[ar 40 1 4,an 41 40,ay 42 .gtr 41 24]⟩,⟨none,[bt 43 39 42,aa 44 43]⟩,⟨(some (44,false)),[ar 45 2 4,an 46 45,ay 47 .lss 46 0]⟩,⟨none,[bt 48 44 47,aa 49 48]⟩,⟨(some (49,false)),[ar 50 2 4,an 51 50,ay 52 .gtr 51 3]⟩,⟨none,[bt 53 49 52,aa 54 53]⟩,⟨(some (54,false)),[ar 55 1 4,an 56 55,ay 57 .eql 56 0,ar 58 2 4,an 59 58,ay 60 .eql 59 0,((some 61),.op (.beq false (.tmp 57) (.tmp 60)))]⟩,⟨none,[bt 62 54 61]⟩]) <|
  .cond (.tmp 62) (.seq (al [aU 2 false]) <|
  .ret) (.skip)) <|
  .seq (al [aH 5 1]) <|
  .block 2 (.loop j4))) <|
  al [aa 15 3,ay 16 .add 15 1,aa 3 16]
def lq:SF:=⟨.seq (al [cE 1 0,aU 2 false]) <|
  .seq (.seq (al [ar 6 0 1,an 7 6,aL 8 7,ay 9 .gtr 8 24]) <|
  .cond (.tmp 9) (.seq (al [aU 2 false]) <|
  .ret) (.skip)) <|
  .seq (.seq (al [aH 3 0]) <|
  .block 0 (.loop j6)) <|
  .seq (al [aU 2 true]) <|
  .ret,
  [.tmp 2],73⟩
theorem qa:aX Tryz.prog 68 [1]=some lq:=by kernel_rfl
def kT:SC :=
  .seq (.seq (al [aa 14 3,ar 15 1 1,an 16 15,aL 17 16,bb 18 .lss 14 17]) <|
  .cond (.tmp 18) (.skip) (.exit 0)) <|
  .seq (.block 1 (.seq (.region false [⟨none,[ar 21 1 1,an 22 21,aa 23 3,aN 24 1 22 23,an 25 24,aG 26 116 [25],bL 27 26,aa 28 27]⟩,⟨(some (28,false)),[aM 29 4 1,ar 30 1 1,an 31 30,aa 32 3,aN 33 1 31 32,an 34 33,aG 35 95 [29,34],aa 36 3,bb 37 .neq 35 36]⟩,⟨none,[bt 38 28 37,aa 39 38]⟩,⟨(some (39,false)),[aM 40 4 1,ar 41 1 1,an 42 41,aa 43 3,aN 44 1 42 43,an 45 44,aG 46 114 [40,45],ay 47 .geq 46 0]⟩,⟨none,[bt 48 39 47]⟩]) <|
  .cond (.tmp 48) (.seq (al [aU 2 false]) <|
  .ret) (.skip))) <|
  al [aa 19 3,ay 20 .add 19 1,aa 3 20]
def mr:SF:=⟨.seq (al [cE 1 0,aU 2 false]) <|
  .seq (.seq (.region false [⟨none,[ar 4 1 1,an 5 4,aL 6 5,ay 7 .lss 6 1,aa 8 7]⟩,⟨(some (8,false)),[ar 9 1 1,an 10 9,aL 11 10,ay 12 .gtr 11 16]⟩,⟨none,[bt 13 8 12]⟩]) <|
  .cond (.tmp 13) (.seq (al [aU 2 false]) <|
  .ret) (.skip)) <|
  .seq (.seq (al [aH 3 0]) <|
  .block 0 (.loop kT)) <|
  .seq (al [aU 2 true]) <|
  .ret,
  [.tmp 2],49⟩
theorem qm:aX Tryz.prog 69 [1]=some mr:=by kernel_rfl
def kj:SC :=
  .seq (.seq (al [aa 23 5,ar 24 1 3,an 25 24,aL 26 25,bb 27 .lss 23 26]) <|
  .cond (.tmp 27) (.skip) (.exit 0)) <|
  .seq (.block 1 (.seq (.region false [⟨none,[aM 30 4 2,ar 31 1 3,an 32 31,aa 33 5,aN 34 1 32 33,an 35 34,aG 36 85 [30,35],bL 37 36,aa 38 37]⟩,⟨(some (38,false)),[ar 39 1 3,an 40 39,aa 41 5,aN 42 1 40 41,an 43 42,ay 44 .geq 43 0,aa 45 44]⟩,⟨(some (45,true)),[ar 46 2 3,an 47 46,ay 48 .eql 47 (-1)]⟩,⟨(some (38,false)),[br 49 45 48]⟩,⟨none,[bt 50 38 49]⟩]) <|
  .cond (.tmp 50) (.seq (al [aU 4 false]) <|
  .ret) (.skip))) <|
  al [aa 28 5,ay 29 .add 28 1,aa 5 29]
def mf:SF:=⟨.seq (al [cE 2 0,cE 3 1,aU 4 false]) <|
  .seq (.seq (.region false [⟨none,[ar 6 1 3,an 7 6,aL 8 7,ay 9 .gtr 8 6,aa 10 9]⟩,⟨(some (10,false)),[ar 11 2 3,an 12 11,ay 13 .lss 12 (-1)]⟩,⟨none,[bt 14 10 13,aa 15 14]⟩,⟨(some (15,false)),[ar 16 2 3,an 17 16,ar 18 0 2,an 19 18,aL 20 19,bb 21 .geq 17 20]⟩,⟨none,[bt 22 15 21]⟩]) <|
  .cond (.tmp 22) (.seq (al [aU 4 false]) <|
  .ret) (.skip)) <|
  .seq (.seq (al [aH 5 0]) <|
  .block 0 (.loop kj)) <|
  .seq (al [aU 4 true]) <|
  .ret,
  [.tmp 4],51⟩
theorem qP:aX Tryz.prog 70 [2,3]=some mf:=by kernel_rfl
def jX:SC :=
  .seq (.seq (al [aa 39 4,ar 40 2 1,an 41 40,aL 42 41,bb 43 .lss 39 42]) <|
  .cond (.tmp 43) (.skip) (.exit 0)) <|
  .seq (.block 1 (.seq (al [ar 46 2 1,an 47 46,aa 48 4,aN 49 3 47 48,aM 50 3 49,((some 5),.op (.alloc [(.val (.int .i64 0)),(.emp 1),(.val (.int .i64 0))])),(none,.op (.store 3 (.tmp 5) (.tmp 50)))]) <|
  .seq (.seq (.region false [⟨none,[ar 51 0 5,an 52 51,ay 53 .lss 52 0,aa 54 53]⟩,⟨(some (54,false)),[ar 55 0 5,an 56 55,aa 57 3,ay 58 .add 57 1,bb 59 .gtr 56 58]⟩,⟨none,[bt 60 54 59,aa 61 60]⟩,⟨(some (61,false)),[aM 62 4 1,aM 63 3 5,aG 64 70 [62,63],bL 65 64]⟩,⟨none,[bt 66 61 65]⟩]) <|
  .cond (.tmp 66) (.seq (al [aU 2 false]) <|
  .ret) (.skip)) <|
  .seq (al [ar 67 0 5,an 68 67,aa 69 3,bb 70 .gtr 68 69]) <|
  .cond (.tmp 70) (al [ar 71 0 5,an 72 71,aa 3 72]) (.skip))) <|
  al [aa 44 4,ay 45 .add 44 1,aa 4 45]
def lr:SF:=⟨.seq (al [cE 1 0,aU 2 false]) <|
  .seq (.seq (.region false [⟨none,[aM 6 4 1,aG 7 68 [6],bL 8 7,aa 9 8]⟩,⟨(some (9,false)),[aM 10 4 1,aG 11 69 [10],bL 12 11]⟩,⟨none,[bt 13 9 12,aa 14 13]⟩,⟨(some (14,false)),[ar 15 2 1,an 16 15,aL 17 16,ay 18 .lss 17 1]⟩,⟨none,[bt 19 14 18,aa 20 19]⟩,⟨(some (20,false)),[ar 21 2 1,an 22 21,aL 23 22,ay 24 .gtr 23 40]⟩,⟨none,[bt 25 20 24,aa 26 25]⟩,⟨(some (26,false)),[ar 27 3 1,an 28 27,ay 29 .lss 28 0]⟩,⟨none,[bt 30 26 29,aa 31 30]⟩,⟨(some (31,false)),[ar 32 3 1,an 33 32,ar 34 1 1,an 35 34,aL 36 35,bb 37 .geq 33 36]⟩,⟨none,[bt 38 31 37]⟩]) <|
  .cond (.tmp 38) (.seq (al [aU 2 false]) <|
  .ret) (.skip)) <|
  .seq (al [aH 3 (-1)]) <|
  .seq (.seq (al [aH 4 0]) <|
  .block 0 (.loop jX)) <|
  .seq (al [aa 73 3,ar 74 1 1,an 75 74,aL 76 75,ay 77 .sub 76 1,bb 78 .eql 73 77,aa 2 78]) <|
  .ret,
  [.tmp 2],79⟩
theorem pU:aX Tryz.prog 41 [1]=some lr:=by kernel_rfl
set_option maxHeartbeats 2000000 in
theorem DW (g:av) (hg:g.Ok) (H:View):aD Tryz.prog 68 [.agg (ao g)] H fun r _=>r=gb (gA g):=by
  refine aD.of mixed qa ?_
  simp (disch:=omega) only [↓wr,↓reduceIte,wq,ai,ah,ak,ae,af,ag,aj,isNil,Nat.reduceEqDiff,Nat.reduceAdd,Nat.reduceLT,Nat.reduceLeDiff,Int.reduceNeg,Int.reduceToNat,reduceCtorEq,lq,ao,encS]
  refine aq.dec (fun h=>?_) (fun h=>?_)
  · simp (disch:=omega) only [↓wr,↓reduceIte,wq,ai,ah,ak,ae,af,ag,aj,isNil,Nat.reduceEqDiff,Nat.reduceAdd,Nat.reduceLT,Nat.reduceLeDiff,Int.reduceNeg,Int.reduceToNat,reduceCtorEq]
    simp[gA,show ¬ g.aC.length≤24 by omega]
  · have hle:g.aC.length≤24:=by omega
    simp (disch:=omega) only [↓wr,↓reduceIte,wq,ai,ah,ak,ae,af,ag,aj,isNil,Nat.reduceEqDiff,Nat.reduceAdd,Nat.reduceLT,Nat.reduceLeDiff,Int.reduceNeg,Int.reduceToNat,reduceCtorEq]
    refine bo.intro (fun k T _=>∃ i:Nat,i+k=g.aC.length∧gq g (g.aC.drop i) i=gq g g.aC 0∧T 1=.aK (ao g) 0∧T 3=gi i) g.aC.length ?_ ?_
    · exact ⟨0,by omega,rfl,rfl,rfl⟩
    · rintro k T H' ⟨i,hk,hi,h1,h3⟩
      simp (disch:=omega) only [↓wr,↓reduceIte,wq,ai,ah,ak,ae,af,ag,aj,isNil,Nat.reduceEqDiff,Nat.reduceAdd,Nat.reduceLT,Nat.reduceLeDiff,Int.reduceNeg,Int.reduceToNat,reduceCtorEq,j6,h1,h3,ao]
      refine aq.dec (fun hc=>?_) (fun hc=>?_)
      · have hg2:g.aC[i]?=some (g.aC[i]'(by omega)):=List.getElem?_eq_getElem (by omega)
        rw[dK (show i < g.aC.length by omega)] at hi
        have hmem:g.aC[i]'(by omega)∈g.aC:=List.getElem_mem _
        generalize g.aC[i]'(by omega)=t at hg2 hi hmem
        obtain ⟨⟨hl1,hl2⟩,⟨ha1,ha2⟩⟩:=hg.term t hmem
        simp only[gq] at hi
        have hbad:gR g i t=false→gb false=gb (gA g):=fun e=>by rw[e,Bool.false_and] at hi; simp[gA,← hi]
        simp (disch:=omega) only [↓wr,↓reduceIte,wq,ai,ah,ak,ae,af,ag,aj,isNil,Nat.reduceEqDiff,Nat.reduceAdd,Nat.reduceLT,Nat.reduceLeDiff,Int.reduceNeg,Int.reduceToNat,reduceCtorEq,h1,h3,ao,ch,List.getElem?_map,hg2,Option.map_some]
        intro m hm
        try simp (disch:=omega) only [↓wr,↓reduceIte,wq,ai,ah,ak,ae,af,ag,aj,isNil,Nat.reduceEqDiff,Nat.reduceAdd,Nat.reduceLT,Nat.reduceLeDiff,Int.reduceNeg,Int.reduceToNat,reduceCtorEq,h1,h3]
        refine az.pure (Em t.name) (by kernel_rfl) ?_
        repeat' (first | (refine aq.dec (fun _=>?_) (fun _=>?_)) | (refine aq.eq (fun _=>?_) (fun _=>?_)) | (refine aq.ne (fun _=>?_) (fun _=>?_)) | (refine aq.split (fun _=>?_) (fun _=>?_)) | (simp (disch:=omega) only [↓wr,↓reduceIte,wq,ai,ah,ak,ae,af,ag,aj,isNil,Nat.reduceEqDiff,Nat.reduceAdd,Nat.reduceLT,Nat.reduceLeDiff,Int.reduceNeg,Int.reduceToNat,reduceCtorEq,h1,h3,ao]))
        all_goals try (refine hbad ?_; simp[gR, *]; done)
        rename_i hnm
        refine az.pure (y4 g hg t.name) (by kernel_rfl) ?_
        repeat' (first | (refine aq.dec (fun _=>?_) (fun _=>?_)) | (refine aq.eq (fun _=>?_) (fun _=>?_)) | (refine aq.ne (fun _=>?_) (fun _=>?_)) | (refine aq.split (fun _=>?_) (fun _=>?_)) | (simp (disch:=omega) only [↓wr,↓reduceIte,wq,ai,ah,ak,ae,af,ag,aj,isNil,Nat.reduceEqDiff,Nat.reduceAdd,Nat.reduceLT,Nat.reduceLeDiff,Int.reduceNeg,Int.reduceToNat,reduceCtorEq,h1,h3,ao]))
        all_goals try (refine hbad ?_; simp[gR, *]; done)
        all_goals try (refine hbad ?_; simp[gR]; grind)
        rename_i e1 e2 e3 e4 e5 e6
        have hpre:gR g i t=nS g t:=by
          have e6':((t.level == 0) == (t.assoc == 0))=true:=by simpa using e6
          simp[gR,hnm,e1,e6',show (0:Int)≤t.level by omega,show t.level≤24 by omega,show (0:Int)≤t.assoc by omega,show t.assoc≤3 by omega]
        refine bo.intro (fun k' T H''=>∃ j:Nat,1≤j∧j+k'=t.level.toNat+1∧(∀ q:Nat,q+1 < j→eD g.aC ((q:Int)+1)=true)∧T 1=.aK (ao g) 0∧T 3=gi i∧T 4=.ptr m 0 0∧H'' m=.arr 3 [[gs t.name,gi t.level,gi t.assoc]]∧T 5=gi j) t.level.toNat ?_ ?_
        · refine ⟨1,by omega,by omega,fun q hq=>by omega,?_⟩
          simp (disch:=omega) only [↓wr,↓reduceIte,wq,ai,ah,ak,ae,af,ag,aj,isNil,Nat.reduceEqDiff,Nat.reduceAdd,Nat.reduceLT,Nat.reduceLeDiff,Int.reduceNeg,Int.reduceToNat,reduceCtorEq,h1,h3,ao]
          rfl
        · rintro k' T' H'' ⟨j,hj1,hj2,hj3,f1,f3,f4,fm,f5⟩
          simp (disch:=omega) only [↓wr,↓reduceIte,wq,ai,ah,ak,ae,af,ag,aj,isNil,Nat.reduceEqDiff,Nat.reduceAdd,Nat.reduceLT,Nat.reduceLeDiff,Int.reduceNeg,Int.reduceToNat,reduceCtorEq,j4,f1,f3,f4,f5,fm]
          refine aq.dec (fun hd=>?_) (fun hd=>?_)
          · simp (disch:=omega) only [↓wr,↓reduceIte,wq,ai,ah,ak,ae,af,ag,aj,isNil,Nat.reduceEqDiff,Nat.reduceAdd,Nat.reduceLT,Nat.reduceLeDiff,Int.reduceNeg,Int.reduceToNat,reduceCtorEq,f1,f3,f4,f5,fm,ao]
            refine az.pure (D2 g hg j) (by kernel_rfl) ?_
            repeat' (first | (refine aq.dec (fun _=>?_) (fun _=>?_)) | (refine aq.eq (fun _=>?_) (fun _=>?_)) | (refine aq.ne (fun _=>?_) (fun _=>?_)) | (refine aq.split (fun _=>?_) (fun _=>?_)) | (simp (disch:=omega) only [↓wr,↓reduceIte,wq,ai,ah,ak,ae,af,ag,aj,isNil,Nat.reduceEqDiff,Nat.reduceAdd,Nat.reduceLT,Nat.reduceLeDiff,Int.reduceNeg,Int.reduceToNat,reduceCtorEq,f1,f3,f4,f5,fm,ao]))
            · rename_i hb
              refine ⟨k' - 1,by omega,j+1,by omega,by omega,fun q hq=>?_,by first | rfl | exact ⟨rfl,rfl⟩ | exact ⟨rfl,rfl,rfl⟩⟩
              by_cases e:q+1=j
              · have:(q:Int)+1=j:=by omega
                rw[this]; exact hb
              · exact hj3 q (by omega)
            · rename_i hb
              refine hbad ?_
              rw[hpre,nS,List.all_eq_false]
              refine ⟨j - 1,by simp; omega,?_⟩
              have:((j - 1:Nat):Int)+1=j:=by omega
              rw[this,hb]; simp
          · simp (disch:=omega) only [↓wr,↓reduceIte,wq,ai,ah,ak,ae,af,ag,aj,isNil,Nat.reduceEqDiff,Nat.reduceAdd,Nat.reduceLT,Nat.reduceLeDiff,Int.reduceNeg,Int.reduceToNat,reduceCtorEq,f1,f3,f4,f5,fm]
            refine ⟨k - 1,by omega,i+1,by omega,?_,by first | rfl | exact ⟨rfl,rfl⟩ | exact ⟨rfl,rfl,rfl⟩⟩
            have hlv:nS g t=true:=by
              rw[nS,List.all_eq_true]
              intro q hq
              exact hj3 q (by simp at hq; omega)
            rw[hpre,hlv,Bool.true_and] at hi
            push_cast; exact hi
      · rw[List.drop_eq_nil_of_le (by omega)] at hi
        simp only[gq] at hi
        simp (disch:=omega) only [↓wr,↓reduceIte,wq,ai,ah,ak,ae,af,ag,aj,isNil,Nat.reduceEqDiff,Nat.reduceAdd,Nat.reduceLT,Nat.reduceLeDiff,Int.reduceNeg,Int.reduceToNat,reduceCtorEq,h1,h3]
        simp[gA,hle,← hi]
theorem DZ (g:av) (hg:g.Ok):aE Tryz.prog 68 [.agg (ao g)] (gb (gA g)):=aE.val (fk g) (DW g hg)
def iU (g:av) (i:Int) (s:ByteArray):Bool:=dZ (dF s) && (tC g s == i) && decide (ju g s < 0)
def nU (g:av):List ByteArray→Int→Bool
  | [],_=>true
  | s :: r,i=>iU g i s && nU g r (i+1)
def ik (g:av):Bool:=decide (1≤g.au.length) && decide (g.au.length≤16) && nU g g.au 0
set_option maxHeartbeats 1000000 in
theorem E4 (g:av) (hg:g.Ok) (H:View):aD Tryz.prog 69 [.agg (ao g)] H fun r _=>r=gb (ik g):=by
  refine aD.of mixed qm ?_
  repeat' (first | (refine aq.dec (fun _=>?_) (fun _=>?_)) | (refine aq.eq (fun _=>?_) (fun _=>?_)) | (refine aq.ne (fun _=>?_) (fun _=>?_)) | (refine aq.split (fun _=>?_) (fun _=>?_)) | (simp (disch:=omega) only [↓wr,↓reduceIte,wq,ai,ah,ak,ae,af,ag,aj,isNil,Nat.reduceEqDiff,Nat.reduceAdd,Nat.reduceLT,Nat.reduceLeDiff,Int.reduceNeg,Int.reduceToNat,reduceCtorEq,mr,ao,encS]))
  · simp[ik,show ¬ 1≤g.au.length by omega]
  · simp[ik,show ¬ g.au.length≤16 by omega]
  · have hle:g.au.length≤16:=by omega
    refine bo.intro (fun k T _=>∃ i:Nat,i+k=g.au.length∧nU g (g.au.drop i) i=nU g g.au 0∧T 1=.aK (ao g) 0∧T 3=gi i) g.au.length ?_ ?_
    · exact ⟨0,by omega,rfl,rfl,rfl⟩
    · rintro k T H' ⟨i,hk,hi,h1,h3⟩
      simp (disch:=omega) only [↓wr,↓reduceIte,wq,ai,ah,ak,ae,af,ag,aj,isNil,Nat.reduceEqDiff,Nat.reduceAdd,Nat.reduceLT,Nat.reduceLeDiff,Int.reduceNeg,Int.reduceToNat,reduceCtorEq,kT,h1,h3,ao,encS]
      refine aq.dec (fun hc=>?_) (fun hc=>?_)
      · have hg2:g.au[i]?=some (g.au[i]'(by omega)):=List.getElem?_eq_getElem (by omega)
        rw[dK (show i < g.au.length by omega)] at hi
        generalize g.au[i]'(by omega)=t at hg2 hi
        simp only[nU] at hi
        have hbad:iU g i t=false→gb false=gb (ik g):=fun e=>by rw[e,Bool.false_and] at hi; simp[ik,← hi]
        simp (disch:=omega) only [↓wr,↓reduceIte,wq,ai,ah,ak,ae,af,ag,aj,isNil,Nat.reduceEqDiff,Nat.reduceAdd,Nat.reduceLT,Nat.reduceLeDiff,Int.reduceNeg,Int.reduceToNat,reduceCtorEq,h1,h3,ao,encS,List.getElem?_map,hg2,Option.map_some]
        refine az.pure (zm t) (by kernel_rfl) ?_
        repeat' (first | (refine aq.dec (fun _=>?_) (fun _=>?_)) | (refine aq.eq (fun _=>?_) (fun _=>?_)) | (refine aq.ne (fun _=>?_) (fun _=>?_)) | (refine aq.split (fun _=>?_) (fun _=>?_)) | (simp (disch:=omega) only [↓wr,↓reduceIte,wq,ai,ah,ak,ae,af,ag,aj,isNil,Nat.reduceEqDiff,Nat.reduceAdd,Nat.reduceLT,Nat.reduceLeDiff,Int.reduceNeg,Int.reduceToNat,reduceCtorEq,h1,h3,ao,encS,List.getElem?_map,hg2,Option.map_some]))
        all_goals try (refine hbad ?_; simp[iU, *]; done)
        rename_i hnm
        refine az.pure (G2 g hg t) (by kernel_rfl) ?_
        repeat' (first | (refine aq.dec (fun _=>?_) (fun _=>?_)) | (refine aq.eq (fun _=>?_) (fun _=>?_)) | (refine aq.ne (fun _=>?_) (fun _=>?_)) | (refine aq.split (fun _=>?_) (fun _=>?_)) | (simp (disch:=omega) only [↓wr,↓reduceIte,wq,ai,ah,ak,ae,af,ag,aj,isNil,Nat.reduceEqDiff,Nat.reduceAdd,Nat.reduceLT,Nat.reduceLeDiff,Int.reduceNeg,Int.reduceToNat,reduceCtorEq,h1,h3,ao,encS,List.getElem?_map,hg2,Option.map_some]))
        all_goals try (refine hbad ?_; simp[iU, *]; done)
        rename_i hno
        refine az.pure (y4 g hg t) (by kernel_rfl) ?_
        repeat' (first | (refine aq.dec (fun _=>?_) (fun _=>?_)) | (refine aq.eq (fun _=>?_) (fun _=>?_)) | (refine aq.ne (fun _=>?_) (fun _=>?_)) | (refine aq.split (fun _=>?_) (fun _=>?_)) | (simp (disch:=omega) only [↓wr,↓reduceIte,wq,ai,ah,ak,ae,af,ag,aj,isNil,Nat.reduceEqDiff,Nat.reduceAdd,Nat.reduceLT,Nat.reduceLeDiff,Int.reduceNeg,Int.reduceToNat,reduceCtorEq,h1,h3,ao,encS]))
        all_goals try (refine hbad ?_; simp[iU, *]; done)
        rename_i hte
        refine ⟨k - 1,by omega,i+1,by omega,?_,by first | rfl | exact ⟨rfl,rfl⟩ | exact ⟨rfl,rfl,rfl⟩⟩
        have:iU g i t=true:=by simp[iU,hnm,hno,show ju g t < 0 by omega]
        rw[this,Bool.true_and] at hi
        push_cast; exact hi
      · rw[List.drop_eq_nil_of_le (by omega)] at hi
        simp only[nU] at hi
        simp (disch:=omega) only [↓wr,↓reduceIte,wq,ai,ah,ak,ae,af,ag,aj,isNil,Nat.reduceEqDiff,Nat.reduceAdd,Nat.reduceLT,Nat.reduceLeDiff,Int.reduceNeg,Int.reduceToNat,reduceCtorEq,h1,h3]
        simp[ik,hle,show 1≤g.au.length by omega,← hi]
theorem Ew (g:av) (hg:g.Ok):aE Tryz.prog 69 [.agg (ao g)] (gb (ik g)):=aE.val (fk g) (E4 g hg)
def jE (g:av) (prec s:Int):Bool:=lS g s && !(decide (0≤s) && prec == -1)
def fg (g:av) (r:aT):Bool:=decide (r.right.length≤6) && decide (-1≤r.prec) && decide (r.prec < g.aC.length) && r.right.all (jE g r.prec)
theorem Bc (g:av) (r:aT):∀ v∈[V.agg (ao g),V.agg (aJ r)],Tree v:=by
  intro v hv; simp at hv
  rcases hv with rfl | rfl
  · exact bV _ (bK g)
  · exact bV _ (fU r)
set_option maxHeartbeats 1000000 in
theorem Et (g:av) (r:aT) (hr:aP r.right∧∀ x∈r.right,bF x) (H:View):aD Tryz.prog 70 [.agg (ao g),.agg (aJ r)] H fun v _=>v=gb (fg g r):=by
  refine aD.of mixed qP ?_
  repeat' (first | (refine aq.dec (fun _=>?_) (fun _=>?_)) | (refine aq.eq (fun _=>?_) (fun _=>?_)) | (refine aq.ne (fun _=>?_) (fun _=>?_)) | (refine aq.split (fun _=>?_) (fun _=>?_)) | (simp (disch:=omega) only [↓wr,↓reduceIte,wq,ai,ah,ak,ae,af,ag,aj,isNil,Nat.reduceEqDiff,Nat.reduceAdd,Nat.reduceLT,Nat.reduceLeDiff,Int.reduceNeg,Int.reduceToNat,reduceCtorEq,mf,ao,encS,aJ,encI]))
  · simp[fg,show ¬ r.right.length≤6 by omega]
  · simp[fg,show ¬ -1≤r.prec by omega]
  · simp[fg,show ¬ r.prec < g.aC.length by omega]
  · have hle:r.right.length≤6:=by omega
    have hp1 : -1≤r.prec:=by omega
    have hp2:r.prec < g.aC.length:=by omega
    refine bo.intro (fun k T _=>∃ i:Nat,i+k=r.right.length∧(r.right.drop i).all (jE g r.prec)=r.right.all (jE g r.prec)∧T 2=.aK (ao g) 0∧T 3=.aK (aJ r) 0∧T 5=gi i) r.right.length ?_ ?_
    · exact ⟨0,by omega,rfl,rfl,rfl,rfl⟩
    · rintro k T H' ⟨i,hk,hi,h2,h3,h5⟩
      simp (disch:=omega) only [↓wr,↓reduceIte,wq,ai,ah,ak,ae,af,ag,aj,isNil,Nat.reduceEqDiff,Nat.reduceAdd,Nat.reduceLT,Nat.reduceLeDiff,Int.reduceNeg,Int.reduceToNat,reduceCtorEq,kj,h2,h3,h5,aJ,encI]
      refine aq.dec (fun hc=>?_) (fun hc=>?_)
      · have hg2:r.right[i]?=some (r.right[i]'(by omega)):=List.getElem?_eq_getElem (by omega)
        rw[dK (show i < r.right.length by omega)] at hi
        have hmem:r.right[i]'(by omega)∈r.right:=List.getElem_mem _
        generalize r.right[i]'(by omega)=t at hg2 hi hmem
        have hin:=hr.2 t hmem
        simp only[List.all_cons] at hi
        have hbad:jE g r.prec t=false→gb false=gb (fg g r):=fun e=>by rw[e,Bool.false_and] at hi; simp only[fg,← hi,Bool.and_false]
        have hok:jE g r.prec t=true→(r.right.drop (i+1)).all (jE g r.prec)=r.right.all (jE g r.prec):=fun e=>by rw[e,Bool.true_and] at hi; exact hi
        simp (disch:=omega) only [↓wr,↓reduceIte,wq,ai,ah,ak,ae,af,ag,aj,isNil,Nat.reduceEqDiff,Nat.reduceAdd,Nat.reduceLT,Nat.reduceLeDiff,Int.reduceNeg,Int.reduceToNat,reduceCtorEq,h2,h3,h5,ao,encS,aJ,encI,List.getElem?_map,hg2,Option.map_some]
        refine az.pure (Jo g t hin) (by kernel_rfl) ?_
        repeat' (first | (refine aq.dec (fun _=>?_) (fun _=>?_)) | (refine aq.eq (fun _=>?_) (fun _=>?_)) | (refine aq.ne (fun _=>?_) (fun _=>?_)) | (refine aq.split (fun _=>?_) (fun _=>?_)) | (simp (disch:=omega) only [↓wr,↓reduceIte,wq,ai,ah,ak,ae,af,ag,aj,isNil,Nat.reduceEqDiff,Nat.reduceAdd,Nat.reduceLT,Nat.reduceLeDiff,Int.reduceNeg,Int.reduceToNat,reduceCtorEq,h2,h3,h5,ao,encS,aJ,encI,List.getElem?_map,hg2,Option.map_some]))
        all_goals first
          | (refine hbad ?_; simp[jE, *]; done)
          | (refine ⟨k - 1,by omega,i+1,by omega,hok (by simp[jE, *]; done),by first | rfl | exact ⟨rfl,rfl⟩ | exact ⟨rfl,rfl,rfl⟩⟩)
          | skip
      · rw[List.drop_eq_nil_of_le (by omega)] at hi
        simp only[List.all_nil] at hi
        simp (disch:=omega) only [↓wr,↓reduceIte,wq,ai,ah,ak,ae,af,ag,aj,isNil,Nat.reduceEqDiff,Nat.reduceAdd,Nat.reduceLT,Nat.reduceLeDiff,Int.reduceNeg,Int.reduceToNat,reduceCtorEq,h2,h3,h5]
        simp only[fg,hle,hp1,hp2,decide_true,Bool.true_and,← hi]
theorem Ez (g:av) (r:aT) (hr:aP r.right∧∀ x∈r.right,bF x):aE Tryz.prog 70 [.agg (ao g),.agg (aJ r)] (gb (fg g r)):=aE.val (Bc g r) (Et g r hr)
def eH (g:av):List aT→Int→Bool
  | [],top=>top == (g.au.length:Int) - 1
  | r :: l,top=>decide (0≤r.left) && decide (r.left≤top+1) && fg g r && eH g l (if r.left > top then r.left else top)
def aR (g:av):Bool :=
  gA g && ik g && decide (1≤g.rules.length) && decide (g.rules.length≤40) && decide (0≤g.start) && decide (g.start < g.au.length) && eH g g.rules (-1)
set_option maxHeartbeats 1000000 in
theorem D7 (g:av) (hg:g.Ok) (H:View):aD Tryz.prog 41 [.agg (ao g)] H fun r _=>r=gb (aR g):=by
  refine aD.of mixed pU ?_
  have hn:=hg.au
  unfold aP at hn
  simp (disch:=omega) only [↓wr,↓reduceIte,wq,ai,ah,ak,ae,af,ag,aj,isNil,Nat.reduceEqDiff,Nat.reduceAdd,Nat.reduceLT,Nat.reduceLeDiff,Int.reduceNeg,Int.reduceToNat,reduceCtorEq,lr,ao,encS]
  refine az.pure (DZ g hg) (by kernel_rfl) ?_
  repeat' (first | (refine aq.dec (fun _=>?_) (fun _=>?_)) | (refine aq.eq (fun _=>?_) (fun _=>?_)) | (refine aq.ne (fun _=>?_) (fun _=>?_)) | (refine aq.split (fun _=>?_) (fun _=>?_)) | (simp (disch:=omega) only [↓wr,↓reduceIte,wq,ai,ah,ak,ae,af,ag,aj,isNil,Nat.reduceEqDiff,Nat.reduceAdd,Nat.reduceLT,Nat.reduceLeDiff,Int.reduceNeg,Int.reduceToNat,reduceCtorEq,ao,encS]))
  · rename_i h1
    refine az.pure (Ew g hg) (by kernel_rfl) ?_
    repeat' (first | (refine aq.dec (fun _=>?_) (fun _=>?_)) | (refine aq.eq (fun _=>?_) (fun _=>?_)) | (refine aq.ne (fun _=>?_) (fun _=>?_)) | (refine aq.split (fun _=>?_) (fun _=>?_)) | (simp (disch:=omega) only [↓wr,↓reduceIte,wq,ai,ah,ak,ae,af,ag,aj,isNil,Nat.reduceEqDiff,Nat.reduceAdd,Nat.reduceLT,Nat.reduceLeDiff,Int.reduceNeg,Int.reduceToNat,reduceCtorEq,ao,encS]))
    all_goals try (simp[aR, *]; done)
    all_goals try (simp[aR]; omega)
    rename_i h2 h3 h4 h5 h6
    have hle:g.rules.length≤40:=by omega
    have hpre:∀ b,eH g g.rules (-1)=b→gb b=gb (aR g):=fun b e=>by
      simp[aR,h1,h2,show 1≤g.rules.length by omega,hle,show 0≤g.start by omega,show g.start < g.au.length by omega,e]
    refine bo.intro (fun k T _=>∃ (i:Nat) (w:Int),i+k=g.rules.length∧-1≤w∧w < i∧eH g (g.rules.drop i) w=eH g g.rules (-1)∧T 1=.aK (ao g) 0∧T 3=gi w∧T 4=gi i) g.rules.length ?_ ?_
    · exact ⟨0,-1,by omega,by omega,by omega,rfl,rfl,rfl,rfl⟩
    · rintro k T H' ⟨i,w,hk,hw1,hw2,hi,f1,f3,f4⟩
      simp (disch:=omega) only [↓wr,↓reduceIte,wq,ai,ah,ak,ae,af,ag,aj,isNil,Nat.reduceEqDiff,Nat.reduceAdd,Nat.reduceLT,Nat.reduceLeDiff,Int.reduceNeg,Int.reduceToNat,reduceCtorEq,jX,f1,f3,f4,ao]
      refine aq.dec (fun hc=>?_) (fun hc=>?_)
      · have hg2:g.rules[i]?=some (g.rules[i]'(by omega)):=List.getElem?_eq_getElem (by omega)
        rw[dK (show i < g.rules.length by omega)] at hi
        have hmem:g.rules[i]'(by omega)∈g.rules:=List.getElem_mem _
        generalize g.rules[i]'(by omega)=t at hg2 hi hmem
        obtain ⟨⟨hl1,hl2⟩,hp,hr1,hr2⟩:=hg.bj t hmem
        simp only[eH] at hi
        simp (disch:=omega) only [↓wr,↓reduceIte,wq,ai,ah,ak,ae,af,ag,aj,isNil,Nat.reduceEqDiff,Nat.reduceAdd,Nat.reduceLT,Nat.reduceLeDiff,Int.reduceNeg,Int.reduceToNat,reduceCtorEq,f1,f3,f4,ao,encS,aJ,encI,List.getElem?_map,hg2,Option.map_some]
        intro m hm
        try simp (disch:=omega) only [↓wr,↓reduceIte,wq,ai,ah,ak,ae,af,ag,aj,isNil,Nat.reduceEqDiff,Nat.reduceAdd,Nat.reduceLT,Nat.reduceLeDiff,Int.reduceNeg,Int.reduceToNat,reduceCtorEq,f1,f3,f4]
        repeat' (first | (refine aq.dec (fun _=>?_) (fun _=>?_)) | (refine aq.eq (fun _=>?_) (fun _=>?_)) | (refine aq.ne (fun _=>?_) (fun _=>?_)) | (refine aq.split (fun _=>?_) (fun _=>?_)) | (simp (disch:=omega) only [↓wr,↓reduceIte,wq,ai,ah,ak,ae,af,ag,aj,isNil,Nat.reduceEqDiff,Nat.reduceAdd,Nat.reduceLT,Nat.reduceLeDiff,Int.reduceNeg,Int.reduceToNat,reduceCtorEq,f1,f3,f4,ao,encS,aJ,encI]))
        all_goals try (refine hpre _ ?_; simp only[← hi]; simp; omega)
        rename_i e1 e2
        refine az.pure (Ez g t ⟨hr1,hr2⟩) (by kernel_rfl) ?_
        repeat' (first | (refine aq.dec (fun _=>?_) (fun _=>?_)) | (refine aq.eq (fun _=>?_) (fun _=>?_)) | (refine aq.ne (fun _=>?_) (fun _=>?_)) | (refine aq.split (fun _=>?_) (fun _=>?_)) | (simp (disch:=omega) only [↓wr,↓reduceIte,wq,ai,ah,ak,ae,af,ag,aj,isNil,Nat.reduceEqDiff,Nat.reduceAdd,Nat.reduceLT,Nat.reduceLeDiff,Int.reduceNeg,Int.reduceToNat,reduceCtorEq,f1,f3,f4,ao,encS,aJ,encI]))
        all_goals simp only[show 0≤t.left by omega,show t.left≤w+1 by omega,decide_true,Bool.true_and] at hi
        · rename_i e3 e4
          rw[e3,Bool.true_and,if_pos e4] at hi
          exact ⟨k - 1,by omega,i+1,_,by omega,by omega,by push_cast; omega,hi,by first | rfl | exact ⟨rfl,rfl⟩ | exact ⟨rfl,rfl,rfl⟩⟩
        · rename_i e3 e4
          rw[e3,Bool.true_and,if_neg e4] at hi
          exact ⟨k - 1,by omega,i+1,_,by omega,by omega,by push_cast; omega,hi,by first | rfl | exact ⟨rfl,rfl⟩ | exact ⟨rfl,rfl,rfl⟩⟩
        · rename_i e3
          rw[e3,Bool.false_and] at hi
          exact hpre _ hi.symm
      · rw[List.drop_eq_nil_of_le (by omega)] at hi
        simp only[eH] at hi
        simp (disch:=omega) only [↓wr,↓reduceIte,wq,ai,ah,ak,ae,af,ag,aj,isNil,Nat.reduceEqDiff,Nat.reduceAdd,Nat.reduceLT,Nat.reduceLeDiff,Int.reduceNeg,Int.reduceToNat,reduceCtorEq,f1,f3,f4,ao,encS]
        exact hpre _ hi.symm
  · rename_i h1; simp[aR,h1]
theorem kM (g:av) (hg:g.Ok):aE Tryz.prog 41 [.agg (ao g)] (gb (aR g)):=aE.val (fk g) (D7 g hg)
end Gv
namespace Gv
open Go
inductive bS (α:Type) where
  | nil
  | node (v:α) (l r:bS α)
noncomputable def bS.get {α:Type} (z:α) (t:bS α):Nat→α :=
  bS.rec (motive:=fun _=>Nat→α) (fun _=>z) (fun v _ _ gl gr i=>Bool.rec (Bool.rec (gr (i / 2 - 1)) (gl (i / 2)) (Nat.beq (i % 2) 1)) v (Nat.beq i 0)) t
theorem bS.get_nil {α:Type} (z:α) (i:Nat):bS.get z .nil i=z:=rfl
theorem bS.Gy {α:Type} (z v:α) (l r:bS α) (i:Nat):bS.get z (.node v l r) i=match Nat.beq i 0 with
    | true=>v
    | false=>match Nat.beq (i % 2) 1 with
      | true=>bS.get z l (i / 2)
      | false=>bS.get z r (i / 2 - 1):=by
  change (Bool.rec (motive:=fun _=>α) _ _ _:α)=_
  cases Nat.beq i 0 with
  | true=>rfl
  | false=>cases Nat.beq (i % 2) 1 <;> rfl
def bS.val {α:Type} (z:α):bS α→α
  | .nil=>z
  | .node v _ _=>v
def bS.left {α:Type} : bS α→bS α
  | .nil=>.nil
  | .node _ l _=>l
def bS.right {α:Type} : bS α→bS α
  | .nil=>.nil
  | .node _ _ r=>r
noncomputable def bS.put {α:Type} (z:α) (x:α) (d:Nat):bS α→Nat→bS α :=
  Nat.rec (motive:=fun _=>bS α→Nat→bS α) (fun t _=>t) (fun _ pd t i =>
    Bool.rec (Bool.rec (.node (t.val z) t.left (pd t.right (i / 2 - 1))) (.node (t.val z) (pd t.left (i / 2)) t.right) (Nat.beq (i % 2) 1)) (.node x t.left t.right) (Nat.beq i 0)) d
theorem bS.G7 {α:Type} (z x:α) (d:Nat) (t:bS α) (i:Nat):bS.put z x (d+1) t i=match Nat.beq i 0 with
    | true=>.node x t.left t.right
    | false=>match Nat.beq (i % 2) 1 with
      | true=>.node (t.val z) (bS.put z x d t.left (i / 2)) t.right
      | false=>.node (t.val z) t.left (bS.put z x d t.right (i / 2 - 1)):=by
  change (Bool.rec (motive:=fun _=>bS α) _ _ _:bS α)=_
  cases Nat.beq i 0 with
  | true=>rfl
  | false=>cases Nat.beq (i % 2) 1 <;> rfl
theorem bS.jW {α:Type} (z:α) (t:bS α) (j:Nat):t.get z j=if j=0 then t.val z else if j % 2=1 then t.left.get z (j / 2) else t.right.get z (j / 2 - 1):=by
  cases t with
  | nil=>simp[bS.get_nil,bS.val,bS.left,bS.right]
  | node v l r =>
    simp only[bS.Gy,bS.val,bS.left,bS.right]
    by_cases h:j=0
    · subst h; rfl
    · have:Nat.beq j 0=false:=by cases e:Nat.beq j 0 with | true=>exact absurd (Nat.eq_of_beq_eq_true e) h | false=>rfl
      rw[this,if_neg h]
      simp only
      by_cases h2:j % 2=1
      · have:Nat.beq (j % 2) 1=true:=by rw[h2]; rfl
        rw[this,if_pos h2]
      · have:Nat.beq (j % 2) 1=false:=by cases e:Nat.beq (j % 2) 1 with | true=>exact absurd (Nat.eq_of_beq_eq_true e) h2 | false=>rfl
        rw[this,if_neg h2]
theorem bS.j5 {α:Type} (z x:α):∀ (d:Nat) (t:bS α) (i j:Nat),i+1 < 2 ^ d→(bS.put z x d t i).get z j=if j=i then x else t.get z j
  | 0,t,i,j,h=>by simp at h
  | d+1,t,i,j,h=>by
    rw[Nat.pow_succ] at h
    simp only[bS.G7]
    by_cases hi:i=0
    · subst hi
      have:Nat.beq 0 0=true:=rfl
      rw[this]
      simp only
      rw[bS.jW,bS.jW z t]
      simp only[bS.val,bS.left,bS.right]
      by_cases hj:j=0
      · rw[if_pos hj,if_pos hj]
      · rw[if_neg hj,if_neg hj,if_neg hj]
    · have:Nat.beq i 0=false:=by cases e:Nat.beq i 0 with | true=>exact absurd (Nat.eq_of_beq_eq_true e) hi | false=>rfl
      rw[this]
      simp only
      by_cases h2:i % 2=1
      · have:Nat.beq (i % 2) 1=true:=by rw[h2]; rfl
        rw[this]
        simp only
        rw[bS.jW,bS.jW z t]
        simp only[bS.val,bS.left,bS.right]
        by_cases hj:j=0
        · subst hj; rw[if_pos rfl,if_neg (fun e=>hi e.symm),if_pos rfl]
        · rw[if_neg hj,if_neg hj]
          by_cases hj2:j % 2=1
          · rw[if_pos hj2,if_pos hj2,bS.j5 z x d _ _ _ (by omega)]
            by_cases e:j=i
            · subst e; simp
            · rw[if_neg e,if_neg (by omega)]
          · rw[if_neg hj2,if_neg hj2,if_neg (fun e=>hj2 (by rw[e]; exact h2))]
      · have:Nat.beq (i % 2) 1=false:=by cases e:Nat.beq (i % 2) 1 with | true=>exact absurd (Nat.eq_of_beq_eq_true e) h2 | false=>rfl
        rw[this]
        simp only
        rw[bS.jW,bS.jW z t]
        simp only[bS.val,bS.left,bS.right]
        by_cases hj:j=0
        · subst hj; rw[if_pos rfl,if_neg (fun e=>hi e.symm),if_pos rfl]
        · rw[if_neg hj,if_neg hj]
          by_cases hj2:j % 2=1
          · rw[if_pos hj2,if_pos hj2,if_neg (fun e=>h2 (by rw[← e]; exact hj2))]
          · rw[if_neg hj2,if_neg hj2,bS.j5 z x d _ _ _ (by omega)]
            by_cases e:j=i
            · subst e; simp
            · rw[if_neg e,if_neg (by omega)]
abbrev deep:Nat:=13
structure ES where
  L:bS V
  H:bS bE
  n:Nat
  w:List Nat
noncomputable def ES.T (s:ES):Env:=s.L.get .any
noncomputable def ES.V (s:ES):View:=s.H.get .dead
noncomputable def ES.put (s:ES) (d:Option Nat) (v:Gv.V):ES:=match d with
  | some t=>⟨s.L.put .any v deep t,s.H,s.n,s.w⟩
  | none=>s
theorem ES.HM {s:ES} {d:Option Nat} {v:Gv.V} (h:∀ t,d=some t→t < 8000):(s.put d v).T=s.T.put d v:=by
  cases d with
  | none=>rfl
  | some t =>
    funext k
    have:=h t rfl
    simp only[ES.put,ES.T,Env.put]
    rw[bS.j5 _ _ _ _ _ _ (by simp[deep]; omega)]
noncomputable def z8 (v:V) (aB:bd) (rd:List Nat) (s:ES):Option (V × ES × Rec):=match aB with
  | .none=>some (v,s,⟨rd,[],false,s.n,s.n⟩)
  | .new o=>match Nat.ble s.n 8000 with
    | true=>some (v,⟨s.L,s.H.put .dead o deep s.n,s.n+1,s.w⟩,⟨rd,[],false,s.n,s.n+1⟩)
    | false=>none
  | .dN id o=>match Nat.ble id 8000 with
    | true=>some (v,⟨s.L,s.H.put .dead o deep id,s.n,id :: s.w⟩,⟨rd,[id],false,s.n,s.n⟩)
    | false=>none
  | .bu id o=>match Nat.ble s.n 8000,Nat.ble id 8000 with
    | true,true=>some (v,⟨s.L,(s.H.put .dead .dead deep id).put .dead o deep s.n,s.n+1,id :: s.w⟩,⟨rd,[id],false,s.n,s.n+1⟩)
    | _,_=>none
noncomputable def J9 (x:SX) (_:Program) (T:Env) (_:View) (_:Nat):Out:=some (x.at T,.none,[])
noncomputable def JK (c a b:SX) (_:Program) (T:Env) (_:View) (_:Nat):Out:=match c.at T with
  | .val (.bool t)=>some (if t then a.at T else b.at T,.none,[])
  | _=>none
noncomputable def JG (sz:Option Nat) (a:SX) (_:Program) (T:Env) (H:View) (_:Nat):Out:=rJ sz (a.at T) H
noncomputable def JA (sz:Nat) (a x:SX) (_:Program) (T:Env) (H:View) (_:Nat):Out:=xx sz (a.at T) (x.at T) H
noncomputable def JV (off:Nat) (x:SX) (_:Program) (T:Env) (_:View) (_:Nat):Out:=uV off (x.at T)
noncomputable def Ka (sz:Nat) (x i:SX) (_:Program) (T:Env) (_:View) (_:Nat):Out:=x6 sz (x.at T) (i.at T)
noncomputable def J5 (x:SX) (_:Program) (T:Env) (_:View) (_:Nat):Out:=(dV (x.at T)).map fun n=>(ak n,.none,[])
noncomputable def Ji (op:BinOp) (x y:SX) (_:Program) (T:Env) (_:View) (_:Nat):Out:=tL op (x.at T) (y.at T)
noncomputable def Kc (op:BinOp) (x y:SX) (_:Program) (T:Env) (_:View) (_:Nat):Out:=vJ op (x.at T) (y.at T)
noncomputable def Kf (x:SX) (_:Program) (T:Env) (_:View) (_:Nat):Out:=match x.at T with
  | .val (.bool t)=>some (.val (.bool (!t)),.none,[])
  | _=>none
noncomputable def Ke (i:Nat) (x:SX) (_:Program) (T:Env) (_:View) (_:Nat):Out:=match x.at T with
  | .bz vs=>if i < vs.length then some (vs.getD i .any,.none,[]) else none
  | _=>none
noncomputable def JN (x:SX) (_:Program) (T:Env) (_:View) (_:Nat):Out:=match x.at T with
  | .ptr id i j=>some (.ptr id i j,.none,[])
  | .aK e j=>some (.aK e j,.none,[])
  | .fn f a b=>some (.fn f a b,.none,[])
  | _=>none
noncomputable def eI (s:SI):Program→Env→View→Nat→Out:=match s with
  | .bu x=>J9 x
  | .pick c a b=>JK c a b
  | .load sz a=>JG sz a
  | .store sz a x=>JA sz a x
  | .addr o x=>JV o x
  | .idx sz x i=>Ka sz x i
  | .len x=>J5 x
  | .arith op x y=>Ji op x y
  | .hO op x y=>Kc op x y
  | .not x=>Kf x
  | .ext i x=>Ke i x
  | .vw x=>JN x
  | s=>fun P T H n=>sI P s T H n
theorem DY (s:SI) (P:Program) (T:Env) (H:View) (n:Nat):eI s P T H n=sI P s T H n:=by
  cases s <;> rfl
abbrev eY:=FuncId→List V→ES→Option (V × ES)
noncomputable def Fo (P:Program) (s:SI) (e:ES):Option (V × ES × Rec):=match eI s P e.T e.V e.n with
  | some (v,aB,rd)=>z8 v aB rd e
  | none=>none
noncomputable def FU (call:eY) (f:SX) (args:List SX) (e:ES):Option (V × ES × Rec):=match f.at e.T with
  | .fn g first cap=>match call g (first ++ args.map (SX.at e.T) ++ cap) e with
    | some (v,e')=>some (v,⟨e.L,e'.H,e'.n,e'.w ++ e.w⟩,⟨[],e'.w,true,e.n,e'.n⟩)
    | none=>none
  | _=>none
noncomputable def eB (P:Program) (call:eY) (b:SB):ES→Option (V × ES × Rec):=match b with
  | .op s=>Fo P s
  | .call f args=>FU call f args
noncomputable def CC (P:Program) (call:eY):List (Option Nat × SB)→List Rec→ES→Option (ES × List Rec)
  | [],a,e=>some (e,a)
  | (d,b) :: r,a,e=>match eB P call b e with
    | some (v,e',c)=>CC P call r (a ++ [c]) (e'.put d v)
    | none=>none
noncomputable def HT (e:ES):Rec:=⟨[],[],false,e.n,e.n⟩
noncomputable def sd:List (Option Nat × SB)→List Rec→ES→ES × List Rec
  | [],a,e=>(e,a)
  | (d,_) :: r,a,e=>sd r (a ++ [HT e]) (e.put d (.bz []))
noncomputable def F4 (P:Program) (call:eY) (ops:List (Option Nat × SB)) (want:Bool) (v:V) (a:List Rec) (e:ES):Option (ES × List Rec):=match v with
  | .val (.bool b)=>match xor b want with
    | true=>some (sd ops a e)
    | false=>CC P call ops a e
  | .bz []=>some (sd ops a e)
  | _=>none
noncomputable def eG (P:Program) (call:eY) (g:SG) (a:List Rec) (e:ES):Option (ES × List Rec):=match g.guard with
  | none=>CC P call g.ops a e
  | some (d,want)=>F4 P call g.ops want (e.T d) a e
noncomputable def Gb (P:Program) (call:eY):List SG→List Rec→ES→Option (ES × List Rec)
  | [],a,e=>some (e,a)
  | g :: r,a,e=>match eG P call g a e with
    | some (e',a')=>Gb P call r a' e'
    | none=>none
inductive DC where
  | skip
  | region (ps:List (Nat × Nat)) (gs:List SG)
  | seq (x y:DC)
  | cond (c:SX) (x y:DC)
  | block (id:Nat) (c:DC)
  | loop (c:DC)
  | exit (id:Nat)
  | ret
  deriving Inhabited
def Ff (recs:List Rec) (ps:List (Nat × Nat)):Bool:=ps.all fun (i,k)=>match recs[i]?,recs[k]? with
  | some a,some b=>xQ a b
  | _,_=>false
abbrev ER:=Option (Exit × ES)
abbrev sB:=DC→ES→ER
noncomputable def Gl:ES→ER:=fun e=>some (.normal,e)
noncomputable def CK (P:Program) (call:eY) (ps:List (Nat × Nat)) (gs:List SG) (e:ES):ER:=match Gb P call gs [] e with
  | some (e',recs)=>match Ff recs ps with
    | true=>some (.normal,e')
    | false=>none
  | none=>none
noncomputable def Ju (run:sB) (x y:DC) (e:ES):ER:=match run x e with
  | some (.normal,e')=>run y e'
  | r=>r
noncomputable def HZ (run:sB) (c:SX) (x y:DC) (e:ES):ER:=match c.at e.T with
  | .val (.bool true)=>run x e
  | .val (.bool false)=>run y e
  | _=>none
noncomputable def Fy (run:sB) (id:Nat) (c:DC) (e:ES):ER:=match run c e with
  | some (r,e')=>some (nV id r,e')
  | none=>none
noncomputable def HU (run:sB) (c:DC) (e:ES):ER:=match run c e with
  | some (.normal,e')=>run (.loop c) e'
  | r=>r
noncomputable def jA (P:Program) (call:eY) (run:sB) (c:DC):ES→ER:=match c with
  | .skip=>Gl
  | .region ps gs=>CK P call ps gs
  | .seq x y=>Ju run x y
  | .cond c x y=>HZ run c x y
  | .block id c=>Fy run id c
  | .loop c=>HU run c
  | .exit id=>fun e=>some (.exit id,e)
  | .ret=>fun e=>some (.ret,e)
noncomputable def GV (r:SR) (e:ES):Option V:=match r with
  | .tmp t=>some (e.T t)
  | .cell t sz=>match e.T t with
    | .ptr id i j=>match e.V id with
      | .arr _ es=>if i < es.length then jz sz (es.getD i []) j else none
      | _=>none
    | .aK e j=>jz sz e j
    | _=>none
noncomputable def r8:List SR→ES→Option (List V)
  | [],_=>some []
  | r :: l,e=>match GV r e,r8 l e with
    | some v,some vs=>some (v :: vs)
    | _,_=>none
noncomputable def j9:List V→Nat→bS V→bS V
  | [],_,t=>t
  | v :: vs,i,t=>j9 vs (i+1) (t.put .any v deep i)
structure DF where
  code:DC
  res:List SR
  n:Nat
noncomputable def Jn (l:List SR) (r:ER):Option (V × ES):=match r with
  | some (.ret,e)=>(r8 l e).map fun vs=>(ai vs,e)
  | some (.normal,e)=>(r8 l e).map fun vs=>(ai vs,e)
  | _=>none
noncomputable def Jt (m:Nat) (r:Option (V × ES)):Option (V × ES):=match r with
  | some (v,e)=>some (v,⟨e.L,e.H,e.n,e.w.filter fun id=>Nat.blt id m⟩)
  | none=>none
noncomputable def Je (run:sB) (F:DF) (vs:List V) (e:ES):Option (V × ES):=match Nat.ble vs.length F.n,Nat.ble F.n 8000 with
  | true,true=>Jt e.n (Jn F.res (run F.code ⟨j9 vs 0 .nil,e.H,e.n,[]⟩))
  | _,_=>none
abbrev vy:=FuncId→List V→Option V
noncomputable def zV (P:Program) (tab:List (FuncId × DF)) (ext:vy) (run:sB) (g:FuncId) (vs:List V) (e:ES):Option (V × ES):=match ext g vs with
  | some t=>some (t,⟨e.L,e.H,e.n,[]⟩)
  | none=>match tab.find? (fun p=>Nat.beq p.1 g) with
    | some (_,F)=>Je run F vs e
    | none=>none
noncomputable def A6 (P:Program) (tab:List (FuncId × DF)) (ext:vy):Nat→sB
  | 0=>fun _ _=>none
  | k+1=>jA P (zV P tab ext (A6 P tab ext k)) (A6 P tab ext k)
def xe (all:List Oper) (ls:List Nat):List (Nat × Nat) :=
  let b:=dI all []
  (ls.zipIdx.map fun (x,i)=>(ls.zipIdx.filter fun (y,k)=>decide (i < k) && !(ordered b i k || x == 0 || y == 0 || (decide (x≤1) && decide (y≤1)))).map fun (_,k)=>(i,k)).flatten
def Bn (P:Program) (n:Nat) (fz:List Nat) (ops:List Oper) (draw:Bool):Option DC:=match cy P n ops ⟨fz,false⟩ ops with
  | none=>none
  | some l=>if !(group l).all pJ then none else
    if draw then (if jn ops then some (.region (xe ops (l.map fun s=>fG P false s.b)) (group l)) else none) else some (.region [] (group l))
def fH (P:Program) (n:Nat) (fz:List Nat):Code→Option DC
  | .skip=>some .skip
  | .region _ ops draw=>Bn P n fz ops.toList draw
  | .seq x y=>match fH P n fz x,fH P n fz y with
    | some a,some b=>some (.seq a b)
    | _,_=>none
  | .cond c x y=>match fH P n fz x,fH P n fz y with
    | some a,some b=>some (.cond (SX.of c) a b)
    | _,_=>none
  | .block id c=>(fH P n fz c).map (.block id)
  | .loop c=>(fH P n fz c).map .loop
  | .exit id=>some (.exit id)
  | .ret=>some .ret
  | _=>none
abbrev ax (l:List (Option Nat × SB)):DC:=.region [] [⟨none,l⟩]
def bC (P:Program) (f:FuncId) (fz:List Nat):Option DF:=match P.funcs[f]? with
  | some fn=>match fn.body with
    | some c=>match fH P fn.ntmps fz c,dL P fn.results.toList,ct P f with
      | some sc,some rs,true=>some ⟨sc,rs,fn.ntmps⟩
      | _,_,_=>none
    | none=>none
  | none=>none
end Gv
namespace Gv
open Go
section
variable {P:Program} {n:Nat} {all:List Oper}
def fw (h:aF) (e:ES):Prop:=e.V=h.view∧e.n=h.length
def Calm (e e':ES) (h h':aF):Prop:=h.length≤h'.length∧(∀ id,id < h.length→¬ id∈e'.w→h'.view id=h.view id∧¬ id∈e.w)
theorem Calm.trans {a b c:ES} {h1 h2 h3:aF} (x:Calm a b h1 h2) (y:Calm b c h2 h3):Calm a c h1 h3 :=
  ⟨Nat.le_trans x.1 y.1,fun id hid hw =>
    let ⟨e1,d1⟩:=y.2 id (Nat.lt_of_lt_of_le hid x.1) hw
    let ⟨e2,d2⟩:=x.2 id hid d1
    ⟨e1.trans e2,d2⟩⟩
theorem Calm.refl (e:ES) (h:aF):Calm e e h h:=⟨Nat.le_refl _,fun _ _ hw=>⟨rfl,hw⟩⟩
def hZ (P:Program) (call:eY):Prop:=∀ g vs e v e' h,call g vs e=some (v,e')→fw h e →
  ct P g=true∧∃ h',bP P g vs h v h'∧fw h' e'∧(∀ id,id < h.length→¬ id∈e'.w→h'.view id=h.view id)∧∀ id,id∈e'.w→id < h.length
def rT (P:Program) (run:sB):Prop:=∀ (n:Nat) (fz:List Nat) (c:Code) (sc:DC),fH P n fz c=some sc→n≤8000→∀ (e e':ES) (r:Exit) (h:aF),run sc e=some (r,e')→fw h e →
  ∃ h',cq P n c e.T h r e'.T h'∧fw h' e'∧Calm e e' h h'∧∀ c0,c=.loop c0→l6 P n c0 e.T h r e'.T h'
theorem FE {h:aF} {e:ES} {d:Option Nat} {v:V} (he:fw h e):fw h (e.put d v):=by cases d <;> exact he
theorem H0 {e:ES} {d:Option Nat} {v:V} : (e.put d v).w=e.w:=by cases d <;> rfl
theorem GP {h:aF} {e e':ES} {h':aF} {d:Option Nat} {v:V} (x:Calm e e' h h'):Calm e (e'.put d v) h h':=⟨x.1,fun id hid hw=>x.2 id hid (by rw[H0] at hw; exact hw)⟩
theorem xK {a:Nat} (h:Nat.ble a 8000=true):a+1 < 2 ^ 13:=by
  have:=Nat.le_of_ble_eq_true h
  omega
theorem H9 {h:aF} {e e':ES} {v v':V} {aB:bd} {rd:List Nat} {c:Rec} (he:fw h e) (hx:z8 v aB rd e=some (v',e',c)) :
    v'=v∧e'.T=e.T∧e'.V=aB.view h.view h.length∧e'.n=(aB.apply h).length∧c=⟨rd,aB.wr,false,h.length,(aB.apply h).length⟩∧e'.w=aB.wr ++ e.w:=by
  obtain ⟨h1,h2⟩:=he
  unfold z8 at hx
  cases aB with
  | none =>
    simp only[Option.some.injEq,Prod.mk.injEq] at hx
    obtain ⟨rfl,rfl,rfl⟩:=hx
    exact ⟨rfl,rfl,h1,h2,by rw[h2]; rfl,rfl⟩
  | new o =>
    simp only at hx
    split at hx
    · rename_i hb
      simp only[Option.some.injEq,Prod.mk.injEq] at hx
      obtain ⟨rfl,rfl,rfl⟩:=hx
      refine ⟨rfl,rfl,?_,by simp[eh,h2],by simp[eh,h2,bd.wr],rfl⟩
      funext k
      simp only[ES.V,bd.view,View.set]
      rw[bS.j5 _ _ _ _ _ _ (xK hb),h2]
      have:=congrFun h1 k
      simp only[ES.V] at this
      rw[this]
    · simp at hx
  | dN id o =>
    simp only at hx
    split at hx
    · rename_i hb
      simp only[Option.some.injEq,Prod.mk.injEq] at hx
      obtain ⟨rfl,rfl,rfl⟩:=hx
      refine ⟨rfl,rfl,?_,by simp[eh,h2],by simp[eh,h2,bd.wr],rfl⟩
      funext k
      simp only[ES.V,bd.view,View.set]
      rw[bS.j5 _ _ _ _ _ _ (xK hb)]
      have:=congrFun h1 k
      simp only[ES.V] at this
      rw[this]
    · simp at hx
  | bu id o =>
    simp only at hx
    split at hx
    · rename_i hb1 hb2
      simp only[Option.some.injEq,Prod.mk.injEq] at hx
      obtain ⟨rfl,rfl,rfl⟩:=hx
      refine ⟨rfl,rfl,?_,by simp[eh,h2],by simp[eh,h2,bd.wr],rfl⟩
      funext k
      simp only[ES.V,bd.view,View.set]
      rw[bS.j5 _ _ _ _ _ _ (xK hb1),bS.j5 _ _ _ _ _ _ (xK hb2),h2]
      have:=congrFun h1 k
      simp only[ES.V] at this
      rw[this]
    · simp at hx
theorem Jz {o:Oper} {e e':ES} {h:aF} {s:SI} {v:V} {c:Rec} (hg:cp n all e.T o=some true) (hc:∀ v aB rd,sI P s e.T h.view h.length=some (v,aB,rd)→bN P o e.T h.view h.length=some (v,aB,rd))
    (he:fw h e) (hx:Fo P s e=some (v,e',c)):∃ h',cQ P n all o e.T h v h' c.rd c.wr c.call∧fw h' e'∧e'.T=e.T∧Calm e e' h h'∧iq (o9 P s) c.rd c.wr c.call h.length h'.length∧c.lo=h.length∧c.hi=h'.length:=by
  unfold Fo at hx
  rw[DY,he.1,he.2] at hx
  split at hx
  · rename_i v0 aB rd hs
    obtain ⟨rfl,g1,g2,g3,rfl,g5⟩:=H9 he hx
    have ha:=hc _ _ _ hs
    have st:=cQ.op (P:=P) (n:=n) (all:=all) hg ha
    refine ⟨aB.apply h,st,⟨?_,g3⟩,g1,⟨pI st,fun id hid hw=>?_⟩,⟨fun h0=>?_,fun h1=>?_⟩,rfl,rfl⟩
    · rw[iM (fun id hid=>(jM ha id hid).1)]; exact g2
    · rw[g5] at hw
      simp only[List.mem_append,not_or] at hw
      exact ⟨nQ st hid hw.1,hw.2⟩
    · obtain ⟨rfl,rfl⟩:=(og hs).1 h0
      exact ⟨rfl,rfl,rfl,rfl⟩
    · rcases Nat.lt_or_ge (o9 P s) 1 with h2 | h2
      · obtain ⟨rfl,rfl⟩:=(og hs).1 (by omega); rfl
      · exact (og hs).2 (by omega)
  · simp at hx
theorem JD {call:eY} (hcall:hZ P call) {fz:Fz} {o:Oper} {e e':ES} {h:aF} {v:V} {c:Rec} (hg:cp n all e.T o=some true) (he:fw h e) (hx:eB P call (kx P fz o) e=some (v,e',c)) :
    ∃ h',cQ P n all o e.T h v h' c.rd c.wr c.call∧fw h' e'∧e'.T=e.T∧Calm e e' h h'∧iq (fG P false (kx P fz o)) c.rd c.wr c.call h.length h'.length∧c.lo=h.length∧c.hi=h'.length:=by
  rcases uZ P fz o with ⟨f,args,ats,ho,hc⟩ | ⟨t,x,ho,hc⟩ | ⟨s,d,x,ho,hcv,hc⟩ | hc
  · rw[hc] at hx ⊢
    simp only[eB,FU] at hx
    split at hx
    · rename_i g first cap hf
      rw[Bo] at hx
      rw[SX.bT] at hf
      split at hx
      · rename_i v0 e0 hv
        obtain ⟨hok,h',hr,hek,hd,hd2⟩:=hcall _ _ _ _ _ _ hv he
        simp only[Option.some.injEq,Prod.mk.injEq] at hx
        obtain ⟨rfl,rfl,rfl⟩:=hx
        exact ⟨h',.call hg ho hf hok hr hd hd2,hek,rfl,⟨hr.1,fun id hid hw=>by
          simp only[List.mem_append,not_or] at hw
          exact ⟨hd id hid hw.1,hw.2⟩⟩,HI (by simp[fG]),he.2,hek.2⟩
      · simp at hx
    · simp at hx
  · rw[hc] at hx ⊢
    simp only[eB,Fo,DY,sI,SX.bT] at hx
    split at hx
    · rename_i v0 aB rd hs
      split at hs
      · rename_i hok
        simp only[Option.some.injEq,Prod.mk.injEq] at hs
        obtain ⟨rfl,rfl,rfl⟩:=hs
        simp only[z8,Option.some.injEq,Prod.mk.injEq] at hx
        obtain ⟨rfl,rfl,rfl⟩:=hx
        exact ⟨h,.fT hg ho hok,he,rfl,Calm.refl _ _,⟨fun _=>⟨rfl,rfl,rfl,rfl⟩,fun _=>rfl⟩,he.2,he.2⟩
      · simp at hs
    · simp at hx
  · rw[hc] at hx ⊢
    obtain ⟨ty,h1,h2,h3⟩:=vc hcv
    simp only[eB,Fo,DY,sI,SX.bT] at hx
    split at hx
    · rename_i v0 aB rd hs
      split at hs
      · rename_i st hst
        simp only[Option.some.injEq,Prod.mk.injEq] at hs
        obtain ⟨rfl,rfl,rfl⟩:=hs
        simp only[z8,Option.some.injEq,Prod.mk.injEq] at hx
        obtain ⟨rfl,rfl,rfl⟩:=hx
        exact ⟨h,.ed hg ho h1 h2 h3 hst,he,rfl,Calm.refl _ _,⟨fun _=>⟨rfl,rfl,rfl,rfl⟩,fun _=>rfl⟩,he.2,he.2⟩
      · simp at hs
    · simp at hx
  · rw[hc] at hx ⊢
    exact Jz (s:=ue P fz.fr (comp P o)) hg (fun v aB rd hs=>CQ (C6 hs)) he hx
theorem Jb {o:Oper} (hd:nH n o=true) (hn:n≤8000):∀ t,o.dst=some t→t < 8000:=by
  intro t ht
  unfold nH at hd
  rw[ht] at hd
  have:t < n:=by simpa using hd
  exact Nat.lt_of_lt_of_le this hn
theorem Ig {c:Rec} {a b:Nat} (h1:c.lo=a) (h2:c.hi=b):c=⟨c.rd,c.wr,c.call,a,b⟩:=by cases c; subst h1; subst h2; rfl
theorem A5 {call:eY} (hcall:hZ P call) (hn:n≤8000) {fz:Fz} (g:Option (Nat × Bool)):∀ (l:List (Option Nat × SB)) (os:List Oper) (e e':ES) (h:aF) (a a':List Rec),
    cy P n all fz os=some (l.map fun (d,b)=>⟨d,g,b⟩)→(∀ d w,g=some (d,w)→e.T d=.val (.bool w)∧(l.all fun x=>x.1 != some d)=true)→fw h e→CC P call l a e=some (e',a') →
    ∃ recs h',a'=a ++ recs∧Tr P n all os e.T h recs e'.T h'∧fw h' e'∧Calm e e' h h'∧dU P false (l.map fun (d,b)=>⟨d,g,b⟩) recs
  | [],os,e,e',h,a,a',hc,hg,he,hx=>by
    have:=iI hc; subst this
    simp only[CC,Option.some.injEq,Prod.mk.injEq] at hx; obtain ⟨rfl,rfl⟩:=hx
    exact ⟨[],h,by simp,.nil,he,Calm.refl _ _,.nil⟩
  | (d,b) :: l,os,e,e',h,a,a',hc,hg,he,hx=>by
    obtain ⟨o,r,rfl,h1,h2⟩:=jj hc
    obtain ⟨hd,hd1,hb1,hg1⟩:=pf h1
    simp only at hd1 hb1 hg1
    have hgv:cp n all e.T o=some true:=by
      cases g with
      | none=>exact wC hg1
      | some p =>
        obtain ⟨d',w⟩:=p
        have:=(iF (T:=e.T) hg1).1 w (hg d' w rfl).1
        rw[this]; simp
    simp only[CC] at hx
    rw[hb1] at hx
    split at hx
    · rename_i v e1 c hv
      obtain ⟨h1',st,he1,hT1,hcm,hl,hlo,hhi⟩:=JD hcall hgv he hv
      have hput:(e1.put d v).T=e.T.put o.dst v:=by
        rw[ES.HM (by rw[hd1]; exact Jb hd hn),hT1,hd1]
      obtain ⟨recs,h'',ha,tr,he2,hcm2,hro⟩:=A5 hcall hn g l r (e1.put d v) e' h1' _ a' h2 (fun d' w eq=>by
        have:=hg d' w eq
        simp only[List.all_cons,Bool.and_eq_true,bne_iff_ne,ne_eq] at this
        refine ⟨?_,this.2.2⟩
        rw[← this.1,hput,← hd1]
        cases d with
        | none=>rfl
        | some t=>simp only[Env.put]; rw[if_neg]; intro e; subst e; exact this.2.1 rfl) (FE he1) hx
      rw[hput] at tr
      refine ⟨_,h'',?_,.cons st hd tr,he2,(GP hcm).trans hcm2,hro.cons (by rw[hb1]; exact hl)⟩
      rw[ha,List.append_assoc,← Ig hlo hhi]; rfl
    · simp at hx
theorem Bf {fz:Fz} (hn:n≤8000) (d:Nat) (w:Bool) (h:aF):∀ (l:List (Option Nat × SB)) (os:List Oper) (e e':ES) (a a':List Rec),
    cy P n all fz os=some (l.map fun (d',b)=>⟨d',some (d,w),b⟩)→(e.T d=.val (.bool !w)∨e.T d=.bz [])→(l.all fun x=>x.1 != some d)=true→fw h e→sd l a e=(e',a') →
    ∃ recs,a'=a ++ recs∧Tr P n all os e.T h recs e'.T h∧fw h e'∧e'.w=e.w∧dU P false (l.map fun (d',b)=>⟨d',some (d,w),b⟩) recs
  | [],os,e,e',a,a',hc,hd,hl,he,hx=>by
    have:=iI hc; subst this
    simp only[sd,Prod.mk.injEq] at hx; obtain ⟨rfl,rfl⟩:=hx
    exact ⟨[],by simp,.nil,he,rfl,.nil⟩
  | (d',b) :: l,os,e,e',a,a',hc,hd,hl,he,hx=>by
    obtain ⟨o,r,rfl,h1,h2⟩:=jj hc
    obtain ⟨hd0,hd1,hb1,hg1⟩:=pf h1
    simp only at hd1 hb1 hg1
    have hgv:cp n all e.T o=some false:=by
      rcases hd with hd | hd
      · rw[(iF (T:=e.T) hg1).1 _ hd]; cases w <;> rfl
      · exact (iF (T:=e.T) hg1).2 hd
    simp only[List.all_cons,Bool.and_eq_true,bne_iff_ne,ne_eq] at hl
    have hput:(e.put d' (.bz [])).T=e.T.put o.dst (.bz []):=by
      rw[ES.HM (by rw[hd1]; exact Jb hd0 hn),hd1]
    simp only[sd] at hx
    obtain ⟨recs,ha,tr,he2,hd2,hro⟩:=Bf hn d w h l r (e.put d' (.bz [])) e' _ a' h2 (by
      have:(e.put d' (.bz [])).T d=e.T d:=by
        rw[hput,← hd1]
        cases d' with
        | none=>rfl
        | some t=>simp only[Env.put]; rw[if_neg]; intro e; subst e; exact hl.1 rfl
      rw[this]; exact hd) hl.2 (FE he) hx
    rw[hput] at tr
    refine ⟨_,?_,Tr.cons (.skip hgv) hd0 tr,he2,by rw[hd2,H0],hro.cons (r:=⟨[],[],false,h.length,h.length⟩) ⟨fun _=>⟨rfl,rfl,rfl,rfl⟩,fun _=>rfl⟩⟩
    rw[ha,List.append_assoc,HT,he.2]; rfl
theorem yM {fz:Fz} (hn:n≤8000) {d:Nat} {w:Bool} {h:aF} {l:List (Option Nat × SB)} {os:List Oper} {e e':ES} {a a':List Rec}
    (hc:cy P n all fz os=some (l.map fun (d',b)=>⟨d',some (d,w),b⟩)) (hd:e.T d=.val (.bool !w)∨e.T d=.bz []) (hl:(l.all fun x=>x.1 != some d)=true) (he:fw h e) (hx:sd l a e=(e',a')) :
    ∃ recs h',a'=a ++ recs∧Tr P n all os e.T h recs e'.T h'∧fw h' e'∧Calm e e' h h'∧dU P false (l.map fun (d',b)=>⟨d',some (d,w),b⟩) recs:=by
  obtain ⟨recs,h1,h2,h3,h4,h5⟩:=Bf hn d w h l os e e' a a' hc hd hl he hx
  exact ⟨recs,h,h1,h2,h3,⟨Nat.le_refl _,fun id _ hw=>⟨rfl,by rw[h4] at hw; exact hw⟩⟩,h5⟩
theorem JT {call:eY} (hcall:hZ P call) (hn:n≤8000) {fz:Fz} {g:SG} {os:List Oper} {e e':ES} {h:aF} {a a':List Rec} (hc:cy P n all fz os=some g.flat) (hok:pJ g=true) (he:fw h e) (hx:eG P call g a e=some (e',a')) :
    ∃ recs h',a'=a ++ recs∧Tr P n all os e.T h recs e'.T h'∧fw h' e'∧Calm e e' h h'∧dU P false g.flat recs:=by
  unfold eG at hx
  unfold SG.flat at hc ⊢
  unfold pJ at hok
  split at hx
  · rename_i hg
    rw[hg] at hc ⊢
    exact A5 hcall hn none g.ops os e e' h a a' hc (fun d w e=>by simp at e) he hx
  · rename_i d want hg
    rw[hg] at hc hok ⊢
    simp only at hok
    unfold F4 at hx
    split at hx
    · rename_i b hb
      split at hx
      · rename_i hxor
        simp only[Option.some.injEq] at hx
        have e':b = !want:=by cases b <;> cases want <;> simp_all
        subst e'
        exact yM hn hc (.inl hb) hok he hx
      · rename_i hxor
        have e':b=want:=by cases b <;> cases want <;> simp_all
        subst e'
        exact A5 hcall hn (some (d,b)) g.ops os e _ h a a' hc (fun d' w e=>by simp at e; obtain ⟨rfl,rfl⟩:=e; exact ⟨hb,hok⟩) he hx
    · rename_i hb
      simp only[Option.some.injEq] at hx
      exact yM hn hc (.inr hb) hok he hx
    · simp at hx
theorem Gg {call:eY} (hcall:hZ P call) (hn:n≤8000) {fz:Fz} : ∀ (gs:List SG) (os:List Oper) (e e':ES) (h:aF) (a a':List Rec),cy P n all fz os=some (gW gs)→gs.all pJ=true→fw h e→Gb P call gs a e=some (e',a') →
    ∃ recs h',a'=a ++ recs∧Tr P n all os e.T h recs e'.T h'∧fw h' e'∧Calm e e' h h'∧dU P false (gW gs) recs
  | [],os,e,e',h,a,a',hc,_,he,hx=>by
    have:=iI hc; subst this
    simp only[Gb,Option.some.injEq,Prod.mk.injEq] at hx; obtain ⟨rfl,rfl⟩:=hx
    exact ⟨[],h,by simp,.nil,he,Calm.refl _ _,.nil⟩
  | g :: gs,os,e,e',h,a,a',hc,hok,he,hx=>by
    simp only[gW,List.map_cons,List.flatten_cons] at hc ⊢
    simp only[List.all_cons,Bool.and_eq_true] at hok
    obtain ⟨o1,o2,rfl,h1,h2⟩:=m7 hc
    simp only[Gb] at hx
    split at hx
    · rename_i e1 a1 hx1
      obtain ⟨r1,h1',ha1,tr1,he1,hc1,ro1⟩:=JT hcall hn h1 hok.1 he hx1
      obtain ⟨r2,h2',ha2,tr2,he2,hc2,ro2⟩:=Gg hcall hn gs o2 e1 e' h1' a1 a' h2 hok.2 he1 hx
      exact ⟨_,h2',by rw[ha2,ha1,List.append_assoc],tr1.append tr2,he2,hc1.trans hc2,ro1.append ro2⟩
    · simp at hx
theorem EF {ls:List Nat} {i k x y:Nat} (hik:i < k) (hx:ls[i]?=some x) (hy:ls[k]?=some y) (ho:ordered (dI all []) i k=false) (h:¬ (x=0∨y=0∨(x≤1∧y≤1))):(i,k)∈xe all ls:=by
  unfold xe
  simp only[List.mem_flatten,List.mem_map]
  refine ⟨_,⟨(x,i),by rw[List.mem_zipIdx_iff_getElem?]; exact hx,rfl⟩,?_⟩
  simp only[List.mem_map,List.mem_filter]
  refine ⟨(y,k),⟨by rw[List.mem_zipIdx_iff_getElem?]; exact hy,?_⟩,rfl⟩
  simp only[hik,decide_true,ho,Bool.false_or,Bool.true_and,Bool.not_eq_true',Bool.or_eq_false_iff,beq_eq_false_iff_ne,Bool.and_eq_false_iff,decide_eq_false_iff_not]
  omega
theorem Hb {ls:List Nat} {recs:List Rec} (h:Ff recs (xe all ls)=true) (hl:ls.length=recs.length) (hr:∀ (i x:Nat) (r:Rec),ls[i]?=some x→recs[i]?=some r→iq x r.rd r.wr r.call r.lo r.hi):pL all recs:=by
  intro i k a b hik ha hb ho
  have hi:i < recs.length:=(List.getElem?_eq_some_iff.1 ha).1
  have hk:k < recs.length:=(List.getElem?_eq_some_iff.1 hb).1
  have hx:ls[i]?=some (ls[i]'(by omega)):=List.getElem?_eq_getElem (by omega)
  have hy:ls[k]?=some (ls[k]'(by omega)):=List.getElem?_eq_getElem (by omega)
  generalize ls[i]'(by omega)=x at hx
  generalize ls[k]'(by omega)=y at hy
  have la:=hr i _ a hx ha
  have lb:=hr k _ b hy hb
  by_cases hc:x=0∨y=0∨(x≤1∧y≤1)
  · rcases hc with h1 | h1 | h1
    · obtain ⟨e1,e2,e3,e4⟩:=la.1 h1
      exact ⟨fun id hid=>by simp[e2] at hid,fun id _=>by simp[e1],fun hc=>by simp[e3] at hc,fun _=>e2,fun id _ hx=>by omega⟩
    · obtain ⟨e1,e2,e3,e4⟩:=lb.1 h1
      exact ⟨fun id _=>by simp[e1],fun id hid=>by simp[e2] at hid,fun _=>e2,fun hc=>by simp[e3] at hc,fun id hid=>by simp[e2] at hid⟩
    · have e1:=la.2 h1.1
      have e2:=lb.2 h1.2
      exact ⟨fun id hid=>by simp[e1] at hid,fun id hid=>by simp[e2] at hid,fun _=>e2,fun _=>e1,fun id hid=>by simp[e2] at hid⟩
  · have:=List.all_eq_true.1 h _ (EF hik hx hy ho hc)
    simp only[ha,hb] at this
    exact Fq this
theorem Iz (hm:P.follows .mixedOrders=true) {call:eY} (hcall:hZ P call) (hn:n≤8000) {fz:List Nat} {id:Nat} {ops:Array Oper} {draw:Bool} {sc:DC} {run:sB} {e e':ES} {r:Exit} {h:aF}
    (hc:Bn P n fz ops.toList draw=some sc) (he:fw h e) (hx:jA P call run sc e=some (r,e')) :
    ∃ h',cq P n (.region id ops draw) e.T h r e'.T h'∧fw h' e'∧Calm e e' h h':=by
  unfold Bn at hc
  split at hc
  · simp at hc
  · rename_i l hl
    split at hc
    · simp at hc
    · rename_i hok
      have hok:(group l).all pJ=true:=by simpa using hok
      have hl':cy P n ops.toList ⟨fz,false⟩ ops.toList=some (gW (group l)):=by rw[dY]; exact hl
      have key:∀ ps,jA P call run (.region ps (group l)) e=some (r,e')→(draw=true→jn ops.toList=true∧ps=xe ops.toList (l.map fun s=>fG P false s.b)) →
          ∃ h',cq P n (.region id ops draw) e.T h r e'.T h'∧fw h' e'∧Calm e e' h h':=by
        intro ps hx hdr
        simp only[jA,CK] at hx
        split at hx
        · rename_i e1 recs0 hx1
          split at hx
          · rename_i hchk
            simp only[Option.some.injEq,Prod.mk.injEq] at hx
            obtain ⟨rfl,rfl⟩:=hx
            obtain ⟨recs,h',ha,tr,hk,hcm,hro⟩:=Gg hcall hn (group l) ops.toList e e1 h [] recs0 hl' hok he hx1
            simp only[List.nil_append] at ha
            subst ha
            rw[dY] at hro
            refine ⟨h',?_,hk,hcm⟩
            cases hd:draw with
            | false=>simpa using Af (id:=id) tr
            | true =>
              obtain ⟨h1,rfl⟩:=hdr hd
              have hcf:pL ops.toList recs0:=Hb hchk (by simpa using hro.1) (fun i x r hx hr=>by
                simp only[List.getElem?_map,Option.map_eq_some_iff] at hx
                obtain ⟨s,hs,rfl⟩:=hx
                exact hro.2 i s r hs hr)
              simpa using tF hm (id:=id) tr h1 hcf
          · simp at hx
        · simp at hx
      split at hc
      · rename_i hd
        split at hc
        · rename_i ht
          simp at hc; subst hc
          exact key _ hx (fun _=>⟨ht,rfl⟩)
        · simp at hc
      · rename_i hd
        simp at hc; subst hc
        exact key _ hx (fun e=>absurd e hd)
theorem HB (hm:P.follows .mixedOrders=true) {call:eY} (hcall:hZ P call) {run:sB} (hrun:rT P run):rT P (jA P call run):=by
  intro n fz c sc hc hn e e' r h hx he
  cases c with
  | skip =>
    simp[fH] at hc; subst hc
    simp only[jA,Gl,Option.some.injEq,Prod.mk.injEq] at hx
    obtain ⟨rfl,rfl⟩:=hx
    exact ⟨h,.skip,he,Calm.refl _ _,fun _ h=>by simp at h⟩
  | region id ops draw =>
    obtain ⟨h',a,b,d⟩:=Iz (id:=id) hm hcall hn hc he hx
    exact ⟨h',a,b,d,fun _ h=>by simp at h⟩
  | seq x y =>
    simp only[fH] at hc
    split at hc
    · rename_i a b h1 h2
      simp at hc; subst hc
      simp only[jA,Ju] at hx
      split at hx
      · rename_i e1 hx1
        obtain ⟨h1',x1,he1,c1,l1⟩:=hrun n fz x a h1 hn e e1 .normal h hx1 he
        obtain ⟨h2',x2,he2,c2,l2⟩:=hrun n fz y b h2 hn e1 e' r h1' hx he1
        exact ⟨h2',x1.seq x2,he2,c1.trans c2,fun _ h=>by simp at h⟩
      · rename_i hne
        obtain ⟨h1',x1,he1,c1,l1⟩:=hrun n fz x a h1 hn e e' r h hx he
        refine ⟨h1',x1.CS (fun e=>?_),he1,c1,fun _ h=>by simp at h⟩
        subst e
        exact absurd hx (hne e')
    · simp at hc
  | cond cc x y =>
    simp only[fH] at hc
    split at hc
    · rename_i a b h1 h2
      simp at hc; subst hc
      simp only[jA,HZ,SX.bT] at hx
      split at hx
      · rename_i ht
        obtain ⟨h1',x1,he1,c1,l1⟩:=hrun n fz x a h1 hn e e' r h hx he
        exact ⟨h1',.cond ht x1,he1,c1,fun _ h=>by simp at h⟩
      · rename_i ht
        obtain ⟨h1',x1,he1,c1,l1⟩:=hrun n fz y b h2 hn e e' r h hx he
        exact ⟨h1',.cond ht x1,he1,c1,fun _ h=>by simp at h⟩
      · simp at hx
    · simp at hc
  | block id c =>
    simp only[fH,Option.map_eq_some_iff] at hc
    obtain ⟨a,h1,rfl⟩:=hc
    simp only[jA,Fy] at hx
    split at hx
    · rename_i r1 e1 hx1
      simp only[Option.some.injEq,Prod.mk.injEq] at hx
      obtain ⟨rfl,rfl⟩:=hx
      obtain ⟨h1',x1,he1,c1,l1⟩:=hrun n fz c a h1 hn e e1 r1 h hx1 he
      exact ⟨h1',x1.block,he1,c1,fun _ h=>by simp at h⟩
    · simp at hx
  | loop c =>
    have hc0:=hc
    simp only[fH,Option.map_eq_some_iff] at hc
    obtain ⟨a,h1,rfl⟩:=hc
    simp only[jA,HU] at hx
    split at hx
    · rename_i e1 hx1
      obtain ⟨h1',x1,he1,c1,l1⟩:=hrun n fz c a h1 hn e e1 .normal h hx1 he
      obtain ⟨h2',x2,he2,c2,l2⟩:=hrun n fz (.loop c) (.loop a) hc0 hn e1 e' r h1' hx he1
      have hL:=l6.step x1 (l2 c rfl)
      exact ⟨h2',.loop hL,he2,c1.trans c2,fun c0 h0=>by simp only[Code.loop.injEq] at h0; subst h0; exact hL⟩
    · rename_i hne
      obtain ⟨h1',x1,he1,c1,l1⟩:=hrun n fz c a h1 hn e e' r h hx he
      have hL:=l6.out x1 (fun e=>by subst e; exact absurd hx (hne e'))
      exact ⟨h1',.loop hL,he1,c1,fun c0 h0=>by simp only[Code.loop.injEq] at h0; subst h0; exact hL⟩
  | exit id =>
    simp[fH] at hc; subst hc
    simp only[jA,Option.some.injEq,Prod.mk.injEq] at hx
    obtain ⟨rfl,rfl⟩:=hx
    exact ⟨h,.exit,he,Calm.refl _ _,fun _ h=>by simp at h⟩
  | ret =>
    simp[fH] at hc; subst hc
    simp only[jA,Option.some.injEq,Prod.mk.injEq] at hx
    obtain ⟨rfl,rfl⟩:=hx
    exact ⟨h,.ret,he,Calm.refl _ _,fun _ h=>by simp at h⟩
  | _=>simp[fH] at hc
theorem yD:∀ (vs:List V) (i:Nat) (t:bS V),i+vs.length≤8000→∀ k,(j9 vs i t).get .any k=if i≤k∧k < i+vs.length then vs.getD (k - i) .any else t.get .any k
  | [],i,t,h,k=>by
    rw[j9,if_neg (by simp only[List.length_nil]; omega)]
  | v :: vs,i,t,h,k=>by
    simp only[List.length_cons] at h
    rw[j9,yD vs (i+1) _ (by omega),bS.j5 _ _ _ _ _ _ (by simp only[deep]; omega)]
    simp only[List.length_cons]
    by_cases h1:k=i
    · subst h1; rw[if_neg (by omega),if_pos rfl,if_pos (by omega)]; simp
    · by_cases h2:i+1≤k∧k < i+1+vs.length
      · rw[if_pos h2,if_pos (by omega)]
        have:k - i=(k - (i+1))+1:=by omega
        rw[this]; rfl
      · rw[if_neg h2,if_neg h1,if_neg (by omega)]
theorem BW (vs:List V) (h:vs.length≤8000):(j9 vs 0 .nil).get .any=iz vs:=by
  funext k
  rw[yD vs 0 .nil (by omega)]
  simp only[iz,Nat.zero_le,true_and,Nat.zero_add,Nat.sub_zero]
  split
  · rfl
  · rename_i hk
    rw[List.getD_eq_getElem?_getD,List.getElem?_eq_none (by omega)]; rfl
theorem Ik {e:ES} {h:aF} {r:ResultVar} {rest:List ResultVar} {l:List SR} (he:fw h e) (hc:dL P (r :: rest)=some l):∃ s l',l=s :: l'∧dL P rest=some l'∧∀ v,GV s e=some v→oJ P e.T h r=some v:=by
  cases r with
  | tmp t =>
    simp only[dL,Option.map_eq_some_iff] at hc
    obtain ⟨l',h1,rfl⟩:=hc
    exact ⟨.tmp t,l',rfl,h1,fun v hv=>hv⟩
  | cell a t =>
    simp only[dL] at hc
    split at hc
    · rename_i k l' h1 h2
      simp at hc; subst hc
      refine ⟨.cell a k,l',rfl,h2,fun v hv=>?_⟩
      simp only[GV] at hv
      simp only[oJ,jy,rR h1]
      rw[he.1] at hv
      split at hv
      · rename_i id i j ha
        split at hv
        · rename_i es hH
          split at hv
          · rename_i hlt
            rw[ha]; simp only[hH]; rw[if_pos hlt,hv]; rfl
          · simp at hv
        · simp at hv
      · rename_i e j ha
        rw[ha]; simp only; rw[hv]; rfl
      · simp at hv
    · simp at hc
theorem AR {e:ES} {h:aF} (he:fw h e):∀ (rs:List ResultVar) (l:List SR) (vs:List V),dL P rs=some l→r8 l e=some vs→jr P e.T h rs=some vs
  | [],l,vs,hc,hw=>by simp[dL] at hc; subst hc; simp[r8] at hw; subst hw; rfl
  | r :: rest,l,vs,hc,hw=>by
    obtain ⟨s,l',rfl,h1,h2⟩:=Ik (e:=e) (h:=h) he hc
    simp only[r8] at hw
    split at hw
    · rename_i v vs' hv hvs
      simp at hw; subst hw
      simp[jr,h2 v hv,AR he rest l' vs' h1 hvs]
    · simp at hw
def uL (P:Program) (tab:List (FuncId × DF)):Prop:=∀ p∈tab,∃ fz,bC P p.1 fz=some p.2
def rP (P:Program) (ext:vy):Prop:=∀ g vs t,ext g vs=some t→ct P g=true∧aE P g vs t
theorem Bd {tab:List (FuncId × DF)} {ext:vy} (ht:uL P tab) (hx:rP P ext) {run:sB} (hrun:rT P run):hZ P (zV P tab ext run):=by
  intro g vs e v e' h hcall he
  unfold zV at hcall
  split at hcall
  · rename_i t hext
    simp only[Option.some.injEq,Prod.mk.injEq] at hcall
    obtain ⟨rfl,rfl⟩:=hcall
    obtain ⟨h1,h2⟩:=hx _ _ _ hext
    exact ⟨h1,h,bP.fj h2 h,he,fun _ _ _=>rfl,fun _ hw=>by simp at hw⟩
  · split at hcall
    · rename_i g' F hf
      have hmem:=List.mem_of_find?_eq_some hf
      have hgg:g'=g:=by
        have:=List.find?_some hf
        exact Nat.eq_of_beq_eq_true this
      subst hgg
      obtain ⟨fz,hF⟩:=ht _ hmem
      simp only at hF
      unfold bC at hF
      split at hF
      · rename_i fn hfn
        split at hF
        · rename_i c hb
          split at hF
          · rename_i sc rs h1 h2 h3
            simp at hF; subst hF
            refine ⟨h3,?_⟩
            unfold Je at hcall
            split at hcall
            · rename_i hlen hn
              have hlen:=Nat.le_of_ble_eq_true hlen
              have hn:=Nat.le_of_ble_eq_true hn
              simp only at hlen hn
              unfold Jt at hcall
              split at hcall
              · rename_i v1 e1' hend
                simp only[Option.some.injEq,Prod.mk.injEq] at hcall
                obtain ⟨rfl,rfl⟩:=hcall
                unfold Jn at hend
                have go:∀ (r:Exit) (e1:ES),(r=.ret∨r=.normal)→run sc ⟨j9 vs 0 .nil,e.H,e.n,[]⟩=some (r,e1)→(r8 rs e1).map (fun vs=>(ai vs,e1))=some (v1,e1') →
                    ∃ h',bP P g' vs h v1 h'∧fw h' e1'∧(∀ id,id < h.length→¬ id∈e1'.w→h'.view id=h.view id):=by
                  intro r e1 hr hrn hres
                  simp only[Option.map_eq_some_iff,Prod.mk.injEq] at hres
                  obtain ⟨vs',hvs,rfl,rfl⟩:=hres
                  obtain ⟨h',hx,he1,hc1,_⟩:=hrun fn.ntmps fz c sc h1 hn _ e1 r h hrn he
                  have hT:(ES.T ⟨j9 vs 0 .nil,e.H,e.n,[]⟩)=iz vs:=BW vs (by omega)
                  rw[hT] at hx
                  refine ⟨h',bP.Dl hfn hb hlen hx (by rcases hr with rfl | rfl <;> simp) ?_,he1,fun id hid hw=>(hc1.2 id hid hw).1⟩
                  unfold D3
                  rw[AR he1 _ _ _ h2 hvs]
                  cases vs' with
                  | nil=>rfl
                  | cons a l=>cases l <;> rfl
                have done:(∃ h',bP P g' vs h v1 h'∧fw h' e1'∧(∀ id,id < h.length→¬ id∈e1'.w→h'.view id=h.view id)) →
                    ∃ h',bP P g' vs h v1 h'∧fw h' ⟨e1'.L,e1'.H,e1'.n,e1'.w.filter fun id=>Nat.blt id e.n⟩∧(∀ id,id < h.length→¬ id∈e1'.w.filter (fun id=>Nat.blt id e.n)→h'.view id=h.view id)∧∀ id,id∈e1'.w.filter (fun id=>Nat.blt id e.n)→id < h.length:=by
                  rintro ⟨h',k1,k2,k3⟩
                  refine ⟨h',k1,k2,fun id hid hw=>k3 id hid (fun hm=>hw ?_),fun id hw=>?_⟩
                  · rw[List.mem_filter]
                    exact ⟨hm,by rw[he.2]; exact Nat.ble_eq_true_of_le hid⟩
                  · rw[List.mem_filter] at hw
                    have:=Nat.le_of_ble_eq_true hw.2
                    rw[he.2] at this; exact this
                split at hend
                · rename_i e1 hrn; exact done (go _ _ (.inl rfl) hrn hend)
                · rename_i e1 hrn; exact done (go _ _ (.inr rfl) hrn hend)
                · simp at hend
              · simp at hcall
            · simp at hcall
          · simp at hF
        · simp at hF
      · simp at hF
    · simp at hcall
theorem CD (hm:P.follows .mixedOrders=true) {tab:List (FuncId × DF)} {ext:vy} (ht:uL P tab) (hx:rP P ext):∀ k,rT P (A6 P tab ext k)
  | 0=>fun n fz c sc hc hn e e' r h hr he=>by simp[A6] at hr
  | k+1=>by
    have ih:=CD hm ht hx k
    have:=HB hm (Bd ht hx ih) ih
    exact this
end
end Gv
