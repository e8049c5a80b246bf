/-
  Part 6 of the proof: what the machine does and what the functions answer.
  Conditions: those that each lemma names.
-/
import Derived.Test.YtgniimkconobpaaGreatSGzKE
set_option linter.unusedSimpArgs false
set_option linter.unusedVariables false
set_option linter.unusedSimpArgs false
set_option maxRecDepth 100000
namespace Gv
open Go Go.Proofs
abbrev gy (x:Int):V:=.val (.int .u8 x)
def qD (c:Int):Bool:=(decide (97≤c) && decide (c≤122)) || (decide (65≤c) && decide (c≤90)) || c == 95
def ke (c:Int):Bool:=qD c || (decide (48≤c) && decide (c≤57)) || c == 46
def lx:SF:=⟨.seq (an [bb 2 false]) <|
  .seq (.region false [⟨none,[aj 3 0,((some 4),.op (.arith .geq (.tmp 3) (.val (.val (.int .u8 97))))),aj 5 4]⟩,⟨(some (5,true)),[aj 6 0,((some 7),.op (.arith .leq (.tmp 6) (.val (.val (.int .u8 122)))))]⟩,⟨none,[cx 8 5 7,aj 9 8]⟩,⟨(some (9,false)),[aj 10 0,((some 11),.op (.arith .geq (.tmp 10) (.val (.val (.int .u8 65))))),aj 12 11]⟩,⟨(some (12,true)),[aj 13 0,((some 14),.op (.arith .leq (.tmp 13) (.val (.val (.int .u8 90)))))]⟩,⟨(some (9,false)),[cx 15 12 14]⟩,⟨none,[bN 16 9 15,aj 17 16]⟩,⟨(some (17,false)),[aj 18 0,((some 19),.op (.arith .eql (.tmp 18) (.val (.val (.int .u8 95)))))]⟩,⟨none,[bN 20 17 19,aj 2 20]⟩]) <|
  .ret,
  [.tmp 2],21⟩
theorem pZ:aR Tryz.prog 148 []=some lx:=by kernel_rfl
def lp:SF:=⟨.seq (an [bb 2 false]) <|
  .seq (.region false [⟨none,[aj 3 0,aY 4 148 [3],aj 5 4]⟩,⟨(some (5,false)),[aj 6 0,((some 7),.op (.arith .geq (.tmp 6) (.val (.val (.int .u8 48))))),aj 8 7]⟩,⟨(some (8,true)),[aj 9 0,((some 10),.op (.arith .leq (.tmp 9) (.val (.val (.int .u8 57)))))]⟩,⟨(some (5,false)),[cx 11 8 10]⟩,⟨none,[bN 12 5 11,aj 13 12]⟩,⟨(some (13,false)),[aj 14 0,((some 15),.op (.arith .eql (.tmp 14) (.val (.val (.int .u8 46)))))]⟩,⟨none,[bN 16 13 15,aj 2 16]⟩]) <|
  .ret,
  [.tmp 2],17⟩
theorem qf:aR Tryz.prog 149 []=some lp:=by kernel_rfl
theorem Gw (c:Int) (H:View):aB Tryz.prog 148 [gy c] H fun r H'=>r=gb (qD c)∧H'=H:=by
  refine aB.of mixed pZ ?_
  repeat' (first | (refine aq.dec (fun _=>?_) (fun _=>?_)) | (refine aq.eq (fun _=>?_) (fun _=>?_)) | (refine aq.ne (fun _=>?_) (fun _=>?_)) | (refine aq.split (fun _=>?_) (fun _=>?_)) | (simp (disch:=omega) only [↓wr,↓reduceIte,wq,ah,ag,al,aa,ae,af,ai,isNil,Nat.reduceEqDiff,Nat.reduceAdd,Nat.reduceLT,Nat.reduceLeDiff,Int.reduceNeg,Int.reduceToNat,reduceCtorEq,lx]))
  all_goals (congr 2; simp only[qD]; grind)
theorem BG (c:Int):aC Tryz.prog 148 [gy c] (gb (qD c)) :=
  aC.of (by intro v hv; simp at hv; subst hv; exact .val _) ((Gw c _).mono fun r H' h h' _=>by rw[h.1]; exact .tree _ (.val _))
theorem Hi (c:Int) (H:View):aB Tryz.prog 149 [gy c] H fun r H'=>r=gb (ke c)∧H'=H:=by
  refine aB.of mixed qf ?_
  repeat' (first | (refine aq.dec (fun _=>?_) (fun _=>?_)) | (refine aq.eq (fun _=>?_) (fun _=>?_)) | (refine aq.ne (fun _=>?_) (fun _=>?_)) | (refine aq.split (fun _=>?_) (fun _=>?_)) | (simp (disch:=omega) only [↓wr,↓reduceIte,wq,ah,ag,al,aa,ae,af,ai,isNil,Nat.reduceEqDiff,Nat.reduceAdd,Nat.reduceLT,Nat.reduceLeDiff,Int.reduceNeg,Int.reduceToNat,reduceCtorEq,lp]))
  refine ax.pure (BG c) (by kernel_rfl) ?_
  repeat' (first | (refine aq.dec (fun _=>?_) (fun _=>?_)) | (refine aq.eq (fun _=>?_) (fun _=>?_)) | (refine aq.ne (fun _=>?_) (fun _=>?_)) | (refine aq.split (fun _=>?_) (fun _=>?_)) | (simp (disch:=omega) only [↓wr,↓reduceIte,wq,ah,ag,al,aa,ae,af,ai,isNil,Nat.reduceEqDiff,Nat.reduceAdd,Nat.reduceLT,Nat.reduceLeDiff,Int.reduceNeg,Int.reduceToNat,reduceCtorEq]))
  all_goals (congr 2; simp only[ke]; grind)
theorem HB (c:Int):aC Tryz.prog 149 [gy c] (gb (ke c)) :=
  aC.of (by intro v hv; simp at hv; subst hv; exact .val _) ((Hi c _).mono fun r H' h h' _=>by rw[h.1]; exact .tree _ (.val _))
def dY (l:List Int):Bool:=decide (0 < l.length) && decide (l.length≤20) && (match l with | c :: _=>qD c | []=>false) && l.all ke
def kb:SC :=
  .seq (.seq (an [aj 18 3,aj 19 0,((some 20),.op (.fB (.tmp 19))),bu 21 .lss 18 20]) <|
  .cond (.tmp 21) (.skip) (.exit 0)) <|
  .seq (.block 1 (.seq (an [aj 24 0,aj 25 3,((some 26),.op (.cH (.tmp 24) (.tmp 25))),aY 27 149 [26],bP 28 27]) <|
  .cond (.tmp 28) (.seq (an [bb 2 false]) <|
  .ret) (.skip))) <|
  an [aj 22 3,aH 23 .add 22 1,aj 3 23]
def mX:SF:=⟨.seq (an [bb 2 false]) <|
  .seq (.seq (.region false [⟨none,[aj 4 0,((some 5),.op (.fB (.tmp 4))),aH 6 .eql 5 0,aj 7 6]⟩,⟨(some (7,false)),[aj 8 0,((some 9),.op (.fB (.tmp 8))),aH 10 .gtr 9 20]⟩,⟨none,[bN 11 7 10,aj 12 11]⟩,⟨(some (12,false)),[aj 13 0,((some 14),.op (.cH (.tmp 13) (.val (.val (.int .i64 0))))),aY 15 148 [14],bP 16 15]⟩,⟨none,[bN 17 12 16]⟩]) <|
  .cond (.tmp 17) (.seq (an [bb 2 false]) <|
  .ret) (.skip)) <|
  .seq (.seq (an [bk 3 0]) <|
  .block 0 (.loop kb)) <|
  .seq (an [bb 2 true]) <|
  .ret,
  [.tmp 2],29⟩
theorem qL:aR Tryz.prog 116 []=some mX:=by kernel_rfl
theorem FW (s:ByteArray) (H:View):aB Tryz.prog 116 [gs s] H fun r H'=>r=gb (dY (dD s))∧H'=H:=by
  refine aB.of mixed qL ?_
  repeat' (first | (refine aq.dec (fun _=>?_) (fun _=>?_)) | (refine aq.eq (fun _=>?_) (fun _=>?_)) | (refine aq.ne (fun _=>?_) (fun _=>?_)) | (refine aq.split (fun _=>?_) (fun _=>?_)) | (simp (disch:=omega) only [↓wr,↓reduceIte,wq,ah,ag,al,aa,ae,af,ai,isNil,Nat.reduceEqDiff,Nat.reduceAdd,Nat.reduceLT,Nat.reduceLeDiff,Int.reduceNeg,Int.reduceToNat,reduceCtorEq,mX,de]))
  · rename_i h
    congr 2; simp[dY,show (dD s).length=0 by omega]
  · rename_i h
    congr 2; simp[dY,show ¬ (dD s).length≤20 by omega]
  · rename_i h1 h2
    cases hb:dD s with
    | nil=>simp[hb] at h1
    | cons c l =>
      repeat' (first | (refine aq.dec (fun _=>?_) (fun _=>?_)) | (refine aq.eq (fun _=>?_) (fun _=>?_)) | (refine aq.ne (fun _=>?_) (fun _=>?_)) | (refine aq.split (fun _=>?_) (fun _=>?_)) | (simp (disch:=omega) only [↓wr,↓reduceIte,wq,ah,ag,al,aa,ae,af,ai,isNil,Nat.reduceEqDiff,Nat.reduceAdd,Nat.reduceLT,Nat.reduceLeDiff,Int.reduceNeg,Int.reduceToNat,reduceCtorEq,hb,List.getElem?_cons_zero,de]))
      refine ax.pure (BG c) (by kernel_rfl) ?_
      repeat' (first | (refine aq.dec (fun _=>?_) (fun _=>?_)) | (refine aq.eq (fun _=>?_) (fun _=>?_)) | (refine aq.ne (fun _=>?_) (fun _=>?_)) | (refine aq.split (fun _=>?_) (fun _=>?_)) | (simp (disch:=omega) only [↓wr,↓reduceIte,wq,ah,ag,al,aa,ae,af,ai,isNil,Nat.reduceEqDiff,Nat.reduceAdd,Nat.reduceLT,Nat.reduceLeDiff,Int.reduceNeg,Int.reduceToNat,reduceCtorEq,hb,List.getElem?_cons_zero,de]))
      · rename_i hf
        refine bm.intro (fun k T H'=>∃ i:Nat,i+k=(c :: l).length∧((c :: l).take i).all ke=true∧T 0=gs s∧T 3=gi i∧H'=H) (c :: l).length ?_ ?_
        · exact ⟨0,by omega,by simp,rfl,rfl,rfl⟩
        · rintro k T H' ⟨i,hk,hi,h0,h3,rfl⟩
          rw[hb] at h1 h2
          simp (disch:=omega) only [↓wr,↓reduceIte,wq,ah,ag,al,aa,ae,af,ai,isNil,Nat.reduceEqDiff,Nat.reduceAdd,Nat.reduceLT,Nat.reduceLeDiff,Int.reduceNeg,Int.reduceToNat,reduceCtorEq,kb,h0,h3,de,hb]
          refine aq.dec (fun hc=>?_) (fun hc=>?_)
          · simp only[List.length_cons] at hc hk h2
            have hg:(c :: l)[i]?=some ((c :: l)[i]'(by simp; omega)):=List.getElem?_eq_getElem (by simp; omega)
            have hm:(c :: l)[i]'(by simp; omega)∈c :: l:=List.getElem_mem _
            generalize (c :: l)[i]'(by simp; omega)=d at hg hm
            simp (disch:=omega) only [↓wr,↓reduceIte,wq,ah,ag,al,aa,ae,af,ai,isNil,Nat.reduceEqDiff,Nat.reduceAdd,Nat.reduceLT,Nat.reduceLeDiff,Int.reduceNeg,Int.reduceToNat,reduceCtorEq,h0,h3,de,hb,hg]
            refine ax.pure (HB d) (by kernel_rfl) ?_
            repeat' (first | (refine aq.dec (fun _=>?_) (fun _=>?_)) | (refine aq.eq (fun _=>?_) (fun _=>?_)) | (refine aq.ne (fun _=>?_) (fun _=>?_)) | (refine aq.split (fun _=>?_) (fun _=>?_)) | (simp (disch:=omega) only [↓wr,↓reduceIte,wq,ah,ag,al,aa,ae,af,ai,isNil,Nat.reduceEqDiff,Nat.reduceAdd,Nat.reduceLT,Nat.reduceLeDiff,Int.reduceNeg,Int.reduceToNat,reduceCtorEq,h0,h3,de,hb,hg]))
            · rename_i hd
              refine ⟨k - 1,by omega,i+1,by omega,?_,rfl⟩
              rw[List.take_add_one,hg]
              simp only[Option.toList_some,List.all_append,hi,List.all_cons,hd,List.all_nil,Bool.and_self]
            · rename_i hd
              congr 2
              have:(c :: l).all ke=false:=by
                rw[List.all_eq_false]; exact ⟨d,hm,by simp[hd]⟩
              simp only[dY,this,Bool.and_false]
          · simp (disch:=omega) only [↓wr,↓reduceIte,wq,ah,ag,al,aa,ae,af,ai,isNil,Nat.reduceEqDiff,Nat.reduceAdd,Nat.reduceLT,Nat.reduceLeDiff,Int.reduceNeg,Int.reduceToNat,reduceCtorEq,h0,h3]
            simp only[List.length_cons] at hc hk h2
            rw[List.take_of_length_le (by simp; omega)] at hi
            congr 2
            simp only[dY,hi,List.length_cons]
            simp[hf]; omega
      · rename_i hf
        congr 2; simp[dY,hf]
end Gv
set_option linter.unusedSimpArgs false
set_option maxRecDepth 100000
namespace Gv
open Go Go.Proofs
def jL:List Int→Bool
  | [a,b,c]=>a == 39 && c == 39 && decide (32≤b) && decide (b≤126) && b != 39 && b != 92
  | [a,b,c,d]=>a == 39 && d == 39 && b == 92 && (c == 110 || c == 116 || c == 92 || c == 39)
  | _=>false
theorem GN {l:List Int} (h3:l.length≠3) (h4:l.length≠4):jL l=false:=by
  match l,h3,h4 with
  | [],_,_=>rfl
  | [_],_,_=>rfl
  | [_,_],_,_=>rfl
  | [_,_,_],h3,_=>exact absurd rfl h3
  | [_,_,_,_],_,h4=>exact absurd rfl h4
  | _ :: _ :: _ :: _ :: _ :: _,_,_=>rfl
theorem J4 {α:Type} {l:List α} (h:l.length=3):∃ a b c,l=[a,b,c]:=by
  match l,h with
  | [a,b,c],_=>exact ⟨a,b,c,rfl⟩
theorem Ka {α:Type} {l:List α} (h:l.length=4):∃ a b c d,l=[a,b,c,d]:=by
  match l,h with
  | [a,b,c,d],_=>exact ⟨a,b,c,d,rfl⟩
def jP:SF:=⟨.seq (an [bb 2 false]) <|
  .seq (.seq (an [aj 3 0,((some 4),.op (.fB (.tmp 3))),aH 5 .eql 4 3]) <|
  .cond (.tmp 5) (.seq (.region false [⟨none,[aj 6 0,((some 7),.op (.cH (.tmp 6) (.val (.val (.int .i64 0))))),((some 8),.op (.arith .eql (.tmp 7) (.val (.val (.int .u8 39))))),aj 9 8]⟩,⟨(some (9,true)),[aj 10 0,((some 11),.op (.cH (.tmp 10) (.val (.val (.int .i64 2))))),((some 12),.op (.arith .eql (.tmp 11) (.val (.val (.int .u8 39)))))]⟩,⟨none,[cx 13 9 12,aj 14 13]⟩,⟨(some (14,true)),[aj 15 0,((some 16),.op (.cH (.tmp 15) (.val (.val (.int .i64 1))))),((some 17),.op (.arith .geq (.tmp 16) (.val (.val (.int .u8 32)))))]⟩,⟨none,[cx 18 14 17,aj 19 18]⟩,⟨(some (19,true)),[aj 20 0,((some 21),.op (.cH (.tmp 20) (.val (.val (.int .i64 1))))),((some 22),.op (.arith .leq (.tmp 21) (.val (.val (.int .u8 126)))))]⟩,⟨none,[cx 23 19 22,aj 24 23]⟩,⟨(some (24,true)),[aj 25 0,((some 26),.op (.cH (.tmp 25) (.val (.val (.int .i64 1))))),((some 27),.op (.arith .neq (.tmp 26) (.val (.val (.int .u8 39)))))]⟩,⟨none,[cx 28 24 27,aj 29 28]⟩,⟨(some (29,true)),[aj 30 0,((some 31),.op (.cH (.tmp 30) (.val (.val (.int .i64 1))))),((some 32),.op (.arith .neq (.tmp 31) (.val (.val (.int .u8 92)))))]⟩,⟨none,[cx 33 29 32,aj 2 33]⟩]) <|
  .ret) (.skip)) <|
  .seq (.region false [⟨none,[aj 34 0,((some 35),.op (.fB (.tmp 34))),aH 36 .eql 35 4,aj 37 36]⟩,⟨(some (37,true)),[aj 38 0,((some 39),.op (.cH (.tmp 38) (.val (.val (.int .i64 0))))),((some 40),.op (.arith .eql (.tmp 39) (.val (.val (.int .u8 39)))))]⟩,⟨none,[cx 41 37 40,aj 42 41]⟩,⟨(some (42,true)),[aj 43 0,((some 44),.op (.cH (.tmp 43) (.val (.val (.int .i64 3))))),((some 45),.op (.arith .eql (.tmp 44) (.val (.val (.int .u8 39)))))]⟩,⟨none,[cx 46 42 45,aj 47 46]⟩,⟨(some (47,true)),[aj 48 0,((some 49),.op (.cH (.tmp 48) (.val (.val (.int .i64 1))))),((some 50),.op (.arith .eql (.tmp 49) (.val (.val (.int .u8 92)))))]⟩,⟨none,[cx 51 47 50,aj 52 51]⟩,⟨(some (52,true)),[aj 53 0,((some 54),.op (.cH (.tmp 53) (.val (.val (.int .i64 2))))),((some 55),.op (.arith .eql (.tmp 54) (.val (.val (.int .u8 110))))),aj 56 55]⟩,⟨(some (56,false)),[aj 57 0,((some 58),.op (.cH (.tmp 57) (.val (.val (.int .i64 2))))),((some 59),.op (.arith .eql (.tmp 58) (.val (.val (.int .u8 116)))))]⟩,⟨(some (52,true)),[bN 60 56 59,aj 61 60]⟩,⟨(some (61,false)),[aj 62 0,((some 63),.op (.cH (.tmp 62) (.val (.val (.int .i64 2))))),((some 64),.op (.arith .eql (.tmp 63) (.val (.val (.int .u8 92)))))]⟩,⟨(some (52,true)),[bN 65 61 64,aj 66 65]⟩,⟨(some (66,false)),[aj 67 0,((some 68),.op (.cH (.tmp 67) (.val (.val (.int .i64 2))))),((some 69),.op (.arith .eql (.tmp 68) (.val (.val (.int .u8 39)))))]⟩,⟨(some (52,true)),[bN 70 66 69]⟩,⟨none,[cx 71 52 70,aj 2 71]⟩]) <|
  .ret,
  [.tmp 2],72⟩
theorem oP:aR Tryz.prog 147 []=some jP:=by kernel_rfl
def lj:SF:=⟨.seq (an [bb 2 false]) <|
  .seq (.region false [⟨none,[aj 3 0,aY 4 116 [3],aj 5 4]⟩,⟨(some (5,false)),[aj 6 0,aY 7 147 [6]]⟩,⟨none,[bN 8 5 7,aj 2 8]⟩]) <|
  .ret,
  [.tmp 2],9⟩
theorem qa:aR Tryz.prog 113 []=some lj:=by kernel_rfl
set_option maxHeartbeats 1000000 in
theorem Hb (s:ByteArray) (H:View):aB Tryz.prog 147 [gs s] H fun r H'=>r=gb (jL (dD s))∧H'=H:=by
  refine aB.of mixed oP ?_
  simp (disch:=omega) only [↓wr,↓reduceIte,wq,ah,ag,al,aa,ae,af,ai,isNil,Nat.reduceEqDiff,Nat.reduceAdd,Nat.reduceLT,Nat.reduceLeDiff,Int.reduceNeg,Int.reduceToNat,reduceCtorEq,jP,de]
  refine aq.eq (fun h=>?_) (fun h=>?_)
  · obtain ⟨a,b,c,hb⟩:=J4 (l:=dD s) (by omega)
    repeat' (first | (refine aq.dec (fun _=>?_) (fun _=>?_)) | (refine aq.eq (fun _=>?_) (fun _=>?_)) | (refine aq.ne (fun _=>?_) (fun _=>?_)) | (refine aq.split (fun _=>?_) (fun _=>?_)) | (simp (disch:=omega) only [↓wr,↓reduceIte,wq,ah,ag,al,aa,ae,af,ai,isNil,Nat.reduceEqDiff,Nat.reduceAdd,Nat.reduceLT,Nat.reduceLeDiff,Int.reduceNeg,Int.reduceToNat,reduceCtorEq,hb,List.getElem?_cons_zero,List.getElem?_cons_succ]))
    all_goals (congr 2; simp only[jL]; grind)
  · simp (disch:=omega) only [↓wr,↓reduceIte,wq,ah,ag,al,aa,ae,af,ai,isNil,Nat.reduceEqDiff,Nat.reduceAdd,Nat.reduceLT,Nat.reduceLeDiff,Int.reduceNeg,Int.reduceToNat,reduceCtorEq,de]
    refine aq.eq (fun h4=>?_) (fun h4=>?_)
    · obtain ⟨a,b,c,d,hb⟩:=Ka (l:=dD s) (by omega)
      repeat' (first | (refine aq.dec (fun _=>?_) (fun _=>?_)) | (refine aq.eq (fun _=>?_) (fun _=>?_)) | (refine aq.ne (fun _=>?_) (fun _=>?_)) | (refine aq.split (fun _=>?_) (fun _=>?_)) | (simp (disch:=omega) only [↓wr,↓reduceIte,wq,ah,ag,al,aa,ae,af,ai,isNil,Nat.reduceEqDiff,Nat.reduceAdd,Nat.reduceLT,Nat.reduceLeDiff,Int.reduceNeg,Int.reduceToNat,reduceCtorEq,hb,List.getElem?_cons_zero,List.getElem?_cons_succ]))
      all_goals (congr 2; simp only[jL]; grind)
    · repeat' (first | (refine aq.dec (fun _=>?_) (fun _=>?_)) | (refine aq.eq (fun _=>?_) (fun _=>?_)) | (refine aq.ne (fun _=>?_) (fun _=>?_)) | (refine aq.split (fun _=>?_) (fun _=>?_)) | (simp (disch:=omega) only [↓wr,↓reduceIte,wq,ah,ag,al,aa,ae,af,ai,isNil,Nat.reduceEqDiff,Nat.reduceAdd,Nat.reduceLT,Nat.reduceLeDiff,Int.reduceNeg,Int.reduceToNat,reduceCtorEq,de]))
      rw[GN (by omega) (by omega)]
theorem lL (s:ByteArray):∀ v∈[gs s],Tree v:=by intro v hv; simp at hv; subst hv; exact .val _
theorem ze (s:ByteArray):aC Tryz.prog 116 [gs s] (gb (dY (dD s))) :=
  aC.of (lL s) ((FW s _).mono fun r H' h h' _=>by rw[h.1]; exact .tree _ (.val _))
theorem HC (s:ByteArray):aC Tryz.prog 147 [gs s] (gb (jL (dD s))) :=
  aC.of (lL s) ((Hb s _).mono fun r H' h h' _=>by rw[h.1]; exact .tree _ (.val _))
def mh (l:List Int):Bool:=dY l || jL l
theorem Ec (s:ByteArray) (H:View):aB Tryz.prog 113 [gs s] H fun r H'=>r=gb (mh (dD s))∧H'=H:=by
  refine aB.of mixed qa ?_
  simp (disch:=omega) only [↓wr,↓reduceIte,wq,ah,ag,al,aa,ae,af,ai,isNil,Nat.reduceEqDiff,Nat.reduceAdd,Nat.reduceLT,Nat.reduceLeDiff,Int.reduceNeg,Int.reduceToNat,reduceCtorEq,lj]
  refine ax.pure (ze s) (by kernel_rfl) ?_
  repeat' (first | (refine aq.dec (fun _=>?_) (fun _=>?_)) | (refine aq.eq (fun _=>?_) (fun _=>?_)) | (refine aq.ne (fun _=>?_) (fun _=>?_)) | (refine aq.split (fun _=>?_) (fun _=>?_)) | (simp (disch:=omega) only [↓wr,↓reduceIte,wq,ah,ag,al,aa,ae,af,ai,isNil,Nat.reduceEqDiff,Nat.reduceAdd,Nat.reduceLT,Nat.reduceLeDiff,Int.reduceNeg,Int.reduceToNat,reduceCtorEq]))
  · rename_i h; simp[mh,h]
  · rename_i h
    refine ax.pure (HC s) (by kernel_rfl) ?_
    repeat' (first | (refine aq.dec (fun _=>?_) (fun _=>?_)) | (refine aq.eq (fun _=>?_) (fun _=>?_)) | (refine aq.ne (fun _=>?_) (fun _=>?_)) | (refine aq.split (fun _=>?_) (fun _=>?_)) | (simp (disch:=omega) only [↓wr,↓reduceIte,wq,ah,ag,al,aa,ae,af,ai,isNil,Nat.reduceEqDiff,Nat.reduceAdd,Nat.reduceLT,Nat.reduceLeDiff,Int.reduceNeg,Int.reduceToNat,reduceCtorEq]))
    simp[mh,h]
theorem Ee (s:ByteArray):aC Tryz.prog 113 [gs s] (gb (mh (dD s))) :=
  aC.of (lL s) ((Ec s _).mono fun r H' h h' _=>by rw[h.1]; exact .tree _ (.val _))
end Gv
set_option linter.unusedSimpArgs false
set_option maxRecDepth 100000
namespace Gv
open Go Go.Proofs
def ki (s:ByteArray):List ByteArray→Int→Int
  | [],_=>-1
  | x :: l,i=>if iE x s=true then i else ki s l (i+1)
def jw (g:au) (s:ByteArray):Int:=ki s (g.aA.map Term.name) 0
def tT (g:au) (s:ByteArray):Int:=ki s g.ar 0
theorem dI {α:Type} {l:List α} {i:Nat} (h:i < l.length):l.drop i=l[i] :: l.drop (i+1):=List.drop_eq_getElem_cons h
theorem AR (g:au) (s:ByteArray):∀ v∈[V.agg (ao g),gs s],Tree v:=by
  intro v hv; simp at hv
  rcases hv with rfl | rfl
  · exact bT _ (bH g)
  · exact .val _
theorem fi (g:au):∀ v∈[V.agg (ao g)],Tree v:=by intro v hv; simp at hv; subst hv; exact bT _ (bH g)
theorem Az (g:au) (x:Int):∀ v∈[V.agg (ao g),gi x],Tree v:=by
  intro v hv; simp at hv
  rcases hv with rfl | rfl
  · exact bT _ (bH g)
  · exact .val _
theorem aC.val {P:Program} {f:FuncId} {vs:List V} {x:Value} (ht:∀ v∈vs,Tree v) (h:∀ H,aB P f vs H fun r _=>r=.val x):aC P f vs (.val x) :=
  aC.of ht ((h _).mono fun r H' e h' _=>by rw[e]; exact .tree _ (.val _))
def kP:SC :=
  .seq (.seq (an [aj 6 5,aD 7 0 2,av 8 7,aX 9 8,bu 10 .lss 6 9]) <|
  .cond (.tmp 10) (.skip) (.exit 0)) <|
  .seq (.block 1 (.seq (an [aD 13 0 2,av 14 13,aj 15 5,aW 16 3 14 15,aD 17 0 16,av 18 17,aj 19 1,((some 20),.op (.gV .eql (.tmp 18) (.tmp 19)))]) <|
  .cond (.tmp 20) (.seq (an [aj 21 5,aj 4 21]) <|
  .ret) (.skip))) <|
  an [aj 11 5,aH 12 .add 11 1,aj 5 12]
def mZ:SF:=⟨.seq (an [da 2 0,bk 4 0]) <|
  .seq (.seq (an [bk 5 0]) <|
  .block 0 (.loop kP)) <|
  .seq (an [bk 4 (-1)]) <|
  .ret,
  [.tmp 4],22⟩
theorem q7:aR Tryz.prog 114 [2]=some mZ:=by kernel_rfl
def k9:SC :=
  .seq (.seq (an [aj 6 5,aD 7 1 2,av 8 7,aX 9 8,bu 10 .lss 6 9]) <|
  .cond (.tmp 10) (.skip) (.exit 0)) <|
  .seq (.block 1 (.seq (an [aD 13 1 2,av 14 13,aj 15 5,aW 16 1 14 15,av 17 16,aj 18 1,((some 19),.op (.gV .eql (.tmp 17) (.tmp 18)))]) <|
  .cond (.tmp 19) (.seq (an [aj 20 5,aj 4 20]) <|
  .ret) (.skip))) <|
  an [aj 11 5,aH 12 .add 11 1,aj 5 12]
def nz:SF:=⟨.seq (an [da 2 0,bk 4 0]) <|
  .seq (.seq (an [bk 5 0]) <|
  .block 0 (.loop k9)) <|
  .seq (an [bk 4 (-1)]) <|
  .ret,
  [.tmp 4],21⟩
theorem rK:aR Tryz.prog 95 [2]=some nz:=by kernel_rfl
def jS:SC :=
  .seq (.seq (an [aj 8 6,aD 9 0 2,av 10 9,aX 11 10,bu 12 .lss 8 11]) <|
  .cond (.tmp 12) (.skip) (.exit 0)) <|
  .seq (.block 1 (.seq (.region false [⟨none,[aD 15 0 2,av 16 15,aj 17 6,aW 18 3 16 17,bo 19 3 18,((some 7),.op (.alloc [(.val (.string ⟨#[]⟩)),(.val (.int .i64 0)),(.val (.int .i64 0))])),(none,.op (.store 3 (.tmp 7) (.tmp 19)))]⟩]) <|
  .seq (.seq (an [aD 20 1 7,av 21 20,aj 22 1,bu 23 .neq 21 22]) <|
  .cond (.tmp 23) (.exit 1) (.skip)) <|
  .seq (.seq (.region false [⟨none,[aj 24 5,aH 25 .neq 24 0,aj 26 25]⟩,⟨(some (26,true)),[aj 27 5,aD 28 2 7,av 29 28,bu 30 .neq 27 29]⟩,⟨none,[cx 31 26 30]⟩]) <|
  .cond (.tmp 31) (.seq (an [bb 4 false]) <|
  .ret) (.skip)) <|
  an [aD 32 2 7,av 33 32,aj 5 33])) <|
  an [aj 13 6,aH 14 .add 13 1,aj 6 14]
def lk:SF:=⟨.seq (an [da 2 0,bb 4 false]) <|
  .seq (an [bk 5 0]) <|
  .seq (.seq (an [bk 6 0]) <|
  .block 0 (.loop jS)) <|
  .seq (an [aj 34 5,aH 35 .neq 34 0,aj 4 35]) <|
  .ret,
  [.tmp 4],36⟩
theorem qh:aR Tryz.prog 115 [2]=some lk:=by kernel_rfl
theorem Fb (g:au) (hg:g.Ok) (s:ByteArray) (H:View):aB Tryz.prog 114 [.agg (ao g),gs s] H fun r _=>r=gi (jw g s):=by
  refine aB.of mixed q7 ?_
  have hs:g.aA.length < 4611686018427387904:=hg.aA
  simp (disch:=omega) only [↓wr,↓reduceIte,wq,ah,ag,al,aa,ae,af,ai,isNil,Nat.reduceEqDiff,Nat.reduceAdd,Nat.reduceLT,Nat.reduceLeDiff,Int.reduceNeg,Int.reduceToNat,reduceCtorEq,mZ,ao,encS]
  refine bm.intro (fun k T _=>∃ i:Nat,i+k=g.aA.length∧ki s ((g.aA.drop i).map Term.name) i=jw g s∧T 1=gs s∧T 2=.aI (ao g) 0∧T 5=gi i) g.aA.length ?_ ?_
  · exact ⟨0,by omega,rfl,rfl,rfl,rfl⟩
  · rintro k T H' ⟨i,hk,hi,h1,h2,h5⟩
    simp (disch:=omega) only [↓wr,↓reduceIte,wq,ah,ag,al,aa,ae,af,ai,isNil,Nat.reduceEqDiff,Nat.reduceAdd,Nat.reduceLT,Nat.reduceLeDiff,Int.reduceNeg,Int.reduceToNat,reduceCtorEq,kP,h1,h2,h5,ao]
    refine aq.dec (fun hc=>?_) (fun hc=>?_)
    · have hg2:g.aA[i]?=some (g.aA[i]'(by omega)):=List.getElem?_eq_getElem (by omega)
      rw[dI (show i < g.aA.length by omega)] at hi
      generalize g.aA[i]'(by omega)=t at hg2 hi
      simp only[List.map_cons,ki] at hi
      simp (disch:=omega) only [↓wr,↓reduceIte,wq,ah,ag,al,aa,ae,af,ai,isNil,Nat.reduceEqDiff,Nat.reduceAdd,Nat.reduceLT,Nat.reduceLeDiff,Int.reduceNeg,Int.reduceToNat,reduceCtorEq,h1,h2,h5,ao,cb,List.getElem?_map,hg2,Option.map_some]
      refine aq.split (fun hd=>?_) (fun hd=>?_)
      · rw[if_pos hd] at hi
        simp (disch:=omega) only [↓wr,↓reduceIte,wq,ah,ag,al,aa,ae,af,ai,isNil,Nat.reduceEqDiff,Nat.reduceAdd,Nat.reduceLT,Nat.reduceLeDiff,Int.reduceNeg,Int.reduceToNat,reduceCtorEq,h1,h2,h5]
        rw[hi]
      · rw[hd,if_neg (by simp)] at hi
        simp (disch:=omega) only [↓wr,↓reduceIte,wq,ah,ag,al,aa,ae,af,ai,isNil,Nat.reduceEqDiff,Nat.reduceAdd,Nat.reduceLT,Nat.reduceLeDiff,Int.reduceNeg,Int.reduceToNat,reduceCtorEq,h1,h2,h5]
        exact ⟨k - 1,by omega,i+1,by omega,by push_cast; exact hi,rfl,rfl⟩
    · rw[List.drop_eq_nil_of_le (by omega)] at hi
      simp only[List.map_nil,ki] at hi
      simp (disch:=omega) only [↓wr,↓reduceIte,wq,ah,ag,al,aa,ae,af,ai,isNil,Nat.reduceEqDiff,Nat.reduceAdd,Nat.reduceLT,Nat.reduceLeDiff,Int.reduceNeg,Int.reduceToNat,reduceCtorEq,h1,h2,h5]
      rw[hi]
theorem yU (g:au) (hg:g.Ok) (s:ByteArray):aC Tryz.prog 114 [.agg (ao g),gs s] (gi (jw g s)):=aC.val (AR g s) (Fb g hg s)
theorem GQ (g:au) (hg:g.Ok) (s:ByteArray) (H:View):aB Tryz.prog 95 [.agg (ao g),gs s] H fun r _=>r=gi (tT g s):=by
  refine aB.of mixed rK ?_
  have hs:g.ar.length < 4611686018427387904:=hg.ar
  simp (disch:=omega) only [↓wr,↓reduceIte,wq,ah,ag,al,aa,ae,af,ai,isNil,Nat.reduceEqDiff,Nat.reduceAdd,Nat.reduceLT,Nat.reduceLeDiff,Int.reduceNeg,Int.reduceToNat,reduceCtorEq,nz,ao,encS]
  refine bm.intro (fun k T _=>∃ i:Nat,i+k=g.ar.length∧ki s (g.ar.drop i) i=tT g s∧T 1=gs s∧T 2=.aI (ao g) 0∧T 5=gi i) g.ar.length ?_ ?_
  · exact ⟨0,by omega,rfl,rfl,rfl,rfl⟩
  · rintro k T H' ⟨i,hk,hi,h1,h2,h5⟩
    simp (disch:=omega) only [↓wr,↓reduceIte,wq,ah,ag,al,aa,ae,af,ai,isNil,Nat.reduceEqDiff,Nat.reduceAdd,Nat.reduceLT,Nat.reduceLeDiff,Int.reduceNeg,Int.reduceToNat,reduceCtorEq,k9,h1,h2,h5,ao,encS]
    refine aq.dec (fun hc=>?_) (fun hc=>?_)
    · have hg2:g.ar[i]?=some (g.ar[i]'(by omega)):=List.getElem?_eq_getElem (by omega)
      rw[dI (show i < g.ar.length by omega)] at hi
      generalize g.ar[i]'(by omega)=t at hg2 hi
      simp only[List.map_cons,ki] at hi
      simp (disch:=omega) only [↓wr,↓reduceIte,wq,ah,ag,al,aa,ae,af,ai,isNil,Nat.reduceEqDiff,Nat.reduceAdd,Nat.reduceLT,Nat.reduceLeDiff,Int.reduceNeg,Int.reduceToNat,reduceCtorEq,h1,h2,h5,ao,encS,List.getElem?_map,hg2,Option.map_some]
      refine aq.split (fun hd=>?_) (fun hd=>?_)
      · rw[if_pos hd] at hi
        simp (disch:=omega) only [↓wr,↓reduceIte,wq,ah,ag,al,aa,ae,af,ai,isNil,Nat.reduceEqDiff,Nat.reduceAdd,Nat.reduceLT,Nat.reduceLeDiff,Int.reduceNeg,Int.reduceToNat,reduceCtorEq,h1,h2,h5]
        rw[hi]
      · rw[hd,if_neg (by simp)] at hi
        simp (disch:=omega) only [↓wr,↓reduceIte,wq,ah,ag,al,aa,ae,af,ai,isNil,Nat.reduceEqDiff,Nat.reduceAdd,Nat.reduceLT,Nat.reduceLeDiff,Int.reduceNeg,Int.reduceToNat,reduceCtorEq,h1,h2,h5]
        exact ⟨k - 1,by omega,i+1,by omega,by push_cast; exact hi,rfl,rfl⟩
    · rw[List.drop_eq_nil_of_le (by omega)] at hi
      simp only[List.map_nil,ki] at hi
      simp (disch:=omega) only [↓wr,↓reduceIte,wq,ah,ag,al,aa,ae,af,ai,isNil,Nat.reduceEqDiff,Nat.reduceAdd,Nat.reduceLT,Nat.reduceLeDiff,Int.reduceNeg,Int.reduceToNat,reduceCtorEq,h1,h2,h5]
      rw[hi]
theorem G8 (g:au) (hg:g.Ok) (s:ByteArray):aC Tryz.prog 95 [.agg (ao g),gs s] (gi (tT g s)):=aC.val (AR g s) (GQ g hg s)
def fP (n:Int):List Term→Int→Option Int
  | [],way=>some way
  | t :: r,way=>if t.level=n then (if way≠0∧way≠t.assoc then none else fP n r t.assoc) else fP n r way
def eF (l:List Term) (n:Int):Bool:=match fP n l 0 with
  | some w=>w != 0
  | none=>false
theorem DQ (g:au) (hg:g.Ok) (n:Int) (H:View):aB Tryz.prog 115 [.agg (ao g),gi n] H fun r _=>r=gb (eF g.aA n):=by
  refine aB.of mixed qh ?_
  have hs:g.aA.length < 4611686018427387904:=hg.aA
  simp (disch:=omega) only [↓wr,↓reduceIte,wq,ah,ag,al,aa,ae,af,ai,isNil,Nat.reduceEqDiff,Nat.reduceAdd,Nat.reduceLT,Nat.reduceLeDiff,Int.reduceNeg,Int.reduceToNat,reduceCtorEq,lk,ao,encS]
  refine bm.intro (fun k T _=>∃ (i:Nat) (w:Int),i+k=g.aA.length∧fP n (g.aA.drop i) w=fP n g.aA 0∧T 1=gi n∧T 2=.aI (ao g) 0∧T 5=gi w∧T 6=gi i) g.aA.length ?_ ?_
  · exact ⟨0,0,by omega,rfl,rfl,rfl,rfl,rfl⟩
  · rintro k T H' ⟨i,w,hk,hi,h1,h2,h5,h6⟩
    simp (disch:=omega) only [↓wr,↓reduceIte,wq,ah,ag,al,aa,ae,af,ai,isNil,Nat.reduceEqDiff,Nat.reduceAdd,Nat.reduceLT,Nat.reduceLeDiff,Int.reduceNeg,Int.reduceToNat,reduceCtorEq,jS,h1,h2,h5,h6,ao]
    refine aq.dec (fun hc=>?_) (fun hc=>?_)
    · have hg2:g.aA[i]?=some (g.aA[i]'(by omega)):=List.getElem?_eq_getElem (by omega)
      rw[dI (show i < g.aA.length by omega)] at hi
      generalize g.aA[i]'(by omega)=t at hg2 hi
      simp only[fP] at hi
      simp (disch:=omega) only [↓wr,↓reduceIte,wq,ah,ag,al,aa,ae,af,ai,isNil,Nat.reduceEqDiff,Nat.reduceAdd,Nat.reduceLT,Nat.reduceLeDiff,Int.reduceNeg,Int.reduceToNat,reduceCtorEq,h1,h2,h5,h6,ao,cb,List.getElem?_map,hg2,Option.map_some]
      intro m hm
      try simp (disch:=omega) only [↓wr,↓reduceIte,wq,ah,ag,al,aa,ae,af,ai,isNil,Nat.reduceEqDiff,Nat.reduceAdd,Nat.reduceLT,Nat.reduceLeDiff,Int.reduceNeg,Int.reduceToNat,reduceCtorEq,h1,h2,h5,h6]
      refine aq.ne (fun hd=>?_) (fun hd=>?_)
      · rw[if_neg hd] at hi
        simp (disch:=omega) only [↓wr,↓reduceIte,wq,ah,ag,al,aa,ae,af,ai,isNil,Nat.reduceEqDiff,Nat.reduceAdd,Nat.reduceLT,Nat.reduceLeDiff,Int.reduceNeg,Int.reduceToNat,reduceCtorEq,h1,h2,h5,h6]
        exact ⟨k - 1,by omega,i+1,w,by omega,hi,by first | rfl | exact ⟨rfl,rfl⟩ | exact ⟨rfl,rfl,rfl⟩⟩
      · rw[if_pos hd] at hi
        repeat' (first | (refine aq.dec (fun _=>?_) (fun _=>?_)) | (refine aq.eq (fun _=>?_) (fun _=>?_)) | (refine aq.ne (fun _=>?_) (fun _=>?_)) | (refine aq.split (fun _=>?_) (fun _=>?_)) | (simp (disch:=omega) only [↓wr,↓reduceIte,wq,ah,ag,al,aa,ae,af,ai,isNil,Nat.reduceEqDiff,Nat.reduceAdd,Nat.reduceLT,Nat.reduceLeDiff,Int.reduceNeg,Int.reduceToNat,reduceCtorEq,h1,h2,h5,h6]))
        · rename_i a b
          rw[if_pos ⟨a,b⟩] at hi
          simp only[eF,← hi]
        · rename_i a b
          rw[if_neg (fun e=>e.2 b)] at hi
          exact ⟨k - 1,by omega,i+1,_,by omega,hi,by first | rfl | exact ⟨rfl,rfl⟩ | exact ⟨rfl,rfl,rfl⟩⟩
        · rename_i a
          rw[if_neg (fun e=>e.1 a)] at hi
          exact ⟨k - 1,by omega,i+1,_,by omega,hi,by first | rfl | exact ⟨rfl,rfl⟩ | exact ⟨rfl,rfl,rfl⟩⟩
    · rw[List.drop_eq_nil_of_le (by omega)] at hi
      simp only[fP] at hi
      simp (disch:=omega) only [↓wr,↓reduceIte,wq,ah,ag,al,aa,ae,af,ai,isNil,Nat.reduceEqDiff,Nat.reduceAdd,Nat.reduceLT,Nat.reduceLeDiff,Int.reduceNeg,Int.reduceToNat,reduceCtorEq,h1,h2,h5,h6]
      simp only[eF,← hi]
theorem Dz (g:au) (hg:g.Ok) (n:Int):aC Tryz.prog 115 [.agg (ao g),gi n] (gb (eF g.aA n)):=aC.val (Az g n) (DQ g hg n)
end Gv
set_option linter.unusedSimpArgs false
set_option maxRecDepth 100000
namespace Gv
open Go Go.Proofs
def nT (g:au) (t:Term):Bool:=(List.range t.level.toNat).all fun k=>eF g.aA ((k:Int)+1)
def gG (g:au) (i:Int) (t:Term):Bool :=
  mh (dD t.name) && (jw g t.name == i) && decide (0≤t.level) && decide (t.level≤24) && decide (0≤t.assoc) && decide (t.assoc≤3) && ((t.level == 0) == (t.assoc == 0)) && nT g t
def gn (g:au):List Term→Int→Bool
  | [],_=>true
  | t :: r,i=>gG g i t && gn g r (i+1)
def gA (g:au):Bool:=decide (g.aA.length≤24) && gn g g.aA 0
def j3:SC :=
  .seq (.seq (an [aj 63 5,aD 64 1 4,av 65 64,bu 66 .leq 63 65]) <|
  .cond (.tmp 66) (.skip) (.exit 2)) <|
  .seq (.block 3 (.seq (an [bo 69 4 1,aj 70 5,aY 71 115 [69,70],bP 72 71]) <|
  .cond (.tmp 72) (.seq (an [bb 2 false]) <|
  .ret) (.skip))) <|
  an [aj 67 5,aH 68 .add 67 1,aj 5 68]
def j5:SC :=
  .seq (.seq (an [aj 10 3,aD 11 0 1,av 12 11,aX 13 12,bu 14 .lss 10 13]) <|
  .cond (.tmp 14) (.skip) (.exit 0)) <|
  .seq (.block 1 (.seq (.region false [⟨none,[aD 17 0 1,av 18 17,aj 19 3,aW 20 3 18 19,bo 21 3 20,((some 4),.op (.alloc [(.val (.string ⟨#[]⟩)),(.val (.int .i64 0)),(.val (.int .i64 0))])),(none,.op (.store 3 (.tmp 4) (.tmp 21)))]⟩]) <|
  .seq (.seq (.region false [⟨none,[aD 22 0 4,av 23 22,aY 24 113 [23],bP 25 24,aj 26 25]⟩,⟨(some (26,false)),[bo 27 4 1,aD 28 0 4,av 29 28,aY 30 114 [27,29],aj 31 3,bu 32 .neq 30 31]⟩,⟨none,[bN 33 26 32,aj 34 33]⟩,⟨(some (34,false)),[aD 35 1 4,av 36 35,aH 37 .lss 36 0]⟩,⟨none,[bN 38 34 37,aj 39 38]⟩,⟨(some (39,false)),[aD 40 1 4,av 41 40,aH 42 .gtr 41 24]⟩,⟨none,[bN 43 39 42,aj 44 43]⟩,⟨(some (44,false)),[aD 45 2 4,av 46 45,aH 47 .lss 46 0]⟩,⟨none,[bN 48 44 47,aj 49 48]⟩,⟨(some (49,false)),[aD 50 2 4,av 51 50,aH 52 .gtr 51 3]⟩,⟨none,[bN 53 49 52,aj 54 53]⟩,⟨(some (54,false)),[aD 55 1 4,av 56 55,aH 57 .eql 56 0,aD 58 2 4,av 59 58,aH 60 .eql 59 0,((some 61),.op (.beq false (.tmp 57) (.tmp 60)))]⟩,⟨none,[bN 62 54 61]⟩]) <|
  .cond (.tmp 62) (.seq (an [bb 2 false]) <|
  .ret) (.skip)) <|
  .seq (an [bk 5 1]) <|
  .block 2 (.loop j3))) <|
  an [aj 15 3,aH 16 .add 15 1,aj 3 16]
def lh:SF:=⟨.seq (an [da 1 0,bb 2 false]) <|
  .seq (.seq (an [aD 6 0 1,av 7 6,aX 8 7,aH 9 .gtr 8 24]) <|
  .cond (.tmp 9) (.seq (an [bb 2 false]) <|
  .ret) (.skip)) <|
  .seq (.seq (an [bk 3 0]) <|
  .block 0 (.loop j5)) <|
  .seq (an [bb 2 true]) <|
  .ret,
  [.tmp 2],73⟩
theorem pR:aR Tryz.prog 68 [1]=some lh:=by kernel_rfl
def kA:SC :=
  .seq (.seq (an [aj 14 3,aD 15 1 1,av 16 15,aX 17 16,bu 18 .lss 14 17]) <|
  .cond (.tmp 18) (.skip) (.exit 0)) <|
  .seq (.block 1 (.seq (.region false [⟨none,[aD 21 1 1,av 22 21,aj 23 3,aW 24 1 22 23,av 25 24,aY 26 116 [25],bP 27 26,aj 28 27]⟩,⟨(some (28,false)),[bo 29 4 1,aD 30 1 1,av 31 30,aj 32 3,aW 33 1 31 32,av 34 33,aY 35 95 [29,34],aj 36 3,bu 37 .neq 35 36]⟩,⟨none,[bN 38 28 37,aj 39 38]⟩,⟨(some (39,false)),[bo 40 4 1,aD 41 1 1,av 42 41,aj 43 3,aW 44 1 42 43,av 45 44,aY 46 114 [40,45],aH 47 .geq 46 0]⟩,⟨none,[bN 48 39 47]⟩]) <|
  .cond (.tmp 48) (.seq (an [bb 2 false]) <|
  .ret) (.skip))) <|
  an [aj 19 3,aH 20 .add 19 1,aj 3 20]
def my:SF:=⟨.seq (an [da 1 0,bb 2 false]) <|
  .seq (.seq (.region false [⟨none,[aD 4 1 1,av 5 4,aX 6 5,aH 7 .lss 6 1,aj 8 7]⟩,⟨(some (8,false)),[aD 9 1 1,av 10 9,aX 11 10,aH 12 .gtr 11 16]⟩,⟨none,[bN 13 8 12]⟩]) <|
  .cond (.tmp 13) (.seq (an [bb 2 false]) <|
  .ret) (.skip)) <|
  .seq (.seq (an [bk 3 0]) <|
  .block 0 (.loop kA)) <|
  .seq (an [bb 2 true]) <|
  .ret,
  [.tmp 2],49⟩
theorem qF:aR Tryz.prog 69 [1]=some my:=by kernel_rfl
def kT:SC :=
  .seq (.seq (an [aj 23 5,aD 24 1 3,av 25 24,aX 26 25,bu 27 .lss 23 26]) <|
  .cond (.tmp 27) (.skip) (.exit 0)) <|
  .seq (.block 1 (.seq (.region false [⟨none,[bo 30 4 2,aD 31 1 3,av 32 31,aj 33 5,aW 34 1 32 33,av 35 34,aY 36 85 [30,35],bP 37 36,aj 38 37]⟩,⟨(some (38,false)),[aD 39 1 3,av 40 39,aj 41 5,aW 42 1 40 41,av 43 42,aH 44 .geq 43 0,aj 45 44]⟩,⟨(some (45,true)),[aD 46 2 3,av 47 46,aH 48 .eql 47 (-1)]⟩,⟨(some (38,false)),[cx 49 45 48]⟩,⟨none,[bN 50 38 49]⟩]) <|
  .cond (.tmp 50) (.seq (an [bb 4 false]) <|
  .ret) (.skip))) <|
  an [aj 28 5,aH 29 .add 28 1,aj 5 29]
def ma:SF:=⟨.seq (an [da 2 0,da 3 1,bb 4 false]) <|
  .seq (.seq (.region false [⟨none,[aD 6 1 3,av 7 6,aX 8 7,aH 9 .gtr 8 6,aj 10 9]⟩,⟨(some (10,false)),[aD 11 2 3,av 12 11,aH 13 .lss 12 (-1)]⟩,⟨none,[bN 14 10 13,aj 15 14]⟩,⟨(some (15,false)),[aD 16 2 3,av 17 16,aD 18 0 2,av 19 18,aX 20 19,bu 21 .geq 17 20]⟩,⟨none,[bN 22 15 21]⟩]) <|
  .cond (.tmp 22) (.seq (an [bb 4 false]) <|
  .ret) (.skip)) <|
  .seq (.seq (an [bk 5 0]) <|
  .block 0 (.loop kT)) <|
  .seq (an [bb 4 true]) <|
  .ret,
  [.tmp 4],51⟩
theorem qn:aR Tryz.prog 70 [2,3]=some ma:=by kernel_rfl
def jY:SC :=
  .seq (.seq (an [aj 39 4,aD 40 2 1,av 41 40,aX 42 41,bu 43 .lss 39 42]) <|
  .cond (.tmp 43) (.skip) (.exit 0)) <|
  .seq (.block 1 (.seq (an [aD 46 2 1,av 47 46,aj 48 4,aW 49 3 47 48,bo 50 3 49,((some 5),.op (.alloc [(.val (.int .i64 0)),(.emp 1),(.val (.int .i64 0))])),(none,.op (.store 3 (.tmp 5) (.tmp 50)))]) <|
  .seq (.seq (.region false [⟨none,[aD 51 0 5,av 52 51,aH 53 .lss 52 0,aj 54 53]⟩,⟨(some (54,false)),[aD 55 0 5,av 56 55,aj 57 3,aH 58 .add 57 1,bu 59 .gtr 56 58]⟩,⟨none,[bN 60 54 59,aj 61 60]⟩,⟨(some (61,false)),[bo 62 4 1,bo 63 3 5,aY 64 70 [62,63],bP 65 64]⟩,⟨none,[bN 66 61 65]⟩]) <|
  .cond (.tmp 66) (.seq (an [bb 2 false]) <|
  .ret) (.skip)) <|
  .seq (an [aD 67 0 5,av 68 67,aj 69 3,bu 70 .gtr 68 69]) <|
  .cond (.tmp 70) (an [aD 71 0 5,av 72 71,aj 3 72]) (.skip))) <|
  an [aj 44 4,aH 45 .add 44 1,aj 4 45]
def lr:SF:=⟨.seq (an [da 1 0,bb 2 false]) <|
  .seq (.seq (.region false [⟨none,[bo 6 4 1,aY 7 68 [6],bP 8 7,aj 9 8]⟩,⟨(some (9,false)),[bo 10 4 1,aY 11 69 [10],bP 12 11]⟩,⟨none,[bN 13 9 12,aj 14 13]⟩,⟨(some (14,false)),[aD 15 2 1,av 16 15,aX 17 16,aH 18 .lss 17 1]⟩,⟨none,[bN 19 14 18,aj 20 19]⟩,⟨(some (20,false)),[aD 21 2 1,av 22 21,aX 23 22,aH 24 .gtr 23 40]⟩,⟨none,[bN 25 20 24,aj 26 25]⟩,⟨(some (26,false)),[aD 27 3 1,av 28 27,aH 29 .lss 28 0]⟩,⟨none,[bN 30 26 29,aj 31 30]⟩,⟨(some (31,false)),[aD 32 3 1,av 33 32,aD 34 1 1,av 35 34,aX 36 35,bu 37 .geq 33 36]⟩,⟨none,[bN 38 31 37]⟩]) <|
  .cond (.tmp 38) (.seq (an [bb 2 false]) <|
  .ret) (.skip)) <|
  .seq (an [bk 3 (-1)]) <|
  .seq (.seq (an [bk 4 0]) <|
  .block 0 (.loop jY)) <|
  .seq (an [aj 73 3,aD 74 1 1,av 75 74,aX 76 75,aH 77 .sub 76 1,bu 78 .eql 73 77,aj 2 78]) <|
  .ret,
  [.tmp 2],79⟩
theorem qb:aR Tryz.prog 41 [1]=some lr:=by kernel_rfl
set_option maxHeartbeats 2000000 in
theorem Ef (g:au) (hg:g.Ok) (H:View):aB Tryz.prog 68 [.agg (ao g)] H fun r _=>r=gb (gA g):=by
  refine aB.of mixed pR ?_
  simp (disch:=omega) only [↓wr,↓reduceIte,wq,ah,ag,al,aa,ae,af,ai,isNil,Nat.reduceEqDiff,Nat.reduceAdd,Nat.reduceLT,Nat.reduceLeDiff,Int.reduceNeg,Int.reduceToNat,reduceCtorEq,lh,ao,encS]
  refine aq.dec (fun h=>?_) (fun h=>?_)
  · simp (disch:=omega) only [↓wr,↓reduceIte,wq,ah,ag,al,aa,ae,af,ai,isNil,Nat.reduceEqDiff,Nat.reduceAdd,Nat.reduceLT,Nat.reduceLeDiff,Int.reduceNeg,Int.reduceToNat,reduceCtorEq]
    simp[gA,show ¬ g.aA.length≤24 by omega]
  · have hle:g.aA.length≤24:=by omega
    simp (disch:=omega) only [↓wr,↓reduceIte,wq,ah,ag,al,aa,ae,af,ai,isNil,Nat.reduceEqDiff,Nat.reduceAdd,Nat.reduceLT,Nat.reduceLeDiff,Int.reduceNeg,Int.reduceToNat,reduceCtorEq]
    refine bm.intro (fun k T _=>∃ i:Nat,i+k=g.aA.length∧gn g (g.aA.drop i) i=gn g g.aA 0∧T 1=.aI (ao g) 0∧T 3=gi i) g.aA.length ?_ ?_
    · exact ⟨0,by omega,rfl,rfl,rfl⟩
    · rintro k T H' ⟨i,hk,hi,h1,h3⟩
      simp (disch:=omega) only [↓wr,↓reduceIte,wq,ah,ag,al,aa,ae,af,ai,isNil,Nat.reduceEqDiff,Nat.reduceAdd,Nat.reduceLT,Nat.reduceLeDiff,Int.reduceNeg,Int.reduceToNat,reduceCtorEq,j5,h1,h3,ao]
      refine aq.dec (fun hc=>?_) (fun hc=>?_)
      · have hg2:g.aA[i]?=some (g.aA[i]'(by omega)):=List.getElem?_eq_getElem (by omega)
        rw[dI (show i < g.aA.length by omega)] at hi
        have hmem:g.aA[i]'(by omega)∈g.aA:=List.getElem_mem _
        generalize g.aA[i]'(by omega)=t at hg2 hi hmem
        obtain ⟨⟨hl1,hl2⟩,⟨ha1,ha2⟩⟩:=hg.term t hmem
        simp only[gn] at hi
        have hbad:gG g i t=false→gb false=gb (gA g):=fun e=>by rw[e,Bool.false_and] at hi; simp[gA,← hi]
        simp (disch:=omega) only [↓wr,↓reduceIte,wq,ah,ag,al,aa,ae,af,ai,isNil,Nat.reduceEqDiff,Nat.reduceAdd,Nat.reduceLT,Nat.reduceLeDiff,Int.reduceNeg,Int.reduceToNat,reduceCtorEq,h1,h3,ao,cb,List.getElem?_map,hg2,Option.map_some]
        intro m hm
        try simp (disch:=omega) only [↓wr,↓reduceIte,wq,ah,ag,al,aa,ae,af,ai,isNil,Nat.reduceEqDiff,Nat.reduceAdd,Nat.reduceLT,Nat.reduceLeDiff,Int.reduceNeg,Int.reduceToNat,reduceCtorEq,h1,h3]
        refine ax.pure (Ee t.name) (by kernel_rfl) ?_
        repeat' (first | (refine aq.dec (fun _=>?_) (fun _=>?_)) | (refine aq.eq (fun _=>?_) (fun _=>?_)) | (refine aq.ne (fun _=>?_) (fun _=>?_)) | (refine aq.split (fun _=>?_) (fun _=>?_)) | (simp (disch:=omega) only [↓wr,↓reduceIte,wq,ah,ag,al,aa,ae,af,ai,isNil,Nat.reduceEqDiff,Nat.reduceAdd,Nat.reduceLT,Nat.reduceLeDiff,Int.reduceNeg,Int.reduceToNat,reduceCtorEq,h1,h3,ao]))
        all_goals try (refine hbad ?_; simp[gG, *]; done)
        rename_i hnm
        refine ax.pure (yU g hg t.name) (by kernel_rfl) ?_
        repeat' (first | (refine aq.dec (fun _=>?_) (fun _=>?_)) | (refine aq.eq (fun _=>?_) (fun _=>?_)) | (refine aq.ne (fun _=>?_) (fun _=>?_)) | (refine aq.split (fun _=>?_) (fun _=>?_)) | (simp (disch:=omega) only [↓wr,↓reduceIte,wq,ah,ag,al,aa,ae,af,ai,isNil,Nat.reduceEqDiff,Nat.reduceAdd,Nat.reduceLT,Nat.reduceLeDiff,Int.reduceNeg,Int.reduceToNat,reduceCtorEq,h1,h3,ao]))
        all_goals try (refine hbad ?_; simp[gG, *]; done)
        all_goals try (refine hbad ?_; simp[gG]; grind)
        rename_i e1 e2 e3 e4 e5 e6
        have hpre:gG g i t=nT g t:=by
          have e6':((t.level == 0) == (t.assoc == 0))=true:=by simpa using e6
          simp[gG,hnm,e1,e6',show (0:Int)≤t.level by omega,show t.level≤24 by omega,show (0:Int)≤t.assoc by omega,show t.assoc≤3 by omega]
        refine bm.intro (fun k' T H''=>∃ j:Nat,1≤j∧j+k'=t.level.toNat+1∧(∀ q:Nat,q+1 < j→eF g.aA ((q:Int)+1)=true)∧T 1=.aI (ao g) 0∧T 3=gi i∧T 4=.ptr m 0 0∧H'' m=.arr 3 [[gs t.name,gi t.level,gi t.assoc]]∧T 5=gi j) t.level.toNat ?_ ?_
        · refine ⟨1,by omega,by omega,fun q hq=>by omega,?_⟩
          simp (disch:=omega) only [↓wr,↓reduceIte,wq,ah,ag,al,aa,ae,af,ai,isNil,Nat.reduceEqDiff,Nat.reduceAdd,Nat.reduceLT,Nat.reduceLeDiff,Int.reduceNeg,Int.reduceToNat,reduceCtorEq,h1,h3,ao]
          rfl
        · rintro k' T' H'' ⟨j,hj1,hj2,hj3,f1,f3,f4,fm,f5⟩
          simp (disch:=omega) only [↓wr,↓reduceIte,wq,ah,ag,al,aa,ae,af,ai,isNil,Nat.reduceEqDiff,Nat.reduceAdd,Nat.reduceLT,Nat.reduceLeDiff,Int.reduceNeg,Int.reduceToNat,reduceCtorEq,j3,f1,f3,f4,f5,fm]
          refine aq.dec (fun hd=>?_) (fun hd=>?_)
          · simp (disch:=omega) only [↓wr,↓reduceIte,wq,ah,ag,al,aa,ae,af,ai,isNil,Nat.reduceEqDiff,Nat.reduceAdd,Nat.reduceLT,Nat.reduceLeDiff,Int.reduceNeg,Int.reduceToNat,reduceCtorEq,f1,f3,f4,f5,fm,ao]
            refine ax.pure (Dz g hg j) (by kernel_rfl) ?_
            repeat' (first | (refine aq.dec (fun _=>?_) (fun _=>?_)) | (refine aq.eq (fun _=>?_) (fun _=>?_)) | (refine aq.ne (fun _=>?_) (fun _=>?_)) | (refine aq.split (fun _=>?_) (fun _=>?_)) | (simp (disch:=omega) only [↓wr,↓reduceIte,wq,ah,ag,al,aa,ae,af,ai,isNil,Nat.reduceEqDiff,Nat.reduceAdd,Nat.reduceLT,Nat.reduceLeDiff,Int.reduceNeg,Int.reduceToNat,reduceCtorEq,f1,f3,f4,f5,fm,ao]))
            · rename_i hb
              refine ⟨k' - 1,by omega,j+1,by omega,by omega,fun q hq=>?_,by first | rfl | exact ⟨rfl,rfl⟩ | exact ⟨rfl,rfl,rfl⟩⟩
              by_cases e:q+1=j
              · have:(q:Int)+1=j:=by omega
                rw[this]; exact hb
              · exact hj3 q (by omega)
            · rename_i hb
              refine hbad ?_
              rw[hpre,nT,List.all_eq_false]
              refine ⟨j - 1,by simp; omega,?_⟩
              have:((j - 1:Nat):Int)+1=j:=by omega
              rw[this,hb]; simp
          · simp (disch:=omega) only [↓wr,↓reduceIte,wq,ah,ag,al,aa,ae,af,ai,isNil,Nat.reduceEqDiff,Nat.reduceAdd,Nat.reduceLT,Nat.reduceLeDiff,Int.reduceNeg,Int.reduceToNat,reduceCtorEq,f1,f3,f4,f5,fm]
            refine ⟨k - 1,by omega,i+1,by omega,?_,by first | rfl | exact ⟨rfl,rfl⟩ | exact ⟨rfl,rfl,rfl⟩⟩
            have hlv:nT g t=true:=by
              rw[nT,List.all_eq_true]
              intro q hq
              exact hj3 q (by simp at hq; omega)
            rw[hpre,hlv,Bool.true_and] at hi
            push_cast; exact hi
      · rw[List.drop_eq_nil_of_le (by omega)] at hi
        simp only[gn] at hi
        simp (disch:=omega) only [↓wr,↓reduceIte,wq,ah,ag,al,aa,ae,af,ai,isNil,Nat.reduceEqDiff,Nat.reduceAdd,Nat.reduceLT,Nat.reduceLeDiff,Int.reduceNeg,Int.reduceToNat,reduceCtorEq,h1,h3]
        simp[gA,hle,← hi]
theorem DR (g:au) (hg:g.Ok):aC Tryz.prog 68 [.agg (ao g)] (gb (gA g)):=aC.val (fi g) (Ef g hg)
def iV (g:au) (i:Int) (s:ByteArray):Bool:=dY (dD s) && (tT g s == i) && decide (jw g s < 0)
def nF (g:au):List ByteArray→Int→Bool
  | [],_=>true
  | s :: r,i=>iV g i s && nF g r (i+1)
def hX (g:au):Bool:=decide (1≤g.ar.length) && decide (g.ar.length≤16) && nF g g.ar 0
set_option maxHeartbeats 1000000 in
theorem FK (g:au) (hg:g.Ok) (H:View):aB Tryz.prog 69 [.agg (ao g)] H fun r _=>r=gb (hX g):=by
  refine aB.of mixed qF ?_
  repeat' (first | (refine aq.dec (fun _=>?_) (fun _=>?_)) | (refine aq.eq (fun _=>?_) (fun _=>?_)) | (refine aq.ne (fun _=>?_) (fun _=>?_)) | (refine aq.split (fun _=>?_) (fun _=>?_)) | (simp (disch:=omega) only [↓wr,↓reduceIte,wq,ah,ag,al,aa,ae,af,ai,isNil,Nat.reduceEqDiff,Nat.reduceAdd,Nat.reduceLT,Nat.reduceLeDiff,Int.reduceNeg,Int.reduceToNat,reduceCtorEq,my,ao,encS]))
  · simp[hX,show ¬ 1≤g.ar.length by omega]
  · simp[hX,show ¬ g.ar.length≤16 by omega]
  · have hle:g.ar.length≤16:=by omega
    refine bm.intro (fun k T _=>∃ i:Nat,i+k=g.ar.length∧nF g (g.ar.drop i) i=nF g g.ar 0∧T 1=.aI (ao g) 0∧T 3=gi i) g.ar.length ?_ ?_
    · exact ⟨0,by omega,rfl,rfl,rfl⟩
    · rintro k T H' ⟨i,hk,hi,h1,h3⟩
      simp (disch:=omega) only [↓wr,↓reduceIte,wq,ah,ag,al,aa,ae,af,ai,isNil,Nat.reduceEqDiff,Nat.reduceAdd,Nat.reduceLT,Nat.reduceLeDiff,Int.reduceNeg,Int.reduceToNat,reduceCtorEq,kA,h1,h3,ao,encS]
      refine aq.dec (fun hc=>?_) (fun hc=>?_)
      · have hg2:g.ar[i]?=some (g.ar[i]'(by omega)):=List.getElem?_eq_getElem (by omega)
        rw[dI (show i < g.ar.length by omega)] at hi
        generalize g.ar[i]'(by omega)=t at hg2 hi
        simp only[nF] at hi
        have hbad:iV g i t=false→gb false=gb (hX g):=fun e=>by rw[e,Bool.false_and] at hi; simp[hX,← hi]
        simp (disch:=omega) only [↓wr,↓reduceIte,wq,ah,ag,al,aa,ae,af,ai,isNil,Nat.reduceEqDiff,Nat.reduceAdd,Nat.reduceLT,Nat.reduceLeDiff,Int.reduceNeg,Int.reduceToNat,reduceCtorEq,h1,h3,ao,encS,List.getElem?_map,hg2,Option.map_some]
        refine ax.pure (ze t) (by kernel_rfl) ?_
        repeat' (first | (refine aq.dec (fun _=>?_) (fun _=>?_)) | (refine aq.eq (fun _=>?_) (fun _=>?_)) | (refine aq.ne (fun _=>?_) (fun _=>?_)) | (refine aq.split (fun _=>?_) (fun _=>?_)) | (simp (disch:=omega) only [↓wr,↓reduceIte,wq,ah,ag,al,aa,ae,af,ai,isNil,Nat.reduceEqDiff,Nat.reduceAdd,Nat.reduceLT,Nat.reduceLeDiff,Int.reduceNeg,Int.reduceToNat,reduceCtorEq,h1,h3,ao,encS,List.getElem?_map,hg2,Option.map_some]))
        all_goals try (refine hbad ?_; simp[iV, *]; done)
        rename_i hnm
        refine ax.pure (G8 g hg t) (by kernel_rfl) ?_
        repeat' (first | (refine aq.dec (fun _=>?_) (fun _=>?_)) | (refine aq.eq (fun _=>?_) (fun _=>?_)) | (refine aq.ne (fun _=>?_) (fun _=>?_)) | (refine aq.split (fun _=>?_) (fun _=>?_)) | (simp (disch:=omega) only [↓wr,↓reduceIte,wq,ah,ag,al,aa,ae,af,ai,isNil,Nat.reduceEqDiff,Nat.reduceAdd,Nat.reduceLT,Nat.reduceLeDiff,Int.reduceNeg,Int.reduceToNat,reduceCtorEq,h1,h3,ao,encS,List.getElem?_map,hg2,Option.map_some]))
        all_goals try (refine hbad ?_; simp[iV, *]; done)
        rename_i hno
        refine ax.pure (yU g hg t) (by kernel_rfl) ?_
        repeat' (first | (refine aq.dec (fun _=>?_) (fun _=>?_)) | (refine aq.eq (fun _=>?_) (fun _=>?_)) | (refine aq.ne (fun _=>?_) (fun _=>?_)) | (refine aq.split (fun _=>?_) (fun _=>?_)) | (simp (disch:=omega) only [↓wr,↓reduceIte,wq,ah,ag,al,aa,ae,af,ai,isNil,Nat.reduceEqDiff,Nat.reduceAdd,Nat.reduceLT,Nat.reduceLeDiff,Int.reduceNeg,Int.reduceToNat,reduceCtorEq,h1,h3,ao,encS]))
        all_goals try (refine hbad ?_; simp[iV, *]; done)
        rename_i hte
        refine ⟨k - 1,by omega,i+1,by omega,?_,by first | rfl | exact ⟨rfl,rfl⟩ | exact ⟨rfl,rfl,rfl⟩⟩
        have:iV g i t=true:=by simp[iV,hnm,hno,show jw g t < 0 by omega]
        rw[this,Bool.true_and] at hi
        push_cast; exact hi
      · rw[List.drop_eq_nil_of_le (by omega)] at hi
        simp only[nF] at hi
        simp (disch:=omega) only [↓wr,↓reduceIte,wq,ah,ag,al,aa,ae,af,ai,isNil,Nat.reduceEqDiff,Nat.reduceAdd,Nat.reduceLT,Nat.reduceLeDiff,Int.reduceNeg,Int.reduceToNat,reduceCtorEq,h1,h3]
        simp[hX,hle,show 1≤g.ar.length by omega,← hi]
theorem Ev (g:au) (hg:g.Ok):aC Tryz.prog 69 [.agg (ao g)] (gb (hX g)):=aC.val (fi g) (FK g hg)
def jH (g:au) (prec s:Int):Bool:=lH g s && !(decide (0≤s) && prec == -1)
def ff (g:au) (r:aO):Bool:=decide (r.right.length≤6) && decide (-1≤r.prec) && decide (r.prec < g.aA.length) && r.right.all (jH g r.prec)
theorem AZ (g:au) (r:aO):∀ v∈[V.agg (ao g),V.agg (aG r)],Tree v:=by
  intro v hv; simp at hv
  rcases hv with rfl | rfl
  · exact bT _ (bH g)
  · exact bT _ (fS r)
set_option maxHeartbeats 1000000 in
theorem E7 (g:au) (r:aO) (hr:aK r.right∧∀ x∈r.right,bB x) (H:View):aB Tryz.prog 70 [.agg (ao g),.agg (aG r)] H fun v _=>v=gb (ff g r):=by
  refine aB.of mixed qn ?_
  repeat' (first | (refine aq.dec (fun _=>?_) (fun _=>?_)) | (refine aq.eq (fun _=>?_) (fun _=>?_)) | (refine aq.ne (fun _=>?_) (fun _=>?_)) | (refine aq.split (fun _=>?_) (fun _=>?_)) | (simp (disch:=omega) only [↓wr,↓reduceIte,wq,ah,ag,al,aa,ae,af,ai,isNil,Nat.reduceEqDiff,Nat.reduceAdd,Nat.reduceLT,Nat.reduceLeDiff,Int.reduceNeg,Int.reduceToNat,reduceCtorEq,ma,ao,encS,aG,encI]))
  · simp[ff,show ¬ r.right.length≤6 by omega]
  · simp[ff,show ¬ -1≤r.prec by omega]
  · simp[ff,show ¬ r.prec < g.aA.length by omega]
  · have hle:r.right.length≤6:=by omega
    have hp1 : -1≤r.prec:=by omega
    have hp2:r.prec < g.aA.length:=by omega
    refine bm.intro (fun k T _=>∃ i:Nat,i+k=r.right.length∧(r.right.drop i).all (jH g r.prec)=r.right.all (jH g r.prec)∧T 2=.aI (ao g) 0∧T 3=.aI (aG r) 0∧T 5=gi i) r.right.length ?_ ?_
    · exact ⟨0,by omega,rfl,rfl,rfl,rfl⟩
    · rintro k T H' ⟨i,hk,hi,h2,h3,h5⟩
      simp (disch:=omega) only [↓wr,↓reduceIte,wq,ah,ag,al,aa,ae,af,ai,isNil,Nat.reduceEqDiff,Nat.reduceAdd,Nat.reduceLT,Nat.reduceLeDiff,Int.reduceNeg,Int.reduceToNat,reduceCtorEq,kT,h2,h3,h5,aG,encI]
      refine aq.dec (fun hc=>?_) (fun hc=>?_)
      · have hg2:r.right[i]?=some (r.right[i]'(by omega)):=List.getElem?_eq_getElem (by omega)
        rw[dI (show i < r.right.length by omega)] at hi
        have hmem:r.right[i]'(by omega)∈r.right:=List.getElem_mem _
        generalize r.right[i]'(by omega)=t at hg2 hi hmem
        have hin:=hr.2 t hmem
        simp only[List.all_cons] at hi
        have hbad:jH g r.prec t=false→gb false=gb (ff g r):=fun e=>by rw[e,Bool.false_and] at hi; simp only[ff,← hi,Bool.and_false]
        have hok:jH g r.prec t=true→(r.right.drop (i+1)).all (jH g r.prec)=r.right.all (jH g r.prec):=fun e=>by rw[e,Bool.true_and] at hi; exact hi
        simp (disch:=omega) only [↓wr,↓reduceIte,wq,ah,ag,al,aa,ae,af,ai,isNil,Nat.reduceEqDiff,Nat.reduceAdd,Nat.reduceLT,Nat.reduceLeDiff,Int.reduceNeg,Int.reduceToNat,reduceCtorEq,h2,h3,h5,ao,encS,aG,encI,List.getElem?_map,hg2,Option.map_some]
        refine ax.pure (Ja g t hin) (by kernel_rfl) ?_
        repeat' (first | (refine aq.dec (fun _=>?_) (fun _=>?_)) | (refine aq.eq (fun _=>?_) (fun _=>?_)) | (refine aq.ne (fun _=>?_) (fun _=>?_)) | (refine aq.split (fun _=>?_) (fun _=>?_)) | (simp (disch:=omega) only [↓wr,↓reduceIte,wq,ah,ag,al,aa,ae,af,ai,isNil,Nat.reduceEqDiff,Nat.reduceAdd,Nat.reduceLT,Nat.reduceLeDiff,Int.reduceNeg,Int.reduceToNat,reduceCtorEq,h2,h3,h5,ao,encS,aG,encI,List.getElem?_map,hg2,Option.map_some]))
        all_goals first
          | (refine hbad ?_; simp[jH, *]; done)
          | (refine ⟨k - 1,by omega,i+1,by omega,hok (by simp[jH, *]; done),by first | rfl | exact ⟨rfl,rfl⟩ | exact ⟨rfl,rfl,rfl⟩⟩)
          | skip
      · rw[List.drop_eq_nil_of_le (by omega)] at hi
        simp only[List.all_nil] at hi
        simp (disch:=omega) only [↓wr,↓reduceIte,wq,ah,ag,al,aa,ae,af,ai,isNil,Nat.reduceEqDiff,Nat.reduceAdd,Nat.reduceLT,Nat.reduceLeDiff,Int.reduceNeg,Int.reduceToNat,reduceCtorEq,h2,h3,h5]
        simp only[ff,hle,hp1,hp2,decide_true,Bool.true_and,← hi]
theorem EE (g:au) (r:aO) (hr:aK r.right∧∀ x∈r.right,bB x):aC Tryz.prog 70 [.agg (ao g),.agg (aG r)] (gb (ff g r)):=aC.val (AZ g r) (E7 g r hr)
def eE (g:au):List aO→Int→Bool
  | [],top=>top == (g.ar.length:Int) - 1
  | r :: l,top=>decide (0≤r.left) && decide (r.left≤top+1) && ff g r && eE g l (if r.left > top then r.left else top)
def aM (g:au):Bool :=
  gA g && hX g && decide (1≤g.rules.length) && decide (g.rules.length≤40) && decide (0≤g.start) && decide (g.start < g.ar.length) && eE g g.rules (-1)
set_option maxHeartbeats 1000000 in
theorem DJ (g:au) (hg:g.Ok) (H:View):aB Tryz.prog 41 [.agg (ao g)] H fun r _=>r=gb (aM g):=by
  refine aB.of mixed qb ?_
  have hn:=hg.ar
  unfold aK at hn
  simp (disch:=omega) only [↓wr,↓reduceIte,wq,ah,ag,al,aa,ae,af,ai,isNil,Nat.reduceEqDiff,Nat.reduceAdd,Nat.reduceLT,Nat.reduceLeDiff,Int.reduceNeg,Int.reduceToNat,reduceCtorEq,lr,ao,encS]
  refine ax.pure (DR g hg) (by kernel_rfl) ?_
  repeat' (first | (refine aq.dec (fun _=>?_) (fun _=>?_)) | (refine aq.eq (fun _=>?_) (fun _=>?_)) | (refine aq.ne (fun _=>?_) (fun _=>?_)) | (refine aq.split (fun _=>?_) (fun _=>?_)) | (simp (disch:=omega) only [↓wr,↓reduceIte,wq,ah,ag,al,aa,ae,af,ai,isNil,Nat.reduceEqDiff,Nat.reduceAdd,Nat.reduceLT,Nat.reduceLeDiff,Int.reduceNeg,Int.reduceToNat,reduceCtorEq,ao,encS]))
  · rename_i h1
    refine ax.pure (Ev g hg) (by kernel_rfl) ?_
    repeat' (first | (refine aq.dec (fun _=>?_) (fun _=>?_)) | (refine aq.eq (fun _=>?_) (fun _=>?_)) | (refine aq.ne (fun _=>?_) (fun _=>?_)) | (refine aq.split (fun _=>?_) (fun _=>?_)) | (simp (disch:=omega) only [↓wr,↓reduceIte,wq,ah,ag,al,aa,ae,af,ai,isNil,Nat.reduceEqDiff,Nat.reduceAdd,Nat.reduceLT,Nat.reduceLeDiff,Int.reduceNeg,Int.reduceToNat,reduceCtorEq,ao,encS]))
    all_goals try (simp[aM, *]; done)
    all_goals try (simp[aM]; omega)
    rename_i h2 h3 h4 h5 h6
    have hle:g.rules.length≤40:=by omega
    have hpre:∀ b,eE g g.rules (-1)=b→gb b=gb (aM g):=fun b e=>by
      simp[aM,h1,h2,show 1≤g.rules.length by omega,hle,show 0≤g.start by omega,show g.start < g.ar.length by omega,e]
    refine bm.intro (fun k T _=>∃ (i:Nat) (w:Int),i+k=g.rules.length∧-1≤w∧w < i∧eE g (g.rules.drop i) w=eE g g.rules (-1)∧T 1=.aI (ao g) 0∧T 3=gi w∧T 4=gi i) g.rules.length ?_ ?_
    · exact ⟨0,-1,by omega,by omega,by omega,rfl,rfl,rfl,rfl⟩
    · rintro k T H' ⟨i,w,hk,hw1,hw2,hi,f1,f3,f4⟩
      simp (disch:=omega) only [↓wr,↓reduceIte,wq,ah,ag,al,aa,ae,af,ai,isNil,Nat.reduceEqDiff,Nat.reduceAdd,Nat.reduceLT,Nat.reduceLeDiff,Int.reduceNeg,Int.reduceToNat,reduceCtorEq,jY,f1,f3,f4,ao]
      refine aq.dec (fun hc=>?_) (fun hc=>?_)
      · have hg2:g.rules[i]?=some (g.rules[i]'(by omega)):=List.getElem?_eq_getElem (by omega)
        rw[dI (show i < g.rules.length by omega)] at hi
        have hmem:g.rules[i]'(by omega)∈g.rules:=List.getElem_mem _
        generalize g.rules[i]'(by omega)=t at hg2 hi hmem
        obtain ⟨⟨hl1,hl2⟩,hp,hr1,hr2⟩:=hg.bg t hmem
        simp only[eE] at hi
        simp (disch:=omega) only [↓wr,↓reduceIte,wq,ah,ag,al,aa,ae,af,ai,isNil,Nat.reduceEqDiff,Nat.reduceAdd,Nat.reduceLT,Nat.reduceLeDiff,Int.reduceNeg,Int.reduceToNat,reduceCtorEq,f1,f3,f4,ao,encS,aG,encI,List.getElem?_map,hg2,Option.map_some]
        intro m hm
        try simp (disch:=omega) only [↓wr,↓reduceIte,wq,ah,ag,al,aa,ae,af,ai,isNil,Nat.reduceEqDiff,Nat.reduceAdd,Nat.reduceLT,Nat.reduceLeDiff,Int.reduceNeg,Int.reduceToNat,reduceCtorEq,f1,f3,f4]
        repeat' (first | (refine aq.dec (fun _=>?_) (fun _=>?_)) | (refine aq.eq (fun _=>?_) (fun _=>?_)) | (refine aq.ne (fun _=>?_) (fun _=>?_)) | (refine aq.split (fun _=>?_) (fun _=>?_)) | (simp (disch:=omega) only [↓wr,↓reduceIte,wq,ah,ag,al,aa,ae,af,ai,isNil,Nat.reduceEqDiff,Nat.reduceAdd,Nat.reduceLT,Nat.reduceLeDiff,Int.reduceNeg,Int.reduceToNat,reduceCtorEq,f1,f3,f4,ao,encS,aG,encI]))
        all_goals try (refine hpre _ ?_; simp only[← hi]; simp; omega)
        rename_i e1 e2
        refine ax.pure (EE g t ⟨hr1,hr2⟩) (by kernel_rfl) ?_
        repeat' (first | (refine aq.dec (fun _=>?_) (fun _=>?_)) | (refine aq.eq (fun _=>?_) (fun _=>?_)) | (refine aq.ne (fun _=>?_) (fun _=>?_)) | (refine aq.split (fun _=>?_) (fun _=>?_)) | (simp (disch:=omega) only [↓wr,↓reduceIte,wq,ah,ag,al,aa,ae,af,ai,isNil,Nat.reduceEqDiff,Nat.reduceAdd,Nat.reduceLT,Nat.reduceLeDiff,Int.reduceNeg,Int.reduceToNat,reduceCtorEq,f1,f3,f4,ao,encS,aG,encI]))
        all_goals simp only[show 0≤t.left by omega,show t.left≤w+1 by omega,decide_true,Bool.true_and] at hi
        · rename_i e3 e4
          rw[e3,Bool.true_and,if_pos e4] at hi
          exact ⟨k - 1,by omega,i+1,_,by omega,by omega,by push_cast; omega,hi,by first | rfl | exact ⟨rfl,rfl⟩ | exact ⟨rfl,rfl,rfl⟩⟩
        · rename_i e3 e4
          rw[e3,Bool.true_and,if_neg e4] at hi
          exact ⟨k - 1,by omega,i+1,_,by omega,by omega,by push_cast; omega,hi,by first | rfl | exact ⟨rfl,rfl⟩ | exact ⟨rfl,rfl,rfl⟩⟩
        · rename_i e3
          rw[e3,Bool.false_and] at hi
          exact hpre _ hi.symm
      · rw[List.drop_eq_nil_of_le (by omega)] at hi
        simp only[eE] at hi
        simp (disch:=omega) only [↓wr,↓reduceIte,wq,ah,ag,al,aa,ae,af,ai,isNil,Nat.reduceEqDiff,Nat.reduceAdd,Nat.reduceLT,Nat.reduceLeDiff,Int.reduceNeg,Int.reduceToNat,reduceCtorEq,f1,f3,f4,ao,encS]
        exact hpre _ hi.symm
  · rename_i h1; simp[aM,h1]
theorem kB (g:au) (hg:g.Ok):aC Tryz.prog 41 [.agg (ao g)] (gb (aM g)):=aC.val (fi g) (DJ g hg)
end Gv
namespace Gv
open Go
inductive bO (α:Type) where
  | nil
  | node (v:α) (l r:bO α)
noncomputable def bO.get {α:Type} (z:α) (t:bO α):Nat→α :=
  bO.rec (motive:=fun _=>Nat→α) (fun _=>z) (fun v _ _ gl gr i=>Bool.rec (Bool.rec (gr (i / 2 - 1)) (gl (i / 2)) (Nat.beq (i % 2) 1)) v (Nat.beq i 0)) t
theorem bO.get_nil {α:Type} (z:α) (i:Nat):bO.get z .nil i=z:=rfl
theorem bO.HD {α:Type} (z v:α) (l r:bO α) (i:Nat):bO.get z (.node v l r) i=match Nat.beq i 0 with
    | true=>v
    | false=>match Nat.beq (i % 2) 1 with
      | true=>bO.get z l (i / 2)
      | false=>bO.get z r (i / 2 - 1):=by
  change (Bool.rec (motive:=fun _=>α) _ _ _:α)=_
  cases Nat.beq i 0 with
  | true=>rfl
  | false=>cases Nat.beq (i % 2) 1 <;> rfl
def bO.val {α:Type} (z:α):bO α→α
  | .nil=>z
  | .node v _ _=>v
def bO.left {α:Type} : bO α→bO α
  | .nil=>.nil
  | .node _ l _=>l
def bO.right {α:Type} : bO α→bO α
  | .nil=>.nil
  | .node _ _ r=>r
noncomputable def bO.put {α:Type} (z:α) (x:α) (d:Nat):bO α→Nat→bO α :=
  Nat.rec (motive:=fun _=>bO α→Nat→bO α) (fun t _=>t) (fun _ pd t i =>
    Bool.rec (Bool.rec (.node (t.val z) t.left (pd t.right (i / 2 - 1))) (.node (t.val z) (pd t.left (i / 2)) t.right) (Nat.beq (i % 2) 1)) (.node x t.left t.right) (Nat.beq i 0)) d
theorem bO.Ho {α:Type} (z x:α) (d:Nat) (t:bO α) (i:Nat):bO.put z x (d+1) t i=match Nat.beq i 0 with
    | true=>.node x t.left t.right
    | false=>match Nat.beq (i % 2) 1 with
      | true=>.node (t.val z) (bO.put z x d t.left (i / 2)) t.right
      | false=>.node (t.val z) t.left (bO.put z x d t.right (i / 2 - 1)):=by
  change (Bool.rec (motive:=fun _=>bO α) _ _ _:bO α)=_
  cases Nat.beq i 0 with
  | true=>rfl
  | false=>cases Nat.beq (i % 2) 1 <;> rfl
theorem bO.jZ {α:Type} (z:α) (t:bO α) (j:Nat):t.get z j=if j=0 then t.val z else if j % 2=1 then t.left.get z (j / 2) else t.right.get z (j / 2 - 1):=by
  cases t with
  | nil=>simp[bO.get_nil,bO.val,bO.left,bO.right]
  | node v l r =>
    simp only[bO.HD,bO.val,bO.left,bO.right]
    by_cases h:j=0
    · subst h; rfl
    · have:Nat.beq j 0=false:=by cases e:Nat.beq j 0 with | true=>exact absurd (Nat.eq_of_beq_eq_true e) h | false=>rfl
      rw[this,if_neg h]
      simp only
      by_cases h2:j % 2=1
      · have:Nat.beq (j % 2) 1=true:=by rw[h2]; rfl
        rw[this,if_pos h2]
      · have:Nat.beq (j % 2) 1=false:=by cases e:Nat.beq (j % 2) 1 with | true=>exact absurd (Nat.eq_of_beq_eq_true e) h2 | false=>rfl
        rw[this,if_neg h2]
theorem bO.jX {α:Type} (z x:α):∀ (d:Nat) (t:bO α) (i j:Nat),i+1 < 2 ^ d→(bO.put z x d t i).get z j=if j=i then x else t.get z j
  | 0,t,i,j,h=>by simp at h
  | d+1,t,i,j,h=>by
    rw[Nat.pow_succ] at h
    simp only[bO.Ho]
    by_cases hi:i=0
    · subst hi
      have:Nat.beq 0 0=true:=rfl
      rw[this]
      simp only
      rw[bO.jZ,bO.jZ z t]
      simp only[bO.val,bO.left,bO.right]
      by_cases hj:j=0
      · rw[if_pos hj,if_pos hj]
      · rw[if_neg hj,if_neg hj,if_neg hj]
    · have:Nat.beq i 0=false:=by cases e:Nat.beq i 0 with | true=>exact absurd (Nat.eq_of_beq_eq_true e) hi | false=>rfl
      rw[this]
      simp only
      by_cases h2:i % 2=1
      · have:Nat.beq (i % 2) 1=true:=by rw[h2]; rfl
        rw[this]
        simp only
        rw[bO.jZ,bO.jZ z t]
        simp only[bO.val,bO.left,bO.right]
        by_cases hj:j=0
        · subst hj; rw[if_pos rfl,if_neg (fun e=>hi e.symm),if_pos rfl]
        · rw[if_neg hj,if_neg hj]
          by_cases hj2:j % 2=1
          · rw[if_pos hj2,if_pos hj2,bO.jX z x d _ _ _ (by omega)]
            by_cases e:j=i
            · subst e; simp
            · rw[if_neg e,if_neg (by omega)]
          · rw[if_neg hj2,if_neg hj2,if_neg (fun e=>hj2 (by rw[e]; exact h2))]
      · have:Nat.beq (i % 2) 1=false:=by cases e:Nat.beq (i % 2) 1 with | true=>exact absurd (Nat.eq_of_beq_eq_true e) h2 | false=>rfl
        rw[this]
        simp only
        rw[bO.jZ,bO.jZ z t]
        simp only[bO.val,bO.left,bO.right]
        by_cases hj:j=0
        · subst hj; rw[if_pos rfl,if_neg (fun e=>hi e.symm),if_pos rfl]
        · rw[if_neg hj,if_neg hj]
          by_cases hj2:j % 2=1
          · rw[if_pos hj2,if_pos hj2,if_neg (fun e=>h2 (by rw[← e]; exact hj2))]
          · rw[if_neg hj2,if_neg hj2,bO.jX z x d _ _ _ (by omega)]
            by_cases e:j=i
            · subst e; simp
            · rw[if_neg e,if_neg (by omega)]
abbrev deep:Nat:=13
structure ES where
  L:bO V
  H:bO bC
  n:Nat
  w:List Nat
noncomputable def ES.T (s:ES):Env:=s.L.get .any
noncomputable def ES.V (s:ES):View:=s.H.get .dead
noncomputable def ES.put (s:ES) (d:Option Nat) (v:Gv.V):ES:=match d with
  | some t=>⟨s.L.put .any v deep t,s.H,s.n,s.w⟩
  | none=>s
theorem ES.HS {s:ES} {d:Option Nat} {v:Gv.V} (h:∀ t,d=some t→t < 8000):(s.put d v).T=s.T.put d v:=by
  cases d with
  | none=>rfl
  | some t =>
    funext k
    have:=h t rfl
    simp only[ES.put,ES.T,Env.put]
    rw[bO.jX _ _ _ _ _ _ (by simp[deep]; omega)]
noncomputable def Bz (v:V) (az:aZ) (rd:List Nat) (s:ES):Option (V × ES × Rec):=match az with
  | .none=>some (v,s,⟨rd,[],false,s.n,s.n⟩)
  | .new o=>match Nat.ble s.n 8000 with
    | true=>some (v,⟨s.L,s.H.put .dead o deep s.n,s.n+1,s.w⟩,⟨rd,[],false,s.n,s.n+1⟩)
    | false=>none
  | .dM id o=>match Nat.ble id 8000 with
    | true=>some (v,⟨s.L,s.H.put .dead o deep id,s.n,id :: s.w⟩,⟨rd,[id],false,s.n,s.n⟩)
    | false=>none
  | .ak id o=>match Nat.ble s.n 8000,Nat.ble id 8000 with
    | true,true=>some (v,⟨s.L,(s.H.put .dead .dead deep id).put .dead o deep s.n,s.n+1,id :: s.w⟩,⟨rd,[id],false,s.n,s.n+1⟩)
    | _,_=>none
noncomputable def Kc (x:SX) (_:Program) (T:Env) (_:View) (_:Nat):Out:=some (x.at T,.none,[])
noncomputable def JD (c a b:SX) (_:Program) (T:Env) (_:View) (_:Nat):Out:=match c.at T with
  | .val (.bool t)=>some (if t then a.at T else b.at T,.none,[])
  | _=>none
noncomputable def JH (sz:Option Nat) (a:SX) (_:Program) (T:Env) (H:View) (_:Nat):Out:=rO sz (a.at T) H
noncomputable def I3 (sz:Nat) (a x:SX) (_:Program) (T:Env) (H:View) (_:Nat):Out:=xH sz (a.at T) (x.at T) H
noncomputable def JL (off:Nat) (x:SX) (_:Program) (T:Env) (_:View) (_:Nat):Out:=uQ off (x.at T)
noncomputable def J2 (sz:Nat) (x i:SX) (_:Program) (T:Env) (_:View) (_:Nat):Out:=x5 sz (x.at T) (i.at T)
noncomputable def Ke (x:SX) (_:Program) (T:Env) (_:View) (_:Nat):Out:=(dT (x.at T)).map fun n=>(al n,.none,[])
noncomputable def Jh (op:BinOp) (x y:SX) (_:Program) (T:Env) (_:View) (_:Nat):Out:=uk op (x.at T) (y.at T)
noncomputable def J9 (op:BinOp) (x y:SX) (_:Program) (T:Env) (_:View) (_:Nat):Out:=vR op (x.at T) (y.at T)
noncomputable def J8 (x:SX) (_:Program) (T:Env) (_:View) (_:Nat):Out:=match x.at T with
  | .val (.bool t)=>some (.val (.bool (!t)),.none,[])
  | _=>none
noncomputable def Kf (i:Nat) (x:SX) (_:Program) (T:Env) (_:View) (_:Nat):Out:=match x.at T with
  | .bt vs=>if i < vs.length then some (vs.getD i .any,.none,[]) else none
  | _=>none
noncomputable def JC (x:SX) (_:Program) (T:Env) (_:View) (_:Nat):Out:=match x.at T with
  | .ptr id i j=>some (.ptr id i j,.none,[])
  | .aI e j=>some (.aI e j,.none,[])
  | .fn f a b=>some (.fn f a b,.none,[])
  | _=>none
noncomputable def eI (s:SI):Program→Env→View→Nat→Out:=match s with
  | .ak x=>Kc x
  | .pick c a b=>JD c a b
  | .load sz a=>JH sz a
  | .store sz a x=>I3 sz a x
  | .addr o x=>JL o x
  | .idx sz x i=>J2 sz x i
  | .len x=>Ke x
  | .arith op x y=>Jh op x y
  | .gV op x y=>J9 op x y
  | .not x=>J8 x
  | .ext i x=>Kf i x
  | .bc x=>JC x
  | s=>fun P T H n=>sI P s T H n
theorem DW (s:SI) (P:Program) (T:Env) (H:View) (n:Nat):eI s P T H n=sI P s T H n:=by
  cases s <;> rfl
abbrev fa:=FuncId→List V→ES→Option (V × ES)
noncomputable def EA (P:Program) (s:SI) (e:ES):Option (V × ES × Rec):=match eI s P e.T e.V e.n with
  | some (v,az,rd)=>Bz v az rd e
  | none=>none
noncomputable def EV (call:fa) (f:SX) (args:List SX) (e:ES):Option (V × ES × Rec):=match f.at e.T with
  | .fn g first cap=>match call g (first ++ args.map (SX.at e.T) ++ cap) e with
    | some (v,e')=>some (v,⟨e.L,e'.H,e'.n,e'.w ++ e.w⟩,⟨[],e'.w,true,e.n,e'.n⟩)
    | none=>none
  | _=>none
noncomputable def eB (P:Program) (call:fa) (b:SB):ES→Option (V × ES × Rec):=match b with
  | .op s=>EA P s
  | .call f args=>EV call f args
noncomputable def Cx (P:Program) (call:fa):List (Option Nat × SB)→List Rec→ES→Option (ES × List Rec)
  | [],a,e=>some (e,a)
  | (d,b) :: r,a,e=>match eB P call b e with
    | some (v,e',c)=>Cx P call r (a ++ [c]) (e'.put d v)
    | none=>none
noncomputable def HU (e:ES):Rec:=⟨[],[],false,e.n,e.n⟩
noncomputable def rY:List (Option Nat × SB)→List Rec→ES→ES × List Rec
  | [],a,e=>(e,a)
  | (d,_) :: r,a,e=>rY r (a ++ [HU e]) (e.put d (.bt []))
noncomputable def E9 (P:Program) (call:fa) (ops:List (Option Nat × SB)) (want:Bool) (v:V) (a:List Rec) (e:ES):Option (ES × List Rec):=match v with
  | .val (.bool b)=>match xor b want with
    | true=>some (rY ops a e)
    | false=>Cx P call ops a e
  | .bt []=>some (rY ops a e)
  | _=>none
noncomputable def eG (P:Program) (call:fa) (g:SG) (a:List Rec) (e:ES):Option (ES × List Rec):=match g.guard with
  | none=>Cx P call g.ops a e
  | some (d,want)=>E9 P call g.ops want (e.T d) a e
noncomputable def Gf (P:Program) (call:fa):List SG→List Rec→ES→Option (ES × List Rec)
  | [],a,e=>some (e,a)
  | g :: r,a,e=>match eG P call g a e with
    | some (e',a')=>Gf P call r a' e'
    | none=>none
inductive DC where
  | skip
  | region (ps:List (Nat × Nat)) (gs:List SG)
  | seq (x y:DC)
  | cond (c:SX) (x y:DC)
  | block (id:Nat) (c:DC)
  | loop (c:DC)
  | exit (id:Nat)
  | ret
  deriving Inhabited
def FL (recs:List Rec) (ps:List (Nat × Nat)):Bool:=ps.all fun (i,k)=>match recs[i]?,recs[k]? with
  | some a,some b=>x7 a b
  | _,_=>false
abbrev ER:=Option (Exit × ES)
abbrev sn:=DC→ES→ER
noncomputable def FG:ES→ER:=fun e=>some (.normal,e)
noncomputable def Cl (P:Program) (call:fa) (ps:List (Nat × Nat)) (gs:List SG) (e:ES):ER:=match Gf P call gs [] e with
  | some (e',recs)=>match FL recs ps with
    | true=>some (.normal,e')
    | false=>none
  | none=>none
noncomputable def I8 (run:sn) (x y:DC) (e:ES):ER:=match run x e with
  | some (.normal,e')=>run y e'
  | r=>r
noncomputable def HX (run:sn) (c:SX) (x y:DC) (e:ES):ER:=match c.at e.T with
  | .val (.bool true)=>run x e
  | .val (.bool false)=>run y e
  | _=>none
noncomputable def Fy (run:sn) (id:Nat) (c:DC) (e:ES):ER:=match run c e with
  | some (r,e')=>some (nL id r,e')
  | none=>none
noncomputable def HH (run:sn) (c:DC) (e:ES):ER:=match run c e with
  | some (.normal,e')=>run (.loop c) e'
  | r=>r
noncomputable def ju (P:Program) (call:fa) (run:sn) (c:DC):ES→ER:=match c with
  | .skip=>FG
  | .region ps gs=>Cl P call ps gs
  | .seq x y=>I8 run x y
  | .cond c x y=>HX run c x y
  | .block id c=>Fy run id c
  | .loop c=>HH run c
  | .exit id=>fun e=>some (.exit id,e)
  | .ret=>fun e=>some (.ret,e)
noncomputable def GZ (r:SR) (e:ES):Option V:=match r with
  | .tmp t=>some (e.T t)
  | .cell t sz=>match e.T t with
    | .ptr id i j=>match e.V id with
      | .arr _ es=>if i < es.length then jx sz (es.getD i []) j else none
      | _=>none
    | .aI e j=>jx sz e j
    | _=>none
noncomputable def sg:List SR→ES→Option (List V)
  | [],_=>some []
  | r :: l,e=>match GZ r e,sg l e with
    | some v,some vs=>some (v :: vs)
    | _,_=>none
noncomputable def j7:List V→Nat→bO V→bO V
  | [],_,t=>t
  | v :: vs,i,t=>j7 vs (i+1) (t.put .any v deep i)
structure DF where
  code:DC
  res:List SR
  n:Nat
noncomputable def I7 (l:List SR) (r:ER):Option (V × ES):=match r with
  | some (.ret,e)=>(sg l e).map fun vs=>(ah vs,e)
  | some (.normal,e)=>(sg l e).map fun vs=>(ah vs,e)
  | _=>none
noncomputable def IW (m:Nat) (r:Option (V × ES)):Option (V × ES):=match r with
  | some (v,e)=>some (v,⟨e.L,e.H,e.n,e.w.filter fun id=>Nat.blt id m⟩)
  | none=>none
noncomputable def Js (run:sn) (F:DF) (vs:List V) (e:ES):Option (V × ES):=match Nat.ble vs.length F.n,Nat.ble F.n 8000 with
  | true,true=>IW e.n (I7 F.res (run F.code ⟨j7 vs 0 .nil,e.H,e.n,[]⟩))
  | _,_=>none
abbrev vH:=FuncId→List V→Option V
noncomputable def zP (P:Program) (tab:List (FuncId × DF)) (ext:vH) (run:sn) (g:FuncId) (vs:List V) (e:ES):Option (V × ES):=match ext g vs with
  | some t=>some (t,⟨e.L,e.H,e.n,[]⟩)
  | none=>match tab.find? (fun p=>Nat.beq p.1 g) with
    | some (_,F)=>Js run F vs e
    | none=>none
noncomputable def AN (P:Program) (tab:List (FuncId × DF)) (ext:vH):Nat→sn
  | 0=>fun _ _=>none
  | k+1=>ju P (zP P tab ext (AN P tab ext k)) (AN P tab ext k)
def xJ (all:List Oper) (ls:List Nat):List (Nat × Nat) :=
  let b:=dH all []
  (ls.zipIdx.map fun (x,i)=>(ls.zipIdx.filter fun (y,k)=>decide (i < k) && !(ordered b i k || x == 0 || y == 0 || (decide (x≤1) && decide (y≤1)))).map fun (_,k)=>(i,k)).flatten
def Ah (P:Program) (n:Nat) (fz:List Nat) (ops:List Oper) (draw:Bool):Option DC:=match cw P n ops ⟨fz,false⟩ ops with
  | none=>none
  | some l=>if !(group l).all pE then none else
    if draw then (if jd ops then some (.region (xJ ops (l.map fun s=>fF P false s.b)) (group l)) else none) else some (.region [] (group l))
def fJ (P:Program) (n:Nat) (fz:List Nat):Code→Option DC
  | .skip=>some .skip
  | .region _ ops draw=>Ah P n fz ops.toList draw
  | .seq x y=>match fJ P n fz x,fJ P n fz y with
    | some a,some b=>some (.seq a b)
    | _,_=>none
  | .cond c x y=>match fJ P n fz x,fJ P n fz y with
    | some a,some b=>some (.cond (SX.of c) a b)
    | _,_=>none
  | .block id c=>(fJ P n fz c).map (.block id)
  | .loop c=>(fJ P n fz c).map .loop
  | .exit id=>some (.exit id)
  | .ret=>some .ret
  | _=>none
def bz (P:Program) (f:FuncId) (fz:List Nat):Option DF:=match P.funcs[f]? with
  | some fn=>match fn.body with
    | some c=>match fJ P fn.ntmps fz c,dJ P fn.results.toList,cp P f with
      | some sc,some rs,true=>some ⟨sc,rs,fn.ntmps⟩
      | _,_,_=>none
    | none=>none
  | none=>none
end Gv
namespace Gv
open Go
section
variable {P:Program} {n:Nat} {all:List Oper}
def fv (h:aE) (e:ES):Prop:=e.V=h.view∧e.n=h.length
def Calm (e e':ES) (h h':aE):Prop:=h.length≤h'.length∧(∀ id,id < h.length→¬ id∈e'.w→h'.view id=h.view id∧¬ id∈e.w)
theorem Calm.trans {a b c:ES} {h1 h2 h3:aE} (x:Calm a b h1 h2) (y:Calm b c h2 h3):Calm a c h1 h3 :=
  ⟨Nat.le_trans x.1 y.1,fun id hid hw =>
    let ⟨e1,d1⟩:=y.2 id (Nat.lt_of_lt_of_le hid x.1) hw
    let ⟨e2,d2⟩:=x.2 id hid d1
    ⟨e1.trans e2,d2⟩⟩
theorem Calm.refl (e:ES) (h:aE):Calm e e h h:=⟨Nat.le_refl _,fun _ _ hw=>⟨rfl,hw⟩⟩
def gX (P:Program) (call:fa):Prop:=∀ g vs e v e' h,call g vs e=some (v,e')→fv h e →
  cp P g=true∧∃ h',bL P g vs h v h'∧fv h' e'∧(∀ id,id < h.length→¬ id∈e'.w→h'.view id=h.view id)∧∀ id,id∈e'.w→id < h.length
def rU (P:Program) (run:sn):Prop:=∀ (n:Nat) (fz:List Nat) (c:Code) (sc:DC),fJ P n fz c=some sc→n≤8000→∀ (e e':ES) (r:Exit) (h:aE),run sc e=some (r,e')→fv h e →
  ∃ h',ch P n c e.T h r e'.T h'∧fv h' e'∧Calm e e' h h'∧∀ c0,c=.loop c0→l0 P n c0 e.T h r e'.T h'
theorem FA {h:aE} {e:ES} {d:Option Nat} {v:V} (he:fv h e):fv h (e.put d v):=by cases d <;> exact he
theorem HV {e:ES} {d:Option Nat} {v:V} : (e.put d v).w=e.w:=by cases d <;> rfl
theorem GR {h:aE} {e e':ES} {h':aE} {d:Option Nat} {v:V} (x:Calm e e' h h'):Calm e (e'.put d v) h h':=⟨x.1,fun id hid hw=>x.2 id hid (by rw[HV] at hw; exact hw)⟩
theorem wZ {a:Nat} (h:Nat.ble a 8000=true):a+1 < 2 ^ 13:=by
  have:=Nat.le_of_ble_eq_true h
  omega
theorem IP {h:aE} {e e':ES} {v v':V} {az:aZ} {rd:List Nat} {c:Rec} (he:fv h e) (hx:Bz v az rd e=some (v',e',c)) :
    v'=v∧e'.T=e.T∧e'.V=az.view h.view h.length∧e'.n=(az.apply h).length∧c=⟨rd,az.wr,false,h.length,(az.apply h).length⟩∧e'.w=az.wr ++ e.w:=by
  obtain ⟨h1,h2⟩:=he
  unfold Bz at hx
  cases az with
  | none =>
    simp only[Option.some.injEq,Prod.mk.injEq] at hx
    obtain ⟨rfl,rfl,rfl⟩:=hx
    exact ⟨rfl,rfl,h1,h2,by rw[h2]; rfl,rfl⟩
  | new o =>
    simp only at hx
    split at hx
    · rename_i hb
      simp only[Option.some.injEq,Prod.mk.injEq] at hx
      obtain ⟨rfl,rfl,rfl⟩:=hx
      refine ⟨rfl,rfl,?_,by simp[ec,h2],by simp[ec,h2,aZ.wr],rfl⟩
      funext k
      simp only[ES.V,aZ.view,View.set]
      rw[bO.jX _ _ _ _ _ _ (wZ hb),h2]
      have:=congrFun h1 k
      simp only[ES.V] at this
      rw[this]
    · simp at hx
  | dM id o =>
    simp only at hx
    split at hx
    · rename_i hb
      simp only[Option.some.injEq,Prod.mk.injEq] at hx
      obtain ⟨rfl,rfl,rfl⟩:=hx
      refine ⟨rfl,rfl,?_,by simp[ec,h2],by simp[ec,h2,aZ.wr],rfl⟩
      funext k
      simp only[ES.V,aZ.view,View.set]
      rw[bO.jX _ _ _ _ _ _ (wZ hb)]
      have:=congrFun h1 k
      simp only[ES.V] at this
      rw[this]
    · simp at hx
  | ak id o =>
    simp only at hx
    split at hx
    · rename_i hb1 hb2
      simp only[Option.some.injEq,Prod.mk.injEq] at hx
      obtain ⟨rfl,rfl,rfl⟩:=hx
      refine ⟨rfl,rfl,?_,by simp[ec,h2],by simp[ec,h2,aZ.wr],rfl⟩
      funext k
      simp only[ES.V,aZ.view,View.set]
      rw[bO.jX _ _ _ _ _ _ (wZ hb1),bO.jX _ _ _ _ _ _ (wZ hb2),h2]
      have:=congrFun h1 k
      simp only[ES.V] at this
      rw[this]
    · simp at hx
theorem Jr {o:Oper} {e e':ES} {h:aE} {s:SI} {v:V} {c:Rec} (hg:cm n all e.T o=some true) (hc:∀ v az rd,sI P s e.T h.view h.length=some (v,az,rd)→bJ P o e.T h.view h.length=some (v,az,rd))
    (he:fv h e) (hx:EA P s e=some (v,e',c)):∃ h',cM P n all o e.T h v h' c.rd c.wr c.call∧fv h' e'∧e'.T=e.T∧Calm e e' h h'∧im (pz P s) c.rd c.wr c.call h.length h'.length∧c.lo=h.length∧c.hi=h'.length:=by
  unfold EA at hx
  rw[DW,he.1,he.2] at hx
  split at hx
  · rename_i v0 az rd hs
    obtain ⟨rfl,g1,g2,g3,rfl,g5⟩:=IP he hx
    have ha:=hc _ _ _ hs
    have st:=cM.op (P:=P) (n:=n) (all:=all) hg ha
    refine ⟨az.apply h,st,⟨?_,g3⟩,g1,⟨po st,fun id hid hw=>?_⟩,⟨fun h0=>?_,fun h1=>?_⟩,rfl,rfl⟩
    · rw[iD (fun id hid=>(jI ha id hid).1)]; exact g2
    · rw[g5] at hw
      simp only[List.mem_append,not_or] at hw
      exact ⟨nJ st hid hw.1,hw.2⟩
    · obtain ⟨rfl,rfl⟩:=(oh hs).1 h0
      exact ⟨rfl,rfl,rfl,rfl⟩
    · rcases Nat.lt_or_ge (pz P s) 1 with h2 | h2
      · obtain ⟨rfl,rfl⟩:=(oh hs).1 (by omega); rfl
      · exact (oh hs).2 (by omega)
  · simp at hx
theorem JK {call:fa} (hcall:gX P call) {fz:Fz} {o:Oper} {e e':ES} {h:aE} {v:V} {c:Rec} (hg:cm n all e.T o=some true) (he:fv h e) (hx:eB P call (ky P fz o) e=some (v,e',c)) :
    ∃ h',cM P n all o e.T h v h' c.rd c.wr c.call∧fv h' e'∧e'.T=e.T∧Calm e e' h h'∧im (fF P false (ky P fz o)) c.rd c.wr c.call h.length h'.length∧c.lo=h.length∧c.hi=h'.length:=by
  rcases vf P fz o with ⟨f,args,ats,ho,hc⟩ | ⟨t,x,ho,hc⟩ | ⟨s,d,x,ho,hcv,hc⟩ | hc
  · rw[hc] at hx ⊢
    simp only[eB,EV] at hx
    split at hx
    · rename_i g first cap hf
      rw[AS] at hx
      rw[SX.bQ] at hf
      split at hx
      · rename_i v0 e0 hv
        obtain ⟨hok,h',hr,hek,hd,hd2⟩:=hcall _ _ _ _ _ _ hv he
        simp only[Option.some.injEq,Prod.mk.injEq] at hx
        obtain ⟨rfl,rfl,rfl⟩:=hx
        exact ⟨h',.call hg ho hf hok hr hd hd2,hek,rfl,⟨hr.1,fun id hid hw=>by
          simp only[List.mem_append,not_or] at hw
          exact ⟨hd id hid hw.1,hw.2⟩⟩,HI (by simp[fF]),he.2,hek.2⟩
      · simp at hx
    · simp at hx
  · rw[hc] at hx ⊢
    simp only[eB,EA,DW,sI,SX.bQ] at hx
    split at hx
    · rename_i v0 az rd hs
      split at hs
      · rename_i hok
        simp only[Option.some.injEq,Prod.mk.injEq] at hs
        obtain ⟨rfl,rfl,rfl⟩:=hs
        simp only[Bz,Option.some.injEq,Prod.mk.injEq] at hx
        obtain ⟨rfl,rfl,rfl⟩:=hx
        exact ⟨h,.er hg ho hok,he,rfl,Calm.refl _ _,⟨fun _=>⟨rfl,rfl,rfl,rfl⟩,fun _=>rfl⟩,he.2,he.2⟩
      · simp at hs
    · simp at hx
  · rw[hc] at hx ⊢
    obtain ⟨ty,h1,h2,h3⟩:=vd hcv
    simp only[eB,EA,DW,sI,SX.bQ] at hx
    split at hx
    · rename_i v0 az rd hs
      split at hs
      · rename_i st hst
        simp only[Option.some.injEq,Prod.mk.injEq] at hs
        obtain ⟨rfl,rfl,rfl⟩:=hs
        simp only[Bz,Option.some.injEq,Prod.mk.injEq] at hx
        obtain ⟨rfl,rfl,rfl⟩:=hx
        exact ⟨h,.eh hg ho h1 h2 h3 hst,he,rfl,Calm.refl _ _,⟨fun _=>⟨rfl,rfl,rfl,rfl⟩,fun _=>rfl⟩,he.2,he.2⟩
      · simp at hs
    · simp at hx
  · rw[hc] at hx ⊢
    exact Jr (s:=tq P fz.fr (comp P o)) hg (fun v az rd hs=>CF (Ct hs)) he hx
theorem Jf {o:Oper} (hd:nI n o=true) (hn:n≤8000):∀ t,o.dst=some t→t < 8000:=by
  intro t ht
  unfold nI at hd
  rw[ht] at hd
  have:t < n:=by simpa using hd
  exact Nat.lt_of_lt_of_le this hn
theorem IM {c:Rec} {a b:Nat} (h1:c.lo=a) (h2:c.hi=b):c=⟨c.rd,c.wr,c.call,a,b⟩:=by cases c; subst h1; subst h2; rfl
theorem AQ {call:fa} (hcall:gX P call) (hn:n≤8000) {fz:Fz} (g:Option (Nat × Bool)):∀ (l:List (Option Nat × SB)) (os:List Oper) (e e':ES) (h:aE) (a a':List Rec),
    cw P n all fz os=some (l.map fun (d,b)=>⟨d,g,b⟩)→(∀ d w,g=some (d,w)→e.T d=.val (.bool w)∧(l.all fun x=>x.1 != some d)=true)→fv h e→Cx P call l a e=some (e',a') →
    ∃ recs h',a'=a ++ recs∧Tr P n all os e.T h recs e'.T h'∧fv h' e'∧Calm e e' h h'∧dS P false (l.map fun (d,b)=>⟨d,g,b⟩) recs
  | [],os,e,e',h,a,a',hc,hg,he,hx=>by
    have:=iL hc; subst this
    simp only[Cx,Option.some.injEq,Prod.mk.injEq] at hx; obtain ⟨rfl,rfl⟩:=hx
    exact ⟨[],h,by simp,.nil,he,Calm.refl _ _,.nil⟩
  | (d,b) :: l,os,e,e',h,a,a',hc,hg,he,hx=>by
    obtain ⟨o,r,rfl,h1,h2⟩:=jb hc
    obtain ⟨hd,hd1,hb1,hg1⟩:=pI h1
    simp only at hd1 hb1 hg1
    have hgv:cm n all e.T o=some true:=by
      cases g with
      | none=>exact wK hg1
      | some p =>
        obtain ⟨d',w⟩:=p
        have:=(iy (T:=e.T) hg1).1 w (hg d' w rfl).1
        rw[this]; simp
    simp only[Cx] at hx
    rw[hb1] at hx
    split at hx
    · rename_i v e1 c hv
      obtain ⟨h1',st,he1,hT1,hcm,hl,hlo,hhi⟩:=JK hcall hgv he hv
      have hput:(e1.put d v).T=e.T.put o.dst v:=by
        rw[ES.HS (by rw[hd1]; exact Jf hd hn),hT1,hd1]
      obtain ⟨recs,h'',ha,tr,he2,hcm2,hro⟩:=AQ hcall hn g l r (e1.put d v) e' h1' _ a' h2 (fun d' w eq=>by
        have:=hg d' w eq
        simp only[List.all_cons,Bool.and_eq_true,bne_iff_ne,ne_eq] at this
        refine ⟨?_,this.2.2⟩
        rw[← this.1,hput,← hd1]
        cases d with
        | none=>rfl
        | some t=>simp only[Env.put]; rw[if_neg]; intro e; subst e; exact this.2.1 rfl) (FA he1) hx
      rw[hput] at tr
      refine ⟨_,h'',?_,.cons st hd tr,he2,(GR hcm).trans hcm2,hro.cons (by rw[hb1]; exact hl)⟩
      rw[ha,List.append_assoc,← IM hlo hhi]; rfl
    · simp at hx
theorem Bp {fz:Fz} (hn:n≤8000) (d:Nat) (w:Bool) (h:aE):∀ (l:List (Option Nat × SB)) (os:List Oper) (e e':ES) (a a':List Rec),
    cw P n all fz os=some (l.map fun (d',b)=>⟨d',some (d,w),b⟩)→(e.T d=.val (.bool !w)∨e.T d=.bt [])→(l.all fun x=>x.1 != some d)=true→fv h e→rY l a e=(e',a') →
    ∃ recs,a'=a ++ recs∧Tr P n all os e.T h recs e'.T h∧fv h e'∧e'.w=e.w∧dS P false (l.map fun (d',b)=>⟨d',some (d,w),b⟩) recs
  | [],os,e,e',a,a',hc,hd,hl,he,hx=>by
    have:=iL hc; subst this
    simp only[rY,Prod.mk.injEq] at hx; obtain ⟨rfl,rfl⟩:=hx
    exact ⟨[],by simp,.nil,he,rfl,.nil⟩
  | (d',b) :: l,os,e,e',a,a',hc,hd,hl,he,hx=>by
    obtain ⟨o,r,rfl,h1,h2⟩:=jb hc
    obtain ⟨hd0,hd1,hb1,hg1⟩:=pI h1
    simp only at hd1 hb1 hg1
    have hgv:cm n all e.T o=some false:=by
      rcases hd with hd | hd
      · rw[(iy (T:=e.T) hg1).1 _ hd]; cases w <;> rfl
      · exact (iy (T:=e.T) hg1).2 hd
    simp only[List.all_cons,Bool.and_eq_true,bne_iff_ne,ne_eq] at hl
    have hput:(e.put d' (.bt [])).T=e.T.put o.dst (.bt []):=by
      rw[ES.HS (by rw[hd1]; exact Jf hd0 hn),hd1]
    simp only[rY] at hx
    obtain ⟨recs,ha,tr,he2,hd2,hro⟩:=Bp hn d w h l r (e.put d' (.bt [])) e' _ a' h2 (by
      have:(e.put d' (.bt [])).T d=e.T d:=by
        rw[hput,← hd1]
        cases d' with
        | none=>rfl
        | some t=>simp only[Env.put]; rw[if_neg]; intro e; subst e; exact hl.1 rfl
      rw[this]; exact hd) hl.2 (FA he) hx
    rw[hput] at tr
    refine ⟨_,?_,Tr.cons (.skip hgv) hd0 tr,he2,by rw[hd2,HV],hro.cons (r:=⟨[],[],false,h.length,h.length⟩) ⟨fun _=>⟨rfl,rfl,rfl,rfl⟩,fun _=>rfl⟩⟩
    rw[ha,List.append_assoc,HU,he.2]; rfl
theorem yZ {fz:Fz} (hn:n≤8000) {d:Nat} {w:Bool} {h:aE} {l:List (Option Nat × SB)} {os:List Oper} {e e':ES} {a a':List Rec}
    (hc:cw P n all fz os=some (l.map fun (d',b)=>⟨d',some (d,w),b⟩)) (hd:e.T d=.val (.bool !w)∨e.T d=.bt []) (hl:(l.all fun x=>x.1 != some d)=true) (he:fv h e) (hx:rY l a e=(e',a')) :
    ∃ recs h',a'=a ++ recs∧Tr P n all os e.T h recs e'.T h'∧fv h' e'∧Calm e e' h h'∧dS P false (l.map fun (d',b)=>⟨d',some (d,w),b⟩) recs:=by
  obtain ⟨recs,h1,h2,h3,h4,h5⟩:=Bp hn d w h l os e e' a a' hc hd hl he hx
  exact ⟨recs,h,h1,h2,h3,⟨Nat.le_refl _,fun id _ hw=>⟨rfl,by rw[h4] at hw; exact hw⟩⟩,h5⟩
theorem JG {call:fa} (hcall:gX P call) (hn:n≤8000) {fz:Fz} {g:SG} {os:List Oper} {e e':ES} {h:aE} {a a':List Rec} (hc:cw P n all fz os=some g.flat) (hok:pE g=true) (he:fv h e) (hx:eG P call g a e=some (e',a')) :
    ∃ recs h',a'=a ++ recs∧Tr P n all os e.T h recs e'.T h'∧fv h' e'∧Calm e e' h h'∧dS P false g.flat recs:=by
  unfold eG at hx
  unfold SG.flat at hc ⊢
  unfold pE at hok
  split at hx
  · rename_i hg
    rw[hg] at hc ⊢
    exact AQ hcall hn none g.ops os e e' h a a' hc (fun d w e=>by simp at e) he hx
  · rename_i d want hg
    rw[hg] at hc hok ⊢
    simp only at hok
    unfold E9 at hx
    split at hx
    · rename_i b hb
      split at hx
      · rename_i hxor
        simp only[Option.some.injEq] at hx
        have e':b = !want:=by cases b <;> cases want <;> simp_all
        subst e'
        exact yZ hn hc (.inl hb) hok he hx
      · rename_i hxor
        have e':b=want:=by cases b <;> cases want <;> simp_all
        subst e'
        exact AQ hcall hn (some (d,b)) g.ops os e _ h a a' hc (fun d' w e=>by simp at e; obtain ⟨rfl,rfl⟩:=e; exact ⟨hb,hok⟩) he hx
    · rename_i hb
      simp only[Option.some.injEq] at hx
      exact yZ hn hc (.inr hb) hok he hx
    · simp at hx
theorem E8 {call:fa} (hcall:gX P call) (hn:n≤8000) {fz:Fz} : ∀ (gs:List SG) (os:List Oper) (e e':ES) (h:aE) (a a':List Rec),cw P n all fz os=some (gL gs)→gs.all pE=true→fv h e→Gf P call gs a e=some (e',a') →
    ∃ recs h',a'=a ++ recs∧Tr P n all os e.T h recs e'.T h'∧fv h' e'∧Calm e e' h h'∧dS P false (gL gs) recs
  | [],os,e,e',h,a,a',hc,_,he,hx=>by
    have:=iL hc; subst this
    simp only[Gf,Option.some.injEq,Prod.mk.injEq] at hx; obtain ⟨rfl,rfl⟩:=hx
    exact ⟨[],h,by simp,.nil,he,Calm.refl _ _,.nil⟩
  | g :: gs,os,e,e',h,a,a',hc,hok,he,hx=>by
    simp only[gL,List.map_cons,List.flatten_cons] at hc ⊢
    simp only[List.all_cons,Bool.and_eq_true] at hok
    obtain ⟨o1,o2,rfl,h1,h2⟩:=m5 hc
    simp only[Gf] at hx
    split at hx
    · rename_i e1 a1 hx1
      obtain ⟨r1,h1',ha1,tr1,he1,hc1,ro1⟩:=JG hcall hn h1 hok.1 he hx1
      obtain ⟨r2,h2',ha2,tr2,he2,hc2,ro2⟩:=E8 hcall hn gs o2 e1 e' h1' a1 a' h2 hok.2 he1 hx
      exact ⟨_,h2',by rw[ha2,ha1,List.append_assoc],tr1.append tr2,he2,hc1.trans hc2,ro1.append ro2⟩
    · simp at hx
theorem Fi {ls:List Nat} {i k x y:Nat} (hik:i < k) (hx:ls[i]?=some x) (hy:ls[k]?=some y) (ho:ordered (dH all []) i k=false) (h:¬ (x=0∨y=0∨(x≤1∧y≤1))):(i,k)∈xJ all ls:=by
  unfold xJ
  simp only[List.mem_flatten,List.mem_map]
  refine ⟨_,⟨(x,i),by rw[List.mem_zipIdx_iff_getElem?]; exact hx,rfl⟩,?_⟩
  simp only[List.mem_map,List.mem_filter]
  refine ⟨(y,k),⟨by rw[List.mem_zipIdx_iff_getElem?]; exact hy,?_⟩,rfl⟩
  simp only[hik,decide_true,ho,Bool.false_or,Bool.true_and,Bool.not_eq_true',Bool.or_eq_false_iff,beq_eq_false_iff_ne,Bool.and_eq_false_iff,decide_eq_false_iff_not]
  omega
theorem Gz {ls:List Nat} {recs:List Rec} (h:FL recs (xJ all ls)=true) (hl:ls.length=recs.length) (hr:∀ (i x:Nat) (r:Rec),ls[i]?=some x→recs[i]?=some r→im x r.rd r.wr r.call r.lo r.hi):pY all recs:=by
  intro i k a b hik ha hb ho
  have hi:i < recs.length:=(List.getElem?_eq_some_iff.1 ha).1
  have hk:k < recs.length:=(List.getElem?_eq_some_iff.1 hb).1
  have hx:ls[i]?=some (ls[i]'(by omega)):=List.getElem?_eq_getElem (by omega)
  have hy:ls[k]?=some (ls[k]'(by omega)):=List.getElem?_eq_getElem (by omega)
  generalize ls[i]'(by omega)=x at hx
  generalize ls[k]'(by omega)=y at hy
  have la:=hr i _ a hx ha
  have lb:=hr k _ b hy hb
  by_cases hc:x=0∨y=0∨(x≤1∧y≤1)
  · rcases hc with h1 | h1 | h1
    · obtain ⟨e1,e2,e3,e4⟩:=la.1 h1
      exact ⟨fun id hid=>by simp[e2] at hid,fun id _=>by simp[e1],fun hc=>by simp[e3] at hc,fun _=>e2,fun id _ hx=>by omega⟩
    · obtain ⟨e1,e2,e3,e4⟩:=lb.1 h1
      exact ⟨fun id _=>by simp[e1],fun id hid=>by simp[e2] at hid,fun _=>e2,fun hc=>by simp[e3] at hc,fun id hid=>by simp[e2] at hid⟩
    · have e1:=la.2 h1.1
      have e2:=lb.2 h1.2
      exact ⟨fun id hid=>by simp[e1] at hid,fun id hid=>by simp[e2] at hid,fun _=>e2,fun _=>e1,fun id hid=>by simp[e2] at hid⟩
  · have:=List.all_eq_true.1 h _ (Fi hik hx hy ho hc)
    simp only[ha,hb] at this
    exact F4 this
theorem IC (hm:P.follows .mixedOrders=true) {call:fa} (hcall:gX P call) (hn:n≤8000) {fz:List Nat} {id:Nat} {ops:Array Oper} {draw:Bool} {sc:DC} {run:sn} {e e':ES} {r:Exit} {h:aE}
    (hc:Ah P n fz ops.toList draw=some sc) (he:fv h e) (hx:ju P call run sc e=some (r,e')) :
    ∃ h',ch P n (.region id ops draw) e.T h r e'.T h'∧fv h' e'∧Calm e e' h h':=by
  unfold Ah at hc
  split at hc
  · simp at hc
  · rename_i l hl
    split at hc
    · simp at hc
    · rename_i hok
      have hok:(group l).all pE=true:=by simpa using hok
      have hl':cw P n ops.toList ⟨fz,false⟩ ops.toList=some (gL (group l)):=by rw[dX]; exact hl
      have key:∀ ps,ju P call run (.region ps (group l)) e=some (r,e')→(draw=true→jd ops.toList=true∧ps=xJ ops.toList (l.map fun s=>fF P false s.b)) →
          ∃ h',ch P n (.region id ops draw) e.T h r e'.T h'∧fv h' e'∧Calm e e' h h':=by
        intro ps hx hdr
        simp only[ju,Cl] at hx
        split at hx
        · rename_i e1 recs0 hx1
          split at hx
          · rename_i hchk
            simp only[Option.some.injEq,Prod.mk.injEq] at hx
            obtain ⟨rfl,rfl⟩:=hx
            obtain ⟨recs,h',ha,tr,hk,hcm,hro⟩:=E8 hcall hn (group l) ops.toList e e1 h [] recs0 hl' hok he hx1
            simp only[List.nil_append] at ha
            subst ha
            rw[dX] at hro
            refine ⟨h',?_,hk,hcm⟩
            cases hd:draw with
            | false=>simpa using Aa (id:=id) tr
            | true =>
              obtain ⟨h1,rfl⟩:=hdr hd
              have hcf:pY ops.toList recs0:=Gz hchk (by simpa using hro.1) (fun i x r hx hr=>by
                simp only[List.getElem?_map,Option.map_eq_some_iff] at hx
                obtain ⟨s,hs,rfl⟩:=hx
                exact hro.2 i s r hs hr)
              simpa using th hm (id:=id) tr h1 hcf
          · simp at hx
        · simp at hx
      split at hc
      · rename_i hd
        split at hc
        · rename_i ht
          simp at hc; subst hc
          exact key _ hx (fun _=>⟨ht,rfl⟩)
        · simp at hc
      · rename_i hd
        simp at hc; subst hc
        exact key _ hx (fun e=>absurd e hd)
theorem Hf (hm:P.follows .mixedOrders=true) {call:fa} (hcall:gX P call) {run:sn} (hrun:rU P run):rU P (ju P call run):=by
  intro n fz c sc hc hn e e' r h hx he
  cases c with
  | skip =>
    simp[fJ] at hc; subst hc
    simp only[ju,FG,Option.some.injEq,Prod.mk.injEq] at hx
    obtain ⟨rfl,rfl⟩:=hx
    exact ⟨h,.skip,he,Calm.refl _ _,fun _ h=>by simp at h⟩
  | region id ops draw =>
    obtain ⟨h',a,b,d⟩:=IC (id:=id) hm hcall hn hc he hx
    exact ⟨h',a,b,d,fun _ h=>by simp at h⟩
  | seq x y =>
    simp only[fJ] at hc
    split at hc
    · rename_i a b h1 h2
      simp at hc; subst hc
      simp only[ju,I8] at hx
      split at hx
      · rename_i e1 hx1
        obtain ⟨h1',x1,he1,c1,l1⟩:=hrun n fz x a h1 hn e e1 .normal h hx1 he
        obtain ⟨h2',x2,he2,c2,l2⟩:=hrun n fz y b h2 hn e1 e' r h1' hx he1
        exact ⟨h2',x1.seq x2,he2,c1.trans c2,fun _ h=>by simp at h⟩
      · rename_i hne
        obtain ⟨h1',x1,he1,c1,l1⟩:=hrun n fz x a h1 hn e e' r h hx he
        refine ⟨h1',x1.CX (fun e=>?_),he1,c1,fun _ h=>by simp at h⟩
        subst e
        exact absurd hx (hne e')
    · simp at hc
  | cond cc x y =>
    simp only[fJ] at hc
    split at hc
    · rename_i a b h1 h2
      simp at hc; subst hc
      simp only[ju,HX,SX.bQ] at hx
      split at hx
      · rename_i ht
        obtain ⟨h1',x1,he1,c1,l1⟩:=hrun n fz x a h1 hn e e' r h hx he
        exact ⟨h1',.cond ht x1,he1,c1,fun _ h=>by simp at h⟩
      · rename_i ht
        obtain ⟨h1',x1,he1,c1,l1⟩:=hrun n fz y b h2 hn e e' r h hx he
        exact ⟨h1',.cond ht x1,he1,c1,fun _ h=>by simp at h⟩
      · simp at hx
    · simp at hc
  | block id c =>
    simp only[fJ,Option.map_eq_some_iff] at hc
    obtain ⟨a,h1,rfl⟩:=hc
    simp only[ju,Fy] at hx
    split at hx
    · rename_i r1 e1 hx1
      simp only[Option.some.injEq,Prod.mk.injEq] at hx
      obtain ⟨rfl,rfl⟩:=hx
      obtain ⟨h1',x1,he1,c1,l1⟩:=hrun n fz c a h1 hn e e1 r1 h hx1 he
      exact ⟨h1',x1.block,he1,c1,fun _ h=>by simp at h⟩
    · simp at hx
  | loop c =>
    have hc0:=hc
    simp only[fJ,Option.map_eq_some_iff] at hc
    obtain ⟨a,h1,rfl⟩:=hc
    simp only[ju,HH] at hx
    split at hx
    · rename_i e1 hx1
      obtain ⟨h1',x1,he1,c1,l1⟩:=hrun n fz c a h1 hn e e1 .normal h hx1 he
      obtain ⟨h2',x2,he2,c2,l2⟩:=hrun n fz (.loop c) (.loop a) hc0 hn e1 e' r h1' hx he1
      have hL:=l0.step x1 (l2 c rfl)
      exact ⟨h2',.loop hL,he2,c1.trans c2,fun c0 h0=>by simp only[Code.loop.injEq] at h0; subst h0; exact hL⟩
    · rename_i hne
      obtain ⟨h1',x1,he1,c1,l1⟩:=hrun n fz c a h1 hn e e' r h hx he
      have hL:=l0.out x1 (fun e=>by subst e; exact absurd hx (hne e'))
      exact ⟨h1',.loop hL,he1,c1,fun c0 h0=>by simp only[Code.loop.injEq] at h0; subst h0; exact hL⟩
  | exit id =>
    simp[fJ] at hc; subst hc
    simp only[ju,Option.some.injEq,Prod.mk.injEq] at hx
    obtain ⟨rfl,rfl⟩:=hx
    exact ⟨h,.exit,he,Calm.refl _ _,fun _ h=>by simp at h⟩
  | ret =>
    simp[fJ] at hc; subst hc
    simp only[ju,Option.some.injEq,Prod.mk.injEq] at hx
    obtain ⟨rfl,rfl⟩:=hx
    exact ⟨h,.ret,he,Calm.refl _ _,fun _ h=>by simp at h⟩
  | _=>simp[fJ] at hc
theorem yL:∀ (vs:List V) (i:Nat) (t:bO V),i+vs.length≤8000→∀ k,(j7 vs i t).get .any k=if i≤k∧k < i+vs.length then vs.getD (k - i) .any else t.get .any k
  | [],i,t,h,k=>by
    rw[j7,if_neg (by simp only[List.length_nil]; omega)]
  | v :: vs,i,t,h,k=>by
    simp only[List.length_cons] at h
    rw[j7,yL vs (i+1) _ (by omega),bO.jX _ _ _ _ _ _ (by simp only[deep]; omega)]
    simp only[List.length_cons]
    by_cases h1:k=i
    · subst h1; rw[if_neg (by omega),if_pos rfl,if_pos (by omega)]; simp
    · by_cases h2:i+1≤k∧k < i+1+vs.length
      · rw[if_pos h2,if_pos (by omega)]
        have:k - i=(k - (i+1))+1:=by omega
        rw[this]; rfl
      · rw[if_neg h2,if_neg h1,if_neg (by omega)]
theorem BZ (vs:List V) (h:vs.length≤8000):(j7 vs 0 .nil).get .any=iq vs:=by
  funext k
  rw[yL vs 0 .nil (by omega)]
  simp only[iq,Nat.zero_le,true_and,Nat.zero_add,Nat.sub_zero]
  split
  · rfl
  · rename_i hk
    rw[List.getD_eq_getElem?_getD,List.getElem?_eq_none (by omega)]; rfl
theorem Iq {e:ES} {h:aE} {r:ResultVar} {rest:List ResultVar} {l:List SR} (he:fv h e) (hc:dJ P (r :: rest)=some l):∃ s l',l=s :: l'∧dJ P rest=some l'∧∀ v,GZ s e=some v→oQ P e.T h r=some v:=by
  cases r with
  | tmp t =>
    simp only[dJ,Option.map_eq_some_iff] at hc
    obtain ⟨l',h1,rfl⟩:=hc
    exact ⟨.tmp t,l',rfl,h1,fun v hv=>hv⟩
  | cell a t =>
    simp only[dJ] at hc
    split at hc
    · rename_i k l' h1 h2
      simp at hc; subst hc
      refine ⟨.cell a k,l',rfl,h2,fun v hv=>?_⟩
      simp only[GZ] at hv
      simp only[oQ,jt,q9 h1]
      rw[he.1] at hv
      split at hv
      · rename_i id i j ha
        split at hv
        · rename_i es hH
          split at hv
          · rename_i hlt
            rw[ha]; simp only[hH]; rw[if_pos hlt,hv]; rfl
          · simp at hv
        · simp at hv
      · rename_i e j ha
        rw[ha]; simp only; rw[hv]; rfl
      · simp at hv
    · simp at hc
theorem Av {e:ES} {h:aE} (he:fv h e):∀ (rs:List ResultVar) (l:List SR) (vs:List V),dJ P rs=some l→sg l e=some vs→iZ P e.T h rs=some vs
  | [],l,vs,hc,hw=>by simp[dJ] at hc; subst hc; simp[sg] at hw; subst hw; rfl
  | r :: rest,l,vs,hc,hw=>by
    obtain ⟨s,l',rfl,h1,h2⟩:=Iq (e:=e) (h:=h) he hc
    simp only[sg] at hw
    split at hw
    · rename_i v vs' hv hvs
      simp at hw; subst hw
      simp[iZ,h2 v hv,Av he rest l' vs' h1 hvs]
    · simp at hw
def uD (P:Program) (tab:List (FuncId × DF)):Prop:=∀ p∈tab,∃ fz,bz P p.1 fz=some p.2
def rj (P:Program) (ext:vH):Prop:=∀ g vs t,ext g vs=some t→cp P g=true∧aC P g vs t
theorem Aj {tab:List (FuncId × DF)} {ext:vH} (ht:uD P tab) (hx:rj P ext) {run:sn} (hrun:rU P run):gX P (zP P tab ext run):=by
  intro g vs e v e' h hcall he
  unfold zP at hcall
  split at hcall
  · rename_i t hext
    simp only[Option.some.injEq,Prod.mk.injEq] at hcall
    obtain ⟨rfl,rfl⟩:=hcall
    obtain ⟨h1,h2⟩:=hx _ _ _ hext
    exact ⟨h1,h,bL.fj h2 h,he,fun _ _ _=>rfl,fun _ hw=>by simp at hw⟩
  · split at hcall
    · rename_i g' F hf
      have hmem:=List.mem_of_find?_eq_some hf
      have hgg:g'=g:=by
        have:=List.find?_some hf
        exact Nat.eq_of_beq_eq_true this
      subst hgg
      obtain ⟨fz,hF⟩:=ht _ hmem
      simp only at hF
      unfold bz at hF
      split at hF
      · rename_i fn hfn
        split at hF
        · rename_i c hb
          split at hF
          · rename_i sc rs h1 h2 h3
            simp at hF; subst hF
            refine ⟨h3,?_⟩
            unfold Js at hcall
            split at hcall
            · rename_i hlen hn
              have hlen:=Nat.le_of_ble_eq_true hlen
              have hn:=Nat.le_of_ble_eq_true hn
              simp only at hlen hn
              unfold IW at hcall
              split at hcall
              · rename_i v1 e1' hend
                simp only[Option.some.injEq,Prod.mk.injEq] at hcall
                obtain ⟨rfl,rfl⟩:=hcall
                unfold I7 at hend
                have go:∀ (r:Exit) (e1:ES),(r=.ret∨r=.normal)→run sc ⟨j7 vs 0 .nil,e.H,e.n,[]⟩=some (r,e1)→(sg rs e1).map (fun vs=>(ah vs,e1))=some (v1,e1') →
                    ∃ h',bL P g' vs h v1 h'∧fv h' e1'∧(∀ id,id < h.length→¬ id∈e1'.w→h'.view id=h.view id):=by
                  intro r e1 hr hrn hres
                  simp only[Option.map_eq_some_iff,Prod.mk.injEq] at hres
                  obtain ⟨vs',hvs,rfl,rfl⟩:=hres
                  obtain ⟨h',hx,he1,hc1,_⟩:=hrun fn.ntmps fz c sc h1 hn _ e1 r h hrn he
                  have hT:(ES.T ⟨j7 vs 0 .nil,e.H,e.n,[]⟩)=iq vs:=BZ vs (by omega)
                  rw[hT] at hx
                  refine ⟨h',bL.CM hfn hb hlen hx (by rcases hr with rfl | rfl <;> simp) ?_,he1,fun id hid hw=>(hc1.2 id hid hw).1⟩
                  unfold DX
                  rw[Av he1 _ _ _ h2 hvs]
                  cases vs' with
                  | nil=>rfl
                  | cons a l=>cases l <;> rfl
                have done:(∃ h',bL P g' vs h v1 h'∧fv h' e1'∧(∀ id,id < h.length→¬ id∈e1'.w→h'.view id=h.view id)) →
                    ∃ h',bL P g' vs h v1 h'∧fv h' ⟨e1'.L,e1'.H,e1'.n,e1'.w.filter fun id=>Nat.blt id e.n⟩∧(∀ id,id < h.length→¬ id∈e1'.w.filter (fun id=>Nat.blt id e.n)→h'.view id=h.view id)∧∀ id,id∈e1'.w.filter (fun id=>Nat.blt id e.n)→id < h.length:=by
                  rintro ⟨h',k1,k2,k3⟩
                  refine ⟨h',k1,k2,fun id hid hw=>k3 id hid (fun hm=>hw ?_),fun id hw=>?_⟩
                  · rw[List.mem_filter]
                    exact ⟨hm,by rw[he.2]; exact Nat.ble_eq_true_of_le hid⟩
                  · rw[List.mem_filter] at hw
                    have:=Nat.le_of_ble_eq_true hw.2
                    rw[he.2] at this; exact this
                split at hend
                · rename_i e1 hrn; exact done (go _ _ (.inl rfl) hrn hend)
                · rename_i e1 hrn; exact done (go _ _ (.inr rfl) hrn hend)
                · simp at hend
              · simp at hcall
            · simp at hcall
          · simp at hF
        · simp at hF
      · simp at hF
    · simp at hcall
theorem Ck (hm:P.follows .mixedOrders=true) {tab:List (FuncId × DF)} {ext:vH} (ht:uD P tab) (hx:rj P ext):∀ k,rU P (AN P tab ext k)
  | 0=>fun n fz c sc hc hn e e' r h hr he=>by simp[AN] at hr
  | k+1=>by
    have ih:=Ck hm ht hx k
    have:=Hf hm (Aj ht hx ih) ih
    exact this
end
end Gv
