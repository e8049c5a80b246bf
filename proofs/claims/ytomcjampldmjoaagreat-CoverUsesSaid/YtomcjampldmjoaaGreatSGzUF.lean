/-
  Part 6 of the proof: what the machine does and what the functions answer.
  Conditions: those that each lemma names.
-/
import Derived.Test.YtomcjampldmjoaaGreatSGzUE
set_option linter.unusedSimpArgs false
set_option linter.unusedVariables false
set_option linter.unusedSimpArgs false
set_option maxRecDepth 100000
namespace Gv
open Go Go.Proofs
def ep (l:List Int) (is:List Bool) (ay:Bool):Bool:=l.all fun s=>if 0≤s then ay else is.getD (-1 - s).toNat false
end Gv
set_option linter.unusedSimpArgs false
set_option maxRecDepth 100000
namespace Gv
open Go Go.Proofs
abbrev gy (x:Int):V:=.val (.int .u8 x)
def qV (c:Int):Bool:=(decide (97≤c) && decide (c≤122)) || (decide (65≤c) && decide (c≤90)) || c == 95
def kD (c:Int):Bool:=qV c || (decide (48≤c) && decide (c≤57)) || c == 46
def lG:SF:=⟨.seq (ak [aW 2 false]) <|
  .seq (.region false [⟨none,[aa 3 0,((some 4),.op (.arith .geq (.tmp 3) (.val (.val (.int .u8 97))))),aa 5 4]⟩,⟨(some (5,true)),[aa 6 0,((some 7),.op (.arith .leq (.tmp 6) (.val (.val (.int .u8 122)))))]⟩,⟨none,[bI 8 5 7,aa 9 8]⟩,⟨(some (9,false)),[aa 10 0,((some 11),.op (.arith .geq (.tmp 10) (.val (.val (.int .u8 65))))),aa 12 11]⟩,⟨(some (12,true)),[aa 13 0,((some 14),.op (.arith .leq (.tmp 13) (.val (.val (.int .u8 90)))))]⟩,⟨(some (9,false)),[bI 15 12 14]⟩,⟨none,[bC 16 9 15,aa 17 16]⟩,⟨(some (17,false)),[aa 18 0,((some 19),.op (.arith .eql (.tmp 18) (.val (.val (.int .u8 95)))))]⟩,⟨none,[bC 20 17 19,aa 2 20]⟩]) <|
  .ret,
  [.tmp 2],21⟩
theorem qx:aV Tryz.prog 192 []=some lG:=by kernel_rfl
def lM:SF:=⟨.seq (ak [aW 2 false]) <|
  .seq (.region false [⟨none,[aa 3 0,aK 4 192 [3],aa 5 4]⟩,⟨(some (5,false)),[aa 6 0,((some 7),.op (.arith .geq (.tmp 6) (.val (.val (.int .u8 48))))),aa 8 7]⟩,⟨(some (8,true)),[aa 9 0,((some 10),.op (.arith .leq (.tmp 9) (.val (.val (.int .u8 57)))))]⟩,⟨(some (5,false)),[bI 11 8 10]⟩,⟨none,[bC 12 5 11,aa 13 12]⟩,⟨(some (13,false)),[aa 14 0,((some 15),.op (.arith .eql (.tmp 14) (.val (.val (.int .u8 46)))))]⟩,⟨none,[bC 16 13 15,aa 2 16]⟩]) <|
  .ret,
  [.tmp 2],17⟩
theorem qz:aV Tryz.prog 193 []=some lM:=by kernel_rfl
theorem JU (c:Int) (H:View):aB Tryz.prog 192 [gy c] H fun r H'=>r=gb (qV c)∧H'=H:=by
  refine aB.of mixed qx ?_
  repeat' (first | (refine an.dec (fun _=>?_) (fun _=>?_)) | (refine an.eq (fun _=>?_) (fun _=>?_)) | (refine an.ne (fun _=>?_) (fun _=>?_)) | (refine an.split (fun _=>?_) (fun _=>?_)) | (simp (disch:=omega) only [↓wr,↓reduceIte,wq,ah,ag,aj,ab,ae,af,ai,isNil,Nat.reduceEqDiff,Nat.reduceAdd,Nat.reduceLT,Nat.reduceLeDiff,Int.reduceNeg,Int.reduceToNat,reduceCtorEq,lG]))
  all_goals (congr 2; simp only[qV]; grind)
theorem Cp (c:Int):aE Tryz.prog 192 [gy c] (gb (qV c)) :=
  aE.of (by intro v hv; simp at hv; subst hv; exact .val _) ((JU c _).mono fun r H' h h' _=>by rw[h.1]; exact .tree _ (.val _))
theorem Jp (c:Int) (H:View):aB Tryz.prog 193 [gy c] H fun r H'=>r=gb (kD c)∧H'=H:=by
  refine aB.of mixed qz ?_
  repeat' (first | (refine an.dec (fun _=>?_) (fun _=>?_)) | (refine an.eq (fun _=>?_) (fun _=>?_)) | (refine an.ne (fun _=>?_) (fun _=>?_)) | (refine an.split (fun _=>?_) (fun _=>?_)) | (simp (disch:=omega) only [↓wr,↓reduceIte,wq,ah,ag,aj,ab,ae,af,ai,isNil,Nat.reduceEqDiff,Nat.reduceAdd,Nat.reduceLT,Nat.reduceLeDiff,Int.reduceNeg,Int.reduceToNat,reduceCtorEq,lM]))
  refine aF.pure (Cp c) (by kernel_rfl) ?_
  repeat' (first | (refine an.dec (fun _=>?_) (fun _=>?_)) | (refine an.eq (fun _=>?_) (fun _=>?_)) | (refine an.ne (fun _=>?_) (fun _=>?_)) | (refine an.split (fun _=>?_) (fun _=>?_)) | (simp (disch:=omega) only [↓wr,↓reduceIte,wq,ah,ag,aj,ab,ae,af,ai,isNil,Nat.reduceEqDiff,Nat.reduceAdd,Nat.reduceLT,Nat.reduceLeDiff,Int.reduceNeg,Int.reduceToNat,reduceCtorEq]))
  all_goals (congr 2; simp only[kD]; grind)
theorem JX (c:Int):aE Tryz.prog 193 [gy c] (gb (kD c)) :=
  aE.of (by intro v hv; simp at hv; subst hv; exact .val _) ((Jp c _).mono fun r H' h h' _=>by rw[h.1]; exact .tree _ (.val _))
def ec (l:List Int):Bool:=decide (0 < l.length) && decide (l.length≤20) && (match l with | c :: _=>qV c | []=>false) && l.all kD
def kL:SC :=
  .seq (.seq (ak [aa 18 3,aa 19 0,((some 20),.op (.fM (.tmp 19))),aS 21 .lss 18 20]) <|
  .cond (.tmp 21) (.skip) (.exit 0)) <|
  .seq (.block 1 (.seq (ak [aa 24 0,aa 25 3,((some 26),.op (.cU (.tmp 24) (.tmp 25))),aK 27 193 [26],cn 28 27]) <|
  .cond (.tmp 28) (.seq (ak [aW 2 false]) <|
  .ret) (.skip))) <|
  ak [aa 22 3,aA 23 .add 22 1,aa 3 23]
def ni:SF:=⟨.seq (ak [aW 2 false]) <|
  .seq (.seq (.region false [⟨none,[aa 4 0,((some 5),.op (.fM (.tmp 4))),aA 6 .eql 5 0,aa 7 6]⟩,⟨(some (7,false)),[aa 8 0,((some 9),.op (.fM (.tmp 8))),aA 10 .gtr 9 20]⟩,⟨none,[bC 11 7 10,aa 12 11]⟩,⟨(some (12,false)),[aa 13 0,((some 14),.op (.cU (.tmp 13) (.val (.val (.int .i64 0))))),aK 15 192 [14],cn 16 15]⟩,⟨none,[bC 17 12 16]⟩]) <|
  .cond (.tmp 17) (.seq (ak [aW 2 false]) <|
  .ret) (.skip)) <|
  .seq (.seq (ak [aI 3 0]) <|
  .block 0 (.loop kL)) <|
  .seq (ak [aW 2 true]) <|
  .ret,
  [.tmp 2],29⟩
theorem qT:aV Tryz.prog 142 []=some ni:=by kernel_rfl
theorem HU (s:ByteArray) (H:View):aB Tryz.prog 142 [gs s] H fun r H'=>r=gb (ec (dI s))∧H'=H:=by
  refine aB.of mixed qT ?_
  repeat' (first | (refine an.dec (fun _=>?_) (fun _=>?_)) | (refine an.eq (fun _=>?_) (fun _=>?_)) | (refine an.ne (fun _=>?_) (fun _=>?_)) | (refine an.split (fun _=>?_) (fun _=>?_)) | (simp (disch:=omega) only [↓wr,↓reduceIte,wq,ah,ag,aj,ab,ae,af,ai,isNil,Nat.reduceEqDiff,Nat.reduceAdd,Nat.reduceLT,Nat.reduceLeDiff,Int.reduceNeg,Int.reduceToNat,reduceCtorEq,ni,di]))
  · rename_i h
    congr 2; simp[ec,show (dI s).length=0 by omega]
  · rename_i h
    congr 2; simp[ec,show ¬ (dI s).length≤20 by omega]
  · rename_i h1 h2
    cases hb:dI s with
    | nil=>simp[hb] at h1
    | cons c l =>
      repeat' (first | (refine an.dec (fun _=>?_) (fun _=>?_)) | (refine an.eq (fun _=>?_) (fun _=>?_)) | (refine an.ne (fun _=>?_) (fun _=>?_)) | (refine an.split (fun _=>?_) (fun _=>?_)) | (simp (disch:=omega) only [↓wr,↓reduceIte,wq,ah,ag,aj,ab,ae,af,ai,isNil,Nat.reduceEqDiff,Nat.reduceAdd,Nat.reduceLT,Nat.reduceLeDiff,Int.reduceNeg,Int.reduceToNat,reduceCtorEq,hb,List.getElem?_cons_zero,di]))
      refine aF.pure (Cp c) (by kernel_rfl) ?_
      repeat' (first | (refine an.dec (fun _=>?_) (fun _=>?_)) | (refine an.eq (fun _=>?_) (fun _=>?_)) | (refine an.ne (fun _=>?_) (fun _=>?_)) | (refine an.split (fun _=>?_) (fun _=>?_)) | (simp (disch:=omega) only [↓wr,↓reduceIte,wq,ah,ag,aj,ab,ae,af,ai,isNil,Nat.reduceEqDiff,Nat.reduceAdd,Nat.reduceLT,Nat.reduceLeDiff,Int.reduceNeg,Int.reduceToNat,reduceCtorEq,hb,List.getElem?_cons_zero,di]))
      · rename_i hf
        refine bw.intro (fun k T H'=>∃ i:Nat,i+k=(c :: l).length∧((c :: l).take i).all kD=true∧T 0=gs s∧T 3=gi i∧H'=H) (c :: l).length ?_ ?_
        · exact ⟨0,by omega,by simp,rfl,rfl,rfl⟩
        · rintro k T H' ⟨i,hk,hi,h0,h3,rfl⟩
          rw[hb] at h1 h2
          simp (disch:=omega) only [↓wr,↓reduceIte,wq,ah,ag,aj,ab,ae,af,ai,isNil,Nat.reduceEqDiff,Nat.reduceAdd,Nat.reduceLT,Nat.reduceLeDiff,Int.reduceNeg,Int.reduceToNat,reduceCtorEq,kL,h0,h3,di,hb]
          refine an.dec (fun hc=>?_) (fun hc=>?_)
          · simp only[List.length_cons] at hc hk h2
            have hg:(c :: l)[i]?=some ((c :: l)[i]'(by simp; omega)):=List.getElem?_eq_getElem (by simp; omega)
            have hm:(c :: l)[i]'(by simp; omega)∈c :: l:=List.getElem_mem _
            generalize (c :: l)[i]'(by simp; omega)=d at hg hm
            simp (disch:=omega) only [↓wr,↓reduceIte,wq,ah,ag,aj,ab,ae,af,ai,isNil,Nat.reduceEqDiff,Nat.reduceAdd,Nat.reduceLT,Nat.reduceLeDiff,Int.reduceNeg,Int.reduceToNat,reduceCtorEq,h0,h3,di,hb,hg]
            refine aF.pure (JX d) (by kernel_rfl) ?_
            repeat' (first | (refine an.dec (fun _=>?_) (fun _=>?_)) | (refine an.eq (fun _=>?_) (fun _=>?_)) | (refine an.ne (fun _=>?_) (fun _=>?_)) | (refine an.split (fun _=>?_) (fun _=>?_)) | (simp (disch:=omega) only [↓wr,↓reduceIte,wq,ah,ag,aj,ab,ae,af,ai,isNil,Nat.reduceEqDiff,Nat.reduceAdd,Nat.reduceLT,Nat.reduceLeDiff,Int.reduceNeg,Int.reduceToNat,reduceCtorEq,h0,h3,di,hb,hg]))
            · rename_i hd
              refine ⟨k - 1,by omega,i+1,by omega,?_,rfl⟩
              rw[List.take_add_one,hg]
              simp only[Option.toList_some,List.all_append,hi,List.all_cons,hd,List.all_nil,Bool.and_self]
            · rename_i hd
              congr 2
              have:(c :: l).all kD=false:=by
                rw[List.all_eq_false]; exact ⟨d,hm,by simp[hd]⟩
              simp only[ec,this,Bool.and_false]
          · simp (disch:=omega) only [↓wr,↓reduceIte,wq,ah,ag,aj,ab,ae,af,ai,isNil,Nat.reduceEqDiff,Nat.reduceAdd,Nat.reduceLT,Nat.reduceLeDiff,Int.reduceNeg,Int.reduceToNat,reduceCtorEq,h0,h3]
            simp only[List.length_cons] at hc hk h2
            rw[List.take_of_length_le (by simp; omega)] at hi
            congr 2
            simp only[ec,hi,List.length_cons]
            simp[hf]; omega
      · rename_i hf
        congr 2; simp[ec,hf]
end Gv
set_option linter.unusedSimpArgs false
set_option maxRecDepth 100000
namespace Gv
open Go Go.Proofs
def jY:List Int→Bool
  | [a,b,c]=>a == 39 && c == 39 && decide (32≤b) && decide (b≤126) && b != 39 && b != 92
  | [a,b,c,d]=>a == 39 && d == 39 && b == 92 && (c == 110 || c == 116 || c == 92 || c == 39)
  | _=>false
theorem JA {l:List Int} (h3:l.length≠3) (h4:l.length≠4):jY l=false:=by
  match l,h3,h4 with
  | [],_,_=>rfl
  | [_],_,_=>rfl
  | [_,_],_,_=>rfl
  | [_,_,_],h3,_=>exact absurd rfl h3
  | [_,_,_,_],_,h4=>exact absurd rfl h4
  | _ :: _ :: _ :: _ :: _ :: _,_,_=>rfl
theorem MR {α:Type} {l:List α} (h:l.length=3):∃ a b c,l=[a,b,c]:=by
  match l,h with
  | [a,b,c],_=>exact ⟨a,b,c,rfl⟩
theorem MM {α:Type} {l:List α} (h:l.length=4):∃ a b c d,l=[a,b,c,d]:=by
  match l,h with
  | [a,b,c,d],_=>exact ⟨a,b,c,d,rfl⟩
def km:SF:=⟨.seq (ak [aW 2 false]) <|
  .seq (.seq (ak [aa 3 0,((some 4),.op (.fM (.tmp 3))),aA 5 .eql 4 3]) <|
  .cond (.tmp 5) (.seq (.region false [⟨none,[aa 6 0,((some 7),.op (.cU (.tmp 6) (.val (.val (.int .i64 0))))),((some 8),.op (.arith .eql (.tmp 7) (.val (.val (.int .u8 39))))),aa 9 8]⟩,⟨(some (9,true)),[aa 10 0,((some 11),.op (.cU (.tmp 10) (.val (.val (.int .i64 2))))),((some 12),.op (.arith .eql (.tmp 11) (.val (.val (.int .u8 39)))))]⟩,⟨none,[bI 13 9 12,aa 14 13]⟩,⟨(some (14,true)),[aa 15 0,((some 16),.op (.cU (.tmp 15) (.val (.val (.int .i64 1))))),((some 17),.op (.arith .geq (.tmp 16) (.val (.val (.int .u8 32)))))]⟩,⟨none,[bI 18 14 17,aa 19 18]⟩,⟨(some (19,true)),[aa 20 0,((some 21),.op (.cU (.tmp 20) (.val (.val (.int .i64 1))))),((some 22),.op (.arith .leq (.tmp 21) (.val (.val (.int .u8 126)))))]⟩,⟨none,[bI 23 19 22,aa 24 23]⟩,⟨(some (24,true)),[aa 25 0,((some 26),.op (.cU (.tmp 25) (.val (.val (.int .i64 1))))),((some 27),.op (.arith .neq (.tmp 26) (.val (.val (.int .u8 39)))))]⟩,⟨none,[bI 28 24 27,aa 29 28]⟩,⟨(some (29,true)),[aa 30 0,((some 31),.op (.cU (.tmp 30) (.val (.val (.int .i64 1))))),((some 32),.op (.arith .neq (.tmp 31) (.val (.val (.int .u8 92)))))]⟩,⟨none,[bI 33 29 32,aa 2 33]⟩]) <|
  .ret) (.skip)) <|
  .seq (.region false [⟨none,[aa 34 0,((some 35),.op (.fM (.tmp 34))),aA 36 .eql 35 4,aa 37 36]⟩,⟨(some (37,true)),[aa 38 0,((some 39),.op (.cU (.tmp 38) (.val (.val (.int .i64 0))))),((some 40),.op (.arith .eql (.tmp 39) (.val (.val (.int .u8 39)))))]⟩,⟨none,[bI 41 37 40,aa 42 41]⟩,⟨(some (42,true)),[aa 43 0,((some 44),.op (.cU (.tmp 43) (.val (.val (.int .i64 3))))),((some 45),.op (.arith .eql (.tmp 44) (.val (.val (.int .u8 39)))))]⟩,⟨none,[bI 46 42 45,aa 47 46]⟩,⟨(some (47,true)),[aa 48 0,((some 49),.op (.cU (.tmp 48) (.val (.val (.int .i64 1))))),((some 50),.op (.arith .eql (.tmp 49) (.val (.val (.int .u8 92)))))]⟩,⟨none,[bI 51 47 50,aa 52 51]⟩,⟨(some (52,true)),[aa 53 0,((some 54),.op (.cU (.tmp 53) (.val (.val (.int .i64 2))))),((some 55),.op (.arith .eql (.tmp 54) (.val (.val (.int .u8 110))))),aa 56 55]⟩,⟨(some (56,false)),[aa 57 0,((some 58),.op (.cU (.tmp 57) (.val (.val (.int .i64 2))))),((some 59),.op (.arith .eql (.tmp 58) (.val (.val (.int .u8 116)))))]⟩,⟨(some (52,true)),[bC 60 56 59,aa 61 60]⟩,⟨(some (61,false)),[aa 62 0,((some 63),.op (.cU (.tmp 62) (.val (.val (.int .i64 2))))),((some 64),.op (.arith .eql (.tmp 63) (.val (.val (.int .u8 92)))))]⟩,⟨(some (52,true)),[bC 65 61 64,aa 66 65]⟩,⟨(some (66,false)),[aa 67 0,((some 68),.op (.cU (.tmp 67) (.val (.val (.int .i64 2))))),((some 69),.op (.arith .eql (.tmp 68) (.val (.val (.int .u8 39)))))]⟩,⟨(some (52,true)),[bC 70 66 69]⟩,⟨none,[bI 71 52 70,aa 2 71]⟩]) <|
  .ret,
  [.tmp 2],72⟩
theorem oD:aV Tryz.prog 191 []=some km:=by kernel_rfl
def lB:SF:=⟨.seq (ak [aW 2 false]) <|
  .seq (.region false [⟨none,[aa 3 0,aK 4 142 [3],aa 5 4]⟩,⟨(some (5,false)),[aa 6 0,aK 7 191 [6]]⟩,⟨none,[bC 8 5 7,aa 2 8]⟩]) <|
  .ret,
  [.tmp 2],9⟩
theorem qj:aV Tryz.prog 139 []=some lB:=by kernel_rfl
set_option maxHeartbeats 1000000 in
theorem I8 (s:ByteArray) (H:View):aB Tryz.prog 191 [gs s] H fun r H'=>r=gb (jY (dI s))∧H'=H:=by
  refine aB.of mixed oD ?_
  simp (disch:=omega) only [↓wr,↓reduceIte,wq,ah,ag,aj,ab,ae,af,ai,isNil,Nat.reduceEqDiff,Nat.reduceAdd,Nat.reduceLT,Nat.reduceLeDiff,Int.reduceNeg,Int.reduceToNat,reduceCtorEq,km,di]
  refine an.eq (fun h=>?_) (fun h=>?_)
  · obtain ⟨a,b,c,hb⟩:=MR (l:=dI s) (by omega)
    repeat' (first | (refine an.dec (fun _=>?_) (fun _=>?_)) | (refine an.eq (fun _=>?_) (fun _=>?_)) | (refine an.ne (fun _=>?_) (fun _=>?_)) | (refine an.split (fun _=>?_) (fun _=>?_)) | (simp (disch:=omega) only [↓wr,↓reduceIte,wq,ah,ag,aj,ab,ae,af,ai,isNil,Nat.reduceEqDiff,Nat.reduceAdd,Nat.reduceLT,Nat.reduceLeDiff,Int.reduceNeg,Int.reduceToNat,reduceCtorEq,hb,List.getElem?_cons_zero,List.getElem?_cons_succ]))
    all_goals (congr 2; simp only[jY]; grind)
  · simp (disch:=omega) only [↓wr,↓reduceIte,wq,ah,ag,aj,ab,ae,af,ai,isNil,Nat.reduceEqDiff,Nat.reduceAdd,Nat.reduceLT,Nat.reduceLeDiff,Int.reduceNeg,Int.reduceToNat,reduceCtorEq,di]
    refine an.eq (fun h4=>?_) (fun h4=>?_)
    · obtain ⟨a,b,c,d,hb⟩:=MM (l:=dI s) (by omega)
      repeat' (first | (refine an.dec (fun _=>?_) (fun _=>?_)) | (refine an.eq (fun _=>?_) (fun _=>?_)) | (refine an.ne (fun _=>?_) (fun _=>?_)) | (refine an.split (fun _=>?_) (fun _=>?_)) | (simp (disch:=omega) only [↓wr,↓reduceIte,wq,ah,ag,aj,ab,ae,af,ai,isNil,Nat.reduceEqDiff,Nat.reduceAdd,Nat.reduceLT,Nat.reduceLeDiff,Int.reduceNeg,Int.reduceToNat,reduceCtorEq,hb,List.getElem?_cons_zero,List.getElem?_cons_succ]))
      all_goals (congr 2; simp only[jY]; grind)
    · repeat' (first | (refine an.dec (fun _=>?_) (fun _=>?_)) | (refine an.eq (fun _=>?_) (fun _=>?_)) | (refine an.ne (fun _=>?_) (fun _=>?_)) | (refine an.split (fun _=>?_) (fun _=>?_)) | (simp (disch:=omega) only [↓wr,↓reduceIte,wq,ah,ag,aj,ab,ae,af,ai,isNil,Nat.reduceEqDiff,Nat.reduceAdd,Nat.reduceLT,Nat.reduceLeDiff,Int.reduceNeg,Int.reduceToNat,reduceCtorEq,di]))
      rw[JA (by omega) (by omega)]
theorem mn (s:ByteArray):∀ v∈[gs s],Tree v:=by intro v hv; simp at hv; subst hv; exact .val _
theorem zE (s:ByteArray):aE Tryz.prog 142 [gs s] (gb (ec (dI s))) :=
  aE.of (mn s) ((HU s _).mono fun r H' h h' _=>by rw[h.1]; exact .tree _ (.val _))
theorem JD (s:ByteArray):aE Tryz.prog 191 [gs s] (gb (jY (dI s))) :=
  aE.of (mn s) ((I8 s _).mono fun r H' h h' _=>by rw[h.1]; exact .tree _ (.val _))
def m0 (l:List Int):Bool:=ec l || jY l
theorem Gk (s:ByteArray) (H:View):aB Tryz.prog 139 [gs s] H fun r H'=>r=gb (m0 (dI s))∧H'=H:=by
  refine aB.of mixed qj ?_
  simp (disch:=omega) only [↓wr,↓reduceIte,wq,ah,ag,aj,ab,ae,af,ai,isNil,Nat.reduceEqDiff,Nat.reduceAdd,Nat.reduceLT,Nat.reduceLeDiff,Int.reduceNeg,Int.reduceToNat,reduceCtorEq,lB]
  refine aF.pure (zE s) (by kernel_rfl) ?_
  repeat' (first | (refine an.dec (fun _=>?_) (fun _=>?_)) | (refine an.eq (fun _=>?_) (fun _=>?_)) | (refine an.ne (fun _=>?_) (fun _=>?_)) | (refine an.split (fun _=>?_) (fun _=>?_)) | (simp (disch:=omega) only [↓wr,↓reduceIte,wq,ah,ag,aj,ab,ae,af,ai,isNil,Nat.reduceEqDiff,Nat.reduceAdd,Nat.reduceLT,Nat.reduceLeDiff,Int.reduceNeg,Int.reduceToNat,reduceCtorEq]))
  · rename_i h; simp[m0,h]
  · rename_i h
    refine aF.pure (JD s) (by kernel_rfl) ?_
    repeat' (first | (refine an.dec (fun _=>?_) (fun _=>?_)) | (refine an.eq (fun _=>?_) (fun _=>?_)) | (refine an.ne (fun _=>?_) (fun _=>?_)) | (refine an.split (fun _=>?_) (fun _=>?_)) | (simp (disch:=omega) only [↓wr,↓reduceIte,wq,ah,ag,aj,ab,ae,af,ai,isNil,Nat.reduceEqDiff,Nat.reduceAdd,Nat.reduceLT,Nat.reduceLeDiff,Int.reduceNeg,Int.reduceToNat,reduceCtorEq]))
    simp[m0,h]
theorem Gm (s:ByteArray):aE Tryz.prog 139 [gs s] (gb (m0 (dI s))) :=
  aE.of (mn s) ((Gk s _).mono fun r H' h h' _=>by rw[h.1]; exact .tree _ (.val _))
end Gv
set_option linter.unusedSimpArgs false
set_option maxRecDepth 100000
namespace Gv
open Go Go.Proofs
def kz (s:ByteArray):List ByteArray→Int→Int
  | [],_=>-1
  | x :: l,i=>if fE x s=true then i else kz s l (i+1)
def jM (g:al) (s:ByteArray):Int:=kz s (g.ay.map Term.name) 0
def tI (g:al) (s:ByteArray):Int:=kz s g.ax 0
theorem dC {α:Type} {l:List α} {i:Nat} (h:i < l.length):l.drop i=l[i] :: l.drop (i+1):=List.drop_eq_getElem_cons h
theorem Bf (g:al) (s:ByteArray):∀ v∈[V.agg (av g),gs s],Tree v:=by
  intro v hv; simp at hv
  rcases hv with rfl | rfl
  · exact dp _ (dD g)
  · exact .val _
theorem gn (g:al):∀ v∈[V.agg (av g)],Tree v:=by intro v hv; simp at hv; subst hv; exact dp _ (dD g)
theorem wQ (g:al) (x:Int):∀ v∈[V.agg (av g),gi x],Tree v:=by
  intro v hv; simp at hv
  rcases hv with rfl | rfl
  · exact dp _ (dD g)
  · exact .val _
theorem aE.val {P:Program} {f:FuncId} {vs:List V} {x:Value} (ht:∀ v∈vs,Tree v) (h:∀ H,aB P f vs H fun r _=>r=.val x):aE P f vs (.val x) :=
  aE.of ht ((h _).mono fun r H' e h' _=>by rw[e]; exact .tree _ (.val _))
def ld:SC :=
  .seq (.seq (ak [aa 6 5,ao 7 0 2,aq 8 7,aQ 9 8,aS 10 .lss 6 9]) <|
  .cond (.tmp 10) (.skip) (.exit 0)) <|
  .seq (.block 1 (.seq (ak [ao 13 0 2,aq 14 13,aa 15 5,bo 16 3 14 15,ao 17 0 16,aq 18 17,aa 19 1,((some 20),.op (.ia .eql (.tmp 18) (.tmp 19)))]) <|
  .cond (.tmp 20) (.seq (ak [aa 21 5,aa 4 21]) <|
  .ret) (.skip))) <|
  ak [aa 11 5,aA 12 .add 11 1,aa 5 12]
def mM:SF:=⟨.seq (ak [c8 2 0,aI 4 0]) <|
  .seq (.seq (ak [aI 5 0]) <|
  .block 0 (.loop ld)) <|
  .seq (ak [aI 4 (-1)]) <|
  .ret,
  [.tmp 4],22⟩
theorem rC:aV Tryz.prog 140 [2]=some mM:=by kernel_rfl
def lz:SC :=
  .seq (.seq (ak [aa 6 5,ao 7 1 2,aq 8 7,aQ 9 8,aS 10 .lss 6 9]) <|
  .cond (.tmp 10) (.skip) (.exit 0)) <|
  .seq (.block 1 (.seq (ak [ao 13 1 2,aq 14 13,aa 15 5,bo 16 1 14 15,aq 17 16,aa 18 1,((some 19),.op (.ia .eql (.tmp 17) (.tmp 18)))]) <|
  .cond (.tmp 19) (.seq (ak [aa 20 5,aa 4 20]) <|
  .ret) (.skip))) <|
  ak [aa 11 5,aA 12 .add 11 1,aa 5 12]
def nH:SF:=⟨.seq (ak [c8 2 0,aI 4 0]) <|
  .seq (.seq (ak [aI 5 0]) <|
  .block 0 (.loop lz)) <|
  .seq (ak [aI 4 (-1)]) <|
  .ret,
  [.tmp 4],21⟩
theorem rX:aV Tryz.prog 125 [2]=some nH:=by kernel_rfl
def ko:SC :=
  .seq (.seq (ak [aa 8 6,ao 9 0 2,aq 10 9,aQ 11 10,aS 12 .lss 8 11]) <|
  .cond (.tmp 12) (.skip) (.exit 0)) <|
  .seq (.block 1 (.seq (.region false [⟨none,[ao 15 0 2,aq 16 15,aa 17 6,bo 18 3 16 17,aZ 19 3 18,((some 7),.op (.alloc [(.val (.string ⟨#[]⟩)),(.val (.int .i64 0)),(.val (.int .i64 0))])),(none,.op (.store 3 (.tmp 7) (.tmp 19)))]⟩]) <|
  .seq (.seq (ak [ao 20 1 7,aq 21 20,aa 22 1,aS 23 .neq 21 22]) <|
  .cond (.tmp 23) (.exit 1) (.skip)) <|
  .seq (.seq (.region false [⟨none,[aa 24 5,aA 25 .neq 24 0,aa 26 25]⟩,⟨(some (26,true)),[aa 27 5,ao 28 2 7,aq 29 28,aS 30 .neq 27 29]⟩,⟨none,[bI 31 26 30]⟩]) <|
  .cond (.tmp 31) (.seq (ak [aW 4 false]) <|
  .ret) (.skip)) <|
  ak [ao 32 2 7,aq 33 32,aa 5 33])) <|
  ak [aa 13 6,aA 14 .add 13 1,aa 6 14]
def lA:SF:=⟨.seq (ak [c8 2 0,aW 4 false]) <|
  .seq (ak [aI 5 0]) <|
  .seq (.seq (ak [aI 6 0]) <|
  .block 0 (.loop ko)) <|
  .seq (ak [aa 34 5,aA 35 .neq 34 0,aa 4 35]) <|
  .ret,
  [.tmp 4],36⟩
theorem qg:aV Tryz.prog 141 [2]=some lA:=by kernel_rfl
theorem GI (g:al) (hg:g.Ok) (s:ByteArray) (H:View):aB Tryz.prog 140 [.agg (av g),gs s] H fun r _=>r=gi (jM g s):=by
  refine aB.of mixed rC ?_
  have hs:g.ay.length < 4611686018427387904:=hg.ay
  simp (disch:=omega) only [↓wr,↓reduceIte,wq,ah,ag,aj,ab,ae,af,ai,isNil,Nat.reduceEqDiff,Nat.reduceAdd,Nat.reduceLT,Nat.reduceLeDiff,Int.reduceNeg,Int.reduceToNat,reduceCtorEq,mM,av,encS]
  refine bw.intro (fun k T _=>∃ i:Nat,i+k=g.ay.length∧kz s ((g.ay.drop i).map Term.name) i=jM g s∧T 1=gs s∧T 2=.aR (av g) 0∧T 5=gi i) g.ay.length ?_ ?_
  · exact ⟨0,by omega,rfl,rfl,rfl,rfl⟩
  · rintro k T H' ⟨i,hk,hi,h1,h2,h5⟩
    simp (disch:=omega) only [↓wr,↓reduceIte,wq,ah,ag,aj,ab,ae,af,ai,isNil,Nat.reduceEqDiff,Nat.reduceAdd,Nat.reduceLT,Nat.reduceLeDiff,Int.reduceNeg,Int.reduceToNat,reduceCtorEq,ld,h1,h2,h5,av]
    refine an.dec (fun hc=>?_) (fun hc=>?_)
    · have hg2:g.ay[i]?=some (g.ay[i]'(by omega)):=List.getElem?_eq_getElem (by omega)
      rw[dC (show i < g.ay.length by omega)] at hi
      generalize g.ay[i]'(by omega)=t at hg2 hi
      simp only[List.map_cons,kz] at hi
      simp (disch:=omega) only [↓wr,↓reduceIte,wq,ah,ag,aj,ab,ae,af,ai,isNil,Nat.reduceEqDiff,Nat.reduceAdd,Nat.reduceLT,Nat.reduceLeDiff,Int.reduceNeg,Int.reduceToNat,reduceCtorEq,h1,h2,h5,av,cz,List.getElem?_map,hg2,Option.map_some]
      refine an.split (fun hd=>?_) (fun hd=>?_)
      · rw[if_pos hd] at hi
        simp (disch:=omega) only [↓wr,↓reduceIte,wq,ah,ag,aj,ab,ae,af,ai,isNil,Nat.reduceEqDiff,Nat.reduceAdd,Nat.reduceLT,Nat.reduceLeDiff,Int.reduceNeg,Int.reduceToNat,reduceCtorEq,h1,h2,h5]
        rw[hi]
      · rw[hd,if_neg (by simp)] at hi
        simp (disch:=omega) only [↓wr,↓reduceIte,wq,ah,ag,aj,ab,ae,af,ai,isNil,Nat.reduceEqDiff,Nat.reduceAdd,Nat.reduceLT,Nat.reduceLeDiff,Int.reduceNeg,Int.reduceToNat,reduceCtorEq,h1,h2,h5]
        exact ⟨k - 1,by omega,i+1,by omega,by push_cast; exact hi,rfl,rfl⟩
    · rw[List.drop_eq_nil_of_le (by omega)] at hi
      simp only[List.map_nil,kz] at hi
      simp (disch:=omega) only [↓wr,↓reduceIte,wq,ah,ag,aj,ab,ae,af,ai,isNil,Nat.reduceEqDiff,Nat.reduceAdd,Nat.reduceLT,Nat.reduceLeDiff,Int.reduceNeg,Int.reduceToNat,reduceCtorEq,h1,h2,h5]
      rw[hi]
theorem z7 (g:al) (hg:g.Ok) (s:ByteArray):aE Tryz.prog 140 [.agg (av g),gs s] (gi (jM g s)):=aE.val (Bf g s) (GI g hg s)
theorem IW (g:al) (hg:g.Ok) (s:ByteArray) (H:View):aB Tryz.prog 125 [.agg (av g),gs s] H fun r _=>r=gi (tI g s):=by
  refine aB.of mixed rX ?_
  have hs:g.ax.length < 4611686018427387904:=hg.ax
  simp (disch:=omega) only [↓wr,↓reduceIte,wq,ah,ag,aj,ab,ae,af,ai,isNil,Nat.reduceEqDiff,Nat.reduceAdd,Nat.reduceLT,Nat.reduceLeDiff,Int.reduceNeg,Int.reduceToNat,reduceCtorEq,nH,av,encS]
  refine bw.intro (fun k T _=>∃ i:Nat,i+k=g.ax.length∧kz s (g.ax.drop i) i=tI g s∧T 1=gs s∧T 2=.aR (av g) 0∧T 5=gi i) g.ax.length ?_ ?_
  · exact ⟨0,by omega,rfl,rfl,rfl,rfl⟩
  · rintro k T H' ⟨i,hk,hi,h1,h2,h5⟩
    simp (disch:=omega) only [↓wr,↓reduceIte,wq,ah,ag,aj,ab,ae,af,ai,isNil,Nat.reduceEqDiff,Nat.reduceAdd,Nat.reduceLT,Nat.reduceLeDiff,Int.reduceNeg,Int.reduceToNat,reduceCtorEq,lz,h1,h2,h5,av,encS]
    refine an.dec (fun hc=>?_) (fun hc=>?_)
    · have hg2:g.ax[i]?=some (g.ax[i]'(by omega)):=List.getElem?_eq_getElem (by omega)
      rw[dC (show i < g.ax.length by omega)] at hi
      generalize g.ax[i]'(by omega)=t at hg2 hi
      simp only[List.map_cons,kz] at hi
      simp (disch:=omega) only [↓wr,↓reduceIte,wq,ah,ag,aj,ab,ae,af,ai,isNil,Nat.reduceEqDiff,Nat.reduceAdd,Nat.reduceLT,Nat.reduceLeDiff,Int.reduceNeg,Int.reduceToNat,reduceCtorEq,h1,h2,h5,av,encS,List.getElem?_map,hg2,Option.map_some]
      refine an.split (fun hd=>?_) (fun hd=>?_)
      · rw[if_pos hd] at hi
        simp (disch:=omega) only [↓wr,↓reduceIte,wq,ah,ag,aj,ab,ae,af,ai,isNil,Nat.reduceEqDiff,Nat.reduceAdd,Nat.reduceLT,Nat.reduceLeDiff,Int.reduceNeg,Int.reduceToNat,reduceCtorEq,h1,h2,h5]
        rw[hi]
      · rw[hd,if_neg (by simp)] at hi
        simp (disch:=omega) only [↓wr,↓reduceIte,wq,ah,ag,aj,ab,ae,af,ai,isNil,Nat.reduceEqDiff,Nat.reduceAdd,Nat.reduceLT,Nat.reduceLeDiff,Int.reduceNeg,Int.reduceToNat,reduceCtorEq,h1,h2,h5]
        exact ⟨k - 1,by omega,i+1,by omega,by push_cast; exact hi,rfl,rfl⟩
    · rw[List.drop_eq_nil_of_le (by omega)] at hi
      simp only[List.map_nil,kz] at hi
      simp (disch:=omega) only [↓wr,↓reduceIte,wq,ah,ag,aj,ab,ae,af,ai,isNil,Nat.reduceEqDiff,Nat.reduceAdd,Nat.reduceLT,Nat.reduceLeDiff,Int.reduceNeg,Int.reduceToNat,reduceCtorEq,h1,h2,h5]
      rw[hi]
theorem JF (g:al) (hg:g.Ok) (s:ByteArray):aE Tryz.prog 125 [.agg (av g),gs s] (gi (tI g s)):=aE.val (Bf g s) (IW g hg s)
def gq (n:Int):List Term→Int→Option Int
  | [],way=>some way
  | t :: r,way=>if t.level=n then (if way≠0∧way≠t.assoc then none else gq n r t.assoc) else gq n r way
def eP (l:List Term) (n:Int):Bool:=match gq n l 0 with
  | some w=>w != 0
  | none=>false
theorem FB (g:al) (hg:g.Ok) (n:Int) (H:View):aB Tryz.prog 141 [.agg (av g),gi n] H fun r _=>r=gb (eP g.ay n):=by
  refine aB.of mixed qg ?_
  have hs:g.ay.length < 4611686018427387904:=hg.ay
  simp (disch:=omega) only [↓wr,↓reduceIte,wq,ah,ag,aj,ab,ae,af,ai,isNil,Nat.reduceEqDiff,Nat.reduceAdd,Nat.reduceLT,Nat.reduceLeDiff,Int.reduceNeg,Int.reduceToNat,reduceCtorEq,lA,av,encS]
  refine bw.intro (fun k T _=>∃ (i:Nat) (w:Int),i+k=g.ay.length∧gq n (g.ay.drop i) w=gq n g.ay 0∧T 1=gi n∧T 2=.aR (av g) 0∧T 5=gi w∧T 6=gi i) g.ay.length ?_ ?_
  · exact ⟨0,0,by omega,rfl,rfl,rfl,rfl,rfl⟩
  · rintro k T H' ⟨i,w,hk,hi,h1,h2,h5,h6⟩
    simp (disch:=omega) only [↓wr,↓reduceIte,wq,ah,ag,aj,ab,ae,af,ai,isNil,Nat.reduceEqDiff,Nat.reduceAdd,Nat.reduceLT,Nat.reduceLeDiff,Int.reduceNeg,Int.reduceToNat,reduceCtorEq,ko,h1,h2,h5,h6,av]
    refine an.dec (fun hc=>?_) (fun hc=>?_)
    · have hg2:g.ay[i]?=some (g.ay[i]'(by omega)):=List.getElem?_eq_getElem (by omega)
      rw[dC (show i < g.ay.length by omega)] at hi
      generalize g.ay[i]'(by omega)=t at hg2 hi
      simp only[gq] at hi
      simp (disch:=omega) only [↓wr,↓reduceIte,wq,ah,ag,aj,ab,ae,af,ai,isNil,Nat.reduceEqDiff,Nat.reduceAdd,Nat.reduceLT,Nat.reduceLeDiff,Int.reduceNeg,Int.reduceToNat,reduceCtorEq,h1,h2,h5,h6,av,cz,List.getElem?_map,hg2,Option.map_some]
      intro m hm
      try simp (disch:=omega) only [↓wr,↓reduceIte,wq,ah,ag,aj,ab,ae,af,ai,isNil,Nat.reduceEqDiff,Nat.reduceAdd,Nat.reduceLT,Nat.reduceLeDiff,Int.reduceNeg,Int.reduceToNat,reduceCtorEq,h1,h2,h5,h6]
      refine an.ne (fun hd=>?_) (fun hd=>?_)
      · rw[if_neg hd] at hi
        simp (disch:=omega) only [↓wr,↓reduceIte,wq,ah,ag,aj,ab,ae,af,ai,isNil,Nat.reduceEqDiff,Nat.reduceAdd,Nat.reduceLT,Nat.reduceLeDiff,Int.reduceNeg,Int.reduceToNat,reduceCtorEq,h1,h2,h5,h6]
        exact ⟨k - 1,by omega,i+1,w,by omega,hi,by first | rfl | exact ⟨rfl,rfl⟩ | exact ⟨rfl,rfl,rfl⟩⟩
      · rw[if_pos hd] at hi
        repeat' (first | (refine an.dec (fun _=>?_) (fun _=>?_)) | (refine an.eq (fun _=>?_) (fun _=>?_)) | (refine an.ne (fun _=>?_) (fun _=>?_)) | (refine an.split (fun _=>?_) (fun _=>?_)) | (simp (disch:=omega) only [↓wr,↓reduceIte,wq,ah,ag,aj,ab,ae,af,ai,isNil,Nat.reduceEqDiff,Nat.reduceAdd,Nat.reduceLT,Nat.reduceLeDiff,Int.reduceNeg,Int.reduceToNat,reduceCtorEq,h1,h2,h5,h6]))
        · rename_i a b
          rw[if_pos ⟨a,b⟩] at hi
          simp only[eP,← hi]
        · rename_i a b
          rw[if_neg (fun e=>e.2 b)] at hi
          exact ⟨k - 1,by omega,i+1,_,by omega,hi,by first | rfl | exact ⟨rfl,rfl⟩ | exact ⟨rfl,rfl,rfl⟩⟩
        · rename_i a
          rw[if_neg (fun e=>e.1 a)] at hi
          exact ⟨k - 1,by omega,i+1,_,by omega,hi,by first | rfl | exact ⟨rfl,rfl⟩ | exact ⟨rfl,rfl,rfl⟩⟩
    · rw[List.drop_eq_nil_of_le (by omega)] at hi
      simp only[gq] at hi
      simp (disch:=omega) only [↓wr,↓reduceIte,wq,ah,ag,aj,ab,ae,af,ai,isNil,Nat.reduceEqDiff,Nat.reduceAdd,Nat.reduceLT,Nat.reduceLeDiff,Int.reduceNeg,Int.reduceToNat,reduceCtorEq,h1,h2,h5,h6]
      simp only[eP,← hi]
theorem FD (g:al) (hg:g.Ok) (n:Int):aE Tryz.prog 141 [.agg (av g),gi n] (gb (eP g.ay n)):=aE.val (wQ g n) (FB g hg n)
end Gv
set_option linter.unusedSimpArgs false
set_option maxRecDepth 100000
namespace Gv
open Go Go.Proofs
def nX (g:al) (t:Term):Bool:=(List.range t.level.toNat).all fun k=>eP g.ay ((k:Int)+1)
def ij (g:al) (i:Int) (t:Term):Bool :=
  m0 (dI t.name) && (jM g t.name == i) && decide (0≤t.level) && decide (t.level≤24) && decide (0≤t.assoc) && decide (t.assoc≤3) && ((t.level == 0) == (t.assoc == 0)) && nX g t
def gQ (g:al):List Term→Int→Bool
  | [],_=>true
  | t :: r,i=>ij g i t && gQ g r (i+1)
def g9 (g:al):Bool:=decide (g.ay.length≤24) && gQ g g.ay 0
def ke:SC :=
  .seq (.seq (ak [aa 63 5,ao 64 1 4,aq 65 64,aS 66 .leq 63 65]) <|
  .cond (.tmp 66) (.skip) (.exit 2)) <|
  .seq (.block 3 (.seq (ak [aZ 69 4 1,aa 70 5,aK 71 141 [69,70],cn 72 71]) <|
  .cond (.tmp 72) (.seq (ak [aW 2 false]) <|
  .ret) (.skip))) <|
  ak [aa 67 5,aA 68 .add 67 1,aa 5 68]
def kg:SC :=
  .seq (.seq (ak [aa 10 3,ao 11 0 1,aq 12 11,aQ 13 12,aS 14 .lss 10 13]) <|
  .cond (.tmp 14) (.skip) (.exit 0)) <|
  .seq (.block 1 (.seq (.region false [⟨none,[ao 17 0 1,aq 18 17,aa 19 3,bo 20 3 18 19,aZ 21 3 20,((some 4),.op (.alloc [(.val (.string ⟨#[]⟩)),(.val (.int .i64 0)),(.val (.int .i64 0))])),(none,.op (.store 3 (.tmp 4) (.tmp 21)))]⟩]) <|
  .seq (.seq (.region false [⟨none,[ao 22 0 4,aq 23 22,aK 24 139 [23],cn 25 24,aa 26 25]⟩,⟨(some (26,false)),[aZ 27 4 1,ao 28 0 4,aq 29 28,aK 30 140 [27,29],aa 31 3,aS 32 .neq 30 31]⟩,⟨none,[bC 33 26 32,aa 34 33]⟩,⟨(some (34,false)),[ao 35 1 4,aq 36 35,aA 37 .lss 36 0]⟩,⟨none,[bC 38 34 37,aa 39 38]⟩,⟨(some (39,false)),[ao 40 1 4,aq 41 40,aA 42 .gtr 41 24]⟩,⟨none,[bC 43 39 42,aa 44 43]⟩,⟨(some (44,false)),[ao 45 2 4,aq 46 45,aA 47 .lss 46 0]⟩,⟨none,[bC 48 44 47,aa 49 48]⟩,⟨(some (49,false)),[ao 50 2 4,aq 51 50,aA 52 .gtr 51 3]⟩,⟨none,[bC 53 49 52,aa 54 53]⟩,⟨(some (54,false)),[ao 55 1 4,aq 56 55,aA 57 .eql 56 0,ao 58 2 4,aq 59 58,aA 60 .eql 59 0,((some 61),.op (.beq false (.tmp 57) (.tmp 60)))]⟩,⟨none,[bC 62 54 61]⟩]) <|
  .cond (.tmp 62) (.seq (ak [aW 2 false]) <|
  .ret) (.skip)) <|
  .seq (ak [aI 5 1]) <|
  .block 2 (.loop ke))) <|
  ak [aa 15 3,aA 16 .add 15 1,aa 3 16]
def lI:SF:=⟨.seq (ak [c8 1 0,aW 2 false]) <|
  .seq (.seq (ak [ao 6 0 1,aq 7 6,aQ 8 7,aA 9 .gtr 8 24]) <|
  .cond (.tmp 9) (.seq (ak [aW 2 false]) <|
  .ret) (.skip)) <|
  .seq (.seq (ak [aI 3 0]) <|
  .block 0 (.loop kg)) <|
  .seq (ak [aW 2 true]) <|
  .ret,
  [.tmp 2],73⟩
theorem qC:aV Tryz.prog 89 [1]=some lI:=by kernel_rfl
def kM:SC :=
  .seq (.seq (ak [aa 14 3,ao 15 1 1,aq 16 15,aQ 17 16,aS 18 .lss 14 17]) <|
  .cond (.tmp 18) (.skip) (.exit 0)) <|
  .seq (.block 1 (.seq (.region false [⟨none,[ao 21 1 1,aq 22 21,aa 23 3,bo 24 1 22 23,aq 25 24,aK 26 142 [25],cn 27 26,aa 28 27]⟩,⟨(some (28,false)),[aZ 29 4 1,ao 30 1 1,aq 31 30,aa 32 3,bo 33 1 31 32,aq 34 33,aK 35 125 [29,34],aa 36 3,aS 37 .neq 35 36]⟩,⟨none,[bC 38 28 37,aa 39 38]⟩,⟨(some (39,false)),[aZ 40 4 1,ao 41 1 1,aq 42 41,aa 43 3,bo 44 1 42 43,aq 45 44,aK 46 140 [40,45],aA 47 .geq 46 0]⟩,⟨none,[bC 48 39 47]⟩]) <|
  .cond (.tmp 48) (.seq (ak [aW 2 false]) <|
  .ret) (.skip))) <|
  ak [aa 19 3,aA 20 .add 19 1,aa 3 20]
def na:SF:=⟨.seq (ak [c8 1 0,aW 2 false]) <|
  .seq (.seq (.region false [⟨none,[ao 4 1 1,aq 5 4,aQ 6 5,aA 7 .lss 6 1,aa 8 7]⟩,⟨(some (8,false)),[ao 9 1 1,aq 10 9,aQ 11 10,aA 12 .gtr 11 16]⟩,⟨none,[bC 13 8 12]⟩]) <|
  .cond (.tmp 13) (.seq (ak [aW 2 false]) <|
  .ret) (.skip)) <|
  .seq (.seq (ak [aI 3 0]) <|
  .block 0 (.loop kM)) <|
  .seq (ak [aW 2 true]) <|
  .ret,
  [.tmp 2],49⟩
theorem qQ:aV Tryz.prog 90 [1]=some na:=by kernel_rfl
def kE:SC :=
  .seq (.seq (ak [aa 23 5,ao 24 1 3,aq 25 24,aQ 26 25,aS 27 .lss 23 26]) <|
  .cond (.tmp 27) (.skip) (.exit 0)) <|
  .seq (.block 1 (.seq (.region false [⟨none,[aZ 30 4 2,ao 31 1 3,aq 32 31,aa 33 5,bo 34 1 32 33,aq 35 34,aK 36 143 [30,35],cn 37 36,aa 38 37]⟩,⟨(some (38,false)),[ao 39 1 3,aq 40 39,aa 41 5,bo 42 1 40 41,aq 43 42,aA 44 .geq 43 0,aa 45 44]⟩,⟨(some (45,true)),[ao 46 2 3,aq 47 46,aA 48 .eql 47 (-1)]⟩,⟨(some (38,false)),[bI 49 45 48]⟩,⟨none,[bC 50 38 49]⟩]) <|
  .cond (.tmp 50) (.seq (ak [aW 4 false]) <|
  .ret) (.skip))) <|
  ak [aa 28 5,aA 29 .add 28 1,aa 5 29]
def m4:SF:=⟨.seq (ak [c8 2 0,c8 3 1,aW 4 false]) <|
  .seq (.seq (.region false [⟨none,[ao 6 1 3,aq 7 6,aQ 8 7,aA 9 .gtr 8 6,aa 10 9]⟩,⟨(some (10,false)),[ao 11 2 3,aq 12 11,aA 13 .lss 12 (-1)]⟩,⟨none,[bC 14 10 13,aa 15 14]⟩,⟨(some (15,false)),[ao 16 2 3,aq 17 16,ao 18 0 2,aq 19 18,aQ 20 19,aS 21 .geq 17 20]⟩,⟨none,[bC 22 15 21]⟩]) <|
  .cond (.tmp 22) (.seq (ak [aW 4 false]) <|
  .ret) (.skip)) <|
  .seq (.seq (ak [aI 5 0]) <|
  .block 0 (.loop kE)) <|
  .seq (ak [aW 4 true]) <|
  .ret,
  [.tmp 4],51⟩
theorem q9:aV Tryz.prog 91 [2,3]=some m4:=by kernel_rfl
def kj:SC :=
  .seq (.seq (ak [aa 39 4,ao 40 2 1,aq 41 40,aQ 42 41,aS 43 .lss 39 42]) <|
  .cond (.tmp 43) (.skip) (.exit 0)) <|
  .seq (.block 1 (.seq (ak [ao 46 2 1,aq 47 46,aa 48 4,bo 49 3 47 48,aZ 50 3 49,((some 5),.op (.alloc [(.val (.int .i64 0)),(.emp 1),(.val (.int .i64 0))])),(none,.op (.store 3 (.tmp 5) (.tmp 50)))]) <|
  .seq (.seq (.region false [⟨none,[ao 51 0 5,aq 52 51,aA 53 .lss 52 0,aa 54 53]⟩,⟨(some (54,false)),[ao 55 0 5,aq 56 55,aa 57 3,aA 58 .add 57 1,aS 59 .gtr 56 58]⟩,⟨none,[bC 60 54 59,aa 61 60]⟩,⟨(some (61,false)),[aZ 62 4 1,aZ 63 3 5,aK 64 91 [62,63],cn 65 64]⟩,⟨none,[bC 66 61 65]⟩]) <|
  .cond (.tmp 66) (.seq (ak [aW 2 false]) <|
  .ret) (.skip)) <|
  .seq (ak [ao 67 0 5,aq 68 67,aa 69 3,aS 70 .gtr 68 69]) <|
  .cond (.tmp 70) (ak [ao 71 0 5,aq 72 71,aa 3 72]) (.skip))) <|
  ak [aa 44 4,aA 45 .add 44 1,aa 4 45]
def lR:SF:=⟨.seq (ak [c8 1 0,aW 2 false]) <|
  .seq (.seq (.region false [⟨none,[aZ 6 4 1,aK 7 89 [6],cn 8 7,aa 9 8]⟩,⟨(some (9,false)),[aZ 10 4 1,aK 11 90 [10],cn 12 11]⟩,⟨none,[bC 13 9 12,aa 14 13]⟩,⟨(some (14,false)),[ao 15 2 1,aq 16 15,aQ 17 16,aA 18 .lss 17 1]⟩,⟨none,[bC 19 14 18,aa 20 19]⟩,⟨(some (20,false)),[ao 21 2 1,aq 22 21,aQ 23 22,aA 24 .gtr 23 40]⟩,⟨none,[bC 25 20 24,aa 26 25]⟩,⟨(some (26,false)),[ao 27 3 1,aq 28 27,aA 29 .lss 28 0]⟩,⟨none,[bC 30 26 29,aa 31 30]⟩,⟨(some (31,false)),[ao 32 3 1,aq 33 32,ao 34 1 1,aq 35 34,aQ 36 35,aS 37 .geq 33 36]⟩,⟨none,[bC 38 31 37]⟩]) <|
  .cond (.tmp 38) (.seq (ak [aW 2 false]) <|
  .ret) (.skip)) <|
  .seq (ak [aI 3 (-1)]) <|
  .seq (.seq (ak [aI 4 0]) <|
  .block 0 (.loop kj)) <|
  .seq (ak [aa 73 3,ao 74 1 1,aq 75 74,aQ 76 75,aA 77 .sub 76 1,aS 78 .eql 73 77,aa 2 78]) <|
  .ret,
  [.tmp 2],79⟩
theorem ql:aV Tryz.prog 48 [1]=some lR:=by kernel_rfl
set_option maxHeartbeats 2000000 in
theorem F9 (g:al) (hg:g.Ok) (H:View):aB Tryz.prog 89 [.agg (av g)] H fun r _=>r=gb (g9 g):=by
  refine aB.of mixed qC ?_
  simp (disch:=omega) only [↓wr,↓reduceIte,wq,ah,ag,aj,ab,ae,af,ai,isNil,Nat.reduceEqDiff,Nat.reduceAdd,Nat.reduceLT,Nat.reduceLeDiff,Int.reduceNeg,Int.reduceToNat,reduceCtorEq,lI,av,encS]
  refine an.dec (fun h=>?_) (fun h=>?_)
  · simp (disch:=omega) only [↓wr,↓reduceIte,wq,ah,ag,aj,ab,ae,af,ai,isNil,Nat.reduceEqDiff,Nat.reduceAdd,Nat.reduceLT,Nat.reduceLeDiff,Int.reduceNeg,Int.reduceToNat,reduceCtorEq]
    simp[g9,show ¬ g.ay.length≤24 by omega]
  · have hle:g.ay.length≤24:=by omega
    simp (disch:=omega) only [↓wr,↓reduceIte,wq,ah,ag,aj,ab,ae,af,ai,isNil,Nat.reduceEqDiff,Nat.reduceAdd,Nat.reduceLT,Nat.reduceLeDiff,Int.reduceNeg,Int.reduceToNat,reduceCtorEq]
    refine bw.intro (fun k T _=>∃ i:Nat,i+k=g.ay.length∧gQ g (g.ay.drop i) i=gQ g g.ay 0∧T 1=.aR (av g) 0∧T 3=gi i) g.ay.length ?_ ?_
    · exact ⟨0,by omega,rfl,rfl,rfl⟩
    · rintro k T H' ⟨i,hk,hi,h1,h3⟩
      simp (disch:=omega) only [↓wr,↓reduceIte,wq,ah,ag,aj,ab,ae,af,ai,isNil,Nat.reduceEqDiff,Nat.reduceAdd,Nat.reduceLT,Nat.reduceLeDiff,Int.reduceNeg,Int.reduceToNat,reduceCtorEq,kg,h1,h3,av]
      refine an.dec (fun hc=>?_) (fun hc=>?_)
      · have hg2:g.ay[i]?=some (g.ay[i]'(by omega)):=List.getElem?_eq_getElem (by omega)
        rw[dC (show i < g.ay.length by omega)] at hi
        have hmem:g.ay[i]'(by omega)∈g.ay:=List.getElem_mem _
        generalize g.ay[i]'(by omega)=t at hg2 hi hmem
        obtain ⟨⟨hl1,hl2⟩,⟨ha1,ha2⟩⟩:=hg.term t hmem
        simp only[gQ] at hi
        have hbad:ij g i t=false→gb false=gb (g9 g):=fun e=>by rw[e,Bool.false_and] at hi; simp[g9,← hi]
        simp (disch:=omega) only [↓wr,↓reduceIte,wq,ah,ag,aj,ab,ae,af,ai,isNil,Nat.reduceEqDiff,Nat.reduceAdd,Nat.reduceLT,Nat.reduceLeDiff,Int.reduceNeg,Int.reduceToNat,reduceCtorEq,h1,h3,av,cz,List.getElem?_map,hg2,Option.map_some]
        intro m hm
        try simp (disch:=omega) only [↓wr,↓reduceIte,wq,ah,ag,aj,ab,ae,af,ai,isNil,Nat.reduceEqDiff,Nat.reduceAdd,Nat.reduceLT,Nat.reduceLeDiff,Int.reduceNeg,Int.reduceToNat,reduceCtorEq,h1,h3]
        refine aF.pure (Gm t.name) (by kernel_rfl) ?_
        repeat' (first | (refine an.dec (fun _=>?_) (fun _=>?_)) | (refine an.eq (fun _=>?_) (fun _=>?_)) | (refine an.ne (fun _=>?_) (fun _=>?_)) | (refine an.split (fun _=>?_) (fun _=>?_)) | (simp (disch:=omega) only [↓wr,↓reduceIte,wq,ah,ag,aj,ab,ae,af,ai,isNil,Nat.reduceEqDiff,Nat.reduceAdd,Nat.reduceLT,Nat.reduceLeDiff,Int.reduceNeg,Int.reduceToNat,reduceCtorEq,h1,h3,av]))
        all_goals try (refine hbad ?_; simp[ij, *]; done)
        rename_i hnm
        refine aF.pure (z7 g hg t.name) (by kernel_rfl) ?_
        repeat' (first | (refine an.dec (fun _=>?_) (fun _=>?_)) | (refine an.eq (fun _=>?_) (fun _=>?_)) | (refine an.ne (fun _=>?_) (fun _=>?_)) | (refine an.split (fun _=>?_) (fun _=>?_)) | (simp (disch:=omega) only [↓wr,↓reduceIte,wq,ah,ag,aj,ab,ae,af,ai,isNil,Nat.reduceEqDiff,Nat.reduceAdd,Nat.reduceLT,Nat.reduceLeDiff,Int.reduceNeg,Int.reduceToNat,reduceCtorEq,h1,h3,av]))
        all_goals try (refine hbad ?_; simp[ij, *]; done)
        all_goals try (refine hbad ?_; simp[ij]; grind)
        rename_i e1 e2 e3 e4 e5 e6
        have hpre:ij g i t=nX g t:=by
          have e6':((t.level == 0) == (t.assoc == 0))=true:=by simpa using e6
          simp[ij,hnm,e1,e6',show (0:Int)≤t.level by omega,show t.level≤24 by omega,show (0:Int)≤t.assoc by omega,show t.assoc≤3 by omega]
        refine bw.intro (fun k' T H''=>∃ j:Nat,1≤j∧j+k'=t.level.toNat+1∧(∀ q:Nat,q+1 < j→eP g.ay ((q:Int)+1)=true)∧T 1=.aR (av g) 0∧T 3=gi i∧T 4=.ptr m 0 0∧H'' m=.arr 3 [[gs t.name,gi t.level,gi t.assoc]]∧T 5=gi j) t.level.toNat ?_ ?_
        · refine ⟨1,by omega,by omega,fun q hq=>by omega,?_⟩
          simp (disch:=omega) only [↓wr,↓reduceIte,wq,ah,ag,aj,ab,ae,af,ai,isNil,Nat.reduceEqDiff,Nat.reduceAdd,Nat.reduceLT,Nat.reduceLeDiff,Int.reduceNeg,Int.reduceToNat,reduceCtorEq,h1,h3,av]
          rfl
        · rintro k' T' H'' ⟨j,hj1,hj2,hj3,f1,f3,f4,fm,f5⟩
          simp (disch:=omega) only [↓wr,↓reduceIte,wq,ah,ag,aj,ab,ae,af,ai,isNil,Nat.reduceEqDiff,Nat.reduceAdd,Nat.reduceLT,Nat.reduceLeDiff,Int.reduceNeg,Int.reduceToNat,reduceCtorEq,ke,f1,f3,f4,f5,fm]
          refine an.dec (fun hd=>?_) (fun hd=>?_)
          · simp (disch:=omega) only [↓wr,↓reduceIte,wq,ah,ag,aj,ab,ae,af,ai,isNil,Nat.reduceEqDiff,Nat.reduceAdd,Nat.reduceLT,Nat.reduceLeDiff,Int.reduceNeg,Int.reduceToNat,reduceCtorEq,f1,f3,f4,f5,fm,av]
            refine aF.pure (FD g hg j) (by kernel_rfl) ?_
            repeat' (first | (refine an.dec (fun _=>?_) (fun _=>?_)) | (refine an.eq (fun _=>?_) (fun _=>?_)) | (refine an.ne (fun _=>?_) (fun _=>?_)) | (refine an.split (fun _=>?_) (fun _=>?_)) | (simp (disch:=omega) only [↓wr,↓reduceIte,wq,ah,ag,aj,ab,ae,af,ai,isNil,Nat.reduceEqDiff,Nat.reduceAdd,Nat.reduceLT,Nat.reduceLeDiff,Int.reduceNeg,Int.reduceToNat,reduceCtorEq,f1,f3,f4,f5,fm,av]))
            · rename_i hb
              refine ⟨k' - 1,by omega,j+1,by omega,by omega,fun q hq=>?_,by first | rfl | exact ⟨rfl,rfl⟩ | exact ⟨rfl,rfl,rfl⟩⟩
              by_cases e:q+1=j
              · have:(q:Int)+1=j:=by omega
                rw[this]; exact hb
              · exact hj3 q (by omega)
            · rename_i hb
              refine hbad ?_
              rw[hpre,nX,List.all_eq_false]
              refine ⟨j - 1,by simp; omega,?_⟩
              have:((j - 1:Nat):Int)+1=j:=by omega
              rw[this,hb]; simp
          · simp (disch:=omega) only [↓wr,↓reduceIte,wq,ah,ag,aj,ab,ae,af,ai,isNil,Nat.reduceEqDiff,Nat.reduceAdd,Nat.reduceLT,Nat.reduceLeDiff,Int.reduceNeg,Int.reduceToNat,reduceCtorEq,f1,f3,f4,f5,fm]
            refine ⟨k - 1,by omega,i+1,by omega,?_,by first | rfl | exact ⟨rfl,rfl⟩ | exact ⟨rfl,rfl,rfl⟩⟩
            have hlv:nX g t=true:=by
              rw[nX,List.all_eq_true]
              intro q hq
              exact hj3 q (by simp at hq; omega)
            rw[hpre,hlv,Bool.true_and] at hi
            push_cast; exact hi
      · rw[List.drop_eq_nil_of_le (by omega)] at hi
        simp only[gQ] at hi
        simp (disch:=omega) only [↓wr,↓reduceIte,wq,ah,ag,aj,ab,ae,af,ai,isNil,Nat.reduceEqDiff,Nat.reduceAdd,Nat.reduceLT,Nat.reduceLeDiff,Int.reduceNeg,Int.reduceToNat,reduceCtorEq,h1,h3]
        simp[g9,hle,← hi]
theorem Gi (g:al) (hg:g.Ok):aE Tryz.prog 89 [.agg (av g)] (gb (g9 g)):=aE.val (gn g) (F9 g hg)
def jv (g:al) (i:Int) (s:ByteArray):Bool:=ec (dI s) && (tI g s == i) && decide (jM g s < 0)
def nV (g:al):List ByteArray→Int→Bool
  | [],_=>true
  | s :: r,i=>jv g i s && nV g r (i+1)
def iH (g:al):Bool:=decide (1≤g.ax.length) && decide (g.ax.length≤16) && nV g g.ax 0
set_option maxHeartbeats 1000000 in
theorem IQ (g:al) (hg:g.Ok) (H:View):aB Tryz.prog 90 [.agg (av g)] H fun r _=>r=gb (iH g):=by
  refine aB.of mixed qQ ?_
  repeat' (first | (refine an.dec (fun _=>?_) (fun _=>?_)) | (refine an.eq (fun _=>?_) (fun _=>?_)) | (refine an.ne (fun _=>?_) (fun _=>?_)) | (refine an.split (fun _=>?_) (fun _=>?_)) | (simp (disch:=omega) only [↓wr,↓reduceIte,wq,ah,ag,aj,ab,ae,af,ai,isNil,Nat.reduceEqDiff,Nat.reduceAdd,Nat.reduceLT,Nat.reduceLeDiff,Int.reduceNeg,Int.reduceToNat,reduceCtorEq,na,av,encS]))
  · simp[iH,show ¬ 1≤g.ax.length by omega]
  · simp[iH,show ¬ g.ax.length≤16 by omega]
  · have hle:g.ax.length≤16:=by omega
    refine bw.intro (fun k T _=>∃ i:Nat,i+k=g.ax.length∧nV g (g.ax.drop i) i=nV g g.ax 0∧T 1=.aR (av g) 0∧T 3=gi i) g.ax.length ?_ ?_
    · exact ⟨0,by omega,rfl,rfl,rfl⟩
    · rintro k T H' ⟨i,hk,hi,h1,h3⟩
      simp (disch:=omega) only [↓wr,↓reduceIte,wq,ah,ag,aj,ab,ae,af,ai,isNil,Nat.reduceEqDiff,Nat.reduceAdd,Nat.reduceLT,Nat.reduceLeDiff,Int.reduceNeg,Int.reduceToNat,reduceCtorEq,kM,h1,h3,av,encS]
      refine an.dec (fun hc=>?_) (fun hc=>?_)
      · have hg2:g.ax[i]?=some (g.ax[i]'(by omega)):=List.getElem?_eq_getElem (by omega)
        rw[dC (show i < g.ax.length by omega)] at hi
        generalize g.ax[i]'(by omega)=t at hg2 hi
        simp only[nV] at hi
        have hbad:jv g i t=false→gb false=gb (iH g):=fun e=>by rw[e,Bool.false_and] at hi; simp[iH,← hi]
        simp (disch:=omega) only [↓wr,↓reduceIte,wq,ah,ag,aj,ab,ae,af,ai,isNil,Nat.reduceEqDiff,Nat.reduceAdd,Nat.reduceLT,Nat.reduceLeDiff,Int.reduceNeg,Int.reduceToNat,reduceCtorEq,h1,h3,av,encS,List.getElem?_map,hg2,Option.map_some]
        refine aF.pure (zE t) (by kernel_rfl) ?_
        repeat' (first | (refine an.dec (fun _=>?_) (fun _=>?_)) | (refine an.eq (fun _=>?_) (fun _=>?_)) | (refine an.ne (fun _=>?_) (fun _=>?_)) | (refine an.split (fun _=>?_) (fun _=>?_)) | (simp (disch:=omega) only [↓wr,↓reduceIte,wq,ah,ag,aj,ab,ae,af,ai,isNil,Nat.reduceEqDiff,Nat.reduceAdd,Nat.reduceLT,Nat.reduceLeDiff,Int.reduceNeg,Int.reduceToNat,reduceCtorEq,h1,h3,av,encS,List.getElem?_map,hg2,Option.map_some]))
        all_goals try (refine hbad ?_; simp[jv, *]; done)
        rename_i hnm
        refine aF.pure (JF g hg t) (by kernel_rfl) ?_
        repeat' (first | (refine an.dec (fun _=>?_) (fun _=>?_)) | (refine an.eq (fun _=>?_) (fun _=>?_)) | (refine an.ne (fun _=>?_) (fun _=>?_)) | (refine an.split (fun _=>?_) (fun _=>?_)) | (simp (disch:=omega) only [↓wr,↓reduceIte,wq,ah,ag,aj,ab,ae,af,ai,isNil,Nat.reduceEqDiff,Nat.reduceAdd,Nat.reduceLT,Nat.reduceLeDiff,Int.reduceNeg,Int.reduceToNat,reduceCtorEq,h1,h3,av,encS,List.getElem?_map,hg2,Option.map_some]))
        all_goals try (refine hbad ?_; simp[jv, *]; done)
        rename_i hno
        refine aF.pure (z7 g hg t) (by kernel_rfl) ?_
        repeat' (first | (refine an.dec (fun _=>?_) (fun _=>?_)) | (refine an.eq (fun _=>?_) (fun _=>?_)) | (refine an.ne (fun _=>?_) (fun _=>?_)) | (refine an.split (fun _=>?_) (fun _=>?_)) | (simp (disch:=omega) only [↓wr,↓reduceIte,wq,ah,ag,aj,ab,ae,af,ai,isNil,Nat.reduceEqDiff,Nat.reduceAdd,Nat.reduceLT,Nat.reduceLeDiff,Int.reduceNeg,Int.reduceToNat,reduceCtorEq,h1,h3,av,encS]))
        all_goals try (refine hbad ?_; simp[jv, *]; done)
        rename_i hte
        refine ⟨k - 1,by omega,i+1,by omega,?_,by first | rfl | exact ⟨rfl,rfl⟩ | exact ⟨rfl,rfl,rfl⟩⟩
        have:jv g i t=true:=by simp[jv,hnm,hno,show jM g t < 0 by omega]
        rw[this,Bool.true_and] at hi
        push_cast; exact hi
      · rw[List.drop_eq_nil_of_le (by omega)] at hi
        simp only[nV] at hi
        simp (disch:=omega) only [↓wr,↓reduceIte,wq,ah,ag,aj,ab,ae,af,ai,isNil,Nat.reduceEqDiff,Nat.reduceAdd,Nat.reduceLT,Nat.reduceLeDiff,Int.reduceNeg,Int.reduceToNat,reduceCtorEq,h1,h3]
        simp[iH,hle,show 1≤g.ax.length by omega,← hi]
theorem IK (g:al) (hg:g.Ok):aE Tryz.prog 90 [.agg (av g)] (gb (iH g)):=aE.val (gn g) (IQ g hg)
def jZ (g:al) (prec s:Int):Bool:=iA g s && !(decide (0≤s) && prec == -1)
def fp (g:al) (r:aJ):Bool:=decide (r.right.length≤6) && decide (-1≤r.prec) && decide (r.prec < g.ay.length) && r.right.all (jZ g r.prec)
theorem Cw (g:al) (r:aJ):∀ v∈[V.agg (av g),V.agg (bf r)],Tree v:=by
  intro v hv; simp at hv
  rcases hv with rfl | rfl
  · exact dp _ (dD g)
  · exact dp _ (eZ r)
set_option maxHeartbeats 1000000 in
theorem Il (g:al) (r:aJ) (hr:aH r.right∧∀ x∈r.right,bT x) (H:View):aB Tryz.prog 91 [.agg (av g),.agg (bf r)] H fun v _=>v=gb (fp g r):=by
  refine aB.of mixed q9 ?_
  repeat' (first | (refine an.dec (fun _=>?_) (fun _=>?_)) | (refine an.eq (fun _=>?_) (fun _=>?_)) | (refine an.ne (fun _=>?_) (fun _=>?_)) | (refine an.split (fun _=>?_) (fun _=>?_)) | (simp (disch:=omega) only [↓wr,↓reduceIte,wq,ah,ag,aj,ab,ae,af,ai,isNil,Nat.reduceEqDiff,Nat.reduceAdd,Nat.reduceLT,Nat.reduceLeDiff,Int.reduceNeg,Int.reduceToNat,reduceCtorEq,m4,av,encS,bf,encI]))
  · simp[fp,show ¬ r.right.length≤6 by omega]
  · simp[fp,show ¬ -1≤r.prec by omega]
  · simp[fp,show ¬ r.prec < g.ay.length by omega]
  · have hle:r.right.length≤6:=by omega
    have hp1 : -1≤r.prec:=by omega
    have hp2:r.prec < g.ay.length:=by omega
    refine bw.intro (fun k T _=>∃ i:Nat,i+k=r.right.length∧(r.right.drop i).all (jZ g r.prec)=r.right.all (jZ g r.prec)∧T 2=.aR (av g) 0∧T 3=.aR (bf r) 0∧T 5=gi i) r.right.length ?_ ?_
    · exact ⟨0,by omega,rfl,rfl,rfl,rfl⟩
    · rintro k T H' ⟨i,hk,hi,h2,h3,h5⟩
      simp (disch:=omega) only [↓wr,↓reduceIte,wq,ah,ag,aj,ab,ae,af,ai,isNil,Nat.reduceEqDiff,Nat.reduceAdd,Nat.reduceLT,Nat.reduceLeDiff,Int.reduceNeg,Int.reduceToNat,reduceCtorEq,kE,h2,h3,h5,bf,encI]
      refine an.dec (fun hc=>?_) (fun hc=>?_)
      · have hg2:r.right[i]?=some (r.right[i]'(by omega)):=List.getElem?_eq_getElem (by omega)
        rw[dC (show i < r.right.length by omega)] at hi
        have hmem:r.right[i]'(by omega)∈r.right:=List.getElem_mem _
        generalize r.right[i]'(by omega)=t at hg2 hi hmem
        have hin:=hr.2 t hmem
        simp only[List.all_cons] at hi
        have hbad:jZ g r.prec t=false→gb false=gb (fp g r):=fun e=>by rw[e,Bool.false_and] at hi; simp only[fp,← hi,Bool.and_false]
        have hok:jZ g r.prec t=true→(r.right.drop (i+1)).all (jZ g r.prec)=r.right.all (jZ g r.prec):=fun e=>by rw[e,Bool.true_and] at hi; exact hi
        simp (disch:=omega) only [↓wr,↓reduceIte,wq,ah,ag,aj,ab,ae,af,ai,isNil,Nat.reduceEqDiff,Nat.reduceAdd,Nat.reduceLT,Nat.reduceLeDiff,Int.reduceNeg,Int.reduceToNat,reduceCtorEq,h2,h3,h5,av,encS,bf,encI,List.getElem?_map,hg2,Option.map_some]
        refine aF.pure (LU g t hin) (by kernel_rfl) ?_
        repeat' (first | (refine an.dec (fun _=>?_) (fun _=>?_)) | (refine an.eq (fun _=>?_) (fun _=>?_)) | (refine an.ne (fun _=>?_) (fun _=>?_)) | (refine an.split (fun _=>?_) (fun _=>?_)) | (simp (disch:=omega) only [↓wr,↓reduceIte,wq,ah,ag,aj,ab,ae,af,ai,isNil,Nat.reduceEqDiff,Nat.reduceAdd,Nat.reduceLT,Nat.reduceLeDiff,Int.reduceNeg,Int.reduceToNat,reduceCtorEq,h2,h3,h5,av,encS,bf,encI,List.getElem?_map,hg2,Option.map_some]))
        all_goals first
          | (refine hbad ?_; simp[jZ, *]; done)
          | (refine ⟨k - 1,by omega,i+1,by omega,hok (by simp[jZ, *]; done),by first | rfl | exact ⟨rfl,rfl⟩ | exact ⟨rfl,rfl,rfl⟩⟩)
          | skip
      · rw[List.drop_eq_nil_of_le (by omega)] at hi
        simp only[List.all_nil] at hi
        simp (disch:=omega) only [↓wr,↓reduceIte,wq,ah,ag,aj,ab,ae,af,ai,isNil,Nat.reduceEqDiff,Nat.reduceAdd,Nat.reduceLT,Nat.reduceLeDiff,Int.reduceNeg,Int.reduceToNat,reduceCtorEq,h2,h3,h5]
        simp only[fp,hle,hp1,hp2,decide_true,Bool.true_and,← hi]
theorem Hv (g:al) (r:aJ) (hr:aH r.right∧∀ x∈r.right,bT x):aE Tryz.prog 91 [.agg (av g),.agg (bf r)] (gb (fp g r)):=aE.val (Cw g r) (Il g r hr)
def eO (g:al):List aJ→Int→Bool
  | [],top=>top == (g.ax.length:Int) - 1
  | r :: l,top=>decide (0≤r.left) && decide (r.left≤top+1) && fp g r && eO g l (if r.left > top then r.left else top)
def bk (g:al):Bool :=
  g9 g && iH g && decide (1≤g.rules.length) && decide (g.rules.length≤40) && decide (0≤g.start) && decide (g.start < g.ax.length) && eO g g.rules (-1)
set_option maxHeartbeats 1000000 in
theorem Fe (g:al) (hg:g.Ok) (H:View):aB Tryz.prog 48 [.agg (av g)] H fun r _=>r=gb (bk g):=by
  refine aB.of mixed ql ?_
  have hn:=hg.ax
  unfold aH at hn
  simp (disch:=omega) only [↓wr,↓reduceIte,wq,ah,ag,aj,ab,ae,af,ai,isNil,Nat.reduceEqDiff,Nat.reduceAdd,Nat.reduceLT,Nat.reduceLeDiff,Int.reduceNeg,Int.reduceToNat,reduceCtorEq,lR,av,encS]
  refine aF.pure (Gi g hg) (by kernel_rfl) ?_
  repeat' (first | (refine an.dec (fun _=>?_) (fun _=>?_)) | (refine an.eq (fun _=>?_) (fun _=>?_)) | (refine an.ne (fun _=>?_) (fun _=>?_)) | (refine an.split (fun _=>?_) (fun _=>?_)) | (simp (disch:=omega) only [↓wr,↓reduceIte,wq,ah,ag,aj,ab,ae,af,ai,isNil,Nat.reduceEqDiff,Nat.reduceAdd,Nat.reduceLT,Nat.reduceLeDiff,Int.reduceNeg,Int.reduceToNat,reduceCtorEq,av,encS]))
  · rename_i h1
    refine aF.pure (IK g hg) (by kernel_rfl) ?_
    repeat' (first | (refine an.dec (fun _=>?_) (fun _=>?_)) | (refine an.eq (fun _=>?_) (fun _=>?_)) | (refine an.ne (fun _=>?_) (fun _=>?_)) | (refine an.split (fun _=>?_) (fun _=>?_)) | (simp (disch:=omega) only [↓wr,↓reduceIte,wq,ah,ag,aj,ab,ae,af,ai,isNil,Nat.reduceEqDiff,Nat.reduceAdd,Nat.reduceLT,Nat.reduceLeDiff,Int.reduceNeg,Int.reduceToNat,reduceCtorEq,av,encS]))
    all_goals try (simp[bk, *]; done)
    all_goals try (simp[bk]; omega)
    rename_i h2 h3 h4 h5 h6
    have hle:g.rules.length≤40:=by omega
    have hpre:∀ b,eO g g.rules (-1)=b→gb b=gb (bk g):=fun b e=>by
      simp[bk,h1,h2,show 1≤g.rules.length by omega,hle,show 0≤g.start by omega,show g.start < g.ax.length by omega,e]
    refine bw.intro (fun k T _=>∃ (i:Nat) (w:Int),i+k=g.rules.length∧-1≤w∧w < i∧eO g (g.rules.drop i) w=eO g g.rules (-1)∧T 1=.aR (av g) 0∧T 3=gi w∧T 4=gi i) g.rules.length ?_ ?_
    · exact ⟨0,-1,by omega,by omega,by omega,rfl,rfl,rfl,rfl⟩
    · rintro k T H' ⟨i,w,hk,hw1,hw2,hi,f1,f3,f4⟩
      simp (disch:=omega) only [↓wr,↓reduceIte,wq,ah,ag,aj,ab,ae,af,ai,isNil,Nat.reduceEqDiff,Nat.reduceAdd,Nat.reduceLT,Nat.reduceLeDiff,Int.reduceNeg,Int.reduceToNat,reduceCtorEq,kj,f1,f3,f4,av]
      refine an.dec (fun hc=>?_) (fun hc=>?_)
      · have hg2:g.rules[i]?=some (g.rules[i]'(by omega)):=List.getElem?_eq_getElem (by omega)
        rw[dC (show i < g.rules.length by omega)] at hi
        have hmem:g.rules[i]'(by omega)∈g.rules:=List.getElem_mem _
        generalize g.rules[i]'(by omega)=t at hg2 hi hmem
        obtain ⟨⟨hl1,hl2⟩,hp,hr1,hr2⟩:=hg.bb t hmem
        simp only[eO] at hi
        simp (disch:=omega) only [↓wr,↓reduceIte,wq,ah,ag,aj,ab,ae,af,ai,isNil,Nat.reduceEqDiff,Nat.reduceAdd,Nat.reduceLT,Nat.reduceLeDiff,Int.reduceNeg,Int.reduceToNat,reduceCtorEq,f1,f3,f4,av,encS,bf,encI,List.getElem?_map,hg2,Option.map_some]
        intro m hm
        try simp (disch:=omega) only [↓wr,↓reduceIte,wq,ah,ag,aj,ab,ae,af,ai,isNil,Nat.reduceEqDiff,Nat.reduceAdd,Nat.reduceLT,Nat.reduceLeDiff,Int.reduceNeg,Int.reduceToNat,reduceCtorEq,f1,f3,f4]
        repeat' (first | (refine an.dec (fun _=>?_) (fun _=>?_)) | (refine an.eq (fun _=>?_) (fun _=>?_)) | (refine an.ne (fun _=>?_) (fun _=>?_)) | (refine an.split (fun _=>?_) (fun _=>?_)) | (simp (disch:=omega) only [↓wr,↓reduceIte,wq,ah,ag,aj,ab,ae,af,ai,isNil,Nat.reduceEqDiff,Nat.reduceAdd,Nat.reduceLT,Nat.reduceLeDiff,Int.reduceNeg,Int.reduceToNat,reduceCtorEq,f1,f3,f4,av,encS,bf,encI]))
        all_goals try (refine hpre _ ?_; simp only[← hi]; simp; omega)
        rename_i e1 e2
        refine aF.pure (Hv g t ⟨hr1,hr2⟩) (by kernel_rfl) ?_
        repeat' (first | (refine an.dec (fun _=>?_) (fun _=>?_)) | (refine an.eq (fun _=>?_) (fun _=>?_)) | (refine an.ne (fun _=>?_) (fun _=>?_)) | (refine an.split (fun _=>?_) (fun _=>?_)) | (simp (disch:=omega) only [↓wr,↓reduceIte,wq,ah,ag,aj,ab,ae,af,ai,isNil,Nat.reduceEqDiff,Nat.reduceAdd,Nat.reduceLT,Nat.reduceLeDiff,Int.reduceNeg,Int.reduceToNat,reduceCtorEq,f1,f3,f4,av,encS,bf,encI]))
        all_goals simp only[show 0≤t.left by omega,show t.left≤w+1 by omega,decide_true,Bool.true_and] at hi
        · rename_i e3 e4
          rw[e3,Bool.true_and,if_pos e4] at hi
          exact ⟨k - 1,by omega,i+1,_,by omega,by omega,by push_cast; omega,hi,by first | rfl | exact ⟨rfl,rfl⟩ | exact ⟨rfl,rfl,rfl⟩⟩
        · rename_i e3 e4
          rw[e3,Bool.true_and,if_neg e4] at hi
          exact ⟨k - 1,by omega,i+1,_,by omega,by omega,by push_cast; omega,hi,by first | rfl | exact ⟨rfl,rfl⟩ | exact ⟨rfl,rfl,rfl⟩⟩
        · rename_i e3
          rw[e3,Bool.false_and] at hi
          exact hpre _ hi.symm
      · rw[List.drop_eq_nil_of_le (by omega)] at hi
        simp only[eO] at hi
        simp (disch:=omega) only [↓wr,↓reduceIte,wq,ah,ag,aj,ab,ae,af,ai,isNil,Nat.reduceEqDiff,Nat.reduceAdd,Nat.reduceLT,Nat.reduceLeDiff,Int.reduceNeg,Int.reduceToNat,reduceCtorEq,f1,f3,f4,av,encS]
        exact hpre _ hi.symm
  · rename_i h1; simp[bk,h1]
theorem FW (g:al) (hg:g.Ok):aE Tryz.prog 48 [.agg (av g)] (gb (bk g)):=aE.val (gn g) (Fe g hg)
end Gv
namespace Gv
open Go
inductive bS (α:Type) where
  | nil
  | node (v:α) (l r:bS α)
noncomputable def bS.get {α:Type} (z:α) (t:bS α):Nat→α :=
  bS.rec (motive:=fun _=>Nat→α) (fun _=>z) (fun v _ _ gl gr i=>Bool.rec (Bool.rec (gr (i / 2 - 1)) (gl (i / 2)) (Nat.beq (i % 2) 1)) v (Nat.beq i 0)) t
theorem bS.get_nil {α:Type} (z:α) (i:Nat):bS.get z .nil i=z:=rfl
theorem bS.IY {α:Type} (z v:α) (l r:bS α) (i:Nat):bS.get z (.node v l r) i=match Nat.beq i 0 with
    | true=>v
    | false=>match Nat.beq (i % 2) 1 with
      | true=>bS.get z l (i / 2)
      | false=>bS.get z r (i / 2 - 1):=by
  change (Bool.rec (motive:=fun _=>α) _ _ _:α)=_
  cases Nat.beq i 0 with
  | true=>rfl
  | false=>cases Nat.beq (i % 2) 1 <;> rfl
def bS.val {α:Type} (z:α):bS α→α
  | .nil=>z
  | .node v _ _=>v
def bS.left {α:Type} : bS α→bS α
  | .nil=>.nil
  | .node _ l _=>l
def bS.right {α:Type} : bS α→bS α
  | .nil=>.nil
  | .node _ _ r=>r
noncomputable def bS.put {α:Type} (z:α) (x:α) (d:Nat):bS α→Nat→bS α :=
  Nat.rec (motive:=fun _=>bS α→Nat→bS α) (fun t _=>t) (fun _ pd t i =>
    Bool.rec (Bool.rec (.node (t.val z) t.left (pd t.right (i / 2 - 1))) (.node (t.val z) (pd t.left (i / 2)) t.right) (Nat.beq (i % 2) 1)) (.node x t.left t.right) (Nat.beq i 0)) d
theorem bS.Ke {α:Type} (z x:α) (d:Nat) (t:bS α) (i:Nat):bS.put z x (d+1) t i=match Nat.beq i 0 with
    | true=>.node x t.left t.right
    | false=>match Nat.beq (i % 2) 1 with
      | true=>.node (t.val z) (bS.put z x d t.left (i / 2)) t.right
      | false=>.node (t.val z) t.left (bS.put z x d t.right (i / 2 - 1)):=by
  change (Bool.rec (motive:=fun _=>bS α) _ _ _:bS α)=_
  cases Nat.beq i 0 with
  | true=>rfl
  | false=>cases Nat.beq (i % 2) 1 <;> rfl
theorem bS.j5 {α:Type} (z:α) (t:bS α) (j:Nat):t.get z j=if j=0 then t.val z else if j % 2=1 then t.left.get z (j / 2) else t.right.get z (j / 2 - 1):=by
  cases t with
  | nil=>simp[bS.get_nil,bS.val,bS.left,bS.right]
  | node v l r =>
    simp only[bS.IY,bS.val,bS.left,bS.right]
    by_cases h:j=0
    · subst h; rfl
    · have:Nat.beq j 0=false:=by cases e:Nat.beq j 0 with | true=>exact absurd (Nat.eq_of_beq_eq_true e) h | false=>rfl
      rw[this,if_neg h]
      simp only
      by_cases h2:j % 2=1
      · have:Nat.beq (j % 2) 1=true:=by rw[h2]; rfl
        rw[this,if_pos h2]
      · have:Nat.beq (j % 2) 1=false:=by cases e:Nat.beq (j % 2) 1 with | true=>exact absurd (Nat.eq_of_beq_eq_true e) h2 | false=>rfl
        rw[this,if_neg h2]
theorem bS.kd {α:Type} (z x:α):∀ (d:Nat) (t:bS α) (i j:Nat),i+1 < 2 ^ d→(bS.put z x d t i).get z j=if j=i then x else t.get z j
  | 0,t,i,j,h=>by simp at h
  | d+1,t,i,j,h=>by
    rw[Nat.pow_succ] at h
    simp only[bS.Ke]
    by_cases hi:i=0
    · subst hi
      have:Nat.beq 0 0=true:=rfl
      rw[this]
      simp only
      rw[bS.j5,bS.j5 z t]
      simp only[bS.val,bS.left,bS.right]
      by_cases hj:j=0
      · rw[if_pos hj,if_pos hj]
      · rw[if_neg hj,if_neg hj,if_neg hj]
    · have:Nat.beq i 0=false:=by cases e:Nat.beq i 0 with | true=>exact absurd (Nat.eq_of_beq_eq_true e) hi | false=>rfl
      rw[this]
      simp only
      by_cases h2:i % 2=1
      · have:Nat.beq (i % 2) 1=true:=by rw[h2]; rfl
        rw[this]
        simp only
        rw[bS.j5,bS.j5 z t]
        simp only[bS.val,bS.left,bS.right]
        by_cases hj:j=0
        · subst hj; rw[if_pos rfl,if_neg (fun e=>hi e.symm),if_pos rfl]
        · rw[if_neg hj,if_neg hj]
          by_cases hj2:j % 2=1
          · rw[if_pos hj2,if_pos hj2,bS.kd z x d _ _ _ (by omega)]
            by_cases e:j=i
            · subst e; simp
            · rw[if_neg e,if_neg (by omega)]
          · rw[if_neg hj2,if_neg hj2,if_neg (fun e=>hj2 (by rw[e]; exact h2))]
      · have:Nat.beq (i % 2) 1=false:=by cases e:Nat.beq (i % 2) 1 with | true=>exact absurd (Nat.eq_of_beq_eq_true e) h2 | false=>rfl
        rw[this]
        simp only
        rw[bS.j5,bS.j5 z t]
        simp only[bS.val,bS.left,bS.right]
        by_cases hj:j=0
        · subst hj; rw[if_pos rfl,if_neg (fun e=>hi e.symm),if_pos rfl]
        · rw[if_neg hj,if_neg hj]
          by_cases hj2:j % 2=1
          · rw[if_pos hj2,if_pos hj2,if_neg (fun e=>h2 (by rw[← e]; exact hj2))]
          · rw[if_neg hj2,if_neg hj2,bS.kd z x d _ _ _ (by omega)]
            by_cases e:j=i
            · subst e; simp
            · rw[if_neg e,if_neg (by omega)]
abbrev deep:Nat:=13
structure ES where
  L:bS V
  H:bS bN
  n:Nat
  w:List Nat
noncomputable def ES.T (s:ES):Env:=s.L.get .any
noncomputable def ES.V (s:ES):View:=s.H.get .dead
noncomputable def ES.put (s:ES) (d:Option Nat) (v:Gv.V):ES:=match d with
  | some t=>⟨s.L.put .any v deep t,s.H,s.n,s.w⟩
  | none=>s
theorem ES.Kn {s:ES} {d:Option Nat} {v:Gv.V} (h:∀ t,d=some t→t < 8000):(s.put d v).T=s.T.put d v:=by
  cases d with
  | none=>rfl
  | some t =>
    funext k
    have:=h t rfl
    simp only[ES.put,ES.T,Env.put]
    rw[bS.kd _ _ _ _ _ _ (by simp[deep]; omega)]
noncomputable def BF (v:V) (az:aU) (rd:List Nat) (s:ES):Option (V × ES × Rec):=match az with
  | .none=>some (v,s,⟨rd,[],false,s.n,s.n⟩)
  | .new o=>match Nat.ble s.n 8000 with
    | true=>some (v,⟨s.L,s.H.put .dead o deep s.n,s.n+1,s.w⟩,⟨rd,[],false,s.n,s.n+1⟩)
    | false=>none
  | .eQ id o=>match Nat.ble id 8000 with
    | true=>some (v,⟨s.L,s.H.put .dead o deep id,s.n,id :: s.w⟩,⟨rd,[id],false,s.n,s.n⟩)
    | false=>none
  | .bd id o=>match Nat.ble s.n 8000,Nat.ble id 8000 with
    | true,true=>some (v,⟨s.L,(s.H.put .dead .dead deep id).put .dead o deep s.n,s.n+1,id :: s.w⟩,⟨rd,[id],false,s.n,s.n+1⟩)
    | _,_=>none
noncomputable def MQ (x:SX) (_:Program) (T:Env) (_:View) (_:Nat):Out:=some (x.at T,.none,[])
noncomputable def MA (c a b:SX) (_:Program) (T:Env) (_:View) (_:Nat):Out:=match c.at T with
  | .val (.bool t)=>some (if t then a.at T else b.at T,.none,[])
  | _=>none
noncomputable def Mt (sz:Option Nat) (a:SX) (_:Program) (T:Env) (H:View) (_:Nat):Out:=sf sz (a.at T) H
noncomputable def Mh (sz:Nat) (a x:SX) (_:Program) (T:Env) (H:View) (_:Nat):Out:=xO sz (a.at T) (x.at T) H
noncomputable def MC (off:Nat) (x:SX) (_:Program) (T:Env) (_:View) (_:Nat):Out:=vt off (x.at T)
noncomputable def MU (sz:Nat) (x i:SX) (_:Program) (T:Env) (_:View) (_:Nat):Out:=yG sz (x.at T) (i.at T)
noncomputable def MV (x:SX) (_:Program) (T:Env) (_:View) (_:Nat):Out:=(dB (x.at T)).map fun n=>(aj n,.none,[])
noncomputable def L0 (op:BinOp) (x y:SX) (_:Program) (T:Env) (_:View) (_:Nat):Out:=uv op (x.at T) (y.at T)
noncomputable def MX (op:BinOp) (x y:SX) (_:Program) (T:Env) (_:View) (_:Nat):Out:=wh op (x.at T) (y.at T)
noncomputable def MK (x:SX) (_:Program) (T:Env) (_:View) (_:Nat):Out:=match x.at T with
  | .val (.bool t)=>some (.val (.bool (!t)),.none,[])
  | _=>none
noncomputable def MT (i:Nat) (x:SX) (_:Program) (T:Env) (_:View) (_:Nat):Out:=match x.at T with
  | .bg vs=>if i < vs.length then some (vs.getD i .any,.none,[]) else none
  | _=>none
noncomputable def Mx (x:SX) (_:Program) (T:Env) (_:View) (_:Nat):Out:=match x.at T with
  | .ptr id i j=>some (.ptr id i j,.none,[])
  | .aR e j=>some (.aR e j,.none,[])
  | .fn f a b=>some (.fn f a b,.none,[])
  | _=>none
noncomputable def eI (s:SI):Program→Env→View→Nat→Out:=match s with
  | .bd x=>MQ x
  | .pick c a b=>MA c a b
  | .load sz a=>Mt sz a
  | .store sz a x=>Mh sz a x
  | .addr o x=>MC o x
  | .idx sz x i=>MU sz x i
  | .len x=>MV x
  | .arith op x y=>L0 op x y
  | .ia op x y=>MX op x y
  | .not x=>MK x
  | .ext i x=>MT i x
  | .w6 x=>Mx x
  | s=>fun P T H n=>sI P s T H n
theorem Fm (s:SI) (P:Program) (T:Env) (H:View) (n:Nat):eI s P T H n=sI P s T H n:=by
  cases s <;> rfl
abbrev fg:=FuncId→List V→ES→Option (V × ES)
noncomputable def Iv (P:Program) (s:SI) (e:ES):Option (V × ES × Rec):=match eI s P e.T e.V e.n with
  | some (v,az,rd)=>BF v az rd e
  | none=>none
noncomputable def GU (call:fg) (f:SX) (args:List SX) (e:ES):Option (V × ES × Rec):=match f.at e.T with
  | .fn g first cap=>match call g (first ++ args.map (SX.at e.T) ++ cap) e with
    | some (v,e')=>some (v,⟨e.L,e'.H,e'.n,e'.w ++ e.w⟩,⟨[],e'.w,true,e.n,e'.n⟩)
    | none=>none
  | _=>none
noncomputable def eB (P:Program) (call:fg) (b:SB):ES→Option (V × ES × Rec):=match b with
  | .op s=>Iv P s
  | .call f args=>GU call f args
noncomputable def Ea (P:Program) (call:fg):List (Option Nat × SB)→List Rec→ES→Option (ES × List Rec)
  | [],a,e=>some (e,a)
  | (d,b) :: r,a,e=>match eB P call b e with
    | some (v,e',c)=>Ea P call r (a ++ [c]) (e'.put d v)
    | none=>none
noncomputable def Ks (e:ES):Rec:=⟨[],[],false,e.n,e.n⟩
noncomputable def rV:List (Option Nat × SB)→List Rec→ES→ES × List Rec
  | [],a,e=>(e,a)
  | (d,_) :: r,a,e=>rV r (a ++ [Ks e]) (e.put d (.bg []))
noncomputable def GS (P:Program) (call:fg) (ops:List (Option Nat × SB)) (want:Bool) (v:V) (a:List Rec) (e:ES):Option (ES × List Rec):=match v with
  | .val (.bool b)=>match xor b want with
    | true=>some (rV ops a e)
    | false=>Ea P call ops a e
  | .bg []=>some (rV ops a e)
  | _=>none
noncomputable def eG (P:Program) (call:fg) (g:SG) (a:List Rec) (e:ES):Option (ES × List Rec):=match g.guard with
  | none=>Ea P call g.ops a e
  | some (d,want)=>GS P call g.ops want (e.T d) a e
noncomputable def G3 (P:Program) (call:fg):List SG→List Rec→ES→Option (ES × List Rec)
  | [],a,e=>some (e,a)
  | g :: r,a,e=>match eG P call g a e with
    | some (e',a')=>G3 P call r a' e'
    | none=>none
inductive DC where
  | skip
  | region (ps:List (Nat × Nat)) (gs:List SG)
  | seq (x y:DC)
  | cond (c:SX) (x y:DC)
  | block (id:Nat) (c:DC)
  | loop (c:DC)
  | exit (id:Nat)
  | ret
  deriving Inhabited
def Iy (recs:List Rec) (ps:List (Nat × Nat)):Bool:=ps.all fun (i,k)=>match recs[i]?,recs[k]? with
  | some a,some b=>y4 a b
  | _,_=>false
abbrev ER:=Option (Exit × ES)
abbrev sX:=DC→ES→ER
noncomputable def Hq:ES→ER:=fun e=>some (.normal,e)
noncomputable def DX (P:Program) (call:fg) (ps:List (Nat × Nat)) (gs:List SG) (e:ES):ER:=match G3 P call gs [] e with
  | some (e',recs)=>match Iy recs ps with
    | true=>some (.normal,e')
    | false=>none
  | none=>none
noncomputable def LB (run:sX) (x y:DC) (e:ES):ER:=match run x e with
  | some (.normal,e')=>run y e'
  | r=>r
noncomputable def Kg (run:sX) (c:SX) (x y:DC) (e:ES):ER:=match c.at e.T with
  | .val (.bool true)=>run x e
  | .val (.bool false)=>run y e
  | _=>none
noncomputable def GL (run:sX) (id:Nat) (c:DC) (e:ES):ER:=match run c e with
  | some (r,e')=>some (nS id r,e')
  | none=>none
noncomputable def Ko (run:sX) (c:DC) (e:ES):ER:=match run c e with
  | some (.normal,e')=>run (.loop c) e'
  | r=>r
noncomputable def jL (P:Program) (call:fg) (run:sX) (c:DC):ES→ER:=match c with
  | .skip=>Hq
  | .region ps gs=>DX P call ps gs
  | .seq x y=>LB run x y
  | .cond c x y=>Kg run c x y
  | .block id c=>GL run id c
  | .loop c=>Ko run c
  | .exit id=>fun e=>some (.exit id,e)
  | .ret=>fun e=>some (.ret,e)
noncomputable def JG (r:SR) (e:ES):Option V:=match r with
  | .tmp t=>some (e.T t)
  | .cell t sz=>match e.T t with
    | .ptr id i j=>match e.V id with
      | .arr _ es=>if i < es.length then jK sz (es.getD i []) j else none
      | _=>none
    | .aR e j=>jK sz e j
    | _=>none
noncomputable def si:List SR→ES→Option (List V)
  | [],_=>some []
  | r :: l,e=>match JG r e,si l e with
    | some v,some vs=>some (v :: vs)
    | _,_=>none
noncomputable def j4:List V→Nat→bS V→bS V
  | [],_,t=>t
  | v :: vs,i,t=>j4 vs (i+1) (t.put .any v deep i)
structure DF where
  code:DC
  res:List SR
  n:Nat
noncomputable def LQ (l:List SR) (r:ER):Option (V × ES):=match r with
  | some (.ret,e)=>(si l e).map fun vs=>(ah vs,e)
  | some (.normal,e)=>(si l e).map fun vs=>(ah vs,e)
  | _=>none
noncomputable def LA (m:Nat) (r:Option (V × ES)):Option (V × ES):=match r with
  | some (v,e)=>some (v,⟨e.L,e.H,e.n,e.w.filter fun id=>Nat.blt id m⟩)
  | none=>none
noncomputable def LO (run:sX) (F:DF) (vs:List V) (e:ES):Option (V × ES):=match Nat.ble vs.length F.n,Nat.ble F.n 8000 with
  | true,true=>LA e.n (LQ F.res (run F.code ⟨j4 vs 0 .nil,e.H,e.n,[]⟩))
  | _,_=>none
abbrev uF:=FuncId→List V→View→Option V
noncomputable def A5 (P:Program) (tab:List (FuncId × DF)) (ext:uF) (run:sX) (g:FuncId) (vs:List V) (e:ES):Option (V × ES):=match ext g vs e.V with
  | some t=>some (t,⟨e.L,e.H,e.n,[]⟩)
  | none=>match tab.find? (fun p=>Nat.beq p.1 g) with
    | some (_,F)=>LO run F vs e
    | none=>none
noncomputable def CD (P:Program) (tab:List (FuncId × DF)) (ext:uF):Nat→sX
  | 0=>fun _ _=>none
  | k+1=>jL P (A5 P tab ext (CD P tab ext k)) (CD P tab ext k)
def yg (all:List Oper) (ls:List Nat):List (Nat × Nat) :=
  let b:=dL all []
  (ls.zipIdx.map fun (x,i)=>(ls.zipIdx.filter fun (y,k)=>decide (i < k) && !(ordered b i k || x == 0 || y == 0 || (decide (x≤1) && decide (y≤1)))).map fun (_,k)=>(i,k)).flatten
def CB (P:Program) (n:Nat) (fz:List Nat) (ops:List Oper) (draw:Bool):Option DC:=match cD P n ops ⟨fz,false⟩ ops with
  | none=>none
  | some l=>if !(group l).all pS then none else
    if draw then (if jD ops then some (.region (yg ops (l.map fun s=>fU P false s.b)) (group l)) else none) else some (.region [] (group l))
def fT (P:Program) (n:Nat) (fz:List Nat):Code→Option DC
  | .skip=>some .skip
  | .region _ ops draw=>CB P n fz ops.toList draw
  | .seq x y=>match fT P n fz x,fT P n fz y with
    | some a,some b=>some (.seq a b)
    | _,_=>none
  | .cond c x y=>match fT P n fz x,fT P n fz y with
    | some a,some b=>some (.cond (SX.of c) a b)
    | _,_=>none
  | .block id c=>(fT P n fz c).map (.block id)
  | .loop c=>(fT P n fz c).map .loop
  | .exit id=>some (.exit id)
  | .ret=>some .ret
  | _=>none
abbrev au (l:List (Option Nat × SB)):DC:=.region [] [⟨none,l⟩]
def bt (P:Program) (f:FuncId) (fz:List Nat):Option DF:=match P.funcs[f]? with
  | some fn=>match fn.body with
    | some c=>match fT P fn.ntmps fz c,dN P fn.results.toList,cy P f with
      | some sc,some rs,true=>some ⟨sc,rs,fn.ntmps⟩
      | _,_,_=>none
    | none=>none
  | none=>none
end Gv
namespace Gv
open Go
section
variable {P:Program} {n:Nat} {all:List Oper}
def fH (h:aC) (e:ES):Prop:=e.V=h.view∧e.n=h.length
def Calm (e e':ES) (h h':aC):Prop:=h.length≤h'.length∧(∀ id,id < h.length→¬ id∈e'.w→h'.view id=h.view id∧¬ id∈e.w)
theorem Calm.trans {a b c:ES} {h1 h2 h3:aC} (x:Calm a b h1 h2) (y:Calm b c h2 h3):Calm a c h1 h3 :=
  ⟨Nat.le_trans x.1 y.1,fun id hid hw =>
    let ⟨e1,d1⟩:=y.2 id (Nat.lt_of_lt_of_le hid x.1) hw
    let ⟨e2,d2⟩:=x.2 id hid d1
    ⟨e1.trans e2,d2⟩⟩
theorem Calm.refl (e:ES) (h:aC):Calm e e h h:=⟨Nat.le_refl _,fun _ _ hw=>⟨rfl,hw⟩⟩
def iB (P:Program) (call:fg):Prop:=∀ g vs e v e' h,call g vs e=some (v,e')→fH h e →
  cy P g=true∧∃ h',bL P g vs h v h'∧fH h' e'∧(∀ id,id < h.length→¬ id∈e'.w→h'.view id=h.view id)∧∀ id,id∈e'.w→id < h.length
def rM (P:Program) (run:sX):Prop:=∀ (n:Nat) (fz:List Nat) (c:Code) (sc:DC),fT P n fz c=some sc→n≤8000→∀ (e e':ES) (r:Exit) (h:aC),run sc e=some (r,e')→fH h e →
  ∃ h',ct P n c e.T h r e'.T h'∧fH h' e'∧Calm e e' h h'∧∀ c0,c=.loop c0→mB P n c0 e.T h r e'.T h'
theorem Ii {h:aC} {e:ES} {d:Option Nat} {v:V} (he:fH h e):fH h (e.put d v):=by cases d <;> exact he
theorem Kv {e:ES} {d:Option Nat} {v:V} : (e.put d v).w=e.w:=by cases d <;> rfl
theorem J4 {h:aC} {e e':ES} {h':aC} {d:Option Nat} {v:V} (x:Calm e e' h h'):Calm e (e'.put d v) h h':=⟨x.1,fun id hid hw=>x.2 id hid (by rw[Kv] at hw; exact hw)⟩
theorem yh {a:Nat} (h:Nat.ble a 8000=true):a+1 < 2 ^ 13:=by
  have:=Nat.le_of_ble_eq_true h
  omega
theorem K5 {h:aC} {e e':ES} {v v':V} {az:aU} {rd:List Nat} {c:Rec} (he:fH h e) (hx:BF v az rd e=some (v',e',c)) :
    v'=v∧e'.T=e.T∧e'.V=az.view h.view h.length∧e'.n=(az.apply h).length∧c=⟨rd,az.wr,false,h.length,(az.apply h).length⟩∧e'.w=az.wr ++ e.w:=by
  obtain ⟨h1,h2⟩:=he
  unfold BF at hx
  cases az with
  | none =>
    simp only[Option.some.injEq,Prod.mk.injEq] at hx
    obtain ⟨rfl,rfl,rfl⟩:=hx
    exact ⟨rfl,rfl,h1,h2,by rw[h2]; rfl,rfl⟩
  | new o =>
    simp only at hx
    split at hx
    · rename_i hb
      simp only[Option.some.injEq,Prod.mk.injEq] at hx
      obtain ⟨rfl,rfl,rfl⟩:=hx
      refine ⟨rfl,rfl,?_,by simp[eD,h2],by simp[eD,h2,aU.wr],rfl⟩
      funext k
      simp only[ES.V,aU.view,View.set]
      rw[bS.kd _ _ _ _ _ _ (yh hb),h2]
      have:=congrFun h1 k
      simp only[ES.V] at this
      rw[this]
    · simp at hx
  | eQ id o =>
    simp only at hx
    split at hx
    · rename_i hb
      simp only[Option.some.injEq,Prod.mk.injEq] at hx
      obtain ⟨rfl,rfl,rfl⟩:=hx
      refine ⟨rfl,rfl,?_,by simp[eD,h2],by simp[eD,h2,aU.wr],rfl⟩
      funext k
      simp only[ES.V,aU.view,View.set]
      rw[bS.kd _ _ _ _ _ _ (yh hb)]
      have:=congrFun h1 k
      simp only[ES.V] at this
      rw[this]
    · simp at hx
  | bd id o =>
    simp only at hx
    split at hx
    · rename_i hb1 hb2
      simp only[Option.some.injEq,Prod.mk.injEq] at hx
      obtain ⟨rfl,rfl,rfl⟩:=hx
      refine ⟨rfl,rfl,?_,by simp[eD,h2],by simp[eD,h2,aU.wr],rfl⟩
      funext k
      simp only[ES.V,aU.view,View.set]
      rw[bS.kd _ _ _ _ _ _ (yh hb1),bS.kd _ _ _ _ _ _ (yh hb2),h2]
      have:=congrFun h1 k
      simp only[ES.V] at this
      rw[this]
    · simp at hx
theorem LH {o:Oper} {e e':ES} {h:aC} {s:SI} {v:V} {c:Rec} (hg:cq n all e.T o=some true) (hc:∀ v az rd,sI P s e.T h.view h.length=some (v,az,rd)→bM P o e.T h.view h.length=some (v,az,rd))
    (he:fH h e) (hx:Iv P s e=some (v,e',c)):∃ h',cI P n all o e.T h v h' c.rd c.wr c.call∧fH h' e'∧e'.T=e.T∧Calm e e' h h'∧iO (pL P s) c.rd c.wr c.call h.length h'.length∧c.lo=h.length∧c.hi=h'.length:=by
  unfold Iv at hx
  rw[Fm,he.1,he.2] at hx
  split at hx
  · rename_i v0 az rd hs
    obtain ⟨rfl,g1,g2,g3,rfl,g5⟩:=K5 he hx
    have ha:=hc _ _ _ hs
    have st:=cI.op (P:=P) (n:=n) (all:=all) hg ha
    refine ⟨az.apply h,st,⟨?_,g3⟩,g1,⟨pn st,fun id hid hw=>?_⟩,⟨fun h0=>?_,fun h1=>?_⟩,rfl,rfl⟩
    · rw[iS (fun id hid=>(jV ha id hid).1)]; exact g2
    · rw[g5] at hw
      simp only[List.mem_append,not_or] at hw
      exact ⟨nT st hid hw.1,hw.2⟩
    · obtain ⟨rfl,rfl⟩:=(oy hs).1 h0
      exact ⟨rfl,rfl,rfl,rfl⟩
    · rcases Nat.lt_or_ge (pL P s) 1 with h2 | h2
      · obtain ⟨rfl,rfl⟩:=(oy hs).1 (by omega); rfl
      · exact (oy hs).2 (by omega)
  · simp at hx
theorem Mq {call:fg} (hcall:iB P call) {fz:Fz} {o:Oper} {e e':ES} {h:aC} {v:V} {c:Rec} (hg:cq n all e.T o=some true) (he:fH h e) (hx:eB P call (kJ P fz o) e=some (v,e',c)) :
    ∃ h',cI P n all o e.T h v h' c.rd c.wr c.call∧fH h' e'∧e'.T=e.T∧Calm e e' h h'∧iO (fU P false (kJ P fz o)) c.rd c.wr c.call h.length h'.length∧c.lo=h.length∧c.hi=h'.length:=by
  rcases vV P fz o with ⟨f,args,ats,ho,hc⟩ | ⟨t,x,ho,hc⟩ | ⟨s,d,x,ho,hcv,hc⟩ | hc
  · rw[hc] at hx ⊢
    simp only[eB,GU] at hx
    split at hx
    · rename_i g first cap hf
      rw[BW] at hx
      rw[SX.bV] at hf
      split at hx
      · rename_i v0 e0 hv
        obtain ⟨hok,h',hr,hek,hd,hd2⟩:=hcall _ _ _ _ _ _ hv he
        simp only[Option.some.injEq,Prod.mk.injEq] at hx
        obtain ⟨rfl,rfl,rfl⟩:=hx
        exact ⟨h',.call hg ho hf hok hr hd hd2,hek,rfl,⟨hr.1,fun id hid hw=>by
          simp only[List.mem_append,not_or] at hw
          exact ⟨hd id hid hw.1,hw.2⟩⟩,Kw (by simp[fU]),he.2,hek.2⟩
      · simp at hx
    · simp at hx
  · rw[hc] at hx ⊢
    simp only[eB,Iv,Fm,sI,SX.bV] at hx
    split at hx
    · rename_i v0 az rd hs
      split at hs
      · rename_i hok
        simp only[Option.some.injEq,Prod.mk.injEq] at hs
        obtain ⟨rfl,rfl,rfl⟩:=hs
        simp only[BF,Option.some.injEq,Prod.mk.injEq] at hx
        obtain ⟨rfl,rfl,rfl⟩:=hx
        exact ⟨h,.gh hg ho hok,he,rfl,Calm.refl _ _,⟨fun _=>⟨rfl,rfl,rfl,rfl⟩,fun _=>rfl⟩,he.2,he.2⟩
      · simp at hs
    · simp at hx
  · rw[hc] at hx ⊢
    obtain ⟨ty,h1,h2,h3⟩:=vM hcv
    simp only[eB,Iv,Fm,sI,SX.bV] at hx
    split at hx
    · rename_i v0 az rd hs
      split at hs
      · rename_i st hst
        simp only[Option.some.injEq,Prod.mk.injEq] at hs
        obtain ⟨rfl,rfl,rfl⟩:=hs
        simp only[BF,Option.some.injEq,Prod.mk.injEq] at hx
        obtain ⟨rfl,rfl,rfl⟩:=hx
        exact ⟨h,.dW hg ho h1 h2 h3 hst,he,rfl,Calm.refl _ _,⟨fun _=>⟨rfl,rfl,rfl,rfl⟩,fun _=>rfl⟩,he.2,he.2⟩
      · simp at hs
    · simp at hx
  · rw[hc] at hx ⊢
    exact LH (s:=uA P fz.fr (comp P o)) hg (fun v az rd hs=>Ez (DH hs)) he hx
theorem LF {o:Oper} (hd:nU n o=true) (hn:n≤8000):∀ t,o.dst=some t→t < 8000:=by
  intro t ht
  unfold nU at hd
  rw[ht] at hd
  have:t < n:=by simpa using hd
  exact Nat.lt_of_lt_of_le this hn
theorem K4 {c:Rec} {a b:Nat} (h1:c.lo=a) (h2:c.hi=b):c=⟨c.rd,c.wr,c.call,a,b⟩:=by cases c; subst h1; subst h2; rfl
theorem Cn {call:fg} (hcall:iB P call) (hn:n≤8000) {fz:Fz} (g:Option (Nat × Bool)):∀ (l:List (Option Nat × SB)) (os:List Oper) (e e':ES) (h:aC) (a a':List Rec),
    cD P n all fz os=some (l.map fun (d,b)=>⟨d,g,b⟩)→(∀ d w,g=some (d,w)→e.T d=.val (.bool w)∧(l.all fun x=>x.1 != some d)=true)→fH h e→Ea P call l a e=some (e',a') →
    ∃ recs h',a'=a ++ recs∧Tr P n all os e.T h recs e'.T h'∧fH h' e'∧Calm e e' h h'∧dQ P false (l.map fun (d,b)=>⟨d,g,b⟩) recs
  | [],os,e,e',h,a,a',hc,hg,he,hx=>by
    have:=iW hc; subst this
    simp only[Ea,Option.some.injEq,Prod.mk.injEq] at hx; obtain ⟨rfl,rfl⟩:=hx
    exact ⟨[],h,by simp,.nil,he,Calm.refl _ _,.nil⟩
  | (d,b) :: l,os,e,e',h,a,a',hc,hg,he,hx=>by
    obtain ⟨o,r,rfl,h1,h2⟩:=jE hc
    obtain ⟨hd,hd1,hb1,hg1⟩:=pZ h1
    simp only at hd1 hb1 hg1
    have hgv:cq n all e.T o=some true:=by
      cases g with
      | none=>exact x3 hg1
      | some p =>
        obtain ⟨d',w⟩:=p
        have:=(jf (T:=e.T) hg1).1 w (hg d' w rfl).1
        rw[this]; simp
    simp only[Ea] at hx
    rw[hb1] at hx
    split at hx
    · rename_i v e1 c hv
      obtain ⟨h1',st,he1,hT1,hcm,hl,hlo,hhi⟩:=Mq hcall hgv he hv
      have hput:(e1.put d v).T=e.T.put o.dst v:=by
        rw[ES.Kn (by rw[hd1]; exact LF hd hn),hT1,hd1]
      obtain ⟨recs,h'',ha,tr,he2,hcm2,hro⟩:=Cn hcall hn g l r (e1.put d v) e' h1' _ a' h2 (fun d' w eq=>by
        have:=hg d' w eq
        simp only[List.all_cons,Bool.and_eq_true,bne_iff_ne,ne_eq] at this
        refine ⟨?_,this.2.2⟩
        rw[← this.1,hput,← hd1]
        cases d with
        | none=>rfl
        | some t=>simp only[Env.put]; rw[if_neg]; intro e; subst e; exact this.2.1 rfl) (Ii he1) hx
      rw[hput] at tr
      refine ⟨_,h'',?_,.cons st hd tr,he2,(J4 hcm).trans hcm2,hro.cons (by rw[hb1]; exact hl)⟩
      rw[ha,List.append_assoc,← K4 hlo hhi]; rfl
    · simp at hx
theorem Cq {fz:Fz} (hn:n≤8000) (d:Nat) (w:Bool) (h:aC):∀ (l:List (Option Nat × SB)) (os:List Oper) (e e':ES) (a a':List Rec),
    cD P n all fz os=some (l.map fun (d',b)=>⟨d',some (d,w),b⟩)→(e.T d=.val (.bool !w)∨e.T d=.bg [])→(l.all fun x=>x.1 != some d)=true→fH h e→rV l a e=(e',a') →
    ∃ recs,a'=a ++ recs∧Tr P n all os e.T h recs e'.T h∧fH h e'∧e'.w=e.w∧dQ P false (l.map fun (d',b)=>⟨d',some (d,w),b⟩) recs
  | [],os,e,e',a,a',hc,hd,hl,he,hx=>by
    have:=iW hc; subst this
    simp only[rV,Prod.mk.injEq] at hx; obtain ⟨rfl,rfl⟩:=hx
    exact ⟨[],by simp,.nil,he,rfl,.nil⟩
  | (d',b) :: l,os,e,e',a,a',hc,hd,hl,he,hx=>by
    obtain ⟨o,r,rfl,h1,h2⟩:=jE hc
    obtain ⟨hd0,hd1,hb1,hg1⟩:=pZ h1
    simp only at hd1 hb1 hg1
    have hgv:cq n all e.T o=some false:=by
      rcases hd with hd | hd
      · rw[(jf (T:=e.T) hg1).1 _ hd]; cases w <;> rfl
      · exact (jf (T:=e.T) hg1).2 hd
    simp only[List.all_cons,Bool.and_eq_true,bne_iff_ne,ne_eq] at hl
    have hput:(e.put d' (.bg [])).T=e.T.put o.dst (.bg []):=by
      rw[ES.Kn (by rw[hd1]; exact LF hd0 hn),hd1]
    simp only[rV] at hx
    obtain ⟨recs,ha,tr,he2,hd2,hro⟩:=Cq hn d w h l r (e.put d' (.bg [])) e' _ a' h2 (by
      have:(e.put d' (.bg [])).T d=e.T d:=by
        rw[hput,← hd1]
        cases d' with
        | none=>rfl
        | some t=>simp only[Env.put]; rw[if_neg]; intro e; subst e; exact hl.1 rfl
      rw[this]; exact hd) hl.2 (Ii he) hx
    rw[hput] at tr
    refine ⟨_,?_,Tr.cons (.skip hgv) hd0 tr,he2,by rw[hd2,Kv],hro.cons (r:=⟨[],[],false,h.length,h.length⟩) ⟨fun _=>⟨rfl,rfl,rfl,rfl⟩,fun _=>rfl⟩⟩
    rw[ha,List.append_assoc,Ks,he.2]; rfl
theorem AG {fz:Fz} (hn:n≤8000) {d:Nat} {w:Bool} {h:aC} {l:List (Option Nat × SB)} {os:List Oper} {e e':ES} {a a':List Rec}
    (hc:cD P n all fz os=some (l.map fun (d',b)=>⟨d',some (d,w),b⟩)) (hd:e.T d=.val (.bool !w)∨e.T d=.bg []) (hl:(l.all fun x=>x.1 != some d)=true) (he:fH h e) (hx:rV l a e=(e',a')) :
    ∃ recs h',a'=a ++ recs∧Tr P n all os e.T h recs e'.T h'∧fH h' e'∧Calm e e' h h'∧dQ P false (l.map fun (d',b)=>⟨d',some (d,w),b⟩) recs:=by
  obtain ⟨recs,h1,h2,h3,h4,h5⟩:=Cq hn d w h l os e e' a a' hc hd hl he hx
  exact ⟨recs,h,h1,h2,h3,⟨Nat.le_refl _,fun id _ hw=>⟨rfl,by rw[h4] at hw; exact hw⟩⟩,h5⟩
theorem Mm {call:fg} (hcall:iB P call) (hn:n≤8000) {fz:Fz} {g:SG} {os:List Oper} {e e':ES} {h:aC} {a a':List Rec} (hc:cD P n all fz os=some g.flat) (hok:pS g=true) (he:fH h e) (hx:eG P call g a e=some (e',a')) :
    ∃ recs h',a'=a ++ recs∧Tr P n all os e.T h recs e'.T h'∧fH h' e'∧Calm e e' h h'∧dQ P false g.flat recs:=by
  unfold eG at hx
  unfold SG.flat at hc ⊢
  unfold pS at hok
  split at hx
  · rename_i hg
    rw[hg] at hc ⊢
    exact Cn hcall hn none g.ops os e e' h a a' hc (fun d w e=>by simp at e) he hx
  · rename_i d want hg
    rw[hg] at hc hok ⊢
    simp only at hok
    unfold GS at hx
    split at hx
    · rename_i b hb
      split at hx
      · rename_i hxor
        simp only[Option.some.injEq] at hx
        have e':b = !want:=by cases b <;> cases want <;> simp_all
        subst e'
        exact AG hn hc (.inl hb) hok he hx
      · rename_i hxor
        have e':b=want:=by cases b <;> cases want <;> simp_all
        subst e'
        exact Cn hcall hn (some (d,b)) g.ops os e _ h a a' hc (fun d' w e=>by simp at e; obtain ⟨rfl,rfl⟩:=e; exact ⟨hb,hok⟩) he hx
    · rename_i hb
      simp only[Option.some.injEq] at hx
      exact AG hn hc (.inr hb) hok he hx
    · simp at hx
theorem GY {call:fg} (hcall:iB P call) (hn:n≤8000) {fz:Fz} : ∀ (gs:List SG) (os:List Oper) (e e':ES) (h:aC) (a a':List Rec),cD P n all fz os=some (hZ gs)→gs.all pS=true→fH h e→G3 P call gs a e=some (e',a') →
    ∃ recs h',a'=a ++ recs∧Tr P n all os e.T h recs e'.T h'∧fH h' e'∧Calm e e' h h'∧dQ P false (hZ gs) recs
  | [],os,e,e',h,a,a',hc,_,he,hx=>by
    have:=iW hc; subst this
    simp only[G3,Option.some.injEq,Prod.mk.injEq] at hx; obtain ⟨rfl,rfl⟩:=hx
    exact ⟨[],h,by simp,.nil,he,Calm.refl _ _,.nil⟩
  | g :: gs,os,e,e',h,a,a',hc,hok,he,hx=>by
    simp only[hZ,List.map_cons,List.flatten_cons] at hc ⊢
    simp only[List.all_cons,Bool.and_eq_true] at hok
    obtain ⟨o1,o2,rfl,h1,h2⟩:=nC hc
    simp only[G3] at hx
    split at hx
    · rename_i e1 a1 hx1
      obtain ⟨r1,h1',ha1,tr1,he1,hc1,ro1⟩:=Mm hcall hn h1 hok.1 he hx1
      obtain ⟨r2,h2',ha2,tr2,he2,hc2,ro2⟩:=GY hcall hn gs o2 e1 e' h1' a1 a' h2 hok.2 he1 hx
      exact ⟨_,h2',by rw[ha2,ha1,List.append_assoc],tr1.append tr2,he2,hc1.trans hc2,ro1.append ro2⟩
    · simp at hx
theorem HB {ls:List Nat} {i k x y:Nat} (hik:i < k) (hx:ls[i]?=some x) (hy:ls[k]?=some y) (ho:ordered (dL all []) i k=false) (h:¬ (x=0∨y=0∨(x≤1∧y≤1))):(i,k)∈yg all ls:=by
  unfold yg
  simp only[List.mem_flatten,List.mem_map]
  refine ⟨_,⟨(x,i),by rw[List.mem_zipIdx_iff_getElem?]; exact hx,rfl⟩,?_⟩
  simp only[List.mem_map,List.mem_filter]
  refine ⟨(y,k),⟨by rw[List.mem_zipIdx_iff_getElem?]; exact hy,?_⟩,rfl⟩
  simp only[hik,decide_true,ho,Bool.false_or,Bool.true_and,Bool.not_eq_true',Bool.or_eq_false_iff,beq_eq_false_iff_ne,Bool.and_eq_false_iff,decide_eq_false_iff_not]
  omega
theorem Ja {ls:List Nat} {recs:List Rec} (h:Iy recs (yg all ls)=true) (hl:ls.length=recs.length) (hr:∀ (i x:Nat) (r:Rec),ls[i]?=some x→recs[i]?=some r→iO x r.rd r.wr r.call r.lo r.hi):qt all recs:=by
  intro i k a b hik ha hb ho
  have hi:i < recs.length:=(List.getElem?_eq_some_iff.1 ha).1
  have hk:k < recs.length:=(List.getElem?_eq_some_iff.1 hb).1
  have hx:ls[i]?=some (ls[i]'(by omega)):=List.getElem?_eq_getElem (by omega)
  have hy:ls[k]?=some (ls[k]'(by omega)):=List.getElem?_eq_getElem (by omega)
  generalize ls[i]'(by omega)=x at hx
  generalize ls[k]'(by omega)=y at hy
  have la:=hr i _ a hx ha
  have lb:=hr k _ b hy hb
  by_cases hc:x=0∨y=0∨(x≤1∧y≤1)
  · rcases hc with h1 | h1 | h1
    · obtain ⟨e1,e2,e3,e4⟩:=la.1 h1
      exact ⟨fun id hid=>by simp[e2] at hid,fun id _=>by simp[e1],fun hc=>by simp[e3] at hc,fun _=>e2,fun id _ hx=>by omega⟩
    · obtain ⟨e1,e2,e3,e4⟩:=lb.1 h1
      exact ⟨fun id _=>by simp[e1],fun id hid=>by simp[e2] at hid,fun _=>e2,fun hc=>by simp[e3] at hc,fun id hid=>by simp[e2] at hid⟩
    · have e1:=la.2 h1.1
      have e2:=lb.2 h1.2
      exact ⟨fun id hid=>by simp[e1] at hid,fun id hid=>by simp[e2] at hid,fun _=>e2,fun _=>e1,fun id hid=>by simp[e2] at hid⟩
  · have:=List.all_eq_true.1 h _ (HB hik hx hy ho hc)
    simp only[ha,hb] at this
    exact GV this
theorem KJ (hm:P.follows .mixedOrders=true) {call:fg} (hcall:iB P call) (hn:n≤8000) {fz:List Nat} {id:Nat} {ops:Array Oper} {draw:Bool} {sc:DC} {run:sX} {e e':ES} {r:Exit} {h:aC}
    (hc:CB P n fz ops.toList draw=some sc) (he:fH h e) (hx:jL P call run sc e=some (r,e')) :
    ∃ h',ct P n (.region id ops draw) e.T h r e'.T h'∧fH h' e'∧Calm e e' h h':=by
  unfold CB at hc
  split at hc
  · simp at hc
  · rename_i l hl
    split at hc
    · simp at hc
    · rename_i hok
      have hok:(group l).all pS=true:=by simpa using hok
      have hl':cD P n ops.toList ⟨fz,false⟩ ops.toList=some (hZ (group l)):=by rw[dZ]; exact hl
      have key:∀ ps,jL P call run (.region ps (group l)) e=some (r,e')→(draw=true→jD ops.toList=true∧ps=yg ops.toList (l.map fun s=>fU P false s.b)) →
          ∃ h',ct P n (.region id ops draw) e.T h r e'.T h'∧fH h' e'∧Calm e e' h h':=by
        intro ps hx hdr
        simp only[jL,DX] at hx
        split at hx
        · rename_i e1 recs0 hx1
          split at hx
          · rename_i hchk
            simp only[Option.some.injEq,Prod.mk.injEq] at hx
            obtain ⟨rfl,rfl⟩:=hx
            obtain ⟨recs,h',ha,tr,hk,hcm,hro⟩:=GY hcall hn (group l) ops.toList e e1 h [] recs0 hl' hok he hx1
            simp only[List.nil_append] at ha
            subst ha
            rw[dZ] at hro
            refine ⟨h',?_,hk,hcm⟩
            cases hd:draw with
            | false=>simpa using BR (id:=id) tr
            | true =>
              obtain ⟨h1,rfl⟩:=hdr hd
              have hcf:qt ops.toList recs0:=Ja hchk (by simpa using hro.1) (fun i x r hx hr=>by
                simp only[List.getElem?_map,Option.map_eq_some_iff] at hx
                obtain ⟨s,hs,rfl⟩:=hx
                exact hro.2 i s r hs hr)
              simpa using uN hm (id:=id) tr h1 hcf
          · simp at hx
        · simp at hx
      split at hc
      · rename_i hd
        split at hc
        · rename_i ht
          simp at hc; subst hc
          exact key _ hx (fun _=>⟨ht,rfl⟩)
        · simp at hc
      · rename_i hd
        simp at hc; subst hc
        exact key _ hx (fun e=>absurd e hd)
theorem I2 (hm:P.follows .mixedOrders=true) {call:fg} (hcall:iB P call) {run:sX} (hrun:rM P run):rM P (jL P call run):=by
  intro n fz c sc hc hn e e' r h hx he
  cases c with
  | skip =>
    simp[fT] at hc; subst hc
    simp only[jL,Hq,Option.some.injEq,Prod.mk.injEq] at hx
    obtain ⟨rfl,rfl⟩:=hx
    exact ⟨h,.skip,he,Calm.refl _ _,fun _ h=>by simp at h⟩
  | region id ops draw =>
    obtain ⟨h',a,b,d⟩:=KJ (id:=id) hm hcall hn hc he hx
    exact ⟨h',a,b,d,fun _ h=>by simp at h⟩
  | seq x y =>
    simp only[fT] at hc
    split at hc
    · rename_i a b h1 h2
      simp at hc; subst hc
      simp only[jL,LB] at hx
      split at hx
      · rename_i e1 hx1
        obtain ⟨h1',x1,he1,c1,l1⟩:=hrun n fz x a h1 hn e e1 .normal h hx1 he
        obtain ⟨h2',x2,he2,c2,l2⟩:=hrun n fz y b h2 hn e1 e' r h1' hx he1
        exact ⟨h2',x1.seq x2,he2,c1.trans c2,fun _ h=>by simp at h⟩
      · rename_i hne
        obtain ⟨h1',x1,he1,c1,l1⟩:=hrun n fz x a h1 hn e e' r h hx he
        refine ⟨h1',x1.DP (fun e=>?_),he1,c1,fun _ h=>by simp at h⟩
        subst e
        exact absurd hx (hne e')
    · simp at hc
  | cond cc x y =>
    simp only[fT] at hc
    split at hc
    · rename_i a b h1 h2
      simp at hc; subst hc
      simp only[jL,Kg,SX.bV] at hx
      split at hx
      · rename_i ht
        obtain ⟨h1',x1,he1,c1,l1⟩:=hrun n fz x a h1 hn e e' r h hx he
        exact ⟨h1',.cond ht x1,he1,c1,fun _ h=>by simp at h⟩
      · rename_i ht
        obtain ⟨h1',x1,he1,c1,l1⟩:=hrun n fz y b h2 hn e e' r h hx he
        exact ⟨h1',.cond ht x1,he1,c1,fun _ h=>by simp at h⟩
      · simp at hx
    · simp at hc
  | block id c =>
    simp only[fT,Option.map_eq_some_iff] at hc
    obtain ⟨a,h1,rfl⟩:=hc
    simp only[jL,GL] at hx
    split at hx
    · rename_i r1 e1 hx1
      simp only[Option.some.injEq,Prod.mk.injEq] at hx
      obtain ⟨rfl,rfl⟩:=hx
      obtain ⟨h1',x1,he1,c1,l1⟩:=hrun n fz c a h1 hn e e1 r1 h hx1 he
      exact ⟨h1',x1.block,he1,c1,fun _ h=>by simp at h⟩
    · simp at hx
  | loop c =>
    have hc0:=hc
    simp only[fT,Option.map_eq_some_iff] at hc
    obtain ⟨a,h1,rfl⟩:=hc
    simp only[jL,Ko] at hx
    split at hx
    · rename_i e1 hx1
      obtain ⟨h1',x1,he1,c1,l1⟩:=hrun n fz c a h1 hn e e1 .normal h hx1 he
      obtain ⟨h2',x2,he2,c2,l2⟩:=hrun n fz (.loop c) (.loop a) hc0 hn e1 e' r h1' hx he1
      have hL:=mB.step x1 (l2 c rfl)
      exact ⟨h2',.loop hL,he2,c1.trans c2,fun c0 h0=>by simp only[Code.loop.injEq] at h0; subst h0; exact hL⟩
    · rename_i hne
      obtain ⟨h1',x1,he1,c1,l1⟩:=hrun n fz c a h1 hn e e' r h hx he
      have hL:=mB.out x1 (fun e=>by subst e; exact absurd hx (hne e'))
      exact ⟨h1',.loop hL,he1,c1,fun c0 h0=>by simp only[Code.loop.injEq] at h0; subst h0; exact hL⟩
  | exit id =>
    simp[fT] at hc; subst hc
    simp only[jL,Option.some.injEq,Prod.mk.injEq] at hx
    obtain ⟨rfl,rfl⟩:=hx
    exact ⟨h,.exit,he,Calm.refl _ _,fun _ h=>by simp at h⟩
  | ret =>
    simp[fT] at hc; subst hc
    simp only[jL,Option.some.injEq,Prod.mk.injEq] at hx
    obtain ⟨rfl,rfl⟩:=hx
    exact ⟨h,.ret,he,Calm.refl _ _,fun _ h=>by simp at h⟩
  | _=>simp[fT] at hc
theorem zJ:∀ (vs:List V) (i:Nat) (t:bS V),i+vs.length≤8000→∀ k,(j4 vs i t).get .any k=if i≤k∧k < i+vs.length then vs.getD (k - i) .any else t.get .any k
  | [],i,t,h,k=>by
    rw[j4,if_neg (by simp only[List.length_nil]; omega)]
  | v :: vs,i,t,h,k=>by
    simp only[List.length_cons] at h
    rw[j4,zJ vs (i+1) _ (by omega),bS.kd _ _ _ _ _ _ (by simp only[deep]; omega)]
    simp only[List.length_cons]
    by_cases h1:k=i
    · subst h1; rw[if_neg (by omega),if_pos rfl,if_pos (by omega)]; simp
    · by_cases h2:i+1≤k∧k < i+1+vs.length
      · rw[if_pos h2,if_pos (by omega)]
        have:k - i=(k - (i+1))+1:=by omega
        rw[this]; rfl
      · rw[if_neg h2,if_neg h1,if_neg (by omega)]
theorem Dp (vs:List V) (h:vs.length≤8000):(j4 vs 0 .nil).get .any=jg vs:=by
  funext k
  rw[zJ vs 0 .nil (by omega)]
  simp only[jg,Nat.zero_le,true_and,Nat.zero_add,Nat.sub_zero]
  split
  · rfl
  · rename_i hk
    rw[List.getD_eq_getElem?_getD,List.getElem?_eq_none (by omega)]; rfl
theorem KN {e:ES} {h:aC} {r:ResultVar} {rest:List ResultVar} {l:List SR} (he:fH h e) (hc:dN P (r :: rest)=some l):∃ s l',l=s :: l'∧dN P rest=some l'∧∀ v,JG s e=some v→o9 P e.T h r=some v:=by
  cases r with
  | tmp t =>
    simp only[dN,Option.map_eq_some_iff] at hc
    obtain ⟨l',h1,rfl⟩:=hc
    exact ⟨.tmp t,l',rfl,h1,fun v hv=>hv⟩
  | cell a t =>
    simp only[dN] at hc
    split at hc
    · rename_i k l' h1 h2
      simp at hc; subst hc
      refine ⟨.cell a k,l',rfl,h2,fun v hv=>?_⟩
      simp only[JG] at hv
      simp only[o9,jN,rU h1]
      rw[he.1] at hv
      split at hv
      · rename_i id i j ha
        split at hv
        · rename_i es hH
          split at hv
          · rename_i hlt
            rw[ha]; simp only[hH]; rw[if_pos hlt,hv]; rfl
          · simp at hv
        · simp at hv
      · rename_i e j ha
        rw[ha]; simp only; rw[hv]; rfl
      · simp at hv
    · simp at hc
theorem B6 {e:ES} {h:aC} (he:fH h e):∀ (rs:List ResultVar) (l:List SR) (vs:List V),dN P rs=some l→si l e=some vs→jI P e.T h rs=some vs
  | [],l,vs,hc,hw=>by simp[dN] at hc; subst hc; simp[si] at hw; subst hw; rfl
  | r :: rest,l,vs,hc,hw=>by
    obtain ⟨s,l',rfl,h1,h2⟩:=KN (e:=e) (h:=h) he hc
    simp only[si] at hw
    split at hw
    · rename_i v vs' hv hvs
      simp at hw; subst hw
      simp[jI,h2 v hv,B6 he rest l' vs' h1 hvs]
    · simp at hw
def pG (P:Program) (tab:List (FuncId × DF)):Prop:=∀ p∈tab,∃ fz,bt P p.1 fz=some p.2
def oR (P:Program) (ext:uF):Prop:=∀ g vs H t,ext g vs H=some t→cy P g=true∧∀ h:aC,h.view=H→bL P g vs h t h
theorem CT {tab:List (FuncId × DF)} {ext:uF} (ht:pG P tab) (hx:oR P ext) {run:sX} (hrun:rM P run):iB P (A5 P tab ext run):=by
  intro g vs e v e' h hcall he
  unfold A5 at hcall
  split at hcall
  · rename_i t hext
    simp only[Option.some.injEq,Prod.mk.injEq] at hcall
    obtain ⟨rfl,rfl⟩:=hcall
    obtain ⟨h1,h2⟩:=hx _ _ _ _ hext
    exact ⟨h1,h,h2 h he.1.symm,he,fun _ _ _=>rfl,fun _ hw=>by simp at hw⟩
  · split at hcall
    · rename_i g' F hf
      have hmem:=List.mem_of_find?_eq_some hf
      have hgg:g'=g:=by
        have:=List.find?_some hf
        exact Nat.eq_of_beq_eq_true this
      subst hgg
      obtain ⟨fz,hF⟩:=ht _ hmem
      simp only at hF
      unfold bt at hF
      split at hF
      · rename_i fn hfn
        split at hF
        · rename_i c hb
          split at hF
          · rename_i sc rs h1 h2 h3
            simp at hF; subst hF
            refine ⟨h3,?_⟩
            unfold LO at hcall
            split at hcall
            · rename_i hlen hn
              have hlen:=Nat.le_of_ble_eq_true hlen
              have hn:=Nat.le_of_ble_eq_true hn
              simp only at hlen hn
              unfold LA at hcall
              split at hcall
              · rename_i v1 e1' hend
                simp only[Option.some.injEq,Prod.mk.injEq] at hcall
                obtain ⟨rfl,rfl⟩:=hcall
                unfold LQ at hend
                have go:∀ (r:Exit) (e1:ES),(r=.ret∨r=.normal)→run sc ⟨j4 vs 0 .nil,e.H,e.n,[]⟩=some (r,e1)→(si rs e1).map (fun vs=>(ah vs,e1))=some (v1,e1') →
                    ∃ h',bL P g' vs h v1 h'∧fH h' e1'∧(∀ id,id < h.length→¬ id∈e1'.w→h'.view id=h.view id):=by
                  intro r e1 hr hrn hres
                  simp only[Option.map_eq_some_iff,Prod.mk.injEq] at hres
                  obtain ⟨vs',hvs,rfl,rfl⟩:=hres
                  obtain ⟨h',hx,he1,hc1,_⟩:=hrun fn.ntmps fz c sc h1 hn _ e1 r h hrn he
                  have hT:(ES.T ⟨j4 vs 0 .nil,e.H,e.n,[]⟩)=jg vs:=Dp vs (by omega)
                  rw[hT] at hx
                  refine ⟨h',bL.DE hfn hb hlen hx (by rcases hr with rfl | rfl <;> simp) ?_,he1,fun id hid hw=>(hc1.2 id hid hw).1⟩
                  unfold E8
                  rw[B6 he1 _ _ _ h2 hvs]
                  cases vs' with
                  | nil=>rfl
                  | cons a l=>cases l <;> rfl
                have done:(∃ h',bL P g' vs h v1 h'∧fH h' e1'∧(∀ id,id < h.length→¬ id∈e1'.w→h'.view id=h.view id)) →
                    ∃ h',bL P g' vs h v1 h'∧fH h' ⟨e1'.L,e1'.H,e1'.n,e1'.w.filter fun id=>Nat.blt id e.n⟩∧(∀ id,id < h.length→¬ id∈e1'.w.filter (fun id=>Nat.blt id e.n)→h'.view id=h.view id)∧∀ id,id∈e1'.w.filter (fun id=>Nat.blt id e.n)→id < h.length:=by
                  rintro ⟨h',k1,k2,k3⟩
                  refine ⟨h',k1,k2,fun id hid hw=>k3 id hid (fun hm=>hw ?_),fun id hw=>?_⟩
                  · rw[List.mem_filter]
                    exact ⟨hm,by rw[he.2]; exact Nat.ble_eq_true_of_le hid⟩
                  · rw[List.mem_filter] at hw
                    have:=Nat.le_of_ble_eq_true hw.2
                    rw[he.2] at this; exact this
                split at hend
                · rename_i e1 hrn; exact done (go _ _ (.inl rfl) hrn hend)
                · rename_i e1 hrn; exact done (go _ _ (.inr rfl) hrn hend)
                · simp at hend
              · simp at hcall
            · simp at hcall
          · simp at hF
        · simp at hF
      · simp at hF
    · simp at hcall
theorem EB (hm:P.follows .mixedOrders=true) {tab:List (FuncId × DF)} {ext:uF} (ht:pG P tab) (hx:oR P ext):∀ k,rM P (CD P tab ext k)
  | 0=>fun n fz c sc hc hn e e' r h hr he=>by simp[CD] at hr
  | k+1=>by
    have ih:=EB hm ht hx k
    have:=I2 hm (CT ht hx ih) ih
    exact this
end
end Gv
