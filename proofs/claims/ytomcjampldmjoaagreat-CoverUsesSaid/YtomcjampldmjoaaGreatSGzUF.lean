/-
  Part 6 of the proof: what the machine does and what the functions answer.
  Conditions: those that each lemma names.
-/
import Derived.Test.YtomcjampldmjoaaGreatSGzUE
set_option linter.unusedSimpArgs false
set_option linter.unusedVariables false
set_option linter.unusedSimpArgs false
set_option maxRecDepth 100000
namespace Gv
open Go Go.Proofs
def ey (l:List Int) (is:List Bool) (ay:Bool):Bool:=l.all fun s=>if 0≤s then ay else is.getD (-1 - s).toNat false
end Gv
set_option linter.unusedSimpArgs false
set_option maxRecDepth 100000
namespace Gv
open Go Go.Proofs
abbrev gy (x:Int):V:=.val (.int .u8 x)
def q0 (c:Int):Bool:=(decide (97≤c) && decide (c≤122)) || (decide (65≤c) && decide (c≤90)) || c == 95
def kE (c:Int):Bool:=q0 c || (decide (48≤c) && decide (c≤57)) || c == 46
def lG:SF:=⟨.seq (ak [aW 2 false]) <|
  .seq (.region false [⟨none,[aa 3 0,((some 4),.op (.arith .geq (.tmp 3) (.val (.val (.int .u8 97))))),aa 5 4]⟩,⟨(some (5,true)),[aa 6 0,((some 7),.op (.arith .leq (.tmp 6) (.val (.val (.int .u8 122)))))]⟩,⟨none,[bJ 8 5 7,aa 9 8]⟩,⟨(some (9,false)),[aa 10 0,((some 11),.op (.arith .geq (.tmp 10) (.val (.val (.int .u8 65))))),aa 12 11]⟩,⟨(some (12,true)),[aa 13 0,((some 14),.op (.arith .leq (.tmp 13) (.val (.val (.int .u8 90)))))]⟩,⟨(some (9,false)),[bJ 15 12 14]⟩,⟨none,[bD 16 9 15,aa 17 16]⟩,⟨(some (17,false)),[aa 18 0,((some 19),.op (.arith .eql (.tmp 18) (.val (.val (.int .u8 95)))))]⟩,⟨none,[bD 20 17 19,aa 2 20]⟩]) <|
  .ret,
  [.tmp 2],21⟩
theorem qm:aV Tryz.prog 192 []=some lG:=by kernel_rfl
def lH:SF:=⟨.seq (ak [aW 2 false]) <|
  .seq (.region false [⟨none,[aa 3 0,aK 4 192 [3],aa 5 4]⟩,⟨(some (5,false)),[aa 6 0,((some 7),.op (.arith .geq (.tmp 6) (.val (.val (.int .u8 48))))),aa 8 7]⟩,⟨(some (8,true)),[aa 9 0,((some 10),.op (.arith .leq (.tmp 9) (.val (.val (.int .u8 57)))))]⟩,⟨(some (5,false)),[bJ 11 8 10]⟩,⟨none,[bD 12 5 11,aa 13 12]⟩,⟨(some (13,false)),[aa 14 0,((some 15),.op (.arith .eql (.tmp 14) (.val (.val (.int .u8 46)))))]⟩,⟨none,[bD 16 13 15,aa 2 16]⟩]) <|
  .ret,
  [.tmp 2],17⟩
theorem qp:aV Tryz.prog 193 []=some lH:=by kernel_rfl
theorem Jr (c:Int) (H:View):aB Tryz.prog 192 [gy c] H fun r H'=>r=gb (q0 c)∧H'=H:=by
  refine aB.of mixed qm ?_
  repeat' (first | (refine an.dec (fun _=>?_) (fun _=>?_)) | (refine an.eq (fun _=>?_) (fun _=>?_)) | (refine an.ne (fun _=>?_) (fun _=>?_)) | (refine an.split (fun _=>?_) (fun _=>?_)) | (simp (disch:=omega) only [↓wr,↓reduceIte,wq,ah,ag,aj,ab,ae,af,ai,isNil,Nat.reduceEqDiff,Nat.reduceAdd,Nat.reduceLT,Nat.reduceLeDiff,Int.reduceNeg,Int.reduceToNat,reduceCtorEq,lG]))
  all_goals (congr 2; simp only[q0]; grind)
theorem C0 (c:Int):aE Tryz.prog 192 [gy c] (gb (q0 c)) :=
  aE.of (by intro v hv; simp at hv; subst hv; exact .val _) ((Jr c _).mono fun r H' h h' _=>by rw[h.1]; exact .tree _ (.val _))
theorem Ja (c:Int) (H:View):aB Tryz.prog 193 [gy c] H fun r H'=>r=gb (kE c)∧H'=H:=by
  refine aB.of mixed qp ?_
  repeat' (first | (refine an.dec (fun _=>?_) (fun _=>?_)) | (refine an.eq (fun _=>?_) (fun _=>?_)) | (refine an.ne (fun _=>?_) (fun _=>?_)) | (refine an.split (fun _=>?_) (fun _=>?_)) | (simp (disch:=omega) only [↓wr,↓reduceIte,wq,ah,ag,aj,ab,ae,af,ai,isNil,Nat.reduceEqDiff,Nat.reduceAdd,Nat.reduceLT,Nat.reduceLeDiff,Int.reduceNeg,Int.reduceToNat,reduceCtorEq,lH]))
  refine aF.pure (C0 c) (by kernel_rfl) ?_
  repeat' (first | (refine an.dec (fun _=>?_) (fun _=>?_)) | (refine an.eq (fun _=>?_) (fun _=>?_)) | (refine an.ne (fun _=>?_) (fun _=>?_)) | (refine an.split (fun _=>?_) (fun _=>?_)) | (simp (disch:=omega) only [↓wr,↓reduceIte,wq,ah,ag,aj,ab,ae,af,ai,isNil,Nat.reduceEqDiff,Nat.reduceAdd,Nat.reduceLT,Nat.reduceLeDiff,Int.reduceNeg,Int.reduceToNat,reduceCtorEq]))
  all_goals (congr 2; simp only[kE]; grind)
theorem I1 (c:Int):aE Tryz.prog 193 [gy c] (gb (kE c)) :=
  aE.of (by intro v hv; simp at hv; subst hv; exact .val _) ((Ja c _).mono fun r H' h h' _=>by rw[h.1]; exact .tree _ (.val _))
def eo (l:List Int):Bool:=decide (0 < l.length) && decide (l.length≤20) && (match l with | c :: _=>q0 c | []=>false) && l.all kE
def k6:SC :=
  .seq (.seq (ak [aa 18 3,aa 19 0,((some 20),.op (.fN (.tmp 19))),aS 21 .lss 18 20]) <|
  .cond (.tmp 21) (.skip) (.exit 0)) <|
  .seq (.block 1 (.seq (ak [aa 24 0,aa 25 3,((some 26),.op (.cR (.tmp 24) (.tmp 25))),aK 27 193 [26],cq 28 27]) <|
  .cond (.tmp 28) (.seq (ak [aW 2 false]) <|
  .ret) (.skip))) <|
  ak [aa 22 3,aA 23 .add 22 1,aa 3 23]
def nh:SF:=⟨.seq (ak [aW 2 false]) <|
  .seq (.seq (.region false [⟨none,[aa 4 0,((some 5),.op (.fN (.tmp 4))),aA 6 .eql 5 0,aa 7 6]⟩,⟨(some (7,false)),[aa 8 0,((some 9),.op (.fN (.tmp 8))),aA 10 .gtr 9 20]⟩,⟨none,[bD 11 7 10,aa 12 11]⟩,⟨(some (12,false)),[aa 13 0,((some 14),.op (.cR (.tmp 13) (.val (.val (.int .i64 0))))),aK 15 192 [14],cq 16 15]⟩,⟨none,[bD 17 12 16]⟩]) <|
  .cond (.tmp 17) (.seq (ak [aW 2 false]) <|
  .ret) (.skip)) <|
  .seq (.seq (ak [aI 3 0]) <|
  .block 0 (.loop k6)) <|
  .seq (ak [aW 2 true]) <|
  .ret,
  [.tmp 2],29⟩
theorem rh:aV Tryz.prog 142 []=some nh:=by kernel_rfl
theorem Hj (s:ByteArray) (H:View):aB Tryz.prog 142 [gs s] H fun r H'=>r=gb (eo (dJ s))∧H'=H:=by
  refine aB.of mixed rh ?_
  repeat' (first | (refine an.dec (fun _=>?_) (fun _=>?_)) | (refine an.eq (fun _=>?_) (fun _=>?_)) | (refine an.ne (fun _=>?_) (fun _=>?_)) | (refine an.split (fun _=>?_) (fun _=>?_)) | (simp (disch:=omega) only [↓wr,↓reduceIte,wq,ah,ag,aj,ab,ae,af,ai,isNil,Nat.reduceEqDiff,Nat.reduceAdd,Nat.reduceLT,Nat.reduceLeDiff,Int.reduceNeg,Int.reduceToNat,reduceCtorEq,nh,dk]))
  · rename_i h
    congr 2; simp[eo,show (dJ s).length=0 by omega]
  · rename_i h
    congr 2; simp[eo,show ¬ (dJ s).length≤20 by omega]
  · rename_i h1 h2
    cases hb:dJ s with
    | nil=>simp[hb] at h1
    | cons c l =>
      repeat' (first | (refine an.dec (fun _=>?_) (fun _=>?_)) | (refine an.eq (fun _=>?_) (fun _=>?_)) | (refine an.ne (fun _=>?_) (fun _=>?_)) | (refine an.split (fun _=>?_) (fun _=>?_)) | (simp (disch:=omega) only [↓wr,↓reduceIte,wq,ah,ag,aj,ab,ae,af,ai,isNil,Nat.reduceEqDiff,Nat.reduceAdd,Nat.reduceLT,Nat.reduceLeDiff,Int.reduceNeg,Int.reduceToNat,reduceCtorEq,hb,List.getElem?_cons_zero,dk]))
      refine aF.pure (C0 c) (by kernel_rfl) ?_
      repeat' (first | (refine an.dec (fun _=>?_) (fun _=>?_)) | (refine an.eq (fun _=>?_) (fun _=>?_)) | (refine an.ne (fun _=>?_) (fun _=>?_)) | (refine an.split (fun _=>?_) (fun _=>?_)) | (simp (disch:=omega) only [↓wr,↓reduceIte,wq,ah,ag,aj,ab,ae,af,ai,isNil,Nat.reduceEqDiff,Nat.reduceAdd,Nat.reduceLT,Nat.reduceLeDiff,Int.reduceNeg,Int.reduceToNat,reduceCtorEq,hb,List.getElem?_cons_zero,dk]))
      · rename_i hf
        refine bz.intro (fun k T H'=>∃ i:Nat,i+k=(c :: l).length∧((c :: l).take i).all kE=true∧T 0=gs s∧T 3=gi i∧H'=H) (c :: l).length ?_ ?_
        · exact ⟨0,by omega,by simp,rfl,rfl,rfl⟩
        · rintro k T H' ⟨i,hk,hi,h0,h3,rfl⟩
          rw[hb] at h1 h2
          simp (disch:=omega) only [↓wr,↓reduceIte,wq,ah,ag,aj,ab,ae,af,ai,isNil,Nat.reduceEqDiff,Nat.reduceAdd,Nat.reduceLT,Nat.reduceLeDiff,Int.reduceNeg,Int.reduceToNat,reduceCtorEq,k6,h0,h3,dk,hb]
          refine an.dec (fun hc=>?_) (fun hc=>?_)
          · simp only[List.length_cons] at hc hk h2
            have hg:(c :: l)[i]?=some ((c :: l)[i]'(by simp; omega)):=List.getElem?_eq_getElem (by simp; omega)
            have hm:(c :: l)[i]'(by simp; omega)∈c :: l:=List.getElem_mem _
            generalize (c :: l)[i]'(by simp; omega)=d at hg hm
            simp (disch:=omega) only [↓wr,↓reduceIte,wq,ah,ag,aj,ab,ae,af,ai,isNil,Nat.reduceEqDiff,Nat.reduceAdd,Nat.reduceLT,Nat.reduceLeDiff,Int.reduceNeg,Int.reduceToNat,reduceCtorEq,h0,h3,dk,hb,hg]
            refine aF.pure (I1 d) (by kernel_rfl) ?_
            repeat' (first | (refine an.dec (fun _=>?_) (fun _=>?_)) | (refine an.eq (fun _=>?_) (fun _=>?_)) | (refine an.ne (fun _=>?_) (fun _=>?_)) | (refine an.split (fun _=>?_) (fun _=>?_)) | (simp (disch:=omega) only [↓wr,↓reduceIte,wq,ah,ag,aj,ab,ae,af,ai,isNil,Nat.reduceEqDiff,Nat.reduceAdd,Nat.reduceLT,Nat.reduceLeDiff,Int.reduceNeg,Int.reduceToNat,reduceCtorEq,h0,h3,dk,hb,hg]))
            · rename_i hd
              refine ⟨k - 1,by omega,i+1,by omega,?_,rfl⟩
              rw[List.take_add_one,hg]
              simp only[Option.toList_some,List.all_append,hi,List.all_cons,hd,List.all_nil,Bool.and_self]
            · rename_i hd
              congr 2
              have:(c :: l).all kE=false:=by
                rw[List.all_eq_false]; exact ⟨d,hm,by simp[hd]⟩
              simp only[eo,this,Bool.and_false]
          · simp (disch:=omega) only [↓wr,↓reduceIte,wq,ah,ag,aj,ab,ae,af,ai,isNil,Nat.reduceEqDiff,Nat.reduceAdd,Nat.reduceLT,Nat.reduceLeDiff,Int.reduceNeg,Int.reduceToNat,reduceCtorEq,h0,h3]
            simp only[List.length_cons] at hc hk h2
            rw[List.take_of_length_le (by simp; omega)] at hi
            congr 2
            simp only[eo,hi,List.length_cons]
            simp[hf]; omega
      · rename_i hf
        congr 2; simp[eo,hf]
end Gv
set_option linter.unusedSimpArgs false
set_option maxRecDepth 100000
namespace Gv
open Go Go.Proofs
def jZ:List Int→Bool
  | [a,b,c]=>a == 39 && c == 39 && decide (32≤b) && decide (b≤126) && b != 39 && b != 92
  | [a,b,c,d]=>a == 39 && d == 39 && b == 92 && (c == 110 || c == 116 || c == 92 || c == 39)
  | _=>false
theorem Jk {l:List Int} (h3:l.length≠3) (h4:l.length≠4):jZ l=false:=by
  match l,h3,h4 with
  | [],_,_=>rfl
  | [_],_,_=>rfl
  | [_,_],_,_=>rfl
  | [_,_,_],h3,_=>exact absurd rfl h3
  | [_,_,_,_],_,h4=>exact absurd rfl h4
  | _ :: _ :: _ :: _ :: _ :: _,_,_=>rfl
theorem MT {α:Type} {l:List α} (h:l.length=3):∃ a b c,l=[a,b,c]:=by
  match l,h with
  | [a,b,c],_=>exact ⟨a,b,c,rfl⟩
theorem MP {α:Type} {l:List α} (h:l.length=4):∃ a b c d,l=[a,b,c,d]:=by
  match l,h with
  | [a,b,c,d],_=>exact ⟨a,b,c,d,rfl⟩
def j6:SF:=⟨.seq (ak [aW 2 false]) <|
  .seq (.seq (ak [aa 3 0,((some 4),.op (.fN (.tmp 3))),aA 5 .eql 4 3]) <|
  .cond (.tmp 5) (.seq (.region false [⟨none,[aa 6 0,((some 7),.op (.cR (.tmp 6) (.val (.val (.int .i64 0))))),((some 8),.op (.arith .eql (.tmp 7) (.val (.val (.int .u8 39))))),aa 9 8]⟩,⟨(some (9,true)),[aa 10 0,((some 11),.op (.cR (.tmp 10) (.val (.val (.int .i64 2))))),((some 12),.op (.arith .eql (.tmp 11) (.val (.val (.int .u8 39)))))]⟩,⟨none,[bJ 13 9 12,aa 14 13]⟩,⟨(some (14,true)),[aa 15 0,((some 16),.op (.cR (.tmp 15) (.val (.val (.int .i64 1))))),((some 17),.op (.arith .geq (.tmp 16) (.val (.val (.int .u8 32)))))]⟩,⟨none,[bJ 18 14 17,aa 19 18]⟩,⟨(some (19,true)),[aa 20 0,((some 21),.op (.cR (.tmp 20) (.val (.val (.int .i64 1))))),((some 22),.op (.arith .leq (.tmp 21) (.val (.val (.int .u8 126)))))]⟩,⟨none,[bJ 23 19 22,aa 24 23]⟩,⟨(some (24,true)),[aa 25 0,((some 26),.op (.cR (.tmp 25) (.val (.val (.int .i64 1))))),((some 27),.op (.arith .neq (.tmp 26) (.val (.val (.int .u8 39)))))]⟩,⟨none,[bJ 28 24 27,aa 29 28]⟩,⟨(some (29,true)),[aa 30 0,((some 31),.op (.cR (.tmp 30) (.val (.val (.int .i64 1))))),((some 32),.op (.arith .neq (.tmp 31) (.val (.val (.int .u8 92)))))]⟩,⟨none,[bJ 33 29 32,aa 2 33]⟩]) <|
  .ret) (.skip)) <|
  .seq (.region false [⟨none,[aa 34 0,((some 35),.op (.fN (.tmp 34))),aA 36 .eql 35 4,aa 37 36]⟩,⟨(some (37,true)),[aa 38 0,((some 39),.op (.cR (.tmp 38) (.val (.val (.int .i64 0))))),((some 40),.op (.arith .eql (.tmp 39) (.val (.val (.int .u8 39)))))]⟩,⟨none,[bJ 41 37 40,aa 42 41]⟩,⟨(some (42,true)),[aa 43 0,((some 44),.op (.cR (.tmp 43) (.val (.val (.int .i64 3))))),((some 45),.op (.arith .eql (.tmp 44) (.val (.val (.int .u8 39)))))]⟩,⟨none,[bJ 46 42 45,aa 47 46]⟩,⟨(some (47,true)),[aa 48 0,((some 49),.op (.cR (.tmp 48) (.val (.val (.int .i64 1))))),((some 50),.op (.arith .eql (.tmp 49) (.val (.val (.int .u8 92)))))]⟩,⟨none,[bJ 51 47 50,aa 52 51]⟩,⟨(some (52,true)),[aa 53 0,((some 54),.op (.cR (.tmp 53) (.val (.val (.int .i64 2))))),((some 55),.op (.arith .eql (.tmp 54) (.val (.val (.int .u8 110))))),aa 56 55]⟩,⟨(some (56,false)),[aa 57 0,((some 58),.op (.cR (.tmp 57) (.val (.val (.int .i64 2))))),((some 59),.op (.arith .eql (.tmp 58) (.val (.val (.int .u8 116)))))]⟩,⟨(some (52,true)),[bD 60 56 59,aa 61 60]⟩,⟨(some (61,false)),[aa 62 0,((some 63),.op (.cR (.tmp 62) (.val (.val (.int .i64 2))))),((some 64),.op (.arith .eql (.tmp 63) (.val (.val (.int .u8 92)))))]⟩,⟨(some (52,true)),[bD 65 61 64,aa 66 65]⟩,⟨(some (66,false)),[aa 67 0,((some 68),.op (.cR (.tmp 67) (.val (.val (.int .i64 2))))),((some 69),.op (.arith .eql (.tmp 68) (.val (.val (.int .u8 39)))))]⟩,⟨(some (52,true)),[bD 70 66 69]⟩,⟨none,[bJ 71 52 70,aa 2 71]⟩]) <|
  .ret,
  [.tmp 2],72⟩
theorem oV:aV Tryz.prog 191 []=some j6:=by kernel_rfl
def lR:SF:=⟨.seq (ak [aW 2 false]) <|
  .seq (.region false [⟨none,[aa 3 0,aK 4 142 [3],aa 5 4]⟩,⟨(some (5,false)),[aa 6 0,aK 7 191 [6]]⟩,⟨none,[bD 8 5 7,aa 2 8]⟩]) <|
  .ret,
  [.tmp 2],9⟩
theorem qq:aV Tryz.prog 139 []=some lR:=by kernel_rfl
set_option maxHeartbeats 1000000 in
theorem J1 (s:ByteArray) (H:View):aB Tryz.prog 191 [gs s] H fun r H'=>r=gb (jZ (dJ s))∧H'=H:=by
  refine aB.of mixed oV ?_
  simp (disch:=omega) only [↓wr,↓reduceIte,wq,ah,ag,aj,ab,ae,af,ai,isNil,Nat.reduceEqDiff,Nat.reduceAdd,Nat.reduceLT,Nat.reduceLeDiff,Int.reduceNeg,Int.reduceToNat,reduceCtorEq,j6,dk]
  refine an.eq (fun h=>?_) (fun h=>?_)
  · obtain ⟨a,b,c,hb⟩:=MT (l:=dJ s) (by omega)
    repeat' (first | (refine an.dec (fun _=>?_) (fun _=>?_)) | (refine an.eq (fun _=>?_) (fun _=>?_)) | (refine an.ne (fun _=>?_) (fun _=>?_)) | (refine an.split (fun _=>?_) (fun _=>?_)) | (simp (disch:=omega) only [↓wr,↓reduceIte,wq,ah,ag,aj,ab,ae,af,ai,isNil,Nat.reduceEqDiff,Nat.reduceAdd,Nat.reduceLT,Nat.reduceLeDiff,Int.reduceNeg,Int.reduceToNat,reduceCtorEq,hb,List.getElem?_cons_zero,List.getElem?_cons_succ]))
    all_goals (congr 2; simp only[jZ]; grind)
  · simp (disch:=omega) only [↓wr,↓reduceIte,wq,ah,ag,aj,ab,ae,af,ai,isNil,Nat.reduceEqDiff,Nat.reduceAdd,Nat.reduceLT,Nat.reduceLeDiff,Int.reduceNeg,Int.reduceToNat,reduceCtorEq,dk]
    refine an.eq (fun h4=>?_) (fun h4=>?_)
    · obtain ⟨a,b,c,d,hb⟩:=MP (l:=dJ s) (by omega)
      repeat' (first | (refine an.dec (fun _=>?_) (fun _=>?_)) | (refine an.eq (fun _=>?_) (fun _=>?_)) | (refine an.ne (fun _=>?_) (fun _=>?_)) | (refine an.split (fun _=>?_) (fun _=>?_)) | (simp (disch:=omega) only [↓wr,↓reduceIte,wq,ah,ag,aj,ab,ae,af,ai,isNil,Nat.reduceEqDiff,Nat.reduceAdd,Nat.reduceLT,Nat.reduceLeDiff,Int.reduceNeg,Int.reduceToNat,reduceCtorEq,hb,List.getElem?_cons_zero,List.getElem?_cons_succ]))
      all_goals (congr 2; simp only[jZ]; grind)
    · repeat' (first | (refine an.dec (fun _=>?_) (fun _=>?_)) | (refine an.eq (fun _=>?_) (fun _=>?_)) | (refine an.ne (fun _=>?_) (fun _=>?_)) | (refine an.split (fun _=>?_) (fun _=>?_)) | (simp (disch:=omega) only [↓wr,↓reduceIte,wq,ah,ag,aj,ab,ae,af,ai,isNil,Nat.reduceEqDiff,Nat.reduceAdd,Nat.reduceLT,Nat.reduceLeDiff,Int.reduceNeg,Int.reduceToNat,reduceCtorEq,dk]))
      rw[Jk (by omega) (by omega)]
theorem lY (s:ByteArray):∀ v∈[gs s],Tree v:=by intro v hv; simp at hv; subst hv; exact .val _
theorem zy (s:ByteArray):aE Tryz.prog 142 [gs s] (gb (eo (dJ s))) :=
  aE.of (lY s) ((Hj s _).mono fun r H' h h' _=>by rw[h.1]; exact .tree _ (.val _))
theorem IZ (s:ByteArray):aE Tryz.prog 191 [gs s] (gb (jZ (dJ s))) :=
  aE.of (lY s) ((J1 s _).mono fun r H' h h' _=>by rw[h.1]; exact .tree _ (.val _))
def mQ (l:List Int):Bool:=eo l || jZ l
theorem Ge (s:ByteArray) (H:View):aB Tryz.prog 139 [gs s] H fun r H'=>r=gb (mQ (dJ s))∧H'=H:=by
  refine aB.of mixed qq ?_
  simp (disch:=omega) only [↓wr,↓reduceIte,wq,ah,ag,aj,ab,ae,af,ai,isNil,Nat.reduceEqDiff,Nat.reduceAdd,Nat.reduceLT,Nat.reduceLeDiff,Int.reduceNeg,Int.reduceToNat,reduceCtorEq,lR]
  refine aF.pure (zy s) (by kernel_rfl) ?_
  repeat' (first | (refine an.dec (fun _=>?_) (fun _=>?_)) | (refine an.eq (fun _=>?_) (fun _=>?_)) | (refine an.ne (fun _=>?_) (fun _=>?_)) | (refine an.split (fun _=>?_) (fun _=>?_)) | (simp (disch:=omega) only [↓wr,↓reduceIte,wq,ah,ag,aj,ab,ae,af,ai,isNil,Nat.reduceEqDiff,Nat.reduceAdd,Nat.reduceLT,Nat.reduceLeDiff,Int.reduceNeg,Int.reduceToNat,reduceCtorEq]))
  · rename_i h; simp[mQ,h]
  · rename_i h
    refine aF.pure (IZ s) (by kernel_rfl) ?_
    repeat' (first | (refine an.dec (fun _=>?_) (fun _=>?_)) | (refine an.eq (fun _=>?_) (fun _=>?_)) | (refine an.ne (fun _=>?_) (fun _=>?_)) | (refine an.split (fun _=>?_) (fun _=>?_)) | (simp (disch:=omega) only [↓wr,↓reduceIte,wq,ah,ag,aj,ab,ae,af,ai,isNil,Nat.reduceEqDiff,Nat.reduceAdd,Nat.reduceLT,Nat.reduceLeDiff,Int.reduceNeg,Int.reduceToNat,reduceCtorEq]))
    simp[mQ,h]
theorem Gf (s:ByteArray):aE Tryz.prog 139 [gs s] (gb (mQ (dJ s))) :=
  aE.of (lY s) ((Ge s _).mono fun r H' h h' _=>by rw[h.1]; exact .tree _ (.val _))
end Gv
set_option linter.unusedSimpArgs false
set_option maxRecDepth 100000
namespace Gv
open Go Go.Proofs
def ld (s:ByteArray):List ByteArray→Int→Int
  | [],_=>-1
  | x :: l,i=>if fI x s=true then i else ld s l (i+1)
def jN (g:al) (s:ByteArray):Int:=ld s (g.ay.map Term.name) 0
def tD (g:al) (s:ByteArray):Int:=ld s g.aw 0
theorem dD {α:Type} {l:List α} {i:Nat} (h:i < l.length):l.drop i=l[i] :: l.drop (i+1):=List.drop_eq_getElem_cons h
theorem Bw (g:al) (s:ByteArray):∀ v∈[V.agg (av g),gs s],Tree v:=by
  intro v hv; simp at hv
  rcases hv with rfl | rfl
  · exact dr _ (dE g)
  · exact .val _
theorem fY (g:al):∀ v∈[V.agg (av g)],Tree v:=by intro v hv; simp at hv; subst hv; exact dr _ (dE g)
theorem wX (g:al) (x:Int):∀ v∈[V.agg (av g),gi x],Tree v:=by
  intro v hv; simp at hv
  rcases hv with rfl | rfl
  · exact dr _ (dE g)
  · exact .val _
theorem aE.val {P:Program} {f:FuncId} {vs:List V} {x:Value} (ht:∀ v∈vs,Tree v) (h:∀ H,aB P f vs H fun r _=>r=.val x):aE P f vs (.val x) :=
  aE.of ht ((h _).mono fun r H' e h' _=>by rw[e]; exact .tree _ (.val _))
def kU:SC :=
  .seq (.seq (ak [aa 6 5,ao 7 0 2,aq 8 7,aP 9 8,aS 10 .lss 6 9]) <|
  .cond (.tmp 10) (.skip) (.exit 0)) <|
  .seq (.block 1 (.seq (ak [ao 13 0 2,aq 14 13,aa 15 5,bp 16 3 14 15,ao 17 0 16,aq 18 17,aa 19 1,((some 20),.op (.ic .eql (.tmp 18) (.tmp 19)))]) <|
  .cond (.tmp 20) (.seq (ak [aa 21 5,aa 4 21]) <|
  .ret) (.skip))) <|
  ak [aa 11 5,aA 12 .add 11 1,aa 5 12]
def mV:SF:=⟨.seq (ak [c9 2 0,aI 4 0]) <|
  .seq (.seq (ak [aI 5 0]) <|
  .block 0 (.loop kU)) <|
  .seq (ak [aI 4 (-1)]) <|
  .ret,
  [.tmp 4],22⟩
theorem qU:aV Tryz.prog 140 [2]=some mV:=by kernel_rfl
def lF:SC :=
  .seq (.seq (ak [aa 6 5,ao 7 1 2,aq 8 7,aP 9 8,aS 10 .lss 6 9]) <|
  .cond (.tmp 10) (.skip) (.exit 0)) <|
  .seq (.block 1 (.seq (ak [ao 13 1 2,aq 14 13,aa 15 5,bp 16 1 14 15,aq 17 16,aa 18 1,((some 19),.op (.ic .eql (.tmp 17) (.tmp 18)))]) <|
  .cond (.tmp 19) (.seq (ak [aa 20 5,aa 4 20]) <|
  .ret) (.skip))) <|
  ak [aa 11 5,aA 12 .add 11 1,aa 5 12]
def nP:SF:=⟨.seq (ak [c9 2 0,aI 4 0]) <|
  .seq (.seq (ak [aI 5 0]) <|
  .block 0 (.loop lF)) <|
  .seq (ak [aI 4 (-1)]) <|
  .ret,
  [.tmp 4],21⟩
theorem sw:aV Tryz.prog 125 [2]=some nP:=by kernel_rfl
def ka:SC :=
  .seq (.seq (ak [aa 8 6,ao 9 0 2,aq 10 9,aP 11 10,aS 12 .lss 8 11]) <|
  .cond (.tmp 12) (.skip) (.exit 0)) <|
  .seq (.block 1 (.seq (.region false [⟨none,[ao 15 0 2,aq 16 15,aa 17 6,bp 18 3 16 17,ba 19 3 18,((some 7),.op (.alloc [(.val (.string ⟨#[]⟩)),(.val (.int .i64 0)),(.val (.int .i64 0))])),(none,.op (.store 3 (.tmp 7) (.tmp 19)))]⟩]) <|
  .seq (.seq (ak [ao 20 1 7,aq 21 20,aa 22 1,aS 23 .neq 21 22]) <|
  .cond (.tmp 23) (.exit 1) (.skip)) <|
  .seq (.seq (.region false [⟨none,[aa 24 5,aA 25 .neq 24 0,aa 26 25]⟩,⟨(some (26,true)),[aa 27 5,ao 28 2 7,aq 29 28,aS 30 .neq 27 29]⟩,⟨none,[bJ 31 26 30]⟩]) <|
  .cond (.tmp 31) (.seq (ak [aW 4 false]) <|
  .ret) (.skip)) <|
  ak [ao 32 2 7,aq 33 32,aa 5 33])) <|
  ak [aa 13 6,aA 14 .add 13 1,aa 6 14]
def lO:SF:=⟨.seq (ak [c9 2 0,aW 4 false]) <|
  .seq (ak [aI 5 0]) <|
  .seq (.seq (ak [aI 6 0]) <|
  .block 0 (.loop ka)) <|
  .seq (ak [aa 34 5,aA 35 .neq 34 0,aa 4 35]) <|
  .ret,
  [.tmp 4],36⟩
theorem qj:aV Tryz.prog 141 [2]=some lO:=by kernel_rfl
theorem IQ (g:al) (hg:g.Ok) (s:ByteArray) (H:View):aB Tryz.prog 140 [.agg (av g),gs s] H fun r _=>r=gi (jN g s):=by
  refine aB.of mixed qU ?_
  have hs:g.ay.length < 4611686018427387904:=hg.ay
  simp (disch:=omega) only [↓wr,↓reduceIte,wq,ah,ag,aj,ab,ae,af,ai,isNil,Nat.reduceEqDiff,Nat.reduceAdd,Nat.reduceLT,Nat.reduceLeDiff,Int.reduceNeg,Int.reduceToNat,reduceCtorEq,mV,av,encS]
  refine bz.intro (fun k T _=>∃ i:Nat,i+k=g.ay.length∧ld s ((g.ay.drop i).map Term.name) i=jN g s∧T 1=gs s∧T 2=.aR (av g) 0∧T 5=gi i) g.ay.length ?_ ?_
  · exact ⟨0,by omega,rfl,rfl,rfl,rfl⟩
  · rintro k T H' ⟨i,hk,hi,h1,h2,h5⟩
    simp (disch:=omega) only [↓wr,↓reduceIte,wq,ah,ag,aj,ab,ae,af,ai,isNil,Nat.reduceEqDiff,Nat.reduceAdd,Nat.reduceLT,Nat.reduceLeDiff,Int.reduceNeg,Int.reduceToNat,reduceCtorEq,kU,h1,h2,h5,av]
    refine an.dec (fun hc=>?_) (fun hc=>?_)
    · have hg2:g.ay[i]?=some (g.ay[i]'(by omega)):=List.getElem?_eq_getElem (by omega)
      rw[dD (show i < g.ay.length by omega)] at hi
      generalize g.ay[i]'(by omega)=t at hg2 hi
      simp only[List.map_cons,ld] at hi
      simp (disch:=omega) only [↓wr,↓reduceIte,wq,ah,ag,aj,ab,ae,af,ai,isNil,Nat.reduceEqDiff,Nat.reduceAdd,Nat.reduceLT,Nat.reduceLeDiff,Int.reduceNeg,Int.reduceToNat,reduceCtorEq,h1,h2,h5,av,cz,List.getElem?_map,hg2,Option.map_some]
      refine an.split (fun hd=>?_) (fun hd=>?_)
      · rw[if_pos hd] at hi
        simp (disch:=omega) only [↓wr,↓reduceIte,wq,ah,ag,aj,ab,ae,af,ai,isNil,Nat.reduceEqDiff,Nat.reduceAdd,Nat.reduceLT,Nat.reduceLeDiff,Int.reduceNeg,Int.reduceToNat,reduceCtorEq,h1,h2,h5]
        rw[hi]
      · rw[hd,if_neg (by simp)] at hi
        simp (disch:=omega) only [↓wr,↓reduceIte,wq,ah,ag,aj,ab,ae,af,ai,isNil,Nat.reduceEqDiff,Nat.reduceAdd,Nat.reduceLT,Nat.reduceLeDiff,Int.reduceNeg,Int.reduceToNat,reduceCtorEq,h1,h2,h5]
        exact ⟨k - 1,by omega,i+1,by omega,by push_cast; exact hi,rfl,rfl⟩
    · rw[List.drop_eq_nil_of_le (by omega)] at hi
      simp only[List.map_nil,ld] at hi
      simp (disch:=omega) only [↓wr,↓reduceIte,wq,ah,ag,aj,ab,ae,af,ai,isNil,Nat.reduceEqDiff,Nat.reduceAdd,Nat.reduceLT,Nat.reduceLeDiff,Int.reduceNeg,Int.reduceToNat,reduceCtorEq,h1,h2,h5]
      rw[hi]
theorem zC (g:al) (hg:g.Ok) (s:ByteArray):aE Tryz.prog 140 [.agg (av g),gs s] (gi (jN g s)):=aE.val (Bw g s) (IQ g hg s)
theorem Jb (g:al) (hg:g.Ok) (s:ByteArray) (H:View):aB Tryz.prog 125 [.agg (av g),gs s] H fun r _=>r=gi (tD g s):=by
  refine aB.of mixed sw ?_
  have hs:g.aw.length < 4611686018427387904:=hg.aw
  simp (disch:=omega) only [↓wr,↓reduceIte,wq,ah,ag,aj,ab,ae,af,ai,isNil,Nat.reduceEqDiff,Nat.reduceAdd,Nat.reduceLT,Nat.reduceLeDiff,Int.reduceNeg,Int.reduceToNat,reduceCtorEq,nP,av,encS]
  refine bz.intro (fun k T _=>∃ i:Nat,i+k=g.aw.length∧ld s (g.aw.drop i) i=tD g s∧T 1=gs s∧T 2=.aR (av g) 0∧T 5=gi i) g.aw.length ?_ ?_
  · exact ⟨0,by omega,rfl,rfl,rfl,rfl⟩
  · rintro k T H' ⟨i,hk,hi,h1,h2,h5⟩
    simp (disch:=omega) only [↓wr,↓reduceIte,wq,ah,ag,aj,ab,ae,af,ai,isNil,Nat.reduceEqDiff,Nat.reduceAdd,Nat.reduceLT,Nat.reduceLeDiff,Int.reduceNeg,Int.reduceToNat,reduceCtorEq,lF,h1,h2,h5,av,encS]
    refine an.dec (fun hc=>?_) (fun hc=>?_)
    · have hg2:g.aw[i]?=some (g.aw[i]'(by omega)):=List.getElem?_eq_getElem (by omega)
      rw[dD (show i < g.aw.length by omega)] at hi
      generalize g.aw[i]'(by omega)=t at hg2 hi
      simp only[List.map_cons,ld] at hi
      simp (disch:=omega) only [↓wr,↓reduceIte,wq,ah,ag,aj,ab,ae,af,ai,isNil,Nat.reduceEqDiff,Nat.reduceAdd,Nat.reduceLT,Nat.reduceLeDiff,Int.reduceNeg,Int.reduceToNat,reduceCtorEq,h1,h2,h5,av,encS,List.getElem?_map,hg2,Option.map_some]
      refine an.split (fun hd=>?_) (fun hd=>?_)
      · rw[if_pos hd] at hi
        simp (disch:=omega) only [↓wr,↓reduceIte,wq,ah,ag,aj,ab,ae,af,ai,isNil,Nat.reduceEqDiff,Nat.reduceAdd,Nat.reduceLT,Nat.reduceLeDiff,Int.reduceNeg,Int.reduceToNat,reduceCtorEq,h1,h2,h5]
        rw[hi]
      · rw[hd,if_neg (by simp)] at hi
        simp (disch:=omega) only [↓wr,↓reduceIte,wq,ah,ag,aj,ab,ae,af,ai,isNil,Nat.reduceEqDiff,Nat.reduceAdd,Nat.reduceLT,Nat.reduceLeDiff,Int.reduceNeg,Int.reduceToNat,reduceCtorEq,h1,h2,h5]
        exact ⟨k - 1,by omega,i+1,by omega,by push_cast; exact hi,rfl,rfl⟩
    · rw[List.drop_eq_nil_of_le (by omega)] at hi
      simp only[List.map_nil,ld] at hi
      simp (disch:=omega) only [↓wr,↓reduceIte,wq,ah,ag,aj,ab,ae,af,ai,isNil,Nat.reduceEqDiff,Nat.reduceAdd,Nat.reduceLT,Nat.reduceLeDiff,Int.reduceNeg,Int.reduceToNat,reduceCtorEq,h1,h2,h5]
      rw[hi]
theorem JB (g:al) (hg:g.Ok) (s:ByteArray):aE Tryz.prog 125 [.agg (av g),gs s] (gi (tD g s)):=aE.val (Bw g s) (Jb g hg s)
def ga (n:Int):List Term→Int→Option Int
  | [],way=>some way
  | t :: r,way=>if t.level=n then (if way≠0∧way≠t.assoc then none else ga n r t.assoc) else ga n r way
def eR (l:List Term) (n:Int):Bool:=match ga n l 0 with
  | some w=>w != 0
  | none=>false
theorem FG (g:al) (hg:g.Ok) (n:Int) (H:View):aB Tryz.prog 141 [.agg (av g),gi n] H fun r _=>r=gb (eR g.ay n):=by
  refine aB.of mixed qj ?_
  have hs:g.ay.length < 4611686018427387904:=hg.ay
  simp (disch:=omega) only [↓wr,↓reduceIte,wq,ah,ag,aj,ab,ae,af,ai,isNil,Nat.reduceEqDiff,Nat.reduceAdd,Nat.reduceLT,Nat.reduceLeDiff,Int.reduceNeg,Int.reduceToNat,reduceCtorEq,lO,av,encS]
  refine bz.intro (fun k T _=>∃ (i:Nat) (w:Int),i+k=g.ay.length∧ga n (g.ay.drop i) w=ga n g.ay 0∧T 1=gi n∧T 2=.aR (av g) 0∧T 5=gi w∧T 6=gi i) g.ay.length ?_ ?_
  · exact ⟨0,0,by omega,rfl,rfl,rfl,rfl,rfl⟩
  · rintro k T H' ⟨i,w,hk,hi,h1,h2,h5,h6⟩
    simp (disch:=omega) only [↓wr,↓reduceIte,wq,ah,ag,aj,ab,ae,af,ai,isNil,Nat.reduceEqDiff,Nat.reduceAdd,Nat.reduceLT,Nat.reduceLeDiff,Int.reduceNeg,Int.reduceToNat,reduceCtorEq,ka,h1,h2,h5,h6,av]
    refine an.dec (fun hc=>?_) (fun hc=>?_)
    · have hg2:g.ay[i]?=some (g.ay[i]'(by omega)):=List.getElem?_eq_getElem (by omega)
      rw[dD (show i < g.ay.length by omega)] at hi
      generalize g.ay[i]'(by omega)=t at hg2 hi
      simp only[ga] at hi
      simp (disch:=omega) only [↓wr,↓reduceIte,wq,ah,ag,aj,ab,ae,af,ai,isNil,Nat.reduceEqDiff,Nat.reduceAdd,Nat.reduceLT,Nat.reduceLeDiff,Int.reduceNeg,Int.reduceToNat,reduceCtorEq,h1,h2,h5,h6,av,cz,List.getElem?_map,hg2,Option.map_some]
      intro m hm
      try simp (disch:=omega) only [↓wr,↓reduceIte,wq,ah,ag,aj,ab,ae,af,ai,isNil,Nat.reduceEqDiff,Nat.reduceAdd,Nat.reduceLT,Nat.reduceLeDiff,Int.reduceNeg,Int.reduceToNat,reduceCtorEq,h1,h2,h5,h6]
      refine an.ne (fun hd=>?_) (fun hd=>?_)
      · rw[if_neg hd] at hi
        simp (disch:=omega) only [↓wr,↓reduceIte,wq,ah,ag,aj,ab,ae,af,ai,isNil,Nat.reduceEqDiff,Nat.reduceAdd,Nat.reduceLT,Nat.reduceLeDiff,Int.reduceNeg,Int.reduceToNat,reduceCtorEq,h1,h2,h5,h6]
        exact ⟨k - 1,by omega,i+1,w,by omega,hi,by first | rfl | exact ⟨rfl,rfl⟩ | exact ⟨rfl,rfl,rfl⟩⟩
      · rw[if_pos hd] at hi
        repeat' (first | (refine an.dec (fun _=>?_) (fun _=>?_)) | (refine an.eq (fun _=>?_) (fun _=>?_)) | (refine an.ne (fun _=>?_) (fun _=>?_)) | (refine an.split (fun _=>?_) (fun _=>?_)) | (simp (disch:=omega) only [↓wr,↓reduceIte,wq,ah,ag,aj,ab,ae,af,ai,isNil,Nat.reduceEqDiff,Nat.reduceAdd,Nat.reduceLT,Nat.reduceLeDiff,Int.reduceNeg,Int.reduceToNat,reduceCtorEq,h1,h2,h5,h6]))
        · rename_i a b
          rw[if_pos ⟨a,b⟩] at hi
          simp only[eR,← hi]
        · rename_i a b
          rw[if_neg (fun e=>e.2 b)] at hi
          exact ⟨k - 1,by omega,i+1,_,by omega,hi,by first | rfl | exact ⟨rfl,rfl⟩ | exact ⟨rfl,rfl,rfl⟩⟩
        · rename_i a
          rw[if_neg (fun e=>e.1 a)] at hi
          exact ⟨k - 1,by omega,i+1,_,by omega,hi,by first | rfl | exact ⟨rfl,rfl⟩ | exact ⟨rfl,rfl,rfl⟩⟩
    · rw[List.drop_eq_nil_of_le (by omega)] at hi
      simp only[ga] at hi
      simp (disch:=omega) only [↓wr,↓reduceIte,wq,ah,ag,aj,ab,ae,af,ai,isNil,Nat.reduceEqDiff,Nat.reduceAdd,Nat.reduceLT,Nat.reduceLeDiff,Int.reduceNeg,Int.reduceToNat,reduceCtorEq,h1,h2,h5,h6]
      simp only[eR,← hi]
theorem FD (g:al) (hg:g.Ok) (n:Int):aE Tryz.prog 141 [.agg (av g),gi n] (gb (eR g.ay n)):=aE.val (wX g n) (FG g hg n)
end Gv
set_option linter.unusedSimpArgs false
set_option maxRecDepth 100000
namespace Gv
open Go Go.Proofs
def nV (g:al) (t:Term):Bool:=(List.range t.level.toNat).all fun k=>eR g.ay ((k:Int)+1)
def iq (g:al) (i:Int) (t:Term):Bool :=
  mQ (dJ t.name) && (jN g t.name == i) && decide (0≤t.level) && decide (t.level≤24) && decide (0≤t.assoc) && decide (t.assoc≤3) && ((t.level == 0) == (t.assoc == 0)) && nV g t
def gX (g:al):List Term→Int→Bool
  | [],_=>true
  | t :: r,i=>iq g i t && gX g r (i+1)
def hD (g:al):Bool:=decide (g.ay.length≤24) && gX g g.ay 0
def ko:SC :=
  .seq (.seq (ak [aa 63 5,ao 64 1 4,aq 65 64,aS 66 .leq 63 65]) <|
  .cond (.tmp 66) (.skip) (.exit 2)) <|
  .seq (.block 3 (.seq (ak [ba 69 4 1,aa 70 5,aK 71 141 [69,70],cq 72 71]) <|
  .cond (.tmp 72) (.seq (ak [aW 2 false]) <|
  .ret) (.skip))) <|
  ak [aa 67 5,aA 68 .add 67 1,aa 5 68]
def kf:SC :=
  .seq (.seq (ak [aa 10 3,ao 11 0 1,aq 12 11,aP 13 12,aS 14 .lss 10 13]) <|
  .cond (.tmp 14) (.skip) (.exit 0)) <|
  .seq (.block 1 (.seq (.region false [⟨none,[ao 17 0 1,aq 18 17,aa 19 3,bp 20 3 18 19,ba 21 3 20,((some 4),.op (.alloc [(.val (.string ⟨#[]⟩)),(.val (.int .i64 0)),(.val (.int .i64 0))])),(none,.op (.store 3 (.tmp 4) (.tmp 21)))]⟩]) <|
  .seq (.seq (.region false [⟨none,[ao 22 0 4,aq 23 22,aK 24 139 [23],cq 25 24,aa 26 25]⟩,⟨(some (26,false)),[ba 27 4 1,ao 28 0 4,aq 29 28,aK 30 140 [27,29],aa 31 3,aS 32 .neq 30 31]⟩,⟨none,[bD 33 26 32,aa 34 33]⟩,⟨(some (34,false)),[ao 35 1 4,aq 36 35,aA 37 .lss 36 0]⟩,⟨none,[bD 38 34 37,aa 39 38]⟩,⟨(some (39,false)),[ao 40 1 4,aq 41 40,aA 42 .gtr 41 24]⟩,⟨none,[bD 43 39 42,aa 44 43]⟩,⟨(some (44,false)),[ao 45 2 4,aq 46 45,aA 47 .lss 46 0]⟩,⟨none,[bD 48 44 47,aa 49 48]⟩,⟨(some (49,false)),[ao 50 2 4,aq 51 50,aA 52 .gtr 51 3]⟩,⟨none,[bD 53 49 52,aa 54 53]⟩,⟨(some (54,false)),[ao 55 1 4,aq 56 55,aA 57 .eql 56 0,ao 58 2 4,aq 59 58,aA 60 .eql 59 0,((some 61),.op (.beq false (.tmp 57) (.tmp 60)))]⟩,⟨none,[bD 62 54 61]⟩]) <|
  .cond (.tmp 62) (.seq (ak [aW 2 false]) <|
  .ret) (.skip)) <|
  .seq (ak [aI 5 1]) <|
  .block 2 (.loop ko))) <|
  ak [aa 15 3,aA 16 .add 15 1,aa 3 16]
def lK:SF:=⟨.seq (ak [c9 1 0,aW 2 false]) <|
  .seq (.seq (ak [ao 6 0 1,aq 7 6,aP 8 7,aA 9 .gtr 8 24]) <|
  .cond (.tmp 9) (.seq (ak [aW 2 false]) <|
  .ret) (.skip)) <|
  .seq (.seq (ak [aI 3 0]) <|
  .block 0 (.loop kf)) <|
  .seq (ak [aW 2 true]) <|
  .ret,
  [.tmp 2],73⟩
theorem qb:aV Tryz.prog 89 [1]=some lK:=by kernel_rfl
def kC:SC :=
  .seq (.seq (ak [aa 14 3,ao 15 1 1,aq 16 15,aP 17 16,aS 18 .lss 14 17]) <|
  .cond (.tmp 18) (.skip) (.exit 0)) <|
  .seq (.block 1 (.seq (.region false [⟨none,[ao 21 1 1,aq 22 21,aa 23 3,bp 24 1 22 23,aq 25 24,aK 26 142 [25],cq 27 26,aa 28 27]⟩,⟨(some (28,false)),[ba 29 4 1,ao 30 1 1,aq 31 30,aa 32 3,bp 33 1 31 32,aq 34 33,aK 35 125 [29,34],aa 36 3,aS 37 .neq 35 36]⟩,⟨none,[bD 38 28 37,aa 39 38]⟩,⟨(some (39,false)),[ba 40 4 1,ao 41 1 1,aq 42 41,aa 43 3,bp 44 1 42 43,aq 45 44,aK 46 140 [40,45],aA 47 .geq 46 0]⟩,⟨none,[bD 48 39 47]⟩]) <|
  .cond (.tmp 48) (.seq (ak [aW 2 false]) <|
  .ret) (.skip))) <|
  ak [aa 19 3,aA 20 .add 19 1,aa 3 20]
def np:SF:=⟨.seq (ak [c9 1 0,aW 2 false]) <|
  .seq (.seq (.region false [⟨none,[ao 4 1 1,aq 5 4,aP 6 5,aA 7 .lss 6 1,aa 8 7]⟩,⟨(some (8,false)),[ao 9 1 1,aq 10 9,aP 11 10,aA 12 .gtr 11 16]⟩,⟨none,[bD 13 8 12]⟩]) <|
  .cond (.tmp 13) (.seq (ak [aW 2 false]) <|
  .ret) (.skip)) <|
  .seq (.seq (ak [aI 3 0]) <|
  .block 0 (.loop kC)) <|
  .seq (ak [aW 2 true]) <|
  .ret,
  [.tmp 2],49⟩
theorem rJ:aV Tryz.prog 90 [1]=some np:=by kernel_rfl
def kF:SC :=
  .seq (.seq (ak [aa 23 5,ao 24 1 3,aq 25 24,aP 26 25,aS 27 .lss 23 26]) <|
  .cond (.tmp 27) (.skip) (.exit 0)) <|
  .seq (.block 1 (.seq (.region false [⟨none,[ba 30 4 2,ao 31 1 3,aq 32 31,aa 33 5,bp 34 1 32 33,aq 35 34,aK 36 143 [30,35],cq 37 36,aa 38 37]⟩,⟨(some (38,false)),[ao 39 1 3,aq 40 39,aa 41 5,bp 42 1 40 41,aq 43 42,aA 44 .geq 43 0,aa 45 44]⟩,⟨(some (45,true)),[ao 46 2 3,aq 47 46,aA 48 .eql 47 (-1)]⟩,⟨(some (38,false)),[bJ 49 45 48]⟩,⟨none,[bD 50 38 49]⟩]) <|
  .cond (.tmp 50) (.seq (ak [aW 4 false]) <|
  .ret) (.skip))) <|
  ak [aa 28 5,aA 29 .add 28 1,aa 5 29]
def nf:SF:=⟨.seq (ak [c9 2 0,c9 3 1,aW 4 false]) <|
  .seq (.seq (.region false [⟨none,[ao 6 1 3,aq 7 6,aP 8 7,aA 9 .gtr 8 6,aa 10 9]⟩,⟨(some (10,false)),[ao 11 2 3,aq 12 11,aA 13 .lss 12 (-1)]⟩,⟨none,[bD 14 10 13,aa 15 14]⟩,⟨(some (15,false)),[ao 16 2 3,aq 17 16,ao 18 0 2,aq 19 18,aP 20 19,aS 21 .geq 17 20]⟩,⟨none,[bD 22 15 21]⟩]) <|
  .cond (.tmp 22) (.seq (ak [aW 4 false]) <|
  .ret) (.skip)) <|
  .seq (.seq (ak [aI 5 0]) <|
  .block 0 (.loop kF)) <|
  .seq (ak [aW 4 true]) <|
  .ret,
  [.tmp 4],51⟩
theorem rF:aV Tryz.prog 91 [2,3]=some nf:=by kernel_rfl
def kb:SC :=
  .seq (.seq (ak [aa 39 4,ao 40 2 1,aq 41 40,aP 42 41,aS 43 .lss 39 42]) <|
  .cond (.tmp 43) (.skip) (.exit 0)) <|
  .seq (.block 1 (.seq (ak [ao 46 2 1,aq 47 46,aa 48 4,bp 49 3 47 48,ba 50 3 49,((some 5),.op (.alloc [(.val (.int .i64 0)),(.emp 1),(.val (.int .i64 0))])),(none,.op (.store 3 (.tmp 5) (.tmp 50)))]) <|
  .seq (.seq (.region false [⟨none,[ao 51 0 5,aq 52 51,aA 53 .lss 52 0,aa 54 53]⟩,⟨(some (54,false)),[ao 55 0 5,aq 56 55,aa 57 3,aA 58 .add 57 1,aS 59 .gtr 56 58]⟩,⟨none,[bD 60 54 59,aa 61 60]⟩,⟨(some (61,false)),[ba 62 4 1,ba 63 3 5,aK 64 91 [62,63],cq 65 64]⟩,⟨none,[bD 66 61 65]⟩]) <|
  .cond (.tmp 66) (.seq (ak [aW 2 false]) <|
  .ret) (.skip)) <|
  .seq (ak [ao 67 0 5,aq 68 67,aa 69 3,aS 70 .gtr 68 69]) <|
  .cond (.tmp 70) (ak [ao 71 0 5,aq 72 71,aa 3 72]) (.skip))) <|
  ak [aa 44 4,aA 45 .add 44 1,aa 4 45]
def lL:SF:=⟨.seq (ak [c9 1 0,aW 2 false]) <|
  .seq (.seq (.region false [⟨none,[ba 6 4 1,aK 7 89 [6],cq 8 7,aa 9 8]⟩,⟨(some (9,false)),[ba 10 4 1,aK 11 90 [10],cq 12 11]⟩,⟨none,[bD 13 9 12,aa 14 13]⟩,⟨(some (14,false)),[ao 15 2 1,aq 16 15,aP 17 16,aA 18 .lss 17 1]⟩,⟨none,[bD 19 14 18,aa 20 19]⟩,⟨(some (20,false)),[ao 21 2 1,aq 22 21,aP 23 22,aA 24 .gtr 23 40]⟩,⟨none,[bD 25 20 24,aa 26 25]⟩,⟨(some (26,false)),[ao 27 3 1,aq 28 27,aA 29 .lss 28 0]⟩,⟨none,[bD 30 26 29,aa 31 30]⟩,⟨(some (31,false)),[ao 32 3 1,aq 33 32,ao 34 1 1,aq 35 34,aP 36 35,aS 37 .geq 33 36]⟩,⟨none,[bD 38 31 37]⟩]) <|
  .cond (.tmp 38) (.seq (ak [aW 2 false]) <|
  .ret) (.skip)) <|
  .seq (ak [aI 3 (-1)]) <|
  .seq (.seq (ak [aI 4 0]) <|
  .block 0 (.loop kb)) <|
  .seq (ak [aa 73 3,ao 74 1 1,aq 75 74,aP 76 75,aA 77 .sub 76 1,aS 78 .eql 73 77,aa 2 78]) <|
  .ret,
  [.tmp 2],79⟩
theorem qz:aV Tryz.prog 48 [1]=some lL:=by kernel_rfl
set_option maxHeartbeats 2000000 in
theorem Ff (g:al) (hg:g.Ok) (H:View):aB Tryz.prog 89 [.agg (av g)] H fun r _=>r=gb (hD g):=by
  refine aB.of mixed qb ?_
  simp (disch:=omega) only [↓wr,↓reduceIte,wq,ah,ag,aj,ab,ae,af,ai,isNil,Nat.reduceEqDiff,Nat.reduceAdd,Nat.reduceLT,Nat.reduceLeDiff,Int.reduceNeg,Int.reduceToNat,reduceCtorEq,lK,av,encS]
  refine an.dec (fun h=>?_) (fun h=>?_)
  · simp (disch:=omega) only [↓wr,↓reduceIte,wq,ah,ag,aj,ab,ae,af,ai,isNil,Nat.reduceEqDiff,Nat.reduceAdd,Nat.reduceLT,Nat.reduceLeDiff,Int.reduceNeg,Int.reduceToNat,reduceCtorEq]
    simp[hD,show ¬ g.ay.length≤24 by omega]
  · have hle:g.ay.length≤24:=by omega
    simp (disch:=omega) only [↓wr,↓reduceIte,wq,ah,ag,aj,ab,ae,af,ai,isNil,Nat.reduceEqDiff,Nat.reduceAdd,Nat.reduceLT,Nat.reduceLeDiff,Int.reduceNeg,Int.reduceToNat,reduceCtorEq]
    refine bz.intro (fun k T _=>∃ i:Nat,i+k=g.ay.length∧gX g (g.ay.drop i) i=gX g g.ay 0∧T 1=.aR (av g) 0∧T 3=gi i) g.ay.length ?_ ?_
    · exact ⟨0,by omega,rfl,rfl,rfl⟩
    · rintro k T H' ⟨i,hk,hi,h1,h3⟩
      simp (disch:=omega) only [↓wr,↓reduceIte,wq,ah,ag,aj,ab,ae,af,ai,isNil,Nat.reduceEqDiff,Nat.reduceAdd,Nat.reduceLT,Nat.reduceLeDiff,Int.reduceNeg,Int.reduceToNat,reduceCtorEq,kf,h1,h3,av]
      refine an.dec (fun hc=>?_) (fun hc=>?_)
      · have hg2:g.ay[i]?=some (g.ay[i]'(by omega)):=List.getElem?_eq_getElem (by omega)
        rw[dD (show i < g.ay.length by omega)] at hi
        have hmem:g.ay[i]'(by omega)∈g.ay:=List.getElem_mem _
        generalize g.ay[i]'(by omega)=t at hg2 hi hmem
        obtain ⟨⟨hl1,hl2⟩,⟨ha1,ha2⟩⟩:=hg.term t hmem
        simp only[gX] at hi
        have hbad:iq g i t=false→gb false=gb (hD g):=fun e=>by rw[e,Bool.false_and] at hi; simp[hD,← hi]
        simp (disch:=omega) only [↓wr,↓reduceIte,wq,ah,ag,aj,ab,ae,af,ai,isNil,Nat.reduceEqDiff,Nat.reduceAdd,Nat.reduceLT,Nat.reduceLeDiff,Int.reduceNeg,Int.reduceToNat,reduceCtorEq,h1,h3,av,cz,List.getElem?_map,hg2,Option.map_some]
        intro m hm
        try simp (disch:=omega) only [↓wr,↓reduceIte,wq,ah,ag,aj,ab,ae,af,ai,isNil,Nat.reduceEqDiff,Nat.reduceAdd,Nat.reduceLT,Nat.reduceLeDiff,Int.reduceNeg,Int.reduceToNat,reduceCtorEq,h1,h3]
        refine aF.pure (Gf t.name) (by kernel_rfl) ?_
        repeat' (first | (refine an.dec (fun _=>?_) (fun _=>?_)) | (refine an.eq (fun _=>?_) (fun _=>?_)) | (refine an.ne (fun _=>?_) (fun _=>?_)) | (refine an.split (fun _=>?_) (fun _=>?_)) | (simp (disch:=omega) only [↓wr,↓reduceIte,wq,ah,ag,aj,ab,ae,af,ai,isNil,Nat.reduceEqDiff,Nat.reduceAdd,Nat.reduceLT,Nat.reduceLeDiff,Int.reduceNeg,Int.reduceToNat,reduceCtorEq,h1,h3,av]))
        all_goals try (refine hbad ?_; simp[iq, *]; done)
        rename_i hnm
        refine aF.pure (zC g hg t.name) (by kernel_rfl) ?_
        repeat' (first | (refine an.dec (fun _=>?_) (fun _=>?_)) | (refine an.eq (fun _=>?_) (fun _=>?_)) | (refine an.ne (fun _=>?_) (fun _=>?_)) | (refine an.split (fun _=>?_) (fun _=>?_)) | (simp (disch:=omega) only [↓wr,↓reduceIte,wq,ah,ag,aj,ab,ae,af,ai,isNil,Nat.reduceEqDiff,Nat.reduceAdd,Nat.reduceLT,Nat.reduceLeDiff,Int.reduceNeg,Int.reduceToNat,reduceCtorEq,h1,h3,av]))
        all_goals try (refine hbad ?_; simp[iq, *]; done)
        all_goals try (refine hbad ?_; simp[iq]; grind)
        rename_i e1 e2 e3 e4 e5 e6
        have hpre:iq g i t=nV g t:=by
          have e6':((t.level == 0) == (t.assoc == 0))=true:=by simpa using e6
          simp[iq,hnm,e1,e6',show (0:Int)≤t.level by omega,show t.level≤24 by omega,show (0:Int)≤t.assoc by omega,show t.assoc≤3 by omega]
        refine bz.intro (fun k' T H''=>∃ j:Nat,1≤j∧j+k'=t.level.toNat+1∧(∀ q:Nat,q+1 < j→eR g.ay ((q:Int)+1)=true)∧T 1=.aR (av g) 0∧T 3=gi i∧T 4=.ptr m 0 0∧H'' m=.arr 3 [[gs t.name,gi t.level,gi t.assoc]]∧T 5=gi j) t.level.toNat ?_ ?_
        · refine ⟨1,by omega,by omega,fun q hq=>by omega,?_⟩
          simp (disch:=omega) only [↓wr,↓reduceIte,wq,ah,ag,aj,ab,ae,af,ai,isNil,Nat.reduceEqDiff,Nat.reduceAdd,Nat.reduceLT,Nat.reduceLeDiff,Int.reduceNeg,Int.reduceToNat,reduceCtorEq,h1,h3,av]
          rfl
        · rintro k' T' H'' ⟨j,hj1,hj2,hj3,f1,f3,f4,fm,f5⟩
          simp (disch:=omega) only [↓wr,↓reduceIte,wq,ah,ag,aj,ab,ae,af,ai,isNil,Nat.reduceEqDiff,Nat.reduceAdd,Nat.reduceLT,Nat.reduceLeDiff,Int.reduceNeg,Int.reduceToNat,reduceCtorEq,ko,f1,f3,f4,f5,fm]
          refine an.dec (fun hd=>?_) (fun hd=>?_)
          · simp (disch:=omega) only [↓wr,↓reduceIte,wq,ah,ag,aj,ab,ae,af,ai,isNil,Nat.reduceEqDiff,Nat.reduceAdd,Nat.reduceLT,Nat.reduceLeDiff,Int.reduceNeg,Int.reduceToNat,reduceCtorEq,f1,f3,f4,f5,fm,av]
            refine aF.pure (FD g hg j) (by kernel_rfl) ?_
            repeat' (first | (refine an.dec (fun _=>?_) (fun _=>?_)) | (refine an.eq (fun _=>?_) (fun _=>?_)) | (refine an.ne (fun _=>?_) (fun _=>?_)) | (refine an.split (fun _=>?_) (fun _=>?_)) | (simp (disch:=omega) only [↓wr,↓reduceIte,wq,ah,ag,aj,ab,ae,af,ai,isNil,Nat.reduceEqDiff,Nat.reduceAdd,Nat.reduceLT,Nat.reduceLeDiff,Int.reduceNeg,Int.reduceToNat,reduceCtorEq,f1,f3,f4,f5,fm,av]))
            · rename_i hb
              refine ⟨k' - 1,by omega,j+1,by omega,by omega,fun q hq=>?_,by first | rfl | exact ⟨rfl,rfl⟩ | exact ⟨rfl,rfl,rfl⟩⟩
              by_cases e:q+1=j
              · have:(q:Int)+1=j:=by omega
                rw[this]; exact hb
              · exact hj3 q (by omega)
            · rename_i hb
              refine hbad ?_
              rw[hpre,nV,List.all_eq_false]
              refine ⟨j - 1,by simp; omega,?_⟩
              have:((j - 1:Nat):Int)+1=j:=by omega
              rw[this,hb]; simp
          · simp (disch:=omega) only [↓wr,↓reduceIte,wq,ah,ag,aj,ab,ae,af,ai,isNil,Nat.reduceEqDiff,Nat.reduceAdd,Nat.reduceLT,Nat.reduceLeDiff,Int.reduceNeg,Int.reduceToNat,reduceCtorEq,f1,f3,f4,f5,fm]
            refine ⟨k - 1,by omega,i+1,by omega,?_,by first | rfl | exact ⟨rfl,rfl⟩ | exact ⟨rfl,rfl,rfl⟩⟩
            have hlv:nV g t=true:=by
              rw[nV,List.all_eq_true]
              intro q hq
              exact hj3 q (by simp at hq; omega)
            rw[hpre,hlv,Bool.true_and] at hi
            push_cast; exact hi
      · rw[List.drop_eq_nil_of_le (by omega)] at hi
        simp only[gX] at hi
        simp (disch:=omega) only [↓wr,↓reduceIte,wq,ah,ag,aj,ab,ae,af,ai,isNil,Nat.reduceEqDiff,Nat.reduceAdd,Nat.reduceLT,Nat.reduceLeDiff,Int.reduceNeg,Int.reduceToNat,reduceCtorEq,h1,h3]
        simp[hD,hle,← hi]
theorem Ga (g:al) (hg:g.Ok):aE Tryz.prog 89 [.agg (av g)] (gb (hD g)):=aE.val (fY g) (Ff g hg)
def ju (g:al) (i:Int) (s:ByteArray):Bool:=eo (dJ s) && (tD g s == i) && decide (jN g s < 0)
def nW (g:al):List ByteArray→Int→Bool
  | [],_=>true
  | s :: r,i=>ju g i s && nW g r (i+1)
def iK (g:al):Bool:=decide (1≤g.aw.length) && decide (g.aw.length≤16) && nW g g.aw 0
set_option maxHeartbeats 1000000 in
theorem Hr (g:al) (hg:g.Ok) (H:View):aB Tryz.prog 90 [.agg (av g)] H fun r _=>r=gb (iK g):=by
  refine aB.of mixed rJ ?_
  repeat' (first | (refine an.dec (fun _=>?_) (fun _=>?_)) | (refine an.eq (fun _=>?_) (fun _=>?_)) | (refine an.ne (fun _=>?_) (fun _=>?_)) | (refine an.split (fun _=>?_) (fun _=>?_)) | (simp (disch:=omega) only [↓wr,↓reduceIte,wq,ah,ag,aj,ab,ae,af,ai,isNil,Nat.reduceEqDiff,Nat.reduceAdd,Nat.reduceLT,Nat.reduceLeDiff,Int.reduceNeg,Int.reduceToNat,reduceCtorEq,np,av,encS]))
  · simp[iK,show ¬ 1≤g.aw.length by omega]
  · simp[iK,show ¬ g.aw.length≤16 by omega]
  · have hle:g.aw.length≤16:=by omega
    refine bz.intro (fun k T _=>∃ i:Nat,i+k=g.aw.length∧nW g (g.aw.drop i) i=nW g g.aw 0∧T 1=.aR (av g) 0∧T 3=gi i) g.aw.length ?_ ?_
    · exact ⟨0,by omega,rfl,rfl,rfl⟩
    · rintro k T H' ⟨i,hk,hi,h1,h3⟩
      simp (disch:=omega) only [↓wr,↓reduceIte,wq,ah,ag,aj,ab,ae,af,ai,isNil,Nat.reduceEqDiff,Nat.reduceAdd,Nat.reduceLT,Nat.reduceLeDiff,Int.reduceNeg,Int.reduceToNat,reduceCtorEq,kC,h1,h3,av,encS]
      refine an.dec (fun hc=>?_) (fun hc=>?_)
      · have hg2:g.aw[i]?=some (g.aw[i]'(by omega)):=List.getElem?_eq_getElem (by omega)
        rw[dD (show i < g.aw.length by omega)] at hi
        generalize g.aw[i]'(by omega)=t at hg2 hi
        simp only[nW] at hi
        have hbad:ju g i t=false→gb false=gb (iK g):=fun e=>by rw[e,Bool.false_and] at hi; simp[iK,← hi]
        simp (disch:=omega) only [↓wr,↓reduceIte,wq,ah,ag,aj,ab,ae,af,ai,isNil,Nat.reduceEqDiff,Nat.reduceAdd,Nat.reduceLT,Nat.reduceLeDiff,Int.reduceNeg,Int.reduceToNat,reduceCtorEq,h1,h3,av,encS,List.getElem?_map,hg2,Option.map_some]
        refine aF.pure (zy t) (by kernel_rfl) ?_
        repeat' (first | (refine an.dec (fun _=>?_) (fun _=>?_)) | (refine an.eq (fun _=>?_) (fun _=>?_)) | (refine an.ne (fun _=>?_) (fun _=>?_)) | (refine an.split (fun _=>?_) (fun _=>?_)) | (simp (disch:=omega) only [↓wr,↓reduceIte,wq,ah,ag,aj,ab,ae,af,ai,isNil,Nat.reduceEqDiff,Nat.reduceAdd,Nat.reduceLT,Nat.reduceLeDiff,Int.reduceNeg,Int.reduceToNat,reduceCtorEq,h1,h3,av,encS,List.getElem?_map,hg2,Option.map_some]))
        all_goals try (refine hbad ?_; simp[ju, *]; done)
        rename_i hnm
        refine aF.pure (JB g hg t) (by kernel_rfl) ?_
        repeat' (first | (refine an.dec (fun _=>?_) (fun _=>?_)) | (refine an.eq (fun _=>?_) (fun _=>?_)) | (refine an.ne (fun _=>?_) (fun _=>?_)) | (refine an.split (fun _=>?_) (fun _=>?_)) | (simp (disch:=omega) only [↓wr,↓reduceIte,wq,ah,ag,aj,ab,ae,af,ai,isNil,Nat.reduceEqDiff,Nat.reduceAdd,Nat.reduceLT,Nat.reduceLeDiff,Int.reduceNeg,Int.reduceToNat,reduceCtorEq,h1,h3,av,encS,List.getElem?_map,hg2,Option.map_some]))
        all_goals try (refine hbad ?_; simp[ju, *]; done)
        rename_i hno
        refine aF.pure (zC g hg t) (by kernel_rfl) ?_
        repeat' (first | (refine an.dec (fun _=>?_) (fun _=>?_)) | (refine an.eq (fun _=>?_) (fun _=>?_)) | (refine an.ne (fun _=>?_) (fun _=>?_)) | (refine an.split (fun _=>?_) (fun _=>?_)) | (simp (disch:=omega) only [↓wr,↓reduceIte,wq,ah,ag,aj,ab,ae,af,ai,isNil,Nat.reduceEqDiff,Nat.reduceAdd,Nat.reduceLT,Nat.reduceLeDiff,Int.reduceNeg,Int.reduceToNat,reduceCtorEq,h1,h3,av,encS]))
        all_goals try (refine hbad ?_; simp[ju, *]; done)
        rename_i hte
        refine ⟨k - 1,by omega,i+1,by omega,?_,by first | rfl | exact ⟨rfl,rfl⟩ | exact ⟨rfl,rfl,rfl⟩⟩
        have:ju g i t=true:=by simp[ju,hnm,hno,show jN g t < 0 by omega]
        rw[this,Bool.true_and] at hi
        push_cast; exact hi
      · rw[List.drop_eq_nil_of_le (by omega)] at hi
        simp only[nW] at hi
        simp (disch:=omega) only [↓wr,↓reduceIte,wq,ah,ag,aj,ab,ae,af,ai,isNil,Nat.reduceEqDiff,Nat.reduceAdd,Nat.reduceLT,Nat.reduceLeDiff,Int.reduceNeg,Int.reduceToNat,reduceCtorEq,h1,h3]
        simp[iK,hle,show 1≤g.aw.length by omega,← hi]
theorem GU (g:al) (hg:g.Ok):aE Tryz.prog 90 [.agg (av g)] (gb (iK g)):=aE.val (fY g) (Hr g hg)
def jT (g:al) (prec s:Int):Bool:=iL g s && !(decide (0≤s) && prec == -1)
def fq (g:al) (r:aJ):Bool:=decide (r.right.length≤6) && decide (-1≤r.prec) && decide (r.prec < g.ay.length) && r.right.all (jT g r.prec)
theorem Cb (g:al) (r:aJ):∀ v∈[V.agg (av g),V.agg (bf r)],Tree v:=by
  intro v hv; simp at hv
  rcases hv with rfl | rfl
  · exact dr _ (dE g)
  · exact dr _ (fa r)
set_option maxHeartbeats 1000000 in
theorem GI (g:al) (r:aJ) (hr:aH r.right∧∀ x∈r.right,bU x) (H:View):aB Tryz.prog 91 [.agg (av g),.agg (bf r)] H fun v _=>v=gb (fq g r):=by
  refine aB.of mixed rF ?_
  repeat' (first | (refine an.dec (fun _=>?_) (fun _=>?_)) | (refine an.eq (fun _=>?_) (fun _=>?_)) | (refine an.ne (fun _=>?_) (fun _=>?_)) | (refine an.split (fun _=>?_) (fun _=>?_)) | (simp (disch:=omega) only [↓wr,↓reduceIte,wq,ah,ag,aj,ab,ae,af,ai,isNil,Nat.reduceEqDiff,Nat.reduceAdd,Nat.reduceLT,Nat.reduceLeDiff,Int.reduceNeg,Int.reduceToNat,reduceCtorEq,nf,av,encS,bf,encI]))
  · simp[fq,show ¬ r.right.length≤6 by omega]
  · simp[fq,show ¬ -1≤r.prec by omega]
  · simp[fq,show ¬ r.prec < g.ay.length by omega]
  · have hle:r.right.length≤6:=by omega
    have hp1 : -1≤r.prec:=by omega
    have hp2:r.prec < g.ay.length:=by omega
    refine bz.intro (fun k T _=>∃ i:Nat,i+k=r.right.length∧(r.right.drop i).all (jT g r.prec)=r.right.all (jT g r.prec)∧T 2=.aR (av g) 0∧T 3=.aR (bf r) 0∧T 5=gi i) r.right.length ?_ ?_
    · exact ⟨0,by omega,rfl,rfl,rfl,rfl⟩
    · rintro k T H' ⟨i,hk,hi,h2,h3,h5⟩
      simp (disch:=omega) only [↓wr,↓reduceIte,wq,ah,ag,aj,ab,ae,af,ai,isNil,Nat.reduceEqDiff,Nat.reduceAdd,Nat.reduceLT,Nat.reduceLeDiff,Int.reduceNeg,Int.reduceToNat,reduceCtorEq,kF,h2,h3,h5,bf,encI]
      refine an.dec (fun hc=>?_) (fun hc=>?_)
      · have hg2:r.right[i]?=some (r.right[i]'(by omega)):=List.getElem?_eq_getElem (by omega)
        rw[dD (show i < r.right.length by omega)] at hi
        have hmem:r.right[i]'(by omega)∈r.right:=List.getElem_mem _
        generalize r.right[i]'(by omega)=t at hg2 hi hmem
        have hin:=hr.2 t hmem
        simp only[List.all_cons] at hi
        have hbad:jT g r.prec t=false→gb false=gb (fq g r):=fun e=>by rw[e,Bool.false_and] at hi; simp only[fq,← hi,Bool.and_false]
        have hok:jT g r.prec t=true→(r.right.drop (i+1)).all (jT g r.prec)=r.right.all (jT g r.prec):=fun e=>by rw[e,Bool.true_and] at hi; exact hi
        simp (disch:=omega) only [↓wr,↓reduceIte,wq,ah,ag,aj,ab,ae,af,ai,isNil,Nat.reduceEqDiff,Nat.reduceAdd,Nat.reduceLT,Nat.reduceLeDiff,Int.reduceNeg,Int.reduceToNat,reduceCtorEq,h2,h3,h5,av,encS,bf,encI,List.getElem?_map,hg2,Option.map_some]
        refine aF.pure (Md g t hin) (by kernel_rfl) ?_
        repeat' (first | (refine an.dec (fun _=>?_) (fun _=>?_)) | (refine an.eq (fun _=>?_) (fun _=>?_)) | (refine an.ne (fun _=>?_) (fun _=>?_)) | (refine an.split (fun _=>?_) (fun _=>?_)) | (simp (disch:=omega) only [↓wr,↓reduceIte,wq,ah,ag,aj,ab,ae,af,ai,isNil,Nat.reduceEqDiff,Nat.reduceAdd,Nat.reduceLT,Nat.reduceLeDiff,Int.reduceNeg,Int.reduceToNat,reduceCtorEq,h2,h3,h5,av,encS,bf,encI,List.getElem?_map,hg2,Option.map_some]))
        all_goals first
          | (refine hbad ?_; simp[jT, *]; done)
          | (refine ⟨k - 1,by omega,i+1,by omega,hok (by simp[jT, *]; done),by first | rfl | exact ⟨rfl,rfl⟩ | exact ⟨rfl,rfl,rfl⟩⟩)
          | skip
      · rw[List.drop_eq_nil_of_le (by omega)] at hi
        simp only[List.all_nil] at hi
        simp (disch:=omega) only [↓wr,↓reduceIte,wq,ah,ag,aj,ab,ae,af,ai,isNil,Nat.reduceEqDiff,Nat.reduceAdd,Nat.reduceLT,Nat.reduceLeDiff,Int.reduceNeg,Int.reduceToNat,reduceCtorEq,h2,h3,h5]
        simp only[fq,hle,hp1,hp2,decide_true,Bool.true_and,← hi]
theorem Ip (g:al) (r:aJ) (hr:aH r.right∧∀ x∈r.right,bU x):aE Tryz.prog 91 [.agg (av g),.agg (bf r)] (gb (fq g r)):=aE.val (Cb g r) (GI g r hr)
def eP (g:al):List aJ→Int→Bool
  | [],top=>top == (g.aw.length:Int) - 1
  | r :: l,top=>decide (0≤r.left) && decide (r.left≤top+1) && fq g r && eP g l (if r.left > top then r.left else top)
def bm (g:al):Bool :=
  hD g && iK g && decide (1≤g.rules.length) && decide (g.rules.length≤40) && decide (0≤g.start) && decide (g.start < g.aw.length) && eP g g.rules (-1)
set_option maxHeartbeats 1000000 in
theorem Fh (g:al) (hg:g.Ok) (H:View):aB Tryz.prog 48 [.agg (av g)] H fun r _=>r=gb (bm g):=by
  refine aB.of mixed qz ?_
  have hn:=hg.aw
  unfold aH at hn
  simp (disch:=omega) only [↓wr,↓reduceIte,wq,ah,ag,aj,ab,ae,af,ai,isNil,Nat.reduceEqDiff,Nat.reduceAdd,Nat.reduceLT,Nat.reduceLeDiff,Int.reduceNeg,Int.reduceToNat,reduceCtorEq,lL,av,encS]
  refine aF.pure (Ga g hg) (by kernel_rfl) ?_
  repeat' (first | (refine an.dec (fun _=>?_) (fun _=>?_)) | (refine an.eq (fun _=>?_) (fun _=>?_)) | (refine an.ne (fun _=>?_) (fun _=>?_)) | (refine an.split (fun _=>?_) (fun _=>?_)) | (simp (disch:=omega) only [↓wr,↓reduceIte,wq,ah,ag,aj,ab,ae,af,ai,isNil,Nat.reduceEqDiff,Nat.reduceAdd,Nat.reduceLT,Nat.reduceLeDiff,Int.reduceNeg,Int.reduceToNat,reduceCtorEq,av,encS]))
  · rename_i h1
    refine aF.pure (GU g hg) (by kernel_rfl) ?_
    repeat' (first | (refine an.dec (fun _=>?_) (fun _=>?_)) | (refine an.eq (fun _=>?_) (fun _=>?_)) | (refine an.ne (fun _=>?_) (fun _=>?_)) | (refine an.split (fun _=>?_) (fun _=>?_)) | (simp (disch:=omega) only [↓wr,↓reduceIte,wq,ah,ag,aj,ab,ae,af,ai,isNil,Nat.reduceEqDiff,Nat.reduceAdd,Nat.reduceLT,Nat.reduceLeDiff,Int.reduceNeg,Int.reduceToNat,reduceCtorEq,av,encS]))
    all_goals try (simp[bm, *]; done)
    all_goals try (simp[bm]; omega)
    rename_i h2 h3 h4 h5 h6
    have hle:g.rules.length≤40:=by omega
    have hpre:∀ b,eP g g.rules (-1)=b→gb b=gb (bm g):=fun b e=>by
      simp[bm,h1,h2,show 1≤g.rules.length by omega,hle,show 0≤g.start by omega,show g.start < g.aw.length by omega,e]
    refine bz.intro (fun k T _=>∃ (i:Nat) (w:Int),i+k=g.rules.length∧-1≤w∧w < i∧eP g (g.rules.drop i) w=eP g g.rules (-1)∧T 1=.aR (av g) 0∧T 3=gi w∧T 4=gi i) g.rules.length ?_ ?_
    · exact ⟨0,-1,by omega,by omega,by omega,rfl,rfl,rfl,rfl⟩
    · rintro k T H' ⟨i,w,hk,hw1,hw2,hi,f1,f3,f4⟩
      simp (disch:=omega) only [↓wr,↓reduceIte,wq,ah,ag,aj,ab,ae,af,ai,isNil,Nat.reduceEqDiff,Nat.reduceAdd,Nat.reduceLT,Nat.reduceLeDiff,Int.reduceNeg,Int.reduceToNat,reduceCtorEq,kb,f1,f3,f4,av]
      refine an.dec (fun hc=>?_) (fun hc=>?_)
      · have hg2:g.rules[i]?=some (g.rules[i]'(by omega)):=List.getElem?_eq_getElem (by omega)
        rw[dD (show i < g.rules.length by omega)] at hi
        have hmem:g.rules[i]'(by omega)∈g.rules:=List.getElem_mem _
        generalize g.rules[i]'(by omega)=t at hg2 hi hmem
        obtain ⟨⟨hl1,hl2⟩,hp,hr1,hr2⟩:=hg.bc t hmem
        simp only[eP] at hi
        simp (disch:=omega) only [↓wr,↓reduceIte,wq,ah,ag,aj,ab,ae,af,ai,isNil,Nat.reduceEqDiff,Nat.reduceAdd,Nat.reduceLT,Nat.reduceLeDiff,Int.reduceNeg,Int.reduceToNat,reduceCtorEq,f1,f3,f4,av,encS,bf,encI,List.getElem?_map,hg2,Option.map_some]
        intro m hm
        try simp (disch:=omega) only [↓wr,↓reduceIte,wq,ah,ag,aj,ab,ae,af,ai,isNil,Nat.reduceEqDiff,Nat.reduceAdd,Nat.reduceLT,Nat.reduceLeDiff,Int.reduceNeg,Int.reduceToNat,reduceCtorEq,f1,f3,f4]
        repeat' (first | (refine an.dec (fun _=>?_) (fun _=>?_)) | (refine an.eq (fun _=>?_) (fun _=>?_)) | (refine an.ne (fun _=>?_) (fun _=>?_)) | (refine an.split (fun _=>?_) (fun _=>?_)) | (simp (disch:=omega) only [↓wr,↓reduceIte,wq,ah,ag,aj,ab,ae,af,ai,isNil,Nat.reduceEqDiff,Nat.reduceAdd,Nat.reduceLT,Nat.reduceLeDiff,Int.reduceNeg,Int.reduceToNat,reduceCtorEq,f1,f3,f4,av,encS,bf,encI]))
        all_goals try (refine hpre _ ?_; simp only[← hi]; simp; omega)
        rename_i e1 e2
        refine aF.pure (Ip g t ⟨hr1,hr2⟩) (by kernel_rfl) ?_
        repeat' (first | (refine an.dec (fun _=>?_) (fun _=>?_)) | (refine an.eq (fun _=>?_) (fun _=>?_)) | (refine an.ne (fun _=>?_) (fun _=>?_)) | (refine an.split (fun _=>?_) (fun _=>?_)) | (simp (disch:=omega) only [↓wr,↓reduceIte,wq,ah,ag,aj,ab,ae,af,ai,isNil,Nat.reduceEqDiff,Nat.reduceAdd,Nat.reduceLT,Nat.reduceLeDiff,Int.reduceNeg,Int.reduceToNat,reduceCtorEq,f1,f3,f4,av,encS,bf,encI]))
        all_goals simp only[show 0≤t.left by omega,show t.left≤w+1 by omega,decide_true,Bool.true_and] at hi
        · rename_i e3 e4
          rw[e3,Bool.true_and,if_pos e4] at hi
          exact ⟨k - 1,by omega,i+1,_,by omega,by omega,by push_cast; omega,hi,by first | rfl | exact ⟨rfl,rfl⟩ | exact ⟨rfl,rfl,rfl⟩⟩
        · rename_i e3 e4
          rw[e3,Bool.true_and,if_neg e4] at hi
          exact ⟨k - 1,by omega,i+1,_,by omega,by omega,by push_cast; omega,hi,by first | rfl | exact ⟨rfl,rfl⟩ | exact ⟨rfl,rfl,rfl⟩⟩
        · rename_i e3
          rw[e3,Bool.false_and] at hi
          exact hpre _ hi.symm
      · rw[List.drop_eq_nil_of_le (by omega)] at hi
        simp only[eP] at hi
        simp (disch:=omega) only [↓wr,↓reduceIte,wq,ah,ag,aj,ab,ae,af,ai,isNil,Nat.reduceEqDiff,Nat.reduceAdd,Nat.reduceLT,Nat.reduceLeDiff,Int.reduceNeg,Int.reduceToNat,reduceCtorEq,f1,f3,f4,av,encS]
        exact hpre _ hi.symm
  · rename_i h1; simp[bm,h1]
theorem E1 (g:al) (hg:g.Ok):aE Tryz.prog 48 [.agg (av g)] (gb (bm g)):=aE.val (fY g) (Fh g hg)
end Gv
namespace Gv
open Go
inductive bT (α:Type) where
  | nil
  | node (v:α) (l r:bT α)
noncomputable def bT.get {α:Type} (z:α) (t:bT α):Nat→α :=
  bT.rec (motive:=fun _=>Nat→α) (fun _=>z) (fun v _ _ gl gr i=>Bool.rec (Bool.rec (gr (i / 2 - 1)) (gl (i / 2)) (Nat.beq (i % 2) 1)) v (Nat.beq i 0)) t
theorem bT.get_nil {α:Type} (z:α) (i:Nat):bT.get z .nil i=z:=rfl
theorem bT.JA {α:Type} (z v:α) (l r:bT α) (i:Nat):bT.get z (.node v l r) i=match Nat.beq i 0 with
    | true=>v
    | false=>match Nat.beq (i % 2) 1 with
      | true=>bT.get z l (i / 2)
      | false=>bT.get z r (i / 2 - 1):=by
  change (Bool.rec (motive:=fun _=>α) _ _ _:α)=_
  cases Nat.beq i 0 with
  | true=>rfl
  | false=>cases Nat.beq (i % 2) 1 <;> rfl
def bT.val {α:Type} (z:α):bT α→α
  | .nil=>z
  | .node v _ _=>v
def bT.left {α:Type} : bT α→bT α
  | .nil=>.nil
  | .node _ l _=>l
def bT.right {α:Type} : bT α→bT α
  | .nil=>.nil
  | .node _ _ r=>r
noncomputable def bT.put {α:Type} (z:α) (x:α) (d:Nat):bT α→Nat→bT α :=
  Nat.rec (motive:=fun _=>bT α→Nat→bT α) (fun t _=>t) (fun _ pd t i =>
    Bool.rec (Bool.rec (.node (t.val z) t.left (pd t.right (i / 2 - 1))) (.node (t.val z) (pd t.left (i / 2)) t.right) (Nat.beq (i % 2) 1)) (.node x t.left t.right) (Nat.beq i 0)) d
theorem bT.Kb {α:Type} (z x:α) (d:Nat) (t:bT α) (i:Nat):bT.put z x (d+1) t i=match Nat.beq i 0 with
    | true=>.node x t.left t.right
    | false=>match Nat.beq (i % 2) 1 with
      | true=>.node (t.val z) (bT.put z x d t.left (i / 2)) t.right
      | false=>.node (t.val z) t.left (bT.put z x d t.right (i / 2 - 1)):=by
  change (Bool.rec (motive:=fun _=>bT α) _ _ _:bT α)=_
  cases Nat.beq i 0 with
  | true=>rfl
  | false=>cases Nat.beq (i % 2) 1 <;> rfl
theorem bT.kc {α:Type} (z:α) (t:bT α) (j:Nat):t.get z j=if j=0 then t.val z else if j % 2=1 then t.left.get z (j / 2) else t.right.get z (j / 2 - 1):=by
  cases t with
  | nil=>simp[bT.get_nil,bT.val,bT.left,bT.right]
  | node v l r =>
    simp only[bT.JA,bT.val,bT.left,bT.right]
    by_cases h:j=0
    · subst h; rfl
    · have:Nat.beq j 0=false:=by cases e:Nat.beq j 0 with | true=>exact absurd (Nat.eq_of_beq_eq_true e) h | false=>rfl
      rw[this,if_neg h]
      simp only
      by_cases h2:j % 2=1
      · have:Nat.beq (j % 2) 1=true:=by rw[h2]; rfl
        rw[this,if_pos h2]
      · have:Nat.beq (j % 2) 1=false:=by cases e:Nat.beq (j % 2) 1 with | true=>exact absurd (Nat.eq_of_beq_eq_true e) h2 | false=>rfl
        rw[this,if_neg h2]
theorem bT.kd {α:Type} (z x:α):∀ (d:Nat) (t:bT α) (i j:Nat),i+1 < 2 ^ d→(bT.put z x d t i).get z j=if j=i then x else t.get z j
  | 0,t,i,j,h=>by simp at h
  | d+1,t,i,j,h=>by
    rw[Nat.pow_succ] at h
    simp only[bT.Kb]
    by_cases hi:i=0
    · subst hi
      have:Nat.beq 0 0=true:=rfl
      rw[this]
      simp only
      rw[bT.kc,bT.kc z t]
      simp only[bT.val,bT.left,bT.right]
      by_cases hj:j=0
      · rw[if_pos hj,if_pos hj]
      · rw[if_neg hj,if_neg hj,if_neg hj]
    · have:Nat.beq i 0=false:=by cases e:Nat.beq i 0 with | true=>exact absurd (Nat.eq_of_beq_eq_true e) hi | false=>rfl
      rw[this]
      simp only
      by_cases h2:i % 2=1
      · have:Nat.beq (i % 2) 1=true:=by rw[h2]; rfl
        rw[this]
        simp only
        rw[bT.kc,bT.kc z t]
        simp only[bT.val,bT.left,bT.right]
        by_cases hj:j=0
        · subst hj; rw[if_pos rfl,if_neg (fun e=>hi e.symm),if_pos rfl]
        · rw[if_neg hj,if_neg hj]
          by_cases hj2:j % 2=1
          · rw[if_pos hj2,if_pos hj2,bT.kd z x d _ _ _ (by omega)]
            by_cases e:j=i
            · subst e; simp
            · rw[if_neg e,if_neg (by omega)]
          · rw[if_neg hj2,if_neg hj2,if_neg (fun e=>hj2 (by rw[e]; exact h2))]
      · have:Nat.beq (i % 2) 1=false:=by cases e:Nat.beq (i % 2) 1 with | true=>exact absurd (Nat.eq_of_beq_eq_true e) h2 | false=>rfl
        rw[this]
        simp only
        rw[bT.kc,bT.kc z t]
        simp only[bT.val,bT.left,bT.right]
        by_cases hj:j=0
        · subst hj; rw[if_pos rfl,if_neg (fun e=>hi e.symm),if_pos rfl]
        · rw[if_neg hj,if_neg hj]
          by_cases hj2:j % 2=1
          · rw[if_pos hj2,if_pos hj2,if_neg (fun e=>h2 (by rw[← e]; exact hj2))]
          · rw[if_neg hj2,if_neg hj2,bT.kd z x d _ _ _ (by omega)]
            by_cases e:j=i
            · subst e; simp
            · rw[if_neg e,if_neg (by omega)]
abbrev deep:Nat:=13
structure ES where
  L:bT V
  H:bT bO
  n:Nat
  w:List Nat
noncomputable def ES.T (s:ES):Env:=s.L.get .any
noncomputable def ES.V (s:ES):View:=s.H.get .dead
noncomputable def ES.put (s:ES) (d:Option Nat) (v:Gv.V):ES:=match d with
  | some t=>⟨s.L.put .any v deep t,s.H,s.n,s.w⟩
  | none=>s
theorem ES.Kr {s:ES} {d:Option Nat} {v:Gv.V} (h:∀ t,d=some t→t < 8000):(s.put d v).T=s.T.put d v:=by
  cases d with
  | none=>rfl
  | some t =>
    funext k
    have:=h t rfl
    simp only[ES.put,ES.T,Env.put]
    rw[bT.kd _ _ _ _ _ _ (by simp[deep]; omega)]
noncomputable def BQ (v:V) (az:aU) (rd:List Nat) (s:ES):Option (V × ES × Rec):=match az with
  | .none=>some (v,s,⟨rd,[],false,s.n,s.n⟩)
  | .new o=>match Nat.ble s.n 8000 with
    | true=>some (v,⟨s.L,s.H.put .dead o deep s.n,s.n+1,s.w⟩,⟨rd,[],false,s.n,s.n+1⟩)
    | false=>none
  | .eO id o=>match Nat.ble id 8000 with
    | true=>some (v,⟨s.L,s.H.put .dead o deep id,s.n,id :: s.w⟩,⟨rd,[id],false,s.n,s.n⟩)
    | false=>none
  | .bd id o=>match Nat.ble s.n 8000,Nat.ble id 8000 with
    | true,true=>some (v,⟨s.L,(s.H.put .dead .dead deep id).put .dead o deep s.n,s.n+1,id :: s.w⟩,⟨rd,[id],false,s.n,s.n+1⟩)
    | _,_=>none
noncomputable def MW (x:SX) (_:Program) (T:Env) (_:View) (_:Nat):Out:=some (x.at T,.none,[])
noncomputable def MC (c a b:SX) (_:Program) (T:Env) (_:View) (_:Nat):Out:=match c.at T with
  | .val (.bool t)=>some (if t then a.at T else b.at T,.none,[])
  | _=>none
noncomputable def Mk (sz:Option Nat) (a:SX) (_:Program) (T:Env) (H:View) (_:Nat):Out:=rY sz (a.at T) H
noncomputable def LI (sz:Nat) (a x:SX) (_:Program) (T:Env) (H:View) (_:Nat):Out:=yo sz (a.at T) (x.at T) H
noncomputable def Mo (off:Nat) (x:SX) (_:Program) (T:Env) (_:View) (_:Nat):Out:=u5 off (x.at T)
noncomputable def MK (sz:Nat) (x i:SX) (_:Program) (T:Env) (_:View) (_:Nat):Out:=yZ sz (x.at T) (i.at T)
noncomputable def MV (x:SX) (_:Program) (T:Env) (_:View) (_:Nat):Out:=(dC (x.at T)).map fun n=>(aj n,.none,[])
noncomputable def LV (op:BinOp) (x y:SX) (_:Program) (T:Env) (_:View) (_:Nat):Out:=uD op (x.at T) (y.at T)
noncomputable def MO (op:BinOp) (x y:SX) (_:Program) (T:Env) (_:View) (_:Nat):Out:=wm op (x.at T) (y.at T)
noncomputable def MU (x:SX) (_:Program) (T:Env) (_:View) (_:Nat):Out:=match x.at T with
  | .val (.bool t)=>some (.val (.bool (!t)),.none,[])
  | _=>none
noncomputable def MM (i:Nat) (x:SX) (_:Program) (T:Env) (_:View) (_:Nat):Out:=match x.at T with
  | .bh vs=>if i < vs.length then some (vs.getD i .any,.none,[]) else none
  | _=>none
noncomputable def Mp (x:SX) (_:Program) (T:Env) (_:View) (_:Nat):Out:=match x.at T with
  | .ptr id i j=>some (.ptr id i j,.none,[])
  | .aR e j=>some (.aR e j,.none,[])
  | .fn f a b=>some (.fn f a b,.none,[])
  | _=>none
noncomputable def eI (s:SI):Program→Env→View→Nat→Out:=match s with
  | .bd x=>MW x
  | .pick c a b=>MC c a b
  | .load sz a=>Mk sz a
  | .store sz a x=>LI sz a x
  | .addr o x=>Mo o x
  | .idx sz x i=>MK sz x i
  | .len x=>MV x
  | .arith op x y=>LV op x y
  | .ic op x y=>MO op x y
  | .not x=>MU x
  | .ext i x=>MM i x
  | .wM x=>Mp x
  | s=>fun P T H n=>sI P s T H n
theorem E9 (s:SI) (P:Program) (T:Env) (H:View) (n:Nat):eI s P T H n=sI P s T H n:=by
  cases s <;> rfl
abbrev fp:=FuncId→List V→ES→Option (V × ES)
noncomputable def He (P:Program) (s:SI) (e:ES):Option (V × ES × Rec):=match eI s P e.T e.V e.n with
  | some (v,az,rd)=>BQ v az rd e
  | none=>none
noncomputable def GF (call:fp) (f:SX) (args:List SX) (e:ES):Option (V × ES × Rec):=match f.at e.T with
  | .fn g first cap=>match call g (first ++ args.map (SX.at e.T) ++ cap) e with
    | some (v,e')=>some (v,⟨e.L,e'.H,e'.n,e'.w ++ e.w⟩,⟨[],e'.w,true,e.n,e'.n⟩)
    | none=>none
  | _=>none
noncomputable def eB (P:Program) (call:fp) (b:SB):ES→Option (V × ES × Rec):=match b with
  | .op s=>He P s
  | .call f args=>GF call f args
noncomputable def EA (P:Program) (call:fp):List (Option Nat × SB)→List Rec→ES→Option (ES × List Rec)
  | [],a,e=>some (e,a)
  | (d,b) :: r,a,e=>match eB P call b e with
    | some (v,e',c)=>EA P call r (a ++ [c]) (e'.put d v)
    | none=>none
noncomputable def Kk (e:ES):Rec:=⟨[],[],false,e.n,e.n⟩
noncomputable def rQ:List (Option Nat × SB)→List Rec→ES→ES × List Rec
  | [],a,e=>(e,a)
  | (d,_) :: r,a,e=>rQ r (a ++ [Kk e]) (e.put d (.bh []))
noncomputable def HS (P:Program) (call:fp) (ops:List (Option Nat × SB)) (want:Bool) (v:V) (a:List Rec) (e:ES):Option (ES × List Rec):=match v with
  | .val (.bool b)=>match xor b want with
    | true=>some (rQ ops a e)
    | false=>EA P call ops a e
  | .bh []=>some (rQ ops a e)
  | _=>none
noncomputable def eG (P:Program) (call:fp) (g:SG) (a:List Rec) (e:ES):Option (ES × List Rec):=match g.guard with
  | none=>EA P call g.ops a e
  | some (d,want)=>HS P call g.ops want (e.T d) a e
noncomputable def Ic (P:Program) (call:fp):List SG→List Rec→ES→Option (ES × List Rec)
  | [],a,e=>some (e,a)
  | g :: r,a,e=>match eG P call g a e with
    | some (e',a')=>Ic P call r a' e'
    | none=>none
inductive DC where
  | skip
  | region (ps:List (Nat × Nat)) (gs:List SG)
  | seq (x y:DC)
  | cond (c:SX) (x y:DC)
  | block (id:Nat) (c:DC)
  | loop (c:DC)
  | exit (id:Nat)
  | ret
  deriving Inhabited
def Gs (recs:List Rec) (ps:List (Nat × Nat)):Bool:=ps.all fun (i,k)=>match recs[i]?,recs[k]? with
  | some a,some b=>zl a b
  | _,_=>false
abbrev ER:=Option (Exit × ES)
abbrev sT:=DC→ES→ER
noncomputable def GB:ES→ER:=fun e=>some (.normal,e)
noncomputable def EK (P:Program) (call:fp) (ps:List (Nat × Nat)) (gs:List SG) (e:ES):ER:=match Ic P call gs [] e with
  | some (e',recs)=>match Gs recs ps with
    | true=>some (.normal,e')
    | false=>none
  | none=>none
noncomputable def LC (run:sT) (x y:DC) (e:ES):ER:=match run x e with
  | some (.normal,e')=>run y e'
  | r=>r
noncomputable def KA (run:sT) (c:SX) (x y:DC) (e:ES):ER:=match c.at e.T with
  | .val (.bool true)=>run x e
  | .val (.bool false)=>run y e
  | _=>none
noncomputable def IM (run:sT) (id:Nat) (c:DC) (e:ES):ER:=match run c e with
  | some (r,e')=>some (om id r,e')
  | none=>none
noncomputable def Kx (run:sT) (c:DC) (e:ES):ER:=match run c e with
  | some (.normal,e')=>run (.loop c) e'
  | r=>r
noncomputable def jQ (P:Program) (call:fp) (run:sT) (c:DC):ES→ER:=match c with
  | .skip=>GB
  | .region ps gs=>EK P call ps gs
  | .seq x y=>LC run x y
  | .cond c x y=>KA run c x y
  | .block id c=>IM run id c
  | .loop c=>Kx run c
  | .exit id=>fun e=>some (.exit id,e)
  | .ret=>fun e=>some (.ret,e)
noncomputable def JK (r:SR) (e:ES):Option V:=match r with
  | .tmp t=>some (e.T t)
  | .cell t sz=>match e.T t with
    | .ptr id i j=>match e.V id with
      | .arr _ es=>if i < es.length then jL sz (es.getD i []) j else none
      | _=>none
    | .aR e j=>jL sz e j
    | _=>none
noncomputable def sf:List SR→ES→Option (List V)
  | [],_=>some []
  | r :: l,e=>match JK r e,sf l e with
    | some v,some vs=>some (v :: vs)
    | _,_=>none
noncomputable def kj:List V→Nat→bT V→bT V
  | [],_,t=>t
  | v :: vs,i,t=>kj vs (i+1) (t.put .any v deep i)
structure DF where
  code:DC
  res:List SR
  n:Nat
noncomputable def Mc (l:List SR) (r:ER):Option (V × ES):=match r with
  | some (.ret,e)=>(sf l e).map fun vs=>(ah vs,e)
  | some (.normal,e)=>(sf l e).map fun vs=>(ah vs,e)
  | _=>none
noncomputable def L5 (m:Nat) (r:Option (V × ES)):Option (V × ES):=match r with
  | some (v,e)=>some (v,⟨e.L,e.H,e.n,e.w.filter fun id=>Nat.blt id m⟩)
  | none=>none
noncomputable def LL (run:sT) (F:DF) (vs:List V) (e:ES):Option (V × ES):=match Nat.ble vs.length F.n,Nat.ble F.n 8000 with
  | true,true=>L5 e.n (Mc F.res (run F.code ⟨kj vs 0 .nil,e.H,e.n,[]⟩))
  | _,_=>none
abbrev tG:=FuncId→List V→View→Option V
noncomputable def A3 (P:Program) (tab:List (FuncId × DF)) (ext:tG) (run:sT) (g:FuncId) (vs:List V) (e:ES):Option (V × ES):=match ext g vs e.V with
  | some t=>some (t,⟨e.L,e.H,e.n,[]⟩)
  | none=>match tab.find? (fun p=>Nat.beq p.1 g) with
    | some (_,F)=>LL run F vs e
    | none=>none
noncomputable def Bt (P:Program) (tab:List (FuncId × DF)) (ext:tG):Nat→sT
  | 0=>fun _ _=>none
  | k+1=>jQ P (A3 P tab ext (Bt P tab ext k)) (Bt P tab ext k)
def xU (all:List Oper) (ls:List Nat):List (Nat × Nat) :=
  let b:=dM all []
  (ls.zipIdx.map fun (x,i)=>(ls.zipIdx.filter fun (y,k)=>decide (i < k) && !(ordered b i k || x == 0 || y == 0 || (decide (x≤1) && decide (y≤1)))).map fun (_,k)=>(i,k)).flatten
def CL (P:Program) (n:Nat) (fz:List Nat) (ops:List Oper) (draw:Bool):Option DC:=match cD P n ops ⟨fz,false⟩ ops with
  | none=>none
  | some l=>if !(group l).all pz then none else
    if draw then (if jD ops then some (.region (xU ops (l.map fun s=>fS P false s.b)) (group l)) else none) else some (.region [] (group l))
def fT (P:Program) (n:Nat) (fz:List Nat):Code→Option DC
  | .skip=>some .skip
  | .region _ ops draw=>CL P n fz ops.toList draw
  | .seq x y=>match fT P n fz x,fT P n fz y with
    | some a,some b=>some (.seq a b)
    | _,_=>none
  | .cond c x y=>match fT P n fz x,fT P n fz y with
    | some a,some b=>some (.cond (SX.of c) a b)
    | _,_=>none
  | .block id c=>(fT P n fz c).map (.block id)
  | .loop c=>(fT P n fz c).map .loop
  | .exit id=>some (.exit id)
  | .ret=>some .ret
  | _=>none
abbrev au (l:List (Option Nat × SB)):DC:=.region [] [⟨none,l⟩]
def bu (P:Program) (f:FuncId) (fz:List Nat):Option DF:=match P.funcs[f]? with
  | some fn=>match fn.body with
    | some c=>match fT P fn.ntmps fz c,dO P fn.results.toList,cy P f with
      | some sc,some rs,true=>some ⟨sc,rs,fn.ntmps⟩
      | _,_,_=>none
    | none=>none
  | none=>none
end Gv
namespace Gv
open Go
section
variable {P:Program} {n:Nat} {all:List Oper}
def fE (h:aC) (e:ES):Prop:=e.V=h.view∧e.n=h.length
def Calm (e e':ES) (h h':aC):Prop:=h.length≤h'.length∧(∀ id,id < h.length→¬ id∈e'.w→h'.view id=h.view id∧¬ id∈e.w)
theorem Calm.trans {a b c:ES} {h1 h2 h3:aC} (x:Calm a b h1 h2) (y:Calm b c h2 h3):Calm a c h1 h3 :=
  ⟨Nat.le_trans x.1 y.1,fun id hid hw =>
    let ⟨e1,d1⟩:=y.2 id (Nat.lt_of_lt_of_le hid x.1) hw
    let ⟨e2,d2⟩:=x.2 id hid d1
    ⟨e1.trans e2,d2⟩⟩
theorem Calm.refl (e:ES) (h:aC):Calm e e h h:=⟨Nat.le_refl _,fun _ _ hw=>⟨rfl,hw⟩⟩
def iy (P:Program) (call:fp):Prop:=∀ g vs e v e' h,call g vs e=some (v,e')→fE h e →
  cy P g=true∧∃ h',bM P g vs h v h'∧fE h' e'∧(∀ id,id < h.length→¬ id∈e'.w→h'.view id=h.view id)∧∀ id,id∈e'.w→id < h.length
def sx (P:Program) (run:sT):Prop:=∀ (n:Nat) (fz:List Nat) (c:Code) (sc:DC),fT P n fz c=some sc→n≤8000→∀ (e e':ES) (r:Exit) (h:aC),run sc e=some (r,e')→fE h e →
  ∃ h',cr P n c e.T h r e'.T h'∧fE h' e'∧Calm e e' h h'∧∀ c0,c=.loop c0→mE P n c0 e.T h r e'.T h'
theorem Hw {h:aC} {e:ES} {d:Option Nat} {v:V} (he:fE h e):fE h (e.put d v):=by cases d <;> exact he
theorem Kh {e:ES} {d:Option Nat} {v:V} : (e.put d v).w=e.w:=by cases d <;> rfl
theorem I2 {h:aC} {e e':ES} {h':aC} {d:Option Nat} {v:V} (x:Calm e e' h h'):Calm e (e'.put d v) h h':=⟨x.1,fun id hid hw=>x.2 id hid (by rw[Kh] at hw; exact hw)⟩
theorem yh {a:Nat} (h:Nat.ble a 8000=true):a+1 < 2 ^ 13:=by
  have:=Nat.le_of_ble_eq_true h
  omega
theorem Lf {h:aC} {e e':ES} {v v':V} {az:aU} {rd:List Nat} {c:Rec} (he:fE h e) (hx:BQ v az rd e=some (v',e',c)) :
    v'=v∧e'.T=e.T∧e'.V=az.view h.view h.length∧e'.n=(az.apply h).length∧c=⟨rd,az.wr,false,h.length,(az.apply h).length⟩∧e'.w=az.wr ++ e.w:=by
  obtain ⟨h1,h2⟩:=he
  unfold BQ at hx
  cases az with
  | none =>
    simp only[Option.some.injEq,Prod.mk.injEq] at hx
    obtain ⟨rfl,rfl,rfl⟩:=hx
    exact ⟨rfl,rfl,h1,h2,by rw[h2]; rfl,rfl⟩
  | new o =>
    simp only at hx
    split at hx
    · rename_i hb
      simp only[Option.some.injEq,Prod.mk.injEq] at hx
      obtain ⟨rfl,rfl,rfl⟩:=hx
      refine ⟨rfl,rfl,?_,by simp[eC,h2],by simp[eC,h2,aU.wr],rfl⟩
      funext k
      simp only[ES.V,aU.view,View.set]
      rw[bT.kd _ _ _ _ _ _ (yh hb),h2]
      have:=congrFun h1 k
      simp only[ES.V] at this
      rw[this]
    · simp at hx
  | eO id o =>
    simp only at hx
    split at hx
    · rename_i hb
      simp only[Option.some.injEq,Prod.mk.injEq] at hx
      obtain ⟨rfl,rfl,rfl⟩:=hx
      refine ⟨rfl,rfl,?_,by simp[eC,h2],by simp[eC,h2,aU.wr],rfl⟩
      funext k
      simp only[ES.V,aU.view,View.set]
      rw[bT.kd _ _ _ _ _ _ (yh hb)]
      have:=congrFun h1 k
      simp only[ES.V] at this
      rw[this]
    · simp at hx
  | bd id o =>
    simp only at hx
    split at hx
    · rename_i hb1 hb2
      simp only[Option.some.injEq,Prod.mk.injEq] at hx
      obtain ⟨rfl,rfl,rfl⟩:=hx
      refine ⟨rfl,rfl,?_,by simp[eC,h2],by simp[eC,h2,aU.wr],rfl⟩
      funext k
      simp only[ES.V,aU.view,View.set]
      rw[bT.kd _ _ _ _ _ _ (yh hb1),bT.kd _ _ _ _ _ _ (yh hb2),h2]
      have:=congrFun h1 k
      simp only[ES.V] at this
      rw[this]
    · simp at hx
theorem LY {o:Oper} {e e':ES} {h:aC} {s:SI} {v:V} {c:Rec} (hg:ct n all e.T o=some true) (hc:∀ v az rd,sI P s e.T h.view h.length=some (v,az,rd)→bN P o e.T h.view h.length=some (v,az,rd))
    (he:fE h e) (hx:He P s e=some (v,e',c)):∃ h',cJ P n all o e.T h v h' c.rd c.wr c.call∧fE h' e'∧e'.T=e.T∧Calm e e' h h'∧iP (pN P s) c.rd c.wr c.call h.length h'.length∧c.lo=h.length∧c.hi=h'.length:=by
  unfold He at hx
  rw[E9,he.1,he.2] at hx
  split at hx
  · rename_i v0 az rd hs
    obtain ⟨rfl,g1,g2,g3,rfl,g5⟩:=Lf he hx
    have ha:=hc _ _ _ hs
    have st:=cJ.op (P:=P) (n:=n) (all:=all) hg ha
    refine ⟨az.apply h,st,⟨?_,g3⟩,g1,⟨pv st,fun id hid hw=>?_⟩,⟨fun h0=>?_,fun h1=>?_⟩,rfl,rfl⟩
    · rw[iW (fun id hid=>(jV ha id hid).1)]; exact g2
    · rw[g5] at hw
      simp only[List.mem_append,not_or] at hw
      exact ⟨og st hid hw.1,hw.2⟩
    · obtain ⟨rfl,rfl⟩:=(oq hs).1 h0
      exact ⟨rfl,rfl,rfl,rfl⟩
    · rcases Nat.lt_or_ge (pN P s) 1 with h2 | h2
      · obtain ⟨rfl,rfl⟩:=(oq hs).1 (by omega); rfl
      · exact (oq hs).2 (by omega)
  · simp at hx
theorem MB {call:fp} (hcall:iy P call) {fz:Fz} {o:Oper} {e e':ES} {h:aC} {v:V} {c:Rec} (hg:ct n all e.T o=some true) (he:fE h e) (hx:eB P call (kX P fz o) e=some (v,e',c)) :
    ∃ h',cJ P n all o e.T h v h' c.rd c.wr c.call∧fE h' e'∧e'.T=e.T∧Calm e e' h h'∧iP (fS P false (kX P fz o)) c.rd c.wr c.call h.length h'.length∧c.lo=h.length∧c.hi=h'.length:=by
  rcases vJ P fz o with ⟨f,args,ats,ho,hc⟩ | ⟨t,x,ho,hc⟩ | ⟨s,d,x,ho,hcv,hc⟩ | hc
  · rw[hc] at hx ⊢
    simp only[eB,GF] at hx
    split at hx
    · rename_i g first cap hf
      rw[Bx] at hx
      rw[SX.bZ] at hf
      split at hx
      · rename_i v0 e0 hv
        obtain ⟨hok,h',hr,hek,hd,hd2⟩:=hcall _ _ _ _ _ _ hv he
        simp only[Option.some.injEq,Prod.mk.injEq] at hx
        obtain ⟨rfl,rfl,rfl⟩:=hx
        exact ⟨h',.call hg ho hf hok hr hd hd2,hek,rfl,⟨hr.1,fun id hid hw=>by
          simp only[List.mem_append,not_or] at hw
          exact ⟨hd id hid hw.1,hw.2⟩⟩,Km (by simp[fS]),he.2,hek.2⟩
      · simp at hx
    · simp at hx
  · rw[hc] at hx ⊢
    simp only[eB,He,E9,sI,SX.bZ] at hx
    split at hx
    · rename_i v0 az rd hs
      split at hs
      · rename_i hok
        simp only[Option.some.injEq,Prod.mk.injEq] at hs
        obtain ⟨rfl,rfl,rfl⟩:=hs
        simp only[BQ,Option.some.injEq,Prod.mk.injEq] at hx
        obtain ⟨rfl,rfl,rfl⟩:=hx
        exact ⟨h,.gh hg ho hok,he,rfl,Calm.refl _ _,⟨fun _=>⟨rfl,rfl,rfl,rfl⟩,fun _=>rfl⟩,he.2,he.2⟩
      · simp at hs
    · simp at hx
  · rw[hc] at hx ⊢
    obtain ⟨ty,h1,h2,h3⟩:=vP hcv
    simp only[eB,He,E9,sI,SX.bZ] at hx
    split at hx
    · rename_i v0 az rd hs
      split at hs
      · rename_i st hst
        simp only[Option.some.injEq,Prod.mk.injEq] at hs
        obtain ⟨rfl,rfl,rfl⟩:=hs
        simp only[BQ,Option.some.injEq,Prod.mk.injEq] at hx
        obtain ⟨rfl,rfl,rfl⟩:=hx
        exact ⟨h,.dW hg ho h1 h2 h3 hst,he,rfl,Calm.refl _ _,⟨fun _=>⟨rfl,rfl,rfl,rfl⟩,fun _=>rfl⟩,he.2,he.2⟩
      · simp at hs
    · simp at hx
  · rw[hc] at hx ⊢
    exact LY (s:=uT P fz.fr (comp P o)) hg (fun v az rd hs=>EP (Ea hs)) he hx
theorem L4 {o:Oper} (hd:nX n o=true) (hn:n≤8000):∀ t,o.dst=some t→t < 8000:=by
  intro t ht
  unfold nX at hd
  rw[ht] at hd
  have:t < n:=by simpa using hd
  exact Nat.lt_of_lt_of_le this hn
theorem Lh {c:Rec} {a b:Nat} (h1:c.lo=a) (h2:c.hi=b):c=⟨c.rd,c.wr,c.call,a,b⟩:=by cases c; subst h1; subst h2; rfl
theorem BJ {call:fp} (hcall:iy P call) (hn:n≤8000) {fz:Fz} (g:Option (Nat × Bool)):∀ (l:List (Option Nat × SB)) (os:List Oper) (e e':ES) (h:aC) (a a':List Rec),
    cD P n all fz os=some (l.map fun (d,b)=>⟨d,g,b⟩)→(∀ d w,g=some (d,w)→e.T d=.val (.bool w)∧(l.all fun x=>x.1 != some d)=true)→fE h e→EA P call l a e=some (e',a') →
    ∃ recs h',a'=a ++ recs∧Tr P n all os e.T h recs e'.T h'∧fE h' e'∧Calm e e' h h'∧dU P false (l.map fun (d,b)=>⟨d,g,b⟩) recs
  | [],os,e,e',h,a,a',hc,hg,he,hx=>by
    have:=iU hc; subst this
    simp only[EA,Option.some.injEq,Prod.mk.injEq] at hx; obtain ⟨rfl,rfl⟩:=hx
    exact ⟨[],h,by simp,.nil,he,Calm.refl _ _,.nil⟩
  | (d,b) :: l,os,e,e',h,a,a',hc,hg,he,hx=>by
    obtain ⟨o,r,rfl,h1,h2⟩:=jI hc
    obtain ⟨hd,hd1,hb1,hg1⟩:=pL h1
    simp only at hd1 hb1 hg1
    have hgv:ct n all e.T o=some true:=by
      cases g with
      | none=>exact xO hg1
      | some p =>
        obtain ⟨d',w⟩:=p
        have:=(iY (T:=e.T) hg1).1 w (hg d' w rfl).1
        rw[this]; simp
    simp only[EA] at hx
    rw[hb1] at hx
    split at hx
    · rename_i v e1 c hv
      obtain ⟨h1',st,he1,hT1,hcm,hl,hlo,hhi⟩:=MB hcall hgv he hv
      have hput:(e1.put d v).T=e.T.put o.dst v:=by
        rw[ES.Kr (by rw[hd1]; exact L4 hd hn),hT1,hd1]
      obtain ⟨recs,h'',ha,tr,he2,hcm2,hro⟩:=BJ hcall hn g l r (e1.put d v) e' h1' _ a' h2 (fun d' w eq=>by
        have:=hg d' w eq
        simp only[List.all_cons,Bool.and_eq_true,bne_iff_ne,ne_eq] at this
        refine ⟨?_,this.2.2⟩
        rw[← this.1,hput,← hd1]
        cases d with
        | none=>rfl
        | some t=>simp only[Env.put]; rw[if_neg]; intro e; subst e; exact this.2.1 rfl) (Hw he1) hx
      rw[hput] at tr
      refine ⟨_,h'',?_,.cons st hd tr,he2,(I2 hcm).trans hcm2,hro.cons (by rw[hb1]; exact hl)⟩
      rw[ha,List.append_assoc,← Lh hlo hhi]; rfl
    · simp at hx
theorem BH {fz:Fz} (hn:n≤8000) (d:Nat) (w:Bool) (h:aC):∀ (l:List (Option Nat × SB)) (os:List Oper) (e e':ES) (a a':List Rec),
    cD P n all fz os=some (l.map fun (d',b)=>⟨d',some (d,w),b⟩)→(e.T d=.val (.bool !w)∨e.T d=.bh [])→(l.all fun x=>x.1 != some d)=true→fE h e→rQ l a e=(e',a') →
    ∃ recs,a'=a ++ recs∧Tr P n all os e.T h recs e'.T h∧fE h e'∧e'.w=e.w∧dU P false (l.map fun (d',b)=>⟨d',some (d,w),b⟩) recs
  | [],os,e,e',a,a',hc,hd,hl,he,hx=>by
    have:=iU hc; subst this
    simp only[rQ,Prod.mk.injEq] at hx; obtain ⟨rfl,rfl⟩:=hx
    exact ⟨[],by simp,.nil,he,rfl,.nil⟩
  | (d',b) :: l,os,e,e',a,a',hc,hd,hl,he,hx=>by
    obtain ⟨o,r,rfl,h1,h2⟩:=jI hc
    obtain ⟨hd0,hd1,hb1,hg1⟩:=pL h1
    simp only at hd1 hb1 hg1
    have hgv:ct n all e.T o=some false:=by
      rcases hd with hd | hd
      · rw[(iY (T:=e.T) hg1).1 _ hd]; cases w <;> rfl
      · exact (iY (T:=e.T) hg1).2 hd
    simp only[List.all_cons,Bool.and_eq_true,bne_iff_ne,ne_eq] at hl
    have hput:(e.put d' (.bh [])).T=e.T.put o.dst (.bh []):=by
      rw[ES.Kr (by rw[hd1]; exact L4 hd0 hn),hd1]
    simp only[rQ] at hx
    obtain ⟨recs,ha,tr,he2,hd2,hro⟩:=BH hn d w h l r (e.put d' (.bh [])) e' _ a' h2 (by
      have:(e.put d' (.bh [])).T d=e.T d:=by
        rw[hput,← hd1]
        cases d' with
        | none=>rfl
        | some t=>simp only[Env.put]; rw[if_neg]; intro e; subst e; exact hl.1 rfl
      rw[this]; exact hd) hl.2 (Hw he) hx
    rw[hput] at tr
    refine ⟨_,?_,Tr.cons (.skip hgv) hd0 tr,he2,by rw[hd2,Kh],hro.cons (r:=⟨[],[],false,h.length,h.length⟩) ⟨fun _=>⟨rfl,rfl,rfl,rfl⟩,fun _=>rfl⟩⟩
    rw[ha,List.append_assoc,Kk,he.2]; rfl
theorem As {fz:Fz} (hn:n≤8000) {d:Nat} {w:Bool} {h:aC} {l:List (Option Nat × SB)} {os:List Oper} {e e':ES} {a a':List Rec}
    (hc:cD P n all fz os=some (l.map fun (d',b)=>⟨d',some (d,w),b⟩)) (hd:e.T d=.val (.bool !w)∨e.T d=.bh []) (hl:(l.all fun x=>x.1 != some d)=true) (he:fE h e) (hx:rQ l a e=(e',a')) :
    ∃ recs h',a'=a ++ recs∧Tr P n all os e.T h recs e'.T h'∧fE h' e'∧Calm e e' h h'∧dU P false (l.map fun (d',b)=>⟨d',some (d,w),b⟩) recs:=by
  obtain ⟨recs,h1,h2,h3,h4,h5⟩:=BH hn d w h l os e e' a a' hc hd hl he hx
  exact ⟨recs,h,h1,h2,h3,⟨Nat.le_refl _,fun id _ hw=>⟨rfl,by rw[h4] at hw; exact hw⟩⟩,h5⟩
theorem Mi {call:fp} (hcall:iy P call) (hn:n≤8000) {fz:Fz} {g:SG} {os:List Oper} {e e':ES} {h:aC} {a a':List Rec} (hc:cD P n all fz os=some g.flat) (hok:pz g=true) (he:fE h e) (hx:eG P call g a e=some (e',a')) :
    ∃ recs h',a'=a ++ recs∧Tr P n all os e.T h recs e'.T h'∧fE h' e'∧Calm e e' h h'∧dU P false g.flat recs:=by
  unfold eG at hx
  unfold SG.flat at hc ⊢
  unfold pz at hok
  split at hx
  · rename_i hg
    rw[hg] at hc ⊢
    exact BJ hcall hn none g.ops os e e' h a a' hc (fun d w e=>by simp at e) he hx
  · rename_i d want hg
    rw[hg] at hc hok ⊢
    simp only at hok
    unfold HS at hx
    split at hx
    · rename_i b hb
      split at hx
      · rename_i hxor
        simp only[Option.some.injEq] at hx
        have e':b = !want:=by cases b <;> cases want <;> simp_all
        subst e'
        exact As hn hc (.inl hb) hok he hx
      · rename_i hxor
        have e':b=want:=by cases b <;> cases want <;> simp_all
        subst e'
        exact BJ hcall hn (some (d,b)) g.ops os e _ h a a' hc (fun d' w e=>by simp at e; obtain ⟨rfl,rfl⟩:=e; exact ⟨hb,hok⟩) he hx
    · rename_i hb
      simp only[Option.some.injEq] at hx
      exact As hn hc (.inr hb) hok he hx
    · simp at hx
theorem HH {call:fp} (hcall:iy P call) (hn:n≤8000) {fz:Fz} : ∀ (gs:List SG) (os:List Oper) (e e':ES) (h:aC) (a a':List Rec),cD P n all fz os=some (iv gs)→gs.all pz=true→fE h e→Ic P call gs a e=some (e',a') →
    ∃ recs h',a'=a ++ recs∧Tr P n all os e.T h recs e'.T h'∧fE h' e'∧Calm e e' h h'∧dU P false (iv gs) recs
  | [],os,e,e',h,a,a',hc,_,he,hx=>by
    have:=iU hc; subst this
    simp only[Ic,Option.some.injEq,Prod.mk.injEq] at hx; obtain ⟨rfl,rfl⟩:=hx
    exact ⟨[],h,by simp,.nil,he,Calm.refl _ _,.nil⟩
  | g :: gs,os,e,e',h,a,a',hc,hok,he,hx=>by
    simp only[iv,List.map_cons,List.flatten_cons] at hc ⊢
    simp only[List.all_cons,Bool.and_eq_true] at hok
    obtain ⟨o1,o2,rfl,h1,h2⟩:=nC hc
    simp only[Ic] at hx
    split at hx
    · rename_i e1 a1 hx1
      obtain ⟨r1,h1',ha1,tr1,he1,hc1,ro1⟩:=Mi hcall hn h1 hok.1 he hx1
      obtain ⟨r2,h2',ha2,tr2,he2,hc2,ro2⟩:=HH hcall hn gs o2 e1 e' h1' a1 a' h2 hok.2 he1 hx
      exact ⟨_,h2',by rw[ha2,ha1,List.append_assoc],tr1.append tr2,he2,hc1.trans hc2,ro1.append ro2⟩
    · simp at hx
theorem GC {ls:List Nat} {i k x y:Nat} (hik:i < k) (hx:ls[i]?=some x) (hy:ls[k]?=some y) (ho:ordered (dM all []) i k=false) (h:¬ (x=0∨y=0∨(x≤1∧y≤1))):(i,k)∈xU all ls:=by
  unfold xU
  simp only[List.mem_flatten,List.mem_map]
  refine ⟨_,⟨(x,i),by rw[List.mem_zipIdx_iff_getElem?]; exact hx,rfl⟩,?_⟩
  simp only[List.mem_map,List.mem_filter]
  refine ⟨(y,k),⟨by rw[List.mem_zipIdx_iff_getElem?]; exact hy,?_⟩,rfl⟩
  simp only[hik,decide_true,ho,Bool.false_or,Bool.true_and,Bool.not_eq_true',Bool.or_eq_false_iff,beq_eq_false_iff_ne,Bool.and_eq_false_iff,decide_eq_false_iff_not]
  omega
theorem J9 {ls:List Nat} {recs:List Rec} (h:Gs recs (xU all ls)=true) (hl:ls.length=recs.length) (hr:∀ (i x:Nat) (r:Rec),ls[i]?=some x→recs[i]?=some r→iP x r.rd r.wr r.call r.lo r.hi):qF all recs:=by
  intro i k a b hik ha hb ho
  have hi:i < recs.length:=(List.getElem?_eq_some_iff.1 ha).1
  have hk:k < recs.length:=(List.getElem?_eq_some_iff.1 hb).1
  have hx:ls[i]?=some (ls[i]'(by omega)):=List.getElem?_eq_getElem (by omega)
  have hy:ls[k]?=some (ls[k]'(by omega)):=List.getElem?_eq_getElem (by omega)
  generalize ls[i]'(by omega)=x at hx
  generalize ls[k]'(by omega)=y at hy
  have la:=hr i _ a hx ha
  have lb:=hr k _ b hy hb
  by_cases hc:x=0∨y=0∨(x≤1∧y≤1)
  · rcases hc with h1 | h1 | h1
    · obtain ⟨e1,e2,e3,e4⟩:=la.1 h1
      exact ⟨fun id hid=>by simp[e2] at hid,fun id _=>by simp[e1],fun hc=>by simp[e3] at hc,fun _=>e2,fun id _ hx=>by omega⟩
    · obtain ⟨e1,e2,e3,e4⟩:=lb.1 h1
      exact ⟨fun id _=>by simp[e1],fun id hid=>by simp[e2] at hid,fun _=>e2,fun hc=>by simp[e3] at hc,fun id hid=>by simp[e2] at hid⟩
    · have e1:=la.2 h1.1
      have e2:=lb.2 h1.2
      exact ⟨fun id hid=>by simp[e1] at hid,fun id hid=>by simp[e2] at hid,fun _=>e2,fun _=>e1,fun id hid=>by simp[e2] at hid⟩
  · have:=List.all_eq_true.1 h _ (GC hik hx hy ho hc)
    simp only[ha,hb] at this
    exact G9 this
theorem Lp (hm:P.follows .mixedOrders=true) {call:fp} (hcall:iy P call) (hn:n≤8000) {fz:List Nat} {id:Nat} {ops:Array Oper} {draw:Bool} {sc:DC} {run:sT} {e e':ES} {r:Exit} {h:aC}
    (hc:CL P n fz ops.toList draw=some sc) (he:fE h e) (hx:jQ P call run sc e=some (r,e')) :
    ∃ h',cr P n (.region id ops draw) e.T h r e'.T h'∧fE h' e'∧Calm e e' h h':=by
  unfold CL at hc
  split at hc
  · simp at hc
  · rename_i l hl
    split at hc
    · simp at hc
    · rename_i hok
      have hok:(group l).all pz=true:=by simpa using hok
      have hl':cD P n ops.toList ⟨fz,false⟩ ops.toList=some (iv (group l)):=by rw[ej]; exact hl
      have key:∀ ps,jQ P call run (.region ps (group l)) e=some (r,e')→(draw=true→jD ops.toList=true∧ps=xU ops.toList (l.map fun s=>fS P false s.b)) →
          ∃ h',cr P n (.region id ops draw) e.T h r e'.T h'∧fE h' e'∧Calm e e' h h':=by
        intro ps hx hdr
        simp only[jQ,EK] at hx
        split at hx
        · rename_i e1 recs0 hx1
          split at hx
          · rename_i hchk
            simp only[Option.some.injEq,Prod.mk.injEq] at hx
            obtain ⟨rfl,rfl⟩:=hx
            obtain ⟨recs,h',ha,tr,hk,hcm,hro⟩:=HH hcall hn (group l) ops.toList e e1 h [] recs0 hl' hok he hx1
            simp only[List.nil_append] at ha
            subst ha
            rw[ej] at hro
            refine ⟨h',?_,hk,hcm⟩
            cases hd:draw with
            | false=>simpa using Br (id:=id) tr
            | true =>
              obtain ⟨h1,rfl⟩:=hdr hd
              have hcf:qF ops.toList recs0:=J9 hchk (by simpa using hro.1) (fun i x r hx hr=>by
                simp only[List.getElem?_map,Option.map_eq_some_iff] at hx
                obtain ⟨s,hs,rfl⟩:=hx
                exact hro.2 i s r hs hr)
              simpa using uO hm (id:=id) tr h1 hcf
          · simp at hx
        · simp at hx
      split at hc
      · rename_i hd
        split at hc
        · rename_i ht
          simp at hc; subst hc
          exact key _ hx (fun _=>⟨ht,rfl⟩)
        · simp at hc
      · rename_i hd
        simp at hc; subst hc
        exact key _ hx (fun e=>absurd e hd)
theorem JG (hm:P.follows .mixedOrders=true) {call:fp} (hcall:iy P call) {run:sT} (hrun:sx P run):sx P (jQ P call run):=by
  intro n fz c sc hc hn e e' r h hx he
  cases c with
  | skip =>
    simp[fT] at hc; subst hc
    simp only[jQ,GB,Option.some.injEq,Prod.mk.injEq] at hx
    obtain ⟨rfl,rfl⟩:=hx
    exact ⟨h,.skip,he,Calm.refl _ _,fun _ h=>by simp at h⟩
  | region id ops draw =>
    obtain ⟨h',a,b,d⟩:=Lp (id:=id) hm hcall hn hc he hx
    exact ⟨h',a,b,d,fun _ h=>by simp at h⟩
  | seq x y =>
    simp only[fT] at hc
    split at hc
    · rename_i a b h1 h2
      simp at hc; subst hc
      simp only[jQ,LC] at hx
      split at hx
      · rename_i e1 hx1
        obtain ⟨h1',x1,he1,c1,l1⟩:=hrun n fz x a h1 hn e e1 .normal h hx1 he
        obtain ⟨h2',x2,he2,c2,l2⟩:=hrun n fz y b h2 hn e1 e' r h1' hx he1
        exact ⟨h2',x1.seq x2,he2,c1.trans c2,fun _ h=>by simp at h⟩
      · rename_i hne
        obtain ⟨h1',x1,he1,c1,l1⟩:=hrun n fz x a h1 hn e e' r h hx he
        refine ⟨h1',x1.Ed (fun e=>?_),he1,c1,fun _ h=>by simp at h⟩
        subst e
        exact absurd hx (hne e')
    · simp at hc
  | cond cc x y =>
    simp only[fT] at hc
    split at hc
    · rename_i a b h1 h2
      simp at hc; subst hc
      simp only[jQ,KA,SX.bZ] at hx
      split at hx
      · rename_i ht
        obtain ⟨h1',x1,he1,c1,l1⟩:=hrun n fz x a h1 hn e e' r h hx he
        exact ⟨h1',.cond ht x1,he1,c1,fun _ h=>by simp at h⟩
      · rename_i ht
        obtain ⟨h1',x1,he1,c1,l1⟩:=hrun n fz y b h2 hn e e' r h hx he
        exact ⟨h1',.cond ht x1,he1,c1,fun _ h=>by simp at h⟩
      · simp at hx
    · simp at hc
  | block id c =>
    simp only[fT,Option.map_eq_some_iff] at hc
    obtain ⟨a,h1,rfl⟩:=hc
    simp only[jQ,IM] at hx
    split at hx
    · rename_i r1 e1 hx1
      simp only[Option.some.injEq,Prod.mk.injEq] at hx
      obtain ⟨rfl,rfl⟩:=hx
      obtain ⟨h1',x1,he1,c1,l1⟩:=hrun n fz c a h1 hn e e1 r1 h hx1 he
      exact ⟨h1',x1.block,he1,c1,fun _ h=>by simp at h⟩
    · simp at hx
  | loop c =>
    have hc0:=hc
    simp only[fT,Option.map_eq_some_iff] at hc
    obtain ⟨a,h1,rfl⟩:=hc
    simp only[jQ,Kx] at hx
    split at hx
    · rename_i e1 hx1
      obtain ⟨h1',x1,he1,c1,l1⟩:=hrun n fz c a h1 hn e e1 .normal h hx1 he
      obtain ⟨h2',x2,he2,c2,l2⟩:=hrun n fz (.loop c) (.loop a) hc0 hn e1 e' r h1' hx he1
      have hL:=mE.step x1 (l2 c rfl)
      exact ⟨h2',.loop hL,he2,c1.trans c2,fun c0 h0=>by simp only[Code.loop.injEq] at h0; subst h0; exact hL⟩
    · rename_i hne
      obtain ⟨h1',x1,he1,c1,l1⟩:=hrun n fz c a h1 hn e e' r h hx he
      have hL:=mE.out x1 (fun e=>by subst e; exact absurd hx (hne e'))
      exact ⟨h1',.loop hL,he1,c1,fun c0 h0=>by simp only[Code.loop.injEq] at h0; subst h0; exact hL⟩
  | exit id =>
    simp[fT] at hc; subst hc
    simp only[jQ,Option.some.injEq,Prod.mk.injEq] at hx
    obtain ⟨rfl,rfl⟩:=hx
    exact ⟨h,.exit,he,Calm.refl _ _,fun _ h=>by simp at h⟩
  | ret =>
    simp[fT] at hc; subst hc
    simp only[jQ,Option.some.injEq,Prod.mk.injEq] at hx
    obtain ⟨rfl,rfl⟩:=hx
    exact ⟨h,.ret,he,Calm.refl _ _,fun _ h=>by simp at h⟩
  | _=>simp[fT] at hc
theorem zw:∀ (vs:List V) (i:Nat) (t:bT V),i+vs.length≤8000→∀ k,(kj vs i t).get .any k=if i≤k∧k < i+vs.length then vs.getD (k - i) .any else t.get .any k
  | [],i,t,h,k=>by
    rw[kj,if_neg (by simp only[List.length_nil]; omega)]
  | v :: vs,i,t,h,k=>by
    simp only[List.length_cons] at h
    rw[kj,zw vs (i+1) _ (by omega),bT.kd _ _ _ _ _ _ (by simp only[deep]; omega)]
    simp only[List.length_cons]
    by_cases h1:k=i
    · subst h1; rw[if_neg (by omega),if_pos rfl,if_pos (by omega)]; simp
    · by_cases h2:i+1≤k∧k < i+1+vs.length
      · rw[if_pos h2,if_pos (by omega)]
        have:k - i=(k - (i+1))+1:=by omega
        rw[this]; rfl
      · rw[if_neg h2,if_neg h1,if_neg (by omega)]
theorem Di (vs:List V) (h:vs.length≤8000):(kj vs 0 .nil).get .any=jc vs:=by
  funext k
  rw[zw vs 0 .nil (by omega)]
  simp only[jc,Nat.zero_le,true_and,Nat.zero_add,Nat.sub_zero]
  split
  · rfl
  · rename_i hk
    rw[List.getD_eq_getElem?_getD,List.getElem?_eq_none (by omega)]; rfl
theorem K1 {e:ES} {h:aC} {r:ResultVar} {rest:List ResultVar} {l:List SR} (he:fE h e) (hc:dO P (r :: rest)=some l):∃ s l',l=s :: l'∧dO P rest=some l'∧∀ v,JK s e=some v→oR P e.T h r=some v:=by
  cases r with
  | tmp t =>
    simp only[dO,Option.map_eq_some_iff] at hc
    obtain ⟨l',h1,rfl⟩:=hc
    exact ⟨.tmp t,l',rfl,h1,fun v hv=>hv⟩
  | cell a t =>
    simp only[dO] at hc
    split at hc
    · rename_i k l' h1 h2
      simp at hc; subst hc
      refine ⟨.cell a k,l',rfl,h2,fun v hv=>?_⟩
      simp only[JK] at hv
      simp only[oR,jM,sE h1]
      rw[he.1] at hv
      split at hv
      · rename_i id i j ha
        split at hv
        · rename_i es hH
          split at hv
          · rename_i hlt
            rw[ha]; simp only[hH]; rw[if_pos hlt,hv]; rfl
          · simp at hv
        · simp at hv
      · rename_i e j ha
        rw[ha]; simp only; rw[hv]; rfl
      · simp at hv
    · simp at hc
theorem Ck {e:ES} {h:aC} (he:fE h e):∀ (rs:List ResultVar) (l:List SR) (vs:List V),dO P rs=some l→sf l e=some vs→jE P e.T h rs=some vs
  | [],l,vs,hc,hw=>by simp[dO] at hc; subst hc; simp[sf] at hw; subst hw; rfl
  | r :: rest,l,vs,hc,hw=>by
    obtain ⟨s,l',rfl,h1,h2⟩:=K1 (e:=e) (h:=h) he hc
    simp only[sf] at hw
    split at hw
    · rename_i v vs' hv hvs
      simp at hw; subst hw
      simp[jE,h2 v hv,Ck he rest l' vs' h1 hvs]
    · simp at hw
def pj (P:Program) (tab:List (FuncId × DF)):Prop:=∀ p∈tab,∃ fz,bu P p.1 fz=some p.2
def o7 (P:Program) (ext:tG):Prop:=∀ g vs H t,ext g vs H=some t→cy P g=true∧∀ h:aC,h.view=H→bM P g vs h t h
theorem CO {tab:List (FuncId × DF)} {ext:tG} (ht:pj P tab) (hx:o7 P ext) {run:sT} (hrun:sx P run):iy P (A3 P tab ext run):=by
  intro g vs e v e' h hcall he
  unfold A3 at hcall
  split at hcall
  · rename_i t hext
    simp only[Option.some.injEq,Prod.mk.injEq] at hcall
    obtain ⟨rfl,rfl⟩:=hcall
    obtain ⟨h1,h2⟩:=hx _ _ _ _ hext
    exact ⟨h1,h,h2 h he.1.symm,he,fun _ _ _=>rfl,fun _ hw=>by simp at hw⟩
  · split at hcall
    · rename_i g' F hf
      have hmem:=List.mem_of_find?_eq_some hf
      have hgg:g'=g:=by
        have:=List.find?_some hf
        exact Nat.eq_of_beq_eq_true this
      subst hgg
      obtain ⟨fz,hF⟩:=ht _ hmem
      simp only at hF
      unfold bu at hF
      split at hF
      · rename_i fn hfn
        split at hF
        · rename_i c hb
          split at hF
          · rename_i sc rs h1 h2 h3
            simp at hF; subst hF
            refine ⟨h3,?_⟩
            unfold LL at hcall
            split at hcall
            · rename_i hlen hn
              have hlen:=Nat.le_of_ble_eq_true hlen
              have hn:=Nat.le_of_ble_eq_true hn
              simp only at hlen hn
              unfold L5 at hcall
              split at hcall
              · rename_i v1 e1' hend
                simp only[Option.some.injEq,Prod.mk.injEq] at hcall
                obtain ⟨rfl,rfl⟩:=hcall
                unfold Mc at hend
                have go:∀ (r:Exit) (e1:ES),(r=.ret∨r=.normal)→run sc ⟨kj vs 0 .nil,e.H,e.n,[]⟩=some (r,e1)→(sf rs e1).map (fun vs=>(ah vs,e1))=some (v1,e1') →
                    ∃ h',bM P g' vs h v1 h'∧fE h' e1'∧(∀ id,id < h.length→¬ id∈e1'.w→h'.view id=h.view id):=by
                  intro r e1 hr hrn hres
                  simp only[Option.map_eq_some_iff,Prod.mk.injEq] at hres
                  obtain ⟨vs',hvs,rfl,rfl⟩:=hres
                  obtain ⟨h',hx,he1,hc1,_⟩:=hrun fn.ntmps fz c sc h1 hn _ e1 r h hrn he
                  have hT:(ES.T ⟨kj vs 0 .nil,e.H,e.n,[]⟩)=jc vs:=Di vs (by omega)
                  rw[hT] at hx
                  refine ⟨h',bM.Em hfn hb hlen hx (by rcases hr with rfl | rfl <;> simp) ?_,he1,fun id hid hw=>(hc1.2 id hid hw).1⟩
                  unfold FF
                  rw[Ck he1 _ _ _ h2 hvs]
                  cases vs' with
                  | nil=>rfl
                  | cons a l=>cases l <;> rfl
                have done:(∃ h',bM P g' vs h v1 h'∧fE h' e1'∧(∀ id,id < h.length→¬ id∈e1'.w→h'.view id=h.view id)) →
                    ∃ h',bM P g' vs h v1 h'∧fE h' ⟨e1'.L,e1'.H,e1'.n,e1'.w.filter fun id=>Nat.blt id e.n⟩∧(∀ id,id < h.length→¬ id∈e1'.w.filter (fun id=>Nat.blt id e.n)→h'.view id=h.view id)∧∀ id,id∈e1'.w.filter (fun id=>Nat.blt id e.n)→id < h.length:=by
                  rintro ⟨h',k1,k2,k3⟩
                  refine ⟨h',k1,k2,fun id hid hw=>k3 id hid (fun hm=>hw ?_),fun id hw=>?_⟩
                  · rw[List.mem_filter]
                    exact ⟨hm,by rw[he.2]; exact Nat.ble_eq_true_of_le hid⟩
                  · rw[List.mem_filter] at hw
                    have:=Nat.le_of_ble_eq_true hw.2
                    rw[he.2] at this; exact this
                split at hend
                · rename_i e1 hrn; exact done (go _ _ (.inl rfl) hrn hend)
                · rename_i e1 hrn; exact done (go _ _ (.inr rfl) hrn hend)
                · simp at hend
              · simp at hcall
            · simp at hcall
          · simp at hF
        · simp at hF
      · simp at hF
    · simp at hcall
theorem Dz (hm:P.follows .mixedOrders=true) {tab:List (FuncId × DF)} {ext:tG} (ht:pj P tab) (hx:o7 P ext):∀ k,sx P (Bt P tab ext k)
  | 0=>fun n fz c sc hc hn e e' r h hr he=>by simp[Bt] at hr
  | k+1=>by
    have ih:=Dz hm ht hx k
    have:=JG hm (CO ht hx ih) ih
    exact this
end
end Gv
