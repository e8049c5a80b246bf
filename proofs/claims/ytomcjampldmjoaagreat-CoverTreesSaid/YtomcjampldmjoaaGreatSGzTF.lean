/-
  Part 6 of the proof: what the machine does and what the functions answer.
  Conditions: those that each lemma names.
-/
import Derived.Test.YtomcjampldmjoaaGreatSGzTE
set_option linter.unusedSimpArgs false
set_option linter.unusedVariables false
set_option linter.unusedSimpArgs false
set_option maxRecDepth 100000
namespace Gv
open Go Go.Proofs
def dw (l:List Int) (is:List Bool) (ax:Bool):Bool:=l.all fun s=>if 0≤s then ax else is.getD (-1 - s).toNat false
def nC:SC :=
  .seq (.seq (ak [ae 8 7,ae 9 0,aQ 10 9,aR 11 .lss 8 10]) <|
  .cond (.tmp 11) (.skip) (.exit 0)) <|
  .seq (.block 1 (.seq (.region false [⟨none,[ae 14 0,ae 15 7,aN 16 1 14 15,an 17 16,ay 18 .geq 17 0,ae 19 18]⟩,⟨(some (19,true)),[ae 20 2,cm 21 20]⟩,⟨none,[bM 22 19 21,ae 23 22]⟩,⟨(some (23,false)),[ae 24 0,ae 25 7,aN 26 1 24 25,an 27 26,ay 28 .lss 27 0,ae 29 28]⟩,⟨(some (29,true)),[ae 30 1,ae 31 0,ae 32 7,aN 33 1 31 32,an 34 33,((some 35),.op (.arith .sub (.val (.val (.int .i64 (-1)))) (.tmp 34))),aN 36 1 30 35,an 37 36,cm 38 37]⟩,⟨(some (23,false)),[bM 39 29 38]⟩,⟨none,[bI 40 23 39]⟩]) <|
  .cond (.tmp 40) (.seq (ak [bg 6 false]) <|
  .ret) (.skip))) <|
  ak [ae 12 7,ay 13 .add 12 1,ae 7 13]
def qn:SF:=⟨.seq (ak [bg 6 false]) <|
  .seq (.seq (ak [aH 7 0]) <|
  .block 0 (.loop nC)) <|
  .seq (ak [bg 6 true]) <|
  .ret,
  [.tmp 6],41⟩
theorem vq:aU Tryz.prog 117 []=some qn:=by kernel_rfl
theorem OX (l:List Int) (is:List Bool) (t:Bool) (hl:aL l) (hs:∀ s∈l,bP s∧(s < 0→-1 - s < is.length)) (H:View) :
    az Tryz.prog 117 [encI l,bE is,gb t] H fun r H'=>r=gb (dw l is t)∧H'=H:=by
  refine az.of mixed vq ?_
  unfold aL at hl
  simp (disch:=omega) only [↓wr,wq,ah,Nat.reduceAdd,Nat.reduceLeDiff,qn]
  refine bb.intro (fun k T H'=>∃ i:Nat,i+k=l.length∧dw (l.take i) is t=true∧T 0=encI l∧T 1=bE is∧T 2=gb t∧T 7=gi i∧H'=H) l.length ?_ ?_
  · exact ⟨0,by omega,by simp[dw],rfl,rfl,rfl,rfl,rfl⟩
  · rintro k T H' ⟨i,hk,hi,h0,h1,h2,h7,rfl⟩
    simp (disch:=omega) only [↓wr,↓reduceIte,wq,ag,aj,Nat.reduceEqDiff,Int.reduceNeg,reduceCtorEq,nC,h0,h7,encI]
    refine ar.dec (fun hc=>?_) (fun hc=>?_)
    · have hg:l[i]?=some (l[i]'(by omega)):=List.getElem?_eq_getElem (by omega)
      have hm:l[i]'(by omega)∈l:=List.getElem_mem _
      generalize l[i]'(by omega)=s at hg hm
      obtain ⟨⟨hs1,hs2⟩,hs3⟩:=hs s hm
      have hstep:dw (l.take (i+1)) is t=(if 0≤s then t else is.getD (-1 - s).toNat false):=by
        rw[List.take_add_one,hg]
        simp only[dw,Option.toList_some,List.all_append,List.all_cons,List.all_nil,Bool.and_true] at hi ⊢
        rw[hi,Bool.true_and]
      have hfail:(if 0≤s then t else is.getD (-1 - s).toNat false)=false→dw l is t=false:=by
        intro hb
        simp only[dw,List.all_eq_false]
        exact ⟨s,hm,by simpa using hb⟩
      simp (disch:=omega) only [↓wr,↓reduceIte,wq,ag,Nat.reduceEqDiff,Nat.reduceLT,Int.reduceNeg,reduceCtorEq,h0,h7,encI,List.getElem?_map,hg]
      refine ar.dec (fun hd=>?_) (fun hd=>?_)
      · rw[if_pos (show 0≤s from hd)] at hstep hfail
        cases t with
        | true =>
          simp (disch:=omega) only [↓wr,↓reduceIte,wq,ag,Nat.reduceEqDiff,Nat.reduceLT,Int.reduceNeg,reduceCtorEq,h0,h2,h7,encI,List.getElem?_map,hg]
          refine ar.dec (fun hn=>absurd hn (by omega)) (fun _=>?_)
          simp (disch:=omega) only [↓wr,↓reduceIte,wq,ag,Nat.reduceEqDiff,Int.reduceNeg,reduceCtorEq,h0,h1,h2,h7,encI,bE]
          exact ⟨k - 1,by omega,i+1,by omega,hstep,rfl⟩
        | false =>
          simp (disch:=omega) only [↓wr,↓reduceIte,wq,ag,Nat.reduceEqDiff,Int.reduceNeg,reduceCtorEq,h0,h1,h2,h7,encI]
          rw[hfail rfl]
      · rw[if_neg (show ¬ 0≤s from hd)] at hstep hfail
        simp (disch:=omega) only [↓wr,↓reduceIte,wq,ag,Nat.reduceEqDiff,Nat.reduceLT,Int.reduceNeg,reduceCtorEq,h0,h7,encI,List.getElem?_map,hg]
        refine ar.dec (fun hn=>?_) (fun hn=>absurd hn (by omega))
        have hb:is[(-1 - s).toNat]?=some (is[(-1 - s).toNat]'(by omega)):=List.getElem?_eq_getElem (by omega)
        have hbd:is.getD (-1 - s).toNat false=is[(-1 - s).toNat]'(by omega):=by simp[List.getD_eq_getElem?_getD,hb]
        rw[hbd] at hstep hfail
        generalize is[(-1 - s).toNat]'(by omega)=b at hb hstep hfail
        simp (disch:=omega) only [↓wr,↓reduceIte,wq,ag,Nat.reduceEqDiff,Nat.reduceLT,Int.reduceNeg,reduceCtorEq,h0,h1,h7,encI,bE,List.getElem?_map,hg,hb]
        cases b with
        | true =>
          simp (disch:=omega) only [↓wr,↓reduceIte,wq,ag,Nat.reduceEqDiff,Int.reduceNeg,reduceCtorEq,h0,h1,h2,h7,encI,bE]
          exact ⟨k - 1,by omega,i+1,by omega,hstep,rfl⟩
        | false =>
          simp (disch:=omega) only [↓wr,↓reduceIte,wq,ag,Nat.reduceEqDiff,Int.reduceNeg,reduceCtorEq,h0,h1,h2,h7,encI,bE]
          rw[hfail rfl]
    · simp (disch:=omega) only [↓wr,↓reduceIte,wq,Nat.reduceEqDiff,reduceCtorEq]
      have e:i=l.length:=by omega
      rw[List.take_of_length_le (by omega)] at hi
      rw[hi]
end Gv
set_option linter.unusedSimpArgs false
set_option maxRecDepth 100000
namespace Gv
open Go Go.Proofs
abbrev gy (x:Int):V:=.val (.int .u8 x)
def uc (c:Int):Bool:=(decide (97≤c) && decide (c≤122)) || (decide (65≤c) && decide (c≤90)) || c == 95
def m5 (c:Int):Bool:=uc c || (decide (48≤c) && decide (c≤57)) || c == 46
def nO:SF:=⟨.seq (ak [bg 2 false]) <|
  .seq (.region false [⟨none,[ae 3 0,((some 4),.op (.arith .geq (.tmp 3) (.val (.val (.int .u8 97))))),ae 5 4]⟩,⟨(some (5,true)),[ae 6 0,((some 7),.op (.arith .leq (.tmp 6) (.val (.val (.int .u8 122)))))]⟩,⟨none,[bM 8 5 7,ae 9 8]⟩,⟨(some (9,false)),[ae 10 0,((some 11),.op (.arith .geq (.tmp 10) (.val (.val (.int .u8 65))))),ae 12 11]⟩,⟨(some (12,true)),[ae 13 0,((some 14),.op (.arith .leq (.tmp 13) (.val (.val (.int .u8 90)))))]⟩,⟨(some (9,false)),[bM 15 12 14]⟩,⟨none,[bI 16 9 15,ae 17 16]⟩,⟨(some (17,false)),[ae 18 0,((some 19),.op (.arith .eql (.tmp 18) (.val (.val (.int .u8 95)))))]⟩,⟨none,[bI 20 17 19,ae 2 20]⟩]) <|
  .ret,
  [.tmp 2],21⟩
theorem sX:aU Tryz.prog 192 []=some nO:=by kernel_rfl
def nk:SF:=⟨.seq (ak [bg 2 false]) <|
  .seq (.region false [⟨none,[ae 3 0,aM 4 192 [3],ae 5 4]⟩,⟨(some (5,false)),[ae 6 0,((some 7),.op (.arith .geq (.tmp 6) (.val (.val (.int .u8 48))))),ae 8 7]⟩,⟨(some (8,true)),[ae 9 0,((some 10),.op (.arith .leq (.tmp 9) (.val (.val (.int .u8 57)))))]⟩,⟨(some (5,false)),[bM 11 8 10]⟩,⟨none,[bI 12 5 11,ae 13 12]⟩,⟨(some (13,false)),[ae 14 0,((some 15),.op (.arith .eql (.tmp 14) (.val (.val (.int .u8 46)))))]⟩,⟨none,[bI 16 13 15,ae 2 16]⟩]) <|
  .ret,
  [.tmp 2],17⟩
theorem tn:aU Tryz.prog 193 []=some nk:=by kernel_rfl
theorem ME (c:Int) (H:View):az Tryz.prog 192 [gy c] H fun r H'=>r=gb (uc c)∧H'=H:=by
  refine az.of mixed sX ?_
  repeat' (first | (refine ar.dec (fun _=>?_) (fun _=>?_)) | (refine ar.eq (fun _=>?_) (fun _=>?_)) | (refine ar.ne (fun _=>?_) (fun _=>?_)) | (refine ar.split (fun _=>?_) (fun _=>?_)) | (simp (disch:=omega) only [↓wr,↓reduceIte,wq,ah,ag,Nat.reduceEqDiff,Nat.reduceLeDiff,reduceCtorEq,nO]))
  all_goals (congr 2; simp only[uc]; grind)
theorem EC (c:Int):aF Tryz.prog 192 [gy c] (gb (uc c)) :=
  aF.of (by intro v hv; simp at hv; subst hv; exact .val _) ((ME c _).mono fun r H' h h' _=>by rw[h.1]; exact .tree _ (.val _))
theorem MI (c:Int) (H:View):az Tryz.prog 193 [gy c] H fun r H'=>r=gb (m5 c)∧H'=H:=by
  refine az.of mixed tn ?_
  repeat' (first | (refine ar.dec (fun _=>?_) (fun _=>?_)) | (refine ar.eq (fun _=>?_) (fun _=>?_)) | (refine ar.ne (fun _=>?_) (fun _=>?_)) | (refine ar.split (fun _=>?_) (fun _=>?_)) | (simp (disch:=omega) only [↓wr,↓reduceIte,wq,ah,Nat.reduceLeDiff,reduceCtorEq,nk]))
  refine aB.pure (EC c) (by kernel_rfl) ?_
  repeat' (first | (refine ar.dec (fun _=>?_) (fun _=>?_)) | (refine ar.eq (fun _=>?_) (fun _=>?_)) | (refine ar.ne (fun _=>?_) (fun _=>?_)) | (refine ar.split (fun _=>?_) (fun _=>?_)) | (simp (disch:=omega) only [↓wr,↓reduceIte,wq,ag,Nat.reduceEqDiff,reduceCtorEq]))
  all_goals (congr 2; simp only[m5]; grind)
theorem Nu (c:Int):aF Tryz.prog 193 [gy c] (gb (m5 c)) :=
  aF.of (by intro v hv; simp at hv; subst hv; exact .val _) ((MI c _).mono fun r H' h h' _=>by rw[h.1]; exact .tree _ (.val _))
def fe (l:List Int):Bool:=decide (0 < l.length) && decide (l.length≤20) && (match l with | c :: _=>uc c | []=>false) && l.all m5
def mR:SC :=
  .seq (.seq (ak [ae 18 3,ae 19 0,((some 20),.op (.gS (.tmp 19))),aR 21 .lss 18 20]) <|
  .cond (.tmp 21) (.skip) (.exit 0)) <|
  .seq (.block 1 (.seq (ak [ae 24 0,ae 25 3,((some 26),.op (.dq (.tmp 24) (.tmp 25))),aM 27 193 [26],cm 28 27]) <|
  .cond (.tmp 28) (.seq (ak [bg 2 false]) <|
  .ret) (.skip))) <|
  ak [ae 22 3,ay 23 .add 22 1,ae 3 23]
def oY:SF:=⟨.seq (ak [bg 2 false]) <|
  .seq (.seq (.region false [⟨none,[ae 4 0,((some 5),.op (.gS (.tmp 4))),ay 6 .eql 5 0,ae 7 6]⟩,⟨(some (7,false)),[ae 8 0,((some 9),.op (.gS (.tmp 8))),ay 10 .gtr 9 20]⟩,⟨none,[bI 11 7 10,ae 12 11]⟩,⟨(some (12,false)),[ae 13 0,((some 14),.op (.dq (.tmp 13) (.val (.val (.int .i64 0))))),aM 15 192 [14],cm 16 15]⟩,⟨none,[bI 17 12 16]⟩]) <|
  .cond (.tmp 17) (.seq (ak [bg 2 false]) <|
  .ret) (.skip)) <|
  .seq (.seq (ak [aH 3 0]) <|
  .block 0 (.loop mR)) <|
  .seq (ak [bg 2 true]) <|
  .ret,
  [.tmp 2],29⟩
theorem tY:aU Tryz.prog 142 []=some oY:=by kernel_rfl
theorem Ls (s:ByteArray) (H:View):az Tryz.prog 142 [gs s] H fun r H'=>r=gb (fe (er s))∧H'=H:=by
  refine az.of mixed tY ?_
  repeat' (first | (refine ar.dec (fun _=>?_) (fun _=>?_)) | (refine ar.eq (fun _=>?_) (fun _=>?_)) | (refine ar.ne (fun _=>?_) (fun _=>?_)) | (refine ar.split (fun _=>?_) (fun _=>?_)) | (simp (disch:=omega) only [↓wr,↓reduceIte,wq,ah,ag,aj,Nat.reduceEqDiff,Nat.reduceLeDiff,Int.reduceToNat,reduceCtorEq,oY,dO]))
  · rename_i h
    congr 2; simp[fe,show (er s).length=0 by omega]
  · rename_i h
    congr 2; simp[fe,show ¬ (er s).length≤20 by omega]
  · rename_i h1 h2
    cases hb:er s with
    | nil=>simp[hb] at h1
    | cons c l =>
      repeat' (first | (refine ar.dec (fun _=>?_) (fun _=>?_)) | (refine ar.eq (fun _=>?_) (fun _=>?_)) | (refine ar.ne (fun _=>?_) (fun _=>?_)) | (refine ar.split (fun _=>?_) (fun _=>?_)) | (simp (disch:=omega) only [↓wr,↓reduceIte,wq,List.getElem?_cons_zero]))
      refine aB.pure (EC c) (by kernel_rfl) ?_
      repeat' (first | (refine ar.dec (fun _=>?_) (fun _=>?_)) | (refine ar.eq (fun _=>?_) (fun _=>?_)) | (refine ar.ne (fun _=>?_) (fun _=>?_)) | (refine ar.split (fun _=>?_) (fun _=>?_)) | (simp (disch:=omega) only [↓wr,↓reduceIte,wq,Nat.reduceEqDiff,reduceCtorEq]))
      · rename_i hf
        refine bb.intro (fun k T H'=>∃ i:Nat,i+k=(c :: l).length∧((c :: l).take i).all m5=true∧T 0=gs s∧T 3=gi i∧H'=H) (c :: l).length ?_ ?_
        · exact ⟨0,by omega,by simp,rfl,rfl,rfl⟩
        · rintro k T H' ⟨i,hk,hi,h0,h3,rfl⟩
          rw[hb] at h1 h2
          simp (disch:=omega) only [↓wr,↓reduceIte,wq,ag,aj,Nat.reduceEqDiff,reduceCtorEq,mR,h0,h3,dO,hb]
          refine ar.dec (fun hc=>?_) (fun hc=>?_)
          · simp only[List.length_cons] at hc hk h2
            have hg:(c :: l)[i]?=some ((c :: l)[i]'(by simp; omega)):=List.getElem?_eq_getElem (by simp; omega)
            have hm:(c :: l)[i]'(by simp; omega)∈c :: l:=List.getElem_mem _
            generalize (c :: l)[i]'(by simp; omega)=d at hg hm
            simp (disch:=omega) only [↓wr,↓reduceIte,wq,Nat.reduceEqDiff,reduceCtorEq,h0,h3,hb,hg]
            refine aB.pure (Nu d) (by kernel_rfl) ?_
            repeat' (first | (refine ar.dec (fun _=>?_) (fun _=>?_)) | (refine ar.eq (fun _=>?_) (fun _=>?_)) | (refine ar.ne (fun _=>?_) (fun _=>?_)) | (refine ar.split (fun _=>?_) (fun _=>?_)) | (simp (disch:=omega) only [↓wr,↓reduceIte,wq,ag,Nat.reduceEqDiff,reduceCtorEq,h0,h3]))
            · rename_i hd
              refine ⟨k - 1,by omega,i+1,by omega,?_,rfl⟩
              rw[List.take_add_one,hg]
              simp only[Option.toList_some,List.all_append,hi,List.all_cons,hd,List.all_nil,Bool.and_self]
            · rename_i hd
              congr 2
              have:(c :: l).all m5=false:=by
                rw[List.all_eq_false]; exact ⟨d,hm,by simp[hd]⟩
              simp only[fe,this,Bool.and_false]
          · simp (disch:=omega) only [↓wr,↓reduceIte,wq,Nat.reduceEqDiff,reduceCtorEq]
            simp only[List.length_cons] at hc hk h2
            rw[List.take_of_length_le (by simp; omega)] at hi
            congr 2
            simp only[fe,hi,List.length_cons]
            simp[hf]; omega
      · rename_i hf
        congr 2; simp[fe,hf]
end Gv
set_option linter.unusedSimpArgs false
set_option maxRecDepth 100000
namespace Gv
open Go Go.Proofs
def lp:List Int→Bool
  | [a,b,c]=>a == 39 && c == 39 && decide (32≤b) && decide (b≤126) && b != 39 && b != 92
  | [a,b,c,d]=>a == 39 && d == 39 && b == 92 && (c == 110 || c == 116 || c == 92 || c == 39)
  | _=>false
theorem LS {l:List Int} (h3:l.length≠3) (h4:l.length≠4):lp l=false:=by
  match l,h3,h4 with
  | [],_,_=>rfl
  | [_],_,_=>rfl
  | [_,_],_,_=>rfl
  | [_,_,_],h3,_=>exact absurd rfl h3
  | [_,_,_,_],_,h4=>exact absurd rfl h4
  | _ :: _ :: _ :: _ :: _ :: _,_,_=>rfl
theorem Qi {α:Type} {l:List α} (h:l.length=3):∃ a b c,l=[a,b,c]:=by
  match l,h with
  | [a,b,c],_=>exact ⟨a,b,c,rfl⟩
theorem Qa {α:Type} {l:List α} (h:l.length=4):∃ a b c d,l=[a,b,c,d]:=by
  match l,h with
  | [a,b,c,d],_=>exact ⟨a,b,c,d,rfl⟩
def lJ:SF:=⟨.seq (ak [bg 2 false]) <|
  .seq (.seq (ak [ae 3 0,((some 4),.op (.gS (.tmp 3))),ay 5 .eql 4 3]) <|
  .cond (.tmp 5) (.seq (.region false [⟨none,[ae 6 0,((some 7),.op (.dq (.tmp 6) (.val (.val (.int .i64 0))))),((some 8),.op (.arith .eql (.tmp 7) (.val (.val (.int .u8 39))))),ae 9 8]⟩,⟨(some (9,true)),[ae 10 0,((some 11),.op (.dq (.tmp 10) (.val (.val (.int .i64 2))))),((some 12),.op (.arith .eql (.tmp 11) (.val (.val (.int .u8 39)))))]⟩,⟨none,[bM 13 9 12,ae 14 13]⟩,⟨(some (14,true)),[ae 15 0,((some 16),.op (.dq (.tmp 15) (.val (.val (.int .i64 1))))),((some 17),.op (.arith .geq (.tmp 16) (.val (.val (.int .u8 32)))))]⟩,⟨none,[bM 18 14 17,ae 19 18]⟩,⟨(some (19,true)),[ae 20 0,((some 21),.op (.dq (.tmp 20) (.val (.val (.int .i64 1))))),((some 22),.op (.arith .leq (.tmp 21) (.val (.val (.int .u8 126)))))]⟩,⟨none,[bM 23 19 22,ae 24 23]⟩,⟨(some (24,true)),[ae 25 0,((some 26),.op (.dq (.tmp 25) (.val (.val (.int .i64 1))))),((some 27),.op (.arith .neq (.tmp 26) (.val (.val (.int .u8 39)))))]⟩,⟨none,[bM 28 24 27,ae 29 28]⟩,⟨(some (29,true)),[ae 30 0,((some 31),.op (.dq (.tmp 30) (.val (.val (.int .i64 1))))),((some 32),.op (.arith .neq (.tmp 31) (.val (.val (.int .u8 92)))))]⟩,⟨none,[bM 33 29 32,ae 2 33]⟩]) <|
  .ret) (.skip)) <|
  .seq (.region false [⟨none,[ae 34 0,((some 35),.op (.gS (.tmp 34))),ay 36 .eql 35 4,ae 37 36]⟩,⟨(some (37,true)),[ae 38 0,((some 39),.op (.dq (.tmp 38) (.val (.val (.int .i64 0))))),((some 40),.op (.arith .eql (.tmp 39) (.val (.val (.int .u8 39)))))]⟩,⟨none,[bM 41 37 40,ae 42 41]⟩,⟨(some (42,true)),[ae 43 0,((some 44),.op (.dq (.tmp 43) (.val (.val (.int .i64 3))))),((some 45),.op (.arith .eql (.tmp 44) (.val (.val (.int .u8 39)))))]⟩,⟨none,[bM 46 42 45,ae 47 46]⟩,⟨(some (47,true)),[ae 48 0,((some 49),.op (.dq (.tmp 48) (.val (.val (.int .i64 1))))),((some 50),.op (.arith .eql (.tmp 49) (.val (.val (.int .u8 92)))))]⟩,⟨none,[bM 51 47 50,ae 52 51]⟩,⟨(some (52,true)),[ae 53 0,((some 54),.op (.dq (.tmp 53) (.val (.val (.int .i64 2))))),((some 55),.op (.arith .eql (.tmp 54) (.val (.val (.int .u8 110))))),ae 56 55]⟩,⟨(some (56,false)),[ae 57 0,((some 58),.op (.dq (.tmp 57) (.val (.val (.int .i64 2))))),((some 59),.op (.arith .eql (.tmp 58) (.val (.val (.int .u8 116)))))]⟩,⟨(some (52,true)),[bI 60 56 59,ae 61 60]⟩,⟨(some (61,false)),[ae 62 0,((some 63),.op (.dq (.tmp 62) (.val (.val (.int .i64 2))))),((some 64),.op (.arith .eql (.tmp 63) (.val (.val (.int .u8 92)))))]⟩,⟨(some (52,true)),[bI 65 61 64,ae 66 65]⟩,⟨(some (66,false)),[ae 67 0,((some 68),.op (.dq (.tmp 67) (.val (.val (.int .i64 2))))),((some 69),.op (.arith .eql (.tmp 68) (.val (.val (.int .u8 39)))))]⟩,⟨(some (52,true)),[bI 70 66 69]⟩,⟨none,[bM 71 52 70,ae 2 71]⟩]) <|
  .ret,
  [.tmp 2],72⟩
theorem rn:aU Tryz.prog 191 []=some lJ:=by kernel_rfl
def nj:SF:=⟨.seq (ak [bg 2 false]) <|
  .seq (.region false [⟨none,[ae 3 0,aM 4 142 [3],ae 5 4]⟩,⟨(some (5,false)),[ae 6 0,aM 7 191 [6]]⟩,⟨none,[bI 8 5 7,ae 2 8]⟩]) <|
  .ret,
  [.tmp 2],9⟩
theorem tx:aU Tryz.prog 139 []=some nj:=by kernel_rfl
set_option maxHeartbeats 1000000 in
theorem MF (s:ByteArray) (H:View):az Tryz.prog 191 [gs s] H fun r H'=>r=gb (lp (er s))∧H'=H:=by
  refine az.of mixed rn ?_
  simp (disch:=omega) only [↓wr,↓reduceIte,wq,ah,ag,aj,Nat.reduceLeDiff,reduceCtorEq,lJ,dO]
  refine ar.eq (fun h=>?_) (fun h=>?_)
  · obtain ⟨a,b,c,hb⟩:=Qi (l:=er s) (by omega)
    repeat' (first | (refine ar.dec (fun _=>?_) (fun _=>?_)) | (refine ar.eq (fun _=>?_) (fun _=>?_)) | (refine ar.ne (fun _=>?_) (fun _=>?_)) | (refine ar.split (fun _=>?_) (fun _=>?_)) | (simp (disch:=omega) only [↓wr,↓reduceIte,wq,ag,Nat.reduceEqDiff,Int.reduceToNat,reduceCtorEq,hb,List.getElem?_cons_zero,List.getElem?_cons_succ]))
    all_goals (congr 2; simp only[lp]; grind)
  · simp (disch:=omega) only [↓wr,↓reduceIte,wq,ag,aj,reduceCtorEq,dO]
    refine ar.eq (fun h4=>?_) (fun h4=>?_)
    · obtain ⟨a,b,c,d,hb⟩:=Qa (l:=er s) (by omega)
      repeat' (first | (refine ar.dec (fun _=>?_) (fun _=>?_)) | (refine ar.eq (fun _=>?_) (fun _=>?_)) | (refine ar.ne (fun _=>?_) (fun _=>?_)) | (refine ar.split (fun _=>?_) (fun _=>?_)) | (simp (disch:=omega) only [↓wr,↓reduceIte,wq,ag,Nat.reduceEqDiff,Int.reduceToNat,reduceCtorEq,hb,List.getElem?_cons_zero,List.getElem?_cons_succ]))
      all_goals (congr 2; simp only[lp]; grind)
    · repeat' (first | (refine ar.dec (fun _=>?_) (fun _=>?_)) | (refine ar.eq (fun _=>?_) (fun _=>?_)) | (refine ar.ne (fun _=>?_) (fun _=>?_)) | (refine ar.split (fun _=>?_) (fun _=>?_)) | (simp (disch:=omega) only [↓wr,↓reduceIte,wq,Nat.reduceEqDiff,reduceCtorEq]))
      rw[LS (by omega) (by omega)]
theorem om (s:ByteArray):∀ v∈[gs s],Tree v:=by intro v hv; simp at hv; subst hv; exact .val _
theorem CJ (s:ByteArray):aF Tryz.prog 142 [gs s] (gb (fe (er s))) :=
  aF.of (om s) ((Ls s _).mono fun r H' h h' _=>by rw[h.1]; exact .tree _ (.val _))
theorem L2 (s:ByteArray):aF Tryz.prog 191 [gs s] (gb (lp (er s))) :=
  aF.of (om s) ((MF s _).mono fun r H' h h' _=>by rw[h.1]; exact .tree _ (.val _))
def pt (l:List Int):Bool:=fe l || lp l
theorem Jt (s:ByteArray) (H:View):az Tryz.prog 139 [gs s] H fun r H'=>r=gb (pt (er s))∧H'=H:=by
  refine az.of mixed tx ?_
  simp (disch:=omega) only [↓wr,↓reduceIte,wq,ah,Nat.reduceLeDiff,reduceCtorEq,nj]
  refine aB.pure (CJ s) (by kernel_rfl) ?_
  repeat' (first | (refine ar.dec (fun _=>?_) (fun _=>?_)) | (refine ar.eq (fun _=>?_) (fun _=>?_)) | (refine ar.ne (fun _=>?_) (fun _=>?_)) | (refine ar.split (fun _=>?_) (fun _=>?_)) | (simp (disch:=omega) only [↓wr,↓reduceIte,wq,Nat.reduceEqDiff,reduceCtorEq]))
  · rename_i h; simp[pt,h]
  · rename_i h
    refine aB.pure (L2 s) (by kernel_rfl) ?_
    repeat' (first | (refine ar.dec (fun _=>?_) (fun _=>?_)) | (refine ar.eq (fun _=>?_) (fun _=>?_)) | (refine ar.ne (fun _=>?_) (fun _=>?_)) | (refine ar.split (fun _=>?_) (fun _=>?_)) | (simp (disch:=omega) only [↓wr,↓reduceIte,wq,Nat.reduceEqDiff,reduceCtorEq]))
    simp[pt,h]
theorem Is (s:ByteArray):aF Tryz.prog 139 [gs s] (gb (pt (er s))) :=
  aF.of (om s) ((Jt s _).mono fun r H' h h' _=>by rw[h.1]; exact .tree _ (.val _))
end Gv
set_option linter.unusedSimpArgs false
set_option maxRecDepth 100000
namespace Gv
open Go Go.Proofs
def mz (s:ByteArray):List ByteArray→Int→Int
  | [],_=>-1
  | x :: l,i=>if gH x s=true then i else mz s l (i+1)
def lf (g:ao) (s:ByteArray):Int:=mz s (g.ax.map Term.name) 0
def xQ (g:ao) (s:ByteArray):Int:=mz s g.au 0
theorem c8 {α:Type} {l:List α} {i:Nat} (h:i < l.length):l.drop i=l[i] :: l.drop (i+1):=List.drop_eq_getElem_cons h
theorem EF (g:ao) (s:ByteArray):∀ v∈[V.agg (al g),gs s],Tree v:=by
  intro v hv; simp at hv
  rcases hv with rfl | rfl
  · exact ch _ (cE g)
  · exact .val _
theorem di (g:ao):∀ v∈[V.agg (al g)],Tree v:=by intro v hv; simp at hv; subst hv; exact ch _ (cE g)
theorem vL (g:ao) (x:Int):∀ v∈[V.agg (al g),gi x],Tree v:=by
  intro v hv; simp at hv
  rcases hv with rfl | rfl
  · exact ch _ (cE g)
  · exact .val _
theorem aF.val {P:Program} {f:FuncId} {vs:List V} {x:Value} (ht:∀ v∈vs,Tree v) (h:∀ H,az P f vs H fun r _=>r=.val x):aF P f vs (.val x) :=
  aF.of ht ((h _).mono fun r H' e h' _=>by rw[e]; exact .tree _ (.val _))
def mI:SC :=
  .seq (.seq (ak [ae 6 5,aq 7 0 2,an 8 7,aQ 9 8,aR 10 .lss 6 9]) <|
  .cond (.tmp 10) (.skip) (.exit 0)) <|
  .seq (.block 1 (.seq (ak [aq 13 0 2,an 14 13,ae 15 5,aN 16 3 14 15,aq 17 0 16,an 18 17,ae 19 1,((some 20),.op (.iV .eql (.tmp 18) (.tmp 19)))]) <|
  .cond (.tmp 20) (.seq (ak [ae 21 5,ae 4 21]) <|
  .ret) (.skip))) <|
  ak [ae 11 5,ay 12 .add 11 1,ae 5 12]
def po:SF:=⟨.seq (ak [cr 2 0,aH 4 0]) <|
  .seq (.seq (ak [aH 5 0]) <|
  .block 0 (.loop mI)) <|
  .seq (ak [aH 4 (-1)]) <|
  .ret,
  [.tmp 4],22⟩
theorem uP:aU Tryz.prog 140 [2]=some po:=by kernel_rfl
def np:SC :=
  .seq (.seq (ak [ae 6 5,aq 7 1 2,an 8 7,aQ 9 8,aR 10 .lss 6 9]) <|
  .cond (.tmp 10) (.skip) (.exit 0)) <|
  .seq (.block 1 (.seq (ak [aq 13 1 2,an 14 13,ae 15 5,aN 16 1 14 15,an 17 16,ae 18 1,((some 19),.op (.iV .eql (.tmp 17) (.tmp 18)))]) <|
  .cond (.tmp 19) (.seq (ak [ae 20 5,ae 4 20]) <|
  .ret) (.skip))) <|
  ak [ae 11 5,ay 12 .add 11 1,ae 5 12]
def qj:SF:=⟨.seq (ak [cr 2 0,aH 4 0]) <|
  .seq (.seq (ak [aH 5 0]) <|
  .block 0 (.loop np)) <|
  .seq (ak [aH 4 (-1)]) <|
  .ret,
  [.tmp 4],21⟩
theorem vl:aU Tryz.prog 125 [2]=some qj:=by kernel_rfl
def lR:SC :=
  .seq (.seq (ak [ae 8 6,aq 9 0 2,an 10 9,aQ 11 10,aR 12 .lss 8 11]) <|
  .cond (.tmp 12) (.skip) (.exit 0)) <|
  .seq (.block 1 (.seq (.region false [⟨none,[aq 15 0 2,an 16 15,ae 17 6,aN 18 3 16 17,aS 19 3 18,((some 7),.op (.alloc [(.val (.string ⟨#[]⟩)),(.val (.int .i64 0)),(.val (.int .i64 0))])),(none,.op (.store 3 (.tmp 7) (.tmp 19)))]⟩]) <|
  .seq (.seq (ak [aq 20 1 7,an 21 20,ae 22 1,aR 23 .neq 21 22]) <|
  .cond (.tmp 23) (.exit 1) (.skip)) <|
  .seq (.seq (.region false [⟨none,[ae 24 5,ay 25 .neq 24 0,ae 26 25]⟩,⟨(some (26,true)),[ae 27 5,aq 28 2 7,an 29 28,aR 30 .neq 27 29]⟩,⟨none,[bM 31 26 30]⟩]) <|
  .cond (.tmp 31) (.seq (ak [bg 4 false]) <|
  .ret) (.skip)) <|
  ak [aq 32 2 7,an 33 32,ae 5 33])) <|
  ak [ae 13 6,ay 14 .add 13 1,ae 6 14]
def nP:SF:=⟨.seq (ak [cr 2 0,bg 4 false]) <|
  .seq (ak [aH 5 0]) <|
  .seq (.seq (ak [aH 6 0]) <|
  .block 0 (.loop lR)) <|
  .seq (ak [ae 34 5,ay 35 .neq 34 0,ae 4 35]) <|
  .ret,
  [.tmp 4],36⟩
theorem tq:aU Tryz.prog 141 [2]=some nP:=by kernel_rfl
theorem J4 (g:ao) (hg:g.Ok) (s:ByteArray) (H:View):az Tryz.prog 140 [.agg (al g),gs s] H fun r _=>r=gi (lf g s):=by
  refine az.of mixed uP ?_
  have hs:g.ax.length < 4611686018427387904:=hg.ax
  simp (disch:=omega) only [↓wr,wq,ah,Nat.reduceAdd,Nat.reduceLeDiff,Int.reduceNeg,po,al,encS]
  refine bb.intro (fun k T _=>∃ i:Nat,i+k=g.ax.length∧mz s ((g.ax.drop i).map Term.name) i=lf g s∧T 1=gs s∧T 2=.aT (al g) 0∧T 5=gi i) g.ax.length ?_ ?_
  · exact ⟨0,by omega,rfl,rfl,rfl,rfl⟩
  · rintro k T H' ⟨i,hk,hi,h1,h2,h5⟩
    simp (disch:=omega) only [↓wr,↓reduceIte,wq,ag,aj,Nat.reduceEqDiff,Nat.reduceAdd,Nat.reduceLT,Int.reduceNeg,reduceCtorEq,mI,h2,h5,al]
    refine ar.dec (fun hc=>?_) (fun hc=>?_)
    · have hg2:g.ax[i]?=some (g.ax[i]'(by omega)):=List.getElem?_eq_getElem (by omega)
      rw[c8 (show i < g.ax.length by omega)] at hi
      generalize g.ax[i]'(by omega)=t at hg2 hi
      simp only[List.map_cons,mz] at hi
      simp (disch:=omega) only [↓wr,↓reduceIte,wq,Nat.reduceEqDiff,Nat.reduceAdd,Nat.reduceLT,Int.reduceNeg,h1,h2,h5,al,cg,List.getElem?_map,hg2]
      refine ar.split (fun hd=>?_) (fun hd=>?_)
      · rw[if_pos hd] at hi
        simp (disch:=omega) only [↓wr,↓reduceIte,wq,ag,Nat.reduceEqDiff,Int.reduceNeg,reduceCtorEq,h1,h2,h5]
        rw[hi]
      · rw[hd,if_neg (by simp)] at hi
        simp (disch:=omega) only [↓wr,↓reduceIte,wq,ag,Nat.reduceEqDiff,Int.reduceNeg,reduceCtorEq,h1,h2,h5]
        exact ⟨k - 1,by omega,i+1,by omega,by push_cast; exact hi,rfl,rfl⟩
    · rw[List.drop_eq_nil_of_le (by omega)] at hi
      simp only[List.map_nil,mz] at hi
      simp (disch:=omega) only [↓wr,↓reduceIte,wq,Nat.reduceEqDiff,Int.reduceNeg,reduceCtorEq]
      rw[hi]
theorem CW (g:ao) (hg:g.Ok) (s:ByteArray):aF Tryz.prog 140 [.agg (al g),gs s] (gi (lf g s)):=aF.val (EF g s) (J4 g hg s)
theorem LW (g:ao) (hg:g.Ok) (s:ByteArray) (H:View):az Tryz.prog 125 [.agg (al g),gs s] H fun r _=>r=gi (xQ g s):=by
  refine az.of mixed vl ?_
  have hs:g.au.length < 4611686018427387904:=hg.au
  simp (disch:=omega) only [↓wr,wq,ah,Nat.reduceAdd,Nat.reduceLeDiff,Int.reduceNeg,qj,al,encS]
  refine bb.intro (fun k T _=>∃ i:Nat,i+k=g.au.length∧mz s (g.au.drop i) i=xQ g s∧T 1=gs s∧T 2=.aT (al g) 0∧T 5=gi i) g.au.length ?_ ?_
  · exact ⟨0,by omega,rfl,rfl,rfl,rfl⟩
  · rintro k T H' ⟨i,hk,hi,h1,h2,h5⟩
    simp (disch:=omega) only [↓wr,↓reduceIte,wq,ag,aj,Nat.reduceEqDiff,Nat.reduceAdd,Nat.reduceLT,Int.reduceNeg,reduceCtorEq,np,h2,h5,al,encS]
    refine ar.dec (fun hc=>?_) (fun hc=>?_)
    · have hg2:g.au[i]?=some (g.au[i]'(by omega)):=List.getElem?_eq_getElem (by omega)
      rw[c8 (show i < g.au.length by omega)] at hi
      generalize g.au[i]'(by omega)=t at hg2 hi
      simp only[mz] at hi
      simp (disch:=omega) only [↓wr,↓reduceIte,wq,Nat.reduceEqDiff,Nat.reduceAdd,Nat.reduceLT,Int.reduceNeg,h1,h2,h5,al,encS,List.getElem?_map,hg2]
      refine ar.split (fun hd=>?_) (fun hd=>?_)
      · rw[if_pos hd] at hi
        simp (disch:=omega) only [↓wr,↓reduceIte,wq,ag,Nat.reduceEqDiff,Int.reduceNeg,reduceCtorEq,h1,h2,h5]
        rw[hi]
      · rw[hd,if_neg (by simp)] at hi
        simp (disch:=omega) only [↓wr,↓reduceIte,wq,ag,Nat.reduceEqDiff,Int.reduceNeg,reduceCtorEq,h1,h2,h5]
        exact ⟨k - 1,by omega,i+1,by omega,by push_cast; exact hi,rfl,rfl⟩
    · rw[List.drop_eq_nil_of_le (by omega)] at hi
      simp only[mz] at hi
      simp (disch:=omega) only [↓wr,↓reduceIte,wq,Nat.reduceEqDiff,Int.reduceNeg,reduceCtorEq]
      rw[hi]
theorem MR (g:ao) (hg:g.Ok) (s:ByteArray):aF Tryz.prog 125 [.agg (al g),gs s] (gi (xQ g s)):=aF.val (EF g s) (LW g hg s)
def ia (n:Int):List Term→Int→Option Int
  | [],way=>some way
  | t :: r,way=>if t.level=n then (if way≠0∧way≠t.assoc then none else ia n r t.assoc) else ia n r way
def fH (l:List Term) (n:Int):Bool:=match ia n l 0 with
  | some w=>w != 0
  | none=>false
theorem ID (g:ao) (hg:g.Ok) (n:Int) (H:View):az Tryz.prog 141 [.agg (al g),gi n] H fun r _=>r=gb (fH g.ax n):=by
  refine az.of mixed tq ?_
  have hs:g.ax.length < 4611686018427387904:=hg.ax
  simp (disch:=omega) only [↓wr,wq,ah,Nat.reduceAdd,Nat.reduceLeDiff,nP,al,encS]
  refine bb.intro (fun k T _=>∃ (i:Nat) (w:Int),i+k=g.ax.length∧ia n (g.ax.drop i) w=ia n g.ax 0∧T 1=gi n∧T 2=.aT (al g) 0∧T 5=gi w∧T 6=gi i) g.ax.length ?_ ?_
  · exact ⟨0,0,by omega,rfl,rfl,rfl,rfl,rfl⟩
  · rintro k T H' ⟨i,w,hk,hi,h1,h2,h5,h6⟩
    simp (disch:=omega) only [↓wr,↓reduceIte,wq,ag,aj,Nat.reduceEqDiff,Nat.reduceAdd,Nat.reduceLT,lR,h2,h6,al]
    refine ar.dec (fun hc=>?_) (fun hc=>?_)
    · have hg2:g.ax[i]?=some (g.ax[i]'(by omega)):=List.getElem?_eq_getElem (by omega)
      rw[c8 (show i < g.ax.length by omega)] at hi
      generalize g.ax[i]'(by omega)=t at hg2 hi
      simp only[ia] at hi
      simp (disch:=omega) only [↓wr,↓reduceIte,wq,ag,aa,Nat.reduceEqDiff,Nat.reduceAdd,Nat.reduceLT,Nat.reduceLeDiff,h1,h2,h6,al,cg,List.getElem?_map,hg2]
      intro m hm
      try simp (disch:=omega) only [↓wr,↓reduceIte,wq,ah,ag,aj,aa,ab,af,ai,isNil,Nat.reduceEqDiff,Nat.reduceAdd,Nat.reduceLT,Nat.reduceLeDiff,Int.reduceNeg,Int.reduceToNat,reduceCtorEq,h1,h2,h5,h6]
      refine ar.ne (fun hd=>?_) (fun hd=>?_)
      · rw[if_neg hd] at hi
        simp (disch:=omega) only [↓wr,↓reduceIte,wq,ag,Nat.reduceEqDiff,reduceCtorEq,h1,h2,h5,h6]
        exact ⟨k - 1,by omega,i+1,w,by omega,hi,by first | rfl | exact ⟨rfl,rfl⟩ | exact ⟨rfl,rfl,rfl⟩⟩
      · rw[if_pos hd] at hi
        repeat' (first | (refine ar.dec (fun _=>?_) (fun _=>?_)) | (refine ar.eq (fun _=>?_) (fun _=>?_)) | (refine ar.ne (fun _=>?_) (fun _=>?_)) | (refine ar.split (fun _=>?_) (fun _=>?_)) | (simp (disch:=omega) only [↓wr,↓reduceIte,wq,ag,Nat.reduceEqDiff,Nat.reduceAdd,Nat.reduceLT,reduceCtorEq,h1,h2,h5,h6]))
        · rename_i a b
          rw[if_pos ⟨a,b⟩] at hi
          simp only[fH,← hi]
        · rename_i a b
          rw[if_neg (fun e=>e.2 b)] at hi
          exact ⟨k - 1,by omega,i+1,_,by omega,hi,by first | rfl | exact ⟨rfl,rfl⟩ | exact ⟨rfl,rfl,rfl⟩⟩
        · rename_i a
          rw[if_neg (fun e=>e.1 a)] at hi
          exact ⟨k - 1,by omega,i+1,_,by omega,hi,by first | rfl | exact ⟨rfl,rfl⟩ | exact ⟨rfl,rfl,rfl⟩⟩
    · rw[List.drop_eq_nil_of_le (by omega)] at hi
      simp only[ia] at hi
      simp (disch:=omega) only [↓wr,↓reduceIte,wq,Nat.reduceEqDiff,reduceCtorEq,h5]
      simp only[fH,← hi]
theorem Iw (g:ao) (hg:g.Ok) (n:Int):aF Tryz.prog 141 [.agg (al g),gi n] (gb (fH g.ax n)):=aF.val (vL g n) (ID g hg n)
end Gv
set_option linter.unusedSimpArgs false
set_option maxRecDepth 100000
namespace Gv
open Go Go.Proofs
def qx (g:ao) (t:Term):Bool:=(List.range t.level.toNat).all fun k=>fH g.ax ((k:Int)+1)
def jB (g:ao) (i:Int) (t:Term):Bool :=
  pt (er t.name) && (lf g t.name == i) && decide (0≤t.level) && decide (t.level≤24) && decide (0≤t.assoc) && decide (t.assoc≤3) && ((t.level == 0) == (t.assoc == 0)) && qx g t
def iY (g:ao):List Term→Int→Bool
  | [],_=>true
  | t :: r,i=>jB g i t && iY g r (i+1)
def jd (g:ao):Bool:=decide (g.ax.length≤24) && iY g g.ax 0
def lZ:SC :=
  .seq (.seq (ak [ae 63 5,aq 64 1 4,an 65 64,aR 66 .leq 63 65]) <|
  .cond (.tmp 66) (.skip) (.exit 2)) <|
  .seq (.block 3 (.seq (ak [aS 69 4 1,ae 70 5,aM 71 141 [69,70],cm 72 71]) <|
  .cond (.tmp 72) (.seq (ak [bg 2 false]) <|
  .ret) (.skip))) <|
  ak [ae 67 5,ay 68 .add 67 1,ae 5 68]
def l5:SC :=
  .seq (.seq (ak [ae 10 3,aq 11 0 1,an 12 11,aQ 13 12,aR 14 .lss 10 13]) <|
  .cond (.tmp 14) (.skip) (.exit 0)) <|
  .seq (.block 1 (.seq (.region false [⟨none,[aq 17 0 1,an 18 17,ae 19 3,aN 20 3 18 19,aS 21 3 20,((some 4),.op (.alloc [(.val (.string ⟨#[]⟩)),(.val (.int .i64 0)),(.val (.int .i64 0))])),(none,.op (.store 3 (.tmp 4) (.tmp 21)))]⟩]) <|
  .seq (.seq (.region false [⟨none,[aq 22 0 4,an 23 22,aM 24 139 [23],cm 25 24,ae 26 25]⟩,⟨(some (26,false)),[aS 27 4 1,aq 28 0 4,an 29 28,aM 30 140 [27,29],ae 31 3,aR 32 .neq 30 31]⟩,⟨none,[bI 33 26 32,ae 34 33]⟩,⟨(some (34,false)),[aq 35 1 4,an 36 35,ay 37 .lss 36 0]⟩,⟨none,[bI 38 34 37,ae 39 38]⟩,⟨(some (39,false)),[aq 40 1 4,an 41 40,ay 42 .gtr 41 24]⟩,⟨none,[bI 43 39 42,ae 44 43]⟩,⟨(some (44,false)),[aq 45 2 4,an 46 45,ay 47 .lss 46 0]⟩,⟨none,[bI 48 44 47,ae 49 48]⟩,⟨(some (49,false)),[aq 50 2 4,an 51 50,ay 52 .gtr 51 3]⟩,⟨none,[bI 53 49 52,ae 54 53]⟩,⟨(some (54,false)),[aq 55 1 4,an 56 55,ay 57 .eql 56 0,aq 58 2 4,an 59 58,ay 60 .eql 59 0,((some 61),.op (.beq false (.tmp 57) (.tmp 60)))]⟩,⟨none,[bI 62 54 61]⟩]) <|
  .cond (.tmp 62) (.seq (ak [bg 2 false]) <|
  .ret) (.skip)) <|
  .seq (ak [aH 5 1]) <|
  .block 2 (.loop lZ))) <|
  ak [ae 15 3,ay 16 .add 15 1,ae 3 16]
def nD:SF:=⟨.seq (ak [cr 1 0,bg 2 false]) <|
  .seq (.seq (ak [aq 6 0 1,an 7 6,aQ 8 7,ay 9 .gtr 8 24]) <|
  .cond (.tmp 9) (.seq (ak [bg 2 false]) <|
  .ret) (.skip)) <|
  .seq (.seq (ak [aH 3 0]) <|
  .block 0 (.loop l5)) <|
  .seq (ak [bg 2 true]) <|
  .ret,
  [.tmp 2],73⟩
theorem tu:aU Tryz.prog 89 [1]=some nD:=by kernel_rfl
def mF:SC :=
  .seq (.seq (ak [ae 14 3,aq 15 1 1,an 16 15,aQ 17 16,aR 18 .lss 14 17]) <|
  .cond (.tmp 18) (.skip) (.exit 0)) <|
  .seq (.block 1 (.seq (.region false [⟨none,[aq 21 1 1,an 22 21,ae 23 3,aN 24 1 22 23,an 25 24,aM 26 142 [25],cm 27 26,ae 28 27]⟩,⟨(some (28,false)),[aS 29 4 1,aq 30 1 1,an 31 30,ae 32 3,aN 33 1 31 32,an 34 33,aM 35 125 [29,34],ae 36 3,aR 37 .neq 35 36]⟩,⟨none,[bI 38 28 37,ae 39 38]⟩,⟨(some (39,false)),[aS 40 4 1,aq 41 1 1,an 42 41,ae 43 3,aN 44 1 42 43,an 45 44,aM 46 140 [40,45],ay 47 .geq 46 0]⟩,⟨none,[bI 48 39 47]⟩]) <|
  .cond (.tmp 48) (.seq (ak [bg 2 false]) <|
  .ret) (.skip))) <|
  ak [ae 19 3,ay 20 .add 19 1,ae 3 20]
def pQ:SF:=⟨.seq (ak [cr 1 0,bg 2 false]) <|
  .seq (.seq (.region false [⟨none,[aq 4 1 1,an 5 4,aQ 6 5,ay 7 .lss 6 1,ae 8 7]⟩,⟨(some (8,false)),[aq 9 1 1,an 10 9,aQ 11 10,ay 12 .gtr 11 16]⟩,⟨none,[bI 13 8 12]⟩]) <|
  .cond (.tmp 13) (.seq (ak [bg 2 false]) <|
  .ret) (.skip)) <|
  .seq (.seq (ak [aH 3 0]) <|
  .block 0 (.loop mF)) <|
  .seq (ak [bg 2 true]) <|
  .ret,
  [.tmp 2],49⟩
theorem tL:aU Tryz.prog 90 [1]=some pQ:=by kernel_rfl
def mb:SC :=
  .seq (.seq (ak [ae 23 5,aq 24 1 3,an 25 24,aQ 26 25,aR 27 .lss 23 26]) <|
  .cond (.tmp 27) (.skip) (.exit 0)) <|
  .seq (.block 1 (.seq (.region false [⟨none,[aS 30 4 2,aq 31 1 3,an 32 31,ae 33 5,aN 34 1 32 33,an 35 34,aM 36 143 [30,35],cm 37 36,ae 38 37]⟩,⟨(some (38,false)),[aq 39 1 3,an 40 39,ae 41 5,aN 42 1 40 41,an 43 42,ay 44 .geq 43 0,ae 45 44]⟩,⟨(some (45,true)),[aq 46 2 3,an 47 46,ay 48 .eql 47 (-1)]⟩,⟨(some (38,false)),[bM 49 45 48]⟩,⟨none,[bI 50 38 49]⟩]) <|
  .cond (.tmp 50) (.seq (ak [bg 4 false]) <|
  .ret) (.skip))) <|
  ak [ae 28 5,ay 29 .add 28 1,ae 5 29]
def pT:SF:=⟨.seq (ak [cr 2 0,cr 3 1,bg 4 false]) <|
  .seq (.seq (.region false [⟨none,[aq 6 1 3,an 7 6,aQ 8 7,ay 9 .gtr 8 6,ae 10 9]⟩,⟨(some (10,false)),[aq 11 2 3,an 12 11,ay 13 .lss 12 (-1)]⟩,⟨none,[bI 14 10 13,ae 15 14]⟩,⟨(some (15,false)),[aq 16 2 3,an 17 16,aq 18 0 2,an 19 18,aQ 20 19,aR 21 .geq 17 20]⟩,⟨none,[bI 22 15 21]⟩]) <|
  .cond (.tmp 22) (.seq (ak [bg 4 false]) <|
  .ret) (.skip)) <|
  .seq (.seq (ak [aH 5 0]) <|
  .block 0 (.loop mb)) <|
  .seq (ak [bg 4 true]) <|
  .ret,
  [.tmp 4],51⟩
theorem uM:aU Tryz.prog 91 [2,3]=some pT:=by kernel_rfl
def lB:SC :=
  .seq (.seq (ak [ae 39 4,aq 40 2 1,an 41 40,aQ 42 41,aR 43 .lss 39 42]) <|
  .cond (.tmp 43) (.skip) (.exit 0)) <|
  .seq (.block 1 (.seq (ak [aq 46 2 1,an 47 46,ae 48 4,aN 49 3 47 48,aS 50 3 49,((some 5),.op (.alloc [(.val (.int .i64 0)),(.emp 1),(.val (.int .i64 0))])),(none,.op (.store 3 (.tmp 5) (.tmp 50)))]) <|
  .seq (.seq (.region false [⟨none,[aq 51 0 5,an 52 51,ay 53 .lss 52 0,ae 54 53]⟩,⟨(some (54,false)),[aq 55 0 5,an 56 55,ae 57 3,ay 58 .add 57 1,aR 59 .gtr 56 58]⟩,⟨none,[bI 60 54 59,ae 61 60]⟩,⟨(some (61,false)),[aS 62 4 1,aS 63 3 5,aM 64 91 [62,63],cm 65 64]⟩,⟨none,[bI 66 61 65]⟩]) <|
  .cond (.tmp 66) (.seq (ak [bg 2 false]) <|
  .ret) (.skip)) <|
  .seq (ak [aq 67 0 5,an 68 67,ae 69 3,aR 70 .gtr 68 69]) <|
  .cond (.tmp 70) (ak [aq 71 0 5,an 72 71,ae 3 72]) (.skip))) <|
  ak [ae 44 4,ay 45 .add 44 1,ae 4 45]
def nK:SF:=⟨.seq (ak [cr 1 0,bg 2 false]) <|
  .seq (.seq (.region false [⟨none,[aS 6 4 1,aM 7 89 [6],cm 8 7,ae 9 8]⟩,⟨(some (9,false)),[aS 10 4 1,aM 11 90 [10],cm 12 11]⟩,⟨none,[bI 13 9 12,ae 14 13]⟩,⟨(some (14,false)),[aq 15 2 1,an 16 15,aQ 17 16,ay 18 .lss 17 1]⟩,⟨none,[bI 19 14 18,ae 20 19]⟩,⟨(some (20,false)),[aq 21 2 1,an 22 21,aQ 23 22,ay 24 .gtr 23 40]⟩,⟨none,[bI 25 20 24,ae 26 25]⟩,⟨(some (26,false)),[aq 27 3 1,an 28 27,ay 29 .lss 28 0]⟩,⟨none,[bI 30 26 29,ae 31 30]⟩,⟨(some (31,false)),[aq 32 3 1,an 33 32,aq 34 1 1,an 35 34,aQ 36 35,aR 37 .geq 33 36]⟩,⟨none,[bI 38 31 37]⟩]) <|
  .cond (.tmp 38) (.seq (ak [bg 2 false]) <|
  .ret) (.skip)) <|
  .seq (ak [aH 3 (-1)]) <|
  .seq (.seq (ak [aH 4 0]) <|
  .block 0 (.loop lB)) <|
  .seq (ak [ae 73 3,aq 74 1 1,an 75 74,aQ 76 75,ay 77 .sub 76 1,aR 78 .eql 73 77,ae 2 78]) <|
  .ret,
  [.tmp 2],79⟩
theorem tB:aU Tryz.prog 48 [1]=some nK:=by kernel_rfl
set_option maxHeartbeats 2000000 in
theorem Im (g:ao) (hg:g.Ok) (H:View):az Tryz.prog 89 [.agg (al g)] H fun r _=>r=gb (jd g):=by
  refine az.of mixed tu ?_
  simp (disch:=omega) only [↓wr,↓reduceIte,wq,ah,ag,aj,Nat.reduceEqDiff,Nat.reduceAdd,Nat.reduceLT,Nat.reduceLeDiff,nD,al,encS]
  refine ar.dec (fun h=>?_) (fun h=>?_)
  · simp (disch:=omega) only [↓wr,↓reduceIte,wq,reduceCtorEq]
    simp[jd,show ¬ g.ax.length≤24 by omega]
  · have hle:g.ax.length≤24:=by omega
    simp (disch:=omega) only [↓wr,wq]
    refine bb.intro (fun k T _=>∃ i:Nat,i+k=g.ax.length∧iY g (g.ax.drop i) i=iY g g.ax 0∧T 1=.aT (al g) 0∧T 3=gi i) g.ax.length ?_ ?_
    · exact ⟨0,by omega,rfl,rfl,rfl⟩
    · rintro k T H' ⟨i,hk,hi,h1,h3⟩
      simp (disch:=omega) only [↓wr,↓reduceIte,wq,ag,aj,Nat.reduceEqDiff,Nat.reduceAdd,Nat.reduceLT,reduceCtorEq,l5,h1,h3,al]
      refine ar.dec (fun hc=>?_) (fun hc=>?_)
      · have hg2:g.ax[i]?=some (g.ax[i]'(by omega)):=List.getElem?_eq_getElem (by omega)
        rw[c8 (show i < g.ax.length by omega)] at hi
        have hmem:g.ax[i]'(by omega)∈g.ax:=List.getElem_mem _
        generalize g.ax[i]'(by omega)=t at hg2 hi hmem
        obtain ⟨⟨hl1,hl2⟩,⟨ha1,ha2⟩⟩:=hg.term t hmem
        simp only[iY] at hi
        have hbad:jB g i t=false→gb false=gb (jd g):=fun e=>by rw[e,Bool.false_and] at hi; simp[jd,← hi]
        simp (disch:=omega) only [↓wr,↓reduceIte,wq,aa,Nat.reduceEqDiff,Nat.reduceAdd,Nat.reduceLT,Nat.reduceLeDiff,h1,h3,al,cg,List.getElem?_map,hg2]
        intro m hm
        try simp (disch:=omega) only [↓wr,↓reduceIte,wq,ah,ag,aj,aa,ab,af,ai,isNil,Nat.reduceEqDiff,Nat.reduceAdd,Nat.reduceLT,Nat.reduceLeDiff,Int.reduceNeg,Int.reduceToNat,reduceCtorEq,h1,h3]
        refine aB.pure (Is t.name) (by kernel_rfl) ?_
        repeat' (first | (refine ar.dec (fun _=>?_) (fun _=>?_)) | (refine ar.eq (fun _=>?_) (fun _=>?_)) | (refine ar.ne (fun _=>?_) (fun _=>?_)) | (refine ar.split (fun _=>?_) (fun _=>?_)) | (simp (disch:=omega) only [↓wr,↓reduceIte,wq,ag,Nat.reduceEqDiff,Nat.reduceAdd,Nat.reduceLT,Nat.reduceLeDiff,reduceCtorEq,h1,h3,al]))
        all_goals try (refine hbad ?_; simp[jB, *]; done)
        rename_i hnm
        refine aB.pure (CW g hg t.name) (by kernel_rfl) ?_
        repeat' (first | (refine ar.dec (fun _=>?_) (fun _=>?_)) | (refine ar.eq (fun _=>?_) (fun _=>?_)) | (refine ar.ne (fun _=>?_) (fun _=>?_)) | (refine ar.split (fun _=>?_) (fun _=>?_)) | (simp (disch:=omega) only [↓wr,↓reduceIte,wq,ag,Nat.reduceEqDiff,Nat.reduceAdd,Nat.reduceLT,reduceCtorEq,h1,h3,al]))
        all_goals try (refine hbad ?_; simp[jB, *]; done)
        all_goals try (refine hbad ?_; simp[jB]; grind)
        rename_i e1 e2 e3 e4 e5 e6
        have hpre:jB g i t=qx g t:=by
          have e6':((t.level == 0) == (t.assoc == 0))=true:=by simpa using e6
          simp[jB,hnm,e1,e6',show (0:Int)≤t.level by omega,show t.level≤24 by omega,show (0:Int)≤t.assoc by omega,show t.assoc≤3 by omega]
        refine bb.intro (fun k' T H''=>∃ j:Nat,1≤j∧j+k'=t.level.toNat+1∧(∀ q:Nat,q+1 < j→fH g.ax ((q:Int)+1)=true)∧T 1=.aT (al g) 0∧T 3=gi i∧T 4=.ptr m 0 0∧H'' m=.arr 3 [[gs t.name,gi t.level,gi t.assoc]]∧T 5=gi j) t.level.toNat ?_ ?_
        · refine ⟨1,by omega,by omega,fun q hq=>by omega,?_⟩
          simp (disch:=omega) only [↓wr,↓reduceIte,wq,Nat.reduceEqDiff,Nat.reduceAdd,h1,h3,al]
          rfl
        · rintro k' T' H'' ⟨j,hj1,hj2,hj3,f1,f3,f4,fm,f5⟩
          simp (disch:=omega) only [↓wr,↓reduceIte,wq,ag,Nat.reduceEqDiff,Nat.reduceAdd,Nat.reduceLT,lZ,f4,f5,fm]
          refine ar.dec (fun hd=>?_) (fun hd=>?_)
          · simp (disch:=omega) only [↓wr,↓reduceIte,wq,Nat.reduceEqDiff,Nat.reduceAdd,Nat.reduceLeDiff,f1,f5,al]
            refine aB.pure (Iw g hg j) (by kernel_rfl) ?_
            repeat' (first | (refine ar.dec (fun _=>?_) (fun _=>?_)) | (refine ar.eq (fun _=>?_) (fun _=>?_)) | (refine ar.ne (fun _=>?_) (fun _=>?_)) | (refine ar.split (fun _=>?_) (fun _=>?_)) | (simp (disch:=omega) only [↓wr,↓reduceIte,wq,ag,Nat.reduceEqDiff,reduceCtorEq,f1,f3,f4,f5,fm,al]))
            · rename_i hb
              refine ⟨k' - 1,by omega,j+1,by omega,by omega,fun q hq=>?_,by first | rfl | exact ⟨rfl,rfl⟩ | exact ⟨rfl,rfl,rfl⟩⟩
              by_cases e:q+1=j
              · have:(q:Int)+1=j:=by omega
                rw[this]; exact hb
              · exact hj3 q (by omega)
            · rename_i hb
              refine hbad ?_
              rw[hpre,qx,List.all_eq_false]
              refine ⟨j - 1,by simp; omega,?_⟩
              have:((j - 1:Nat):Int)+1=j:=by omega
              rw[this,hb]; simp
          · simp (disch:=omega) only [↓wr,↓reduceIte,wq,Nat.reduceEqDiff,reduceCtorEq,f1,f3]
            refine ⟨k - 1,by omega,i+1,by omega,?_,by first | rfl | exact ⟨rfl,rfl⟩ | exact ⟨rfl,rfl,rfl⟩⟩
            have hlv:qx g t=true:=by
              rw[qx,List.all_eq_true]
              intro q hq
              exact hj3 q (by simp at hq; omega)
            rw[hpre,hlv,Bool.true_and] at hi
            push_cast; exact hi
      · rw[List.drop_eq_nil_of_le (by omega)] at hi
        simp only[iY] at hi
        simp (disch:=omega) only [↓wr,↓reduceIte,wq,Nat.reduceEqDiff,reduceCtorEq]
        simp[jd,hle,← hi]
theorem I0 (g:ao) (hg:g.Ok):aF Tryz.prog 89 [.agg (al g)] (gb (jd g)):=aF.val (di g) (Im g hg)
def kQ (g:ao) (i:Int) (s:ByteArray):Bool:=fe (er s) && (xQ g s == i) && decide (lf g s < 0)
def qy (g:ao):List ByteArray→Int→Bool
  | [],_=>true
  | s :: r,i=>kQ g i s && qy g r (i+1)
def jR (g:ao):Bool:=decide (1≤g.au.length) && decide (g.au.length≤16) && qy g g.au 0
set_option maxHeartbeats 1000000 in
theorem JR (g:ao) (hg:g.Ok) (H:View):az Tryz.prog 90 [.agg (al g)] H fun r _=>r=gb (jR g):=by
  refine az.of mixed tL ?_
  repeat' (first | (refine ar.dec (fun _=>?_) (fun _=>?_)) | (refine ar.eq (fun _=>?_) (fun _=>?_)) | (refine ar.ne (fun _=>?_) (fun _=>?_)) | (refine ar.split (fun _=>?_) (fun _=>?_)) | (simp (disch:=omega) only [↓wr,↓reduceIte,wq,ah,ag,aj,Nat.reduceEqDiff,Nat.reduceAdd,Nat.reduceLT,Nat.reduceLeDiff,reduceCtorEq,pQ,al,encS]))
  · simp[jR,show ¬ 1≤g.au.length by omega]
  · simp[jR,show ¬ g.au.length≤16 by omega]
  · have hle:g.au.length≤16:=by omega
    refine bb.intro (fun k T _=>∃ i:Nat,i+k=g.au.length∧qy g (g.au.drop i) i=qy g g.au 0∧T 1=.aT (al g) 0∧T 3=gi i) g.au.length ?_ ?_
    · exact ⟨0,by omega,rfl,rfl,rfl⟩
    · rintro k T H' ⟨i,hk,hi,h1,h3⟩
      simp (disch:=omega) only [↓wr,↓reduceIte,wq,ag,aj,Nat.reduceEqDiff,Nat.reduceAdd,Nat.reduceLT,reduceCtorEq,mF,h1,h3,al,encS]
      refine ar.dec (fun hc=>?_) (fun hc=>?_)
      · have hg2:g.au[i]?=some (g.au[i]'(by omega)):=List.getElem?_eq_getElem (by omega)
        rw[c8 (show i < g.au.length by omega)] at hi
        generalize g.au[i]'(by omega)=t at hg2 hi
        simp only[qy] at hi
        have hbad:kQ g i t=false→gb false=gb (jR g):=fun e=>by rw[e,Bool.false_and] at hi; simp[jR,← hi]
        simp (disch:=omega) only [↓wr,↓reduceIte,wq,Nat.reduceEqDiff,Nat.reduceAdd,Nat.reduceLT,h1,h3,al,encS,List.getElem?_map,hg2]
        refine aB.pure (CJ t) (by kernel_rfl) ?_
        repeat' (first | (refine ar.dec (fun _=>?_) (fun _=>?_)) | (refine ar.eq (fun _=>?_) (fun _=>?_)) | (refine ar.ne (fun _=>?_) (fun _=>?_)) | (refine ar.split (fun _=>?_) (fun _=>?_)) | (simp (disch:=omega) only [↓wr,↓reduceIte,wq,ag,Nat.reduceEqDiff,Nat.reduceAdd,Nat.reduceLT,Nat.reduceLeDiff,reduceCtorEq,h1,h3,al,encS,List.getElem?_map,hg2]))
        all_goals try (refine hbad ?_; simp[kQ, *]; done)
        rename_i hnm
        refine aB.pure (MR g hg t) (by kernel_rfl) ?_
        repeat' (first | (refine ar.dec (fun _=>?_) (fun _=>?_)) | (refine ar.eq (fun _=>?_) (fun _=>?_)) | (refine ar.ne (fun _=>?_) (fun _=>?_)) | (refine ar.split (fun _=>?_) (fun _=>?_)) | (simp (disch:=omega) only [↓wr,↓reduceIte,wq,ag,Nat.reduceEqDiff,Nat.reduceAdd,Nat.reduceLT,Nat.reduceLeDiff,reduceCtorEq,h1,h3,al,encS,List.getElem?_map,hg2]))
        all_goals try (refine hbad ?_; simp[kQ, *]; done)
        rename_i hno
        refine aB.pure (CW g hg t) (by kernel_rfl) ?_
        repeat' (first | (refine ar.dec (fun _=>?_) (fun _=>?_)) | (refine ar.eq (fun _=>?_) (fun _=>?_)) | (refine ar.ne (fun _=>?_) (fun _=>?_)) | (refine ar.split (fun _=>?_) (fun _=>?_)) | (simp (disch:=omega) only [↓wr,↓reduceIte,wq,ag,Nat.reduceEqDiff,reduceCtorEq,h1,h3,al,encS]))
        all_goals try (refine hbad ?_; simp[kQ, *]; done)
        rename_i hte
        refine ⟨k - 1,by omega,i+1,by omega,?_,by first | rfl | exact ⟨rfl,rfl⟩ | exact ⟨rfl,rfl,rfl⟩⟩
        have:kQ g i t=true:=by simp[kQ,hnm,hno,show lf g t < 0 by omega]
        rw[this,Bool.true_and] at hi
        push_cast; exact hi
      · rw[List.drop_eq_nil_of_le (by omega)] at hi
        simp only[qy] at hi
        simp (disch:=omega) only [↓wr,↓reduceIte,wq,Nat.reduceEqDiff,reduceCtorEq]
        simp[jR,hle,show 1≤g.au.length by omega,← hi]
theorem Ks (g:ao) (hg:g.Ok):aF Tryz.prog 90 [.agg (al g)] (gb (jR g)):=aF.val (di g) (JR g hg)
def ly (g:ao) (prec s:Int):Bool:=iu g s && !(decide (0≤s) && prec == -1)
def gw (g:ao) (r:aO):Bool:=decide (r.right.length≤6) && decide (-1≤r.prec) && decide (r.prec < g.ax.length) && r.right.all (ly g r.prec)
theorem Fh (g:ao) (r:aO):∀ v∈[V.agg (al g),V.agg (aJ r)],Tree v:=by
  intro v hv; simp at hv
  rcases hv with rfl | rfl
  · exact ch _ (cE g)
  · exact ch _ (eJ r)
set_option maxHeartbeats 1000000 in
theorem Kj (g:ao) (r:aO) (hr:aL r.right∧∀ x∈r.right,bP x) (H:View):az Tryz.prog 91 [.agg (al g),.agg (aJ r)] H fun v _=>v=gb (gw g r):=by
  refine az.of mixed uM ?_
  repeat' (first | (refine ar.dec (fun _=>?_) (fun _=>?_)) | (refine ar.eq (fun _=>?_) (fun _=>?_)) | (refine ar.ne (fun _=>?_) (fun _=>?_)) | (refine ar.split (fun _=>?_) (fun _=>?_)) | (simp (disch:=omega) only [↓wr,↓reduceIte,wq,ah,ag,aj,Nat.reduceEqDiff,Nat.reduceAdd,Nat.reduceLT,Nat.reduceLeDiff,Int.reduceNeg,reduceCtorEq,pT,al,encS,aJ,encI]))
  · simp[gw,show ¬ r.right.length≤6 by omega]
  · simp[gw,show ¬ -1≤r.prec by omega]
  · simp[gw,show ¬ r.prec < g.ax.length by omega]
  · have hle:r.right.length≤6:=by omega
    have hp1 : -1≤r.prec:=by omega
    have hp2:r.prec < g.ax.length:=by omega
    refine bb.intro (fun k T _=>∃ i:Nat,i+k=r.right.length∧(r.right.drop i).all (ly g r.prec)=r.right.all (ly g r.prec)∧T 2=.aT (al g) 0∧T 3=.aT (aJ r) 0∧T 5=gi i) r.right.length ?_ ?_
    · exact ⟨0,by omega,rfl,rfl,rfl,rfl⟩
    · rintro k T H' ⟨i,hk,hi,h2,h3,h5⟩
      simp (disch:=omega) only [↓wr,↓reduceIte,wq,ag,aj,Nat.reduceEqDiff,Nat.reduceAdd,Nat.reduceLT,Int.reduceNeg,reduceCtorEq,mb,h3,h5,aJ,encI]
      refine ar.dec (fun hc=>?_) (fun hc=>?_)
      · have hg2:r.right[i]?=some (r.right[i]'(by omega)):=List.getElem?_eq_getElem (by omega)
        rw[c8 (show i < r.right.length by omega)] at hi
        have hmem:r.right[i]'(by omega)∈r.right:=List.getElem_mem _
        generalize r.right[i]'(by omega)=t at hg2 hi hmem
        have hin:=hr.2 t hmem
        simp only[List.all_cons] at hi
        have hbad:ly g r.prec t=false→gb false=gb (gw g r):=fun e=>by rw[e,Bool.false_and] at hi; simp only[gw,← hi,Bool.and_false]
        have hok:ly g r.prec t=true→(r.right.drop (i+1)).all (ly g r.prec)=r.right.all (ly g r.prec):=fun e=>by rw[e,Bool.true_and] at hi; exact hi
        simp (disch:=omega) only [↓wr,↓reduceIte,wq,Nat.reduceEqDiff,Nat.reduceAdd,Nat.reduceLT,Nat.reduceLeDiff,Int.reduceNeg,h2,h3,h5,al,encS,aJ,encI,List.getElem?_map,hg2]
        refine aB.pure (O4 g t hin) (by kernel_rfl) ?_
        repeat' (first | (refine ar.dec (fun _=>?_) (fun _=>?_)) | (refine ar.eq (fun _=>?_) (fun _=>?_)) | (refine ar.ne (fun _=>?_) (fun _=>?_)) | (refine ar.split (fun _=>?_) (fun _=>?_)) | (simp (disch:=omega) only [↓wr,↓reduceIte,wq,ag,Nat.reduceEqDiff,Nat.reduceAdd,Nat.reduceLT,Int.reduceNeg,reduceCtorEq,h2,h3,h5,al,encS,aJ,encI,List.getElem?_map,hg2]))
        all_goals first
          | (refine hbad ?_; simp[ly, *]; done)
          | (refine ⟨k - 1,by omega,i+1,by omega,hok (by simp[ly, *]; done),by first | rfl | exact ⟨rfl,rfl⟩ | exact ⟨rfl,rfl,rfl⟩⟩)
          | skip
      · rw[List.drop_eq_nil_of_le (by omega)] at hi
        simp only[List.all_nil] at hi
        simp (disch:=omega) only [↓wr,↓reduceIte,wq,Nat.reduceEqDiff,reduceCtorEq]
        simp only[gw,hle,hp1,hp2,decide_true,Bool.true_and,← hi]
theorem JI (g:ao) (r:aO) (hr:aL r.right∧∀ x∈r.right,bP x):aF Tryz.prog 91 [.agg (al g),.agg (aJ r)] (gb (gw g r)):=aF.val (Fh g r) (Kj g r hr)
def fI (g:ao):List aO→Int→Bool
  | [],top=>top == (g.au.length:Int) - 1
  | r :: l,top=>decide (0≤r.left) && decide (r.left≤top+1) && gw g r && fI g l (if r.left > top then r.left else top)
def bo (g:ao):Bool :=
  jd g && jR g && decide (1≤g.rules.length) && decide (g.rules.length≤40) && decide (0≤g.start) && decide (g.start < g.au.length) && fI g g.rules (-1)
set_option maxHeartbeats 1000000 in
theorem Jz (g:ao) (hg:g.Ok) (H:View):az Tryz.prog 48 [.agg (al g)] H fun r _=>r=gb (bo g):=by
  refine az.of mixed tB ?_
  have hn:=hg.au
  unfold aL at hn
  simp (disch:=omega) only [↓wr,↓reduceIte,wq,ah,Nat.reduceEqDiff,Nat.reduceAdd,Nat.reduceLeDiff,Int.reduceNeg,nK,al,encS]
  refine aB.pure (I0 g hg) (by kernel_rfl) ?_
  repeat' (first | (refine ar.dec (fun _=>?_) (fun _=>?_)) | (refine ar.eq (fun _=>?_) (fun _=>?_)) | (refine ar.ne (fun _=>?_) (fun _=>?_)) | (refine ar.split (fun _=>?_) (fun _=>?_)) | (simp (disch:=omega) only [↓wr,↓reduceIte,wq,Nat.reduceEqDiff,Nat.reduceAdd,Nat.reduceLeDiff,Int.reduceNeg,reduceCtorEq]))
  · rename_i h1
    refine aB.pure (Ks g hg) (by kernel_rfl) ?_
    repeat' (first | (refine ar.dec (fun _=>?_) (fun _=>?_)) | (refine ar.eq (fun _=>?_) (fun _=>?_)) | (refine ar.ne (fun _=>?_) (fun _=>?_)) | (refine ar.split (fun _=>?_) (fun _=>?_)) | (simp (disch:=omega) only [↓wr,↓reduceIte,wq,ag,aj,Nat.reduceEqDiff,Nat.reduceAdd,Nat.reduceLT,Int.reduceNeg,reduceCtorEq]))
    all_goals try (simp[bo, *]; done)
    all_goals try (simp[bo]; omega)
    rename_i h2 h3 h4 h5 h6
    have hle:g.rules.length≤40:=by omega
    have hpre:∀ b,fI g g.rules (-1)=b→gb b=gb (bo g):=fun b e=>by
      simp[bo,h1,h2,show 1≤g.rules.length by omega,hle,show 0≤g.start by omega,show g.start < g.au.length by omega,e]
    refine bb.intro (fun k T _=>∃ (i:Nat) (w:Int),i+k=g.rules.length∧-1≤w∧w < i∧fI g (g.rules.drop i) w=fI g g.rules (-1)∧T 1=.aT (al g) 0∧T 3=gi w∧T 4=gi i) g.rules.length ?_ ?_
    · exact ⟨0,-1,by omega,by omega,by omega,rfl,rfl,rfl,rfl⟩
    · rintro k T H' ⟨i,w,hk,hw1,hw2,hi,f1,f3,f4⟩
      simp (disch:=omega) only [↓wr,↓reduceIte,wq,ag,aj,Nat.reduceEqDiff,Nat.reduceAdd,Nat.reduceLT,Int.reduceNeg,lB,f1,f4,al]
      refine ar.dec (fun hc=>?_) (fun hc=>?_)
      · have hg2:g.rules[i]?=some (g.rules[i]'(by omega)):=List.getElem?_eq_getElem (by omega)
        rw[c8 (show i < g.rules.length by omega)] at hi
        have hmem:g.rules[i]'(by omega)∈g.rules:=List.getElem_mem _
        generalize g.rules[i]'(by omega)=t at hg2 hi hmem
        obtain ⟨⟨hl1,hl2⟩,hp,hr1,hr2⟩:=hg.ba t hmem
        simp only[fI] at hi
        simp (disch:=omega) only [↓wr,↓reduceIte,wq,ag,aa,Nat.reduceEqDiff,Nat.reduceAdd,Nat.reduceLT,Nat.reduceLeDiff,Int.reduceNeg,f1,f4,al,encS,aJ,encI,List.getElem?_map,hg2]
        intro m hm
        try simp (disch:=omega) only [↓wr,↓reduceIte,wq,ah,ag,aj,aa,ab,af,ai,isNil,Nat.reduceEqDiff,Nat.reduceAdd,Nat.reduceLT,Nat.reduceLeDiff,Int.reduceNeg,Int.reduceToNat,reduceCtorEq,f1,f3,f4]
        repeat' (first | (refine ar.dec (fun _=>?_) (fun _=>?_)) | (refine ar.eq (fun _=>?_) (fun _=>?_)) | (refine ar.ne (fun _=>?_) (fun _=>?_)) | (refine ar.split (fun _=>?_) (fun _=>?_)) | (simp (disch:=omega) only [↓wr,↓reduceIte,wq,ag,aj,Nat.reduceEqDiff,Nat.reduceAdd,Nat.reduceLT,Nat.reduceLeDiff,Int.reduceNeg,reduceCtorEq,f1,f3,f4,al,encS]))
        all_goals try (refine hpre _ ?_; simp only[← hi]; simp; omega)
        rename_i e1 e2
        refine aB.pure (JI g t ⟨hr1,hr2⟩) (by kernel_rfl) ?_
        repeat' (first | (refine ar.dec (fun _=>?_) (fun _=>?_)) | (refine ar.eq (fun _=>?_) (fun _=>?_)) | (refine ar.ne (fun _=>?_) (fun _=>?_)) | (refine ar.split (fun _=>?_) (fun _=>?_)) | (simp (disch:=omega) only [↓wr,↓reduceIte,wq,ag,aj,Nat.reduceEqDiff,Nat.reduceAdd,Nat.reduceLT,Int.reduceNeg,reduceCtorEq,f1,f3,f4,al,encS]))
        all_goals simp only[show 0≤t.left by omega,show t.left≤w+1 by omega,decide_true,Bool.true_and] at hi
        · rename_i e3 e4
          rw[e3,Bool.true_and,if_pos e4] at hi
          exact ⟨k - 1,by omega,i+1,_,by omega,by omega,by push_cast; omega,hi,by first | rfl | exact ⟨rfl,rfl⟩ | exact ⟨rfl,rfl,rfl⟩⟩
        · rename_i e3 e4
          rw[e3,Bool.true_and,if_neg e4] at hi
          exact ⟨k - 1,by omega,i+1,_,by omega,by omega,by push_cast; omega,hi,by first | rfl | exact ⟨rfl,rfl⟩ | exact ⟨rfl,rfl,rfl⟩⟩
        · rename_i e3
          rw[e3,Bool.false_and] at hi
          exact hpre _ hi.symm
      · rw[List.drop_eq_nil_of_le (by omega)] at hi
        simp only[fI] at hi
        simp (disch:=omega) only [↓wr,↓reduceIte,wq,ag,aj,Nat.reduceEqDiff,Nat.reduceAdd,Nat.reduceLT,reduceCtorEq,f1,f3,al,encS]
        exact hpre _ hi.symm
  · rename_i h1; simp[bo,h1]
theorem iG (g:ao) (hg:g.Ok):aF Tryz.prog 48 [.agg (al g)] (gb (bo g)):=aF.val (di g) (Jz g hg)
end Gv
namespace Gv
open Go
inductive cp (α:Type) where
  | nil
  | node (v:α) (l r:cp α)
noncomputable def cp.get {α:Type} (z:α) (t:cp α):Nat→α :=
  cp.rec (motive:=fun _=>Nat→α) (fun _=>z) (fun v _ _ gl gr i=>Bool.rec (Bool.rec (gr (i / 2 - 1)) (gl (i / 2)) (Nat.beq (i % 2) 1)) v (Nat.beq i 0)) t
theorem cp.get_nil {α:Type} (z:α) (i:Nat):cp.get z .nil i=z:=rfl
theorem cp.Nt {α:Type} (z v:α) (l r:cp α) (i:Nat):cp.get z (.node v l r) i=match Nat.beq i 0 with
    | true=>v
    | false=>match Nat.beq (i % 2) 1 with
      | true=>cp.get z l (i / 2)
      | false=>cp.get z r (i / 2 - 1):=by
  change (Bool.rec (motive:=fun _=>α) _ _ _:α)=_
  cases Nat.beq i 0 with
  | true=>rfl
  | false=>cases Nat.beq (i % 2) 1 <;> rfl
def cp.val {α:Type} (z:α):cp α→α
  | .nil=>z
  | .node v _ _=>v
def cp.left {α:Type} : cp α→cp α
  | .nil=>.nil
  | .node _ l _=>l
def cp.right {α:Type} : cp α→cp α
  | .nil=>.nil
  | .node _ _ r=>r
noncomputable def cp.put {α:Type} (z:α) (x:α) (d:Nat):cp α→Nat→cp α :=
  Nat.rec (motive:=fun _=>cp α→Nat→cp α) (fun t _=>t) (fun _ pd t i =>
    Bool.rec (Bool.rec (.node (t.val z) t.left (pd t.right (i / 2 - 1))) (.node (t.val z) (pd t.left (i / 2)) t.right) (Nat.beq (i % 2) 1)) (.node x t.left t.right) (Nat.beq i 0)) d
theorem cp.MP {α:Type} (z x:α) (d:Nat) (t:cp α) (i:Nat):cp.put z x (d+1) t i=match Nat.beq i 0 with
    | true=>.node x t.left t.right
    | false=>match Nat.beq (i % 2) 1 with
      | true=>.node (t.val z) (cp.put z x d t.left (i / 2)) t.right
      | false=>.node (t.val z) t.left (cp.put z x d t.right (i / 2 - 1)):=by
  change (Bool.rec (motive:=fun _=>cp α) _ _ _:cp α)=_
  cases Nat.beq i 0 with
  | true=>rfl
  | false=>cases Nat.beq (i % 2) 1 <;> rfl
theorem cp.lP {α:Type} (z:α) (t:cp α) (j:Nat):t.get z j=if j=0 then t.val z else if j % 2=1 then t.left.get z (j / 2) else t.right.get z (j / 2 - 1):=by
  cases t with
  | nil=>simp[cp.get_nil,cp.val,cp.left,cp.right]
  | node v l r =>
    simp only[cp.Nt,cp.val,cp.left,cp.right]
    by_cases h:j=0
    · subst h; rfl
    · have:Nat.beq j 0=false:=by cases e:Nat.beq j 0 with | true=>exact absurd (Nat.eq_of_beq_eq_true e) h | false=>rfl
      rw[this,if_neg h]
      simp only
      by_cases h2:j % 2=1
      · have:Nat.beq (j % 2) 1=true:=by rw[h2]; rfl
        rw[this,if_pos h2]
      · have:Nat.beq (j % 2) 1=false:=by cases e:Nat.beq (j % 2) 1 with | true=>exact absurd (Nat.eq_of_beq_eq_true e) h2 | false=>rfl
        rw[this,if_neg h2]
theorem cp.l6 {α:Type} (z x:α):∀ (d:Nat) (t:cp α) (i j:Nat),i+1 < 2 ^ d→(cp.put z x d t i).get z j=if j=i then x else t.get z j
  | 0,t,i,j,h=>by simp at h
  | d+1,t,i,j,h=>by
    rw[Nat.pow_succ] at h
    simp only[cp.MP]
    by_cases hi:i=0
    · subst hi
      have:Nat.beq 0 0=true:=rfl
      rw[this]
      simp only
      rw[cp.lP,cp.lP z t]
      simp only[cp.val,cp.left,cp.right]
      by_cases hj:j=0
      · rw[if_pos hj,if_pos hj]
      · rw[if_neg hj,if_neg hj,if_neg hj]
    · have:Nat.beq i 0=false:=by cases e:Nat.beq i 0 with | true=>exact absurd (Nat.eq_of_beq_eq_true e) hi | false=>rfl
      rw[this]
      simp only
      by_cases h2:i % 2=1
      · have:Nat.beq (i % 2) 1=true:=by rw[h2]; rfl
        rw[this]
        simp only
        rw[cp.lP,cp.lP z t]
        simp only[cp.val,cp.left,cp.right]
        by_cases hj:j=0
        · subst hj; rw[if_pos rfl,if_neg (fun e=>hi e.symm),if_pos rfl]
        · rw[if_neg hj,if_neg hj]
          by_cases hj2:j % 2=1
          · rw[if_pos hj2,if_pos hj2,cp.l6 z x d _ _ _ (by omega)]
            by_cases e:j=i
            · subst e; simp
            · rw[if_neg e,if_neg (by omega)]
          · rw[if_neg hj2,if_neg hj2,if_neg (fun e=>hj2 (by rw[e]; exact h2))]
      · have:Nat.beq (i % 2) 1=false:=by cases e:Nat.beq (i % 2) 1 with | true=>exact absurd (Nat.eq_of_beq_eq_true e) h2 | false=>rfl
        rw[this]
        simp only
        rw[cp.lP,cp.lP z t]
        simp only[cp.val,cp.left,cp.right]
        by_cases hj:j=0
        · subst hj; rw[if_pos rfl,if_neg (fun e=>hi e.symm),if_pos rfl]
        · rw[if_neg hj,if_neg hj]
          by_cases hj2:j % 2=1
          · rw[if_pos hj2,if_pos hj2,if_neg (fun e=>h2 (by rw[← e]; exact hj2))]
          · rw[if_neg hj2,if_neg hj2,cp.l6 z x d _ _ _ (by omega)]
            by_cases e:j=i
            · subst e; simp
            · rw[if_neg e,if_neg (by omega)]
abbrev deep:Nat:=13
structure ES where
  L:cp V
  H:cp bS
  n:Nat
  w:List Nat
noncomputable def ES.T (s:ES):Env:=s.L.get .any
noncomputable def ES.V (s:ES):View:=s.H.get .dead
noncomputable def ES.put (s:ES) (d:Option Nat) (v:Gv.V):ES:=match d with
  | some t=>⟨s.L.put .any v deep t,s.H,s.n,s.w⟩
  | none=>s
theorem ES.NK {s:ES} {d:Option Nat} {v:Gv.V} (h:∀ t,d=some t→t < 8000):(s.put d v).T=s.T.put d v:=by
  cases d with
  | none=>rfl
  | some t =>
    funext k
    have:=h t rfl
    simp only[ES.put,ES.T,Env.put]
    rw[cp.l6 _ _ _ _ _ _ (by simp[deep]; omega)]
noncomputable def Fv (v:V) (aD:bk) (rd:List Nat) (s:ES):Option (V × ES × Rec):=match aD with
  | .none=>some (v,s,⟨rd,[],false,s.n,s.n⟩)
  | .new o=>match Nat.ble s.n 8000 with
    | true=>some (v,⟨s.L,s.H.put .dead o deep s.n,s.n+1,s.w⟩,⟨rd,[],false,s.n,s.n+1⟩)
    | false=>none
  | .fK id o=>match Nat.ble id 8000 with
    | true=>some (v,⟨s.L,s.H.put .dead o deep id,s.n,id :: s.w⟩,⟨rd,[id],false,s.n,s.n⟩)
    | false=>none
  | .aX id o=>match Nat.ble s.n 8000,Nat.ble id 8000 with
    | true,true=>some (v,⟨s.L,(s.H.put .dead .dead deep id).put .dead o deep s.n,s.n+1,id :: s.w⟩,⟨rd,[id],false,s.n,s.n+1⟩)
    | _,_=>none
noncomputable def Qd (x:SX) (_:Program) (T:Env) (_:View) (_:Nat):Out:=some (x.at T,.none,[])
noncomputable def PG (c a b:SX) (_:Program) (T:Env) (_:View) (_:Nat):Out:=match c.at T with
  | .val (.bool t)=>some (if t then a.at T else b.at T,.none,[])
  | _=>none
noncomputable def P2 (sz:Option Nat) (a:SX) (_:Program) (T:Env) (H:View) (_:Nat):Out:=ve sz (a.at T) H
noncomputable def Pk (sz:Nat) (a x:SX) (_:Program) (T:Env) (H:View) (_:Nat):Out:=AQ sz (a.at T) (x.at T) H
noncomputable def PK (off:Nat) (x:SX) (_:Program) (T:Env) (_:View) (_:Nat):Out:=yx off (x.at T)
noncomputable def Qc (sz:Nat) (x i:SX) (_:Program) (T:Env) (_:View) (_:Nat):Out:=BY sz (x.at T) (i.at T)
noncomputable def Qh (x:SX) (_:Program) (T:Env) (_:View) (_:Nat):Out:=(dS (x.at T)).map fun n=>(aj n,.none,[])
noncomputable def Pz (op:BinOp) (x y:SX) (_:Program) (T:Env) (_:View) (_:Nat):Out:=xj op (x.at T) (y.at T)
noncomputable def Qq (op:BinOp) (x y:SX) (_:Program) (T:Env) (_:View) (_:Nat):Out:=zw op (x.at T) (y.at T)
noncomputable def Qp (x:SX) (_:Program) (T:Env) (_:View) (_:Nat):Out:=match x.at T with
  | .val (.bool t)=>some (.val (.bool (!t)),.none,[])
  | _=>none
noncomputable def Qf (i:Nat) (x:SX) (_:Program) (T:Env) (_:View) (_:Nat):Out:=match x.at T with
  | .bt vs=>if i < vs.length then some (vs.getD i .any,.none,[]) else none
  | _=>none
noncomputable def PL (x:SX) (_:Program) (T:Env) (_:View) (_:Nat):Out:=match x.at T with
  | .ptr id i j=>some (.ptr id i j,.none,[])
  | .aT e j=>some (.aT e j,.none,[])
  | .fn f a b=>some (.fn f a b,.none,[])
  | _=>none
noncomputable def eI (s:SI):Program→Env→View→Nat→Out:=match s with
  | .aX x=>Qd x
  | .pick c a b=>PG c a b
  | .load sz a=>P2 sz a
  | .store sz a x=>Pk sz a x
  | .addr o x=>PK o x
  | .idx sz x i=>Qc sz x i
  | .len x=>Qh x
  | .arith op x y=>Pz op x y
  | .iV op x y=>Qq op x y
  | .not x=>Qp x
  | .ext i x=>Qf i x
  | .zJ x=>PL x
  | s=>fun P T H n=>sI P s T H n
theorem Iq (s:SI) (P:Program) (T:Env) (H:View) (n:Nat):eI s P T H n=sI P s T H n:=by
  cases s <;> rfl
abbrev gh:=FuncId→List V→ES→Option (V × ES)
noncomputable def KL (P:Program) (s:SI) (e:ES):Option (V × ES × Rec):=match eI s P e.T e.V e.n with
  | some (v,aD,rd)=>Fv v aD rd e
  | none=>none
noncomputable def JD (call:gh) (f:SX) (args:List SX) (e:ES):Option (V × ES × Rec):=match f.at e.T with
  | .fn g first cap=>match call g (first ++ args.map (SX.at e.T) ++ cap) e with
    | some (v,e')=>some (v,⟨e.L,e'.H,e'.n,e'.w ++ e.w⟩,⟨[],e'.w,true,e.n,e'.n⟩)
    | none=>none
  | _=>none
noncomputable def eB (P:Program) (call:gh) (b:SB):ES→Option (V × ES × Rec):=match b with
  | .op s=>KL P s
  | .call f args=>JD call f args
noncomputable def Gz (P:Program) (call:gh):List (Option Nat × SB)→List Rec→ES→Option (ES × List Rec)
  | [],a,e=>some (e,a)
  | (d,b) :: r,a,e=>match eB P call b e with
    | some (v,e',c)=>Gz P call r (a ++ [c]) (e'.put d v)
    | none=>none
noncomputable def NR (e:ES):Rec:=⟨[],[],false,e.n,e.n⟩
noncomputable def vU:List (Option Nat × SB)→List Rec→ES→ES × List Rec
  | [],a,e=>(e,a)
  | (d,_) :: r,a,e=>vU r (a ++ [NR e]) (e.put d (.bt []))
noncomputable def K1 (P:Program) (call:gh) (ops:List (Option Nat × SB)) (want:Bool) (v:V) (a:List Rec) (e:ES):Option (ES × List Rec):=match v with
  | .val (.bool b)=>match xor b want with
    | true=>some (vU ops a e)
    | false=>Gz P call ops a e
  | .bt []=>some (vU ops a e)
  | _=>none
noncomputable def eG (P:Program) (call:gh) (g:SG) (a:List Rec) (e:ES):Option (ES × List Rec):=match g.guard with
  | none=>Gz P call g.ops a e
  | some (d,want)=>K1 P call g.ops want (e.T d) a e
noncomputable def Ll (P:Program) (call:gh):List SG→List Rec→ES→Option (ES × List Rec)
  | [],a,e=>some (e,a)
  | g :: r,a,e=>match eG P call g a e with
    | some (e',a')=>Ll P call r a' e'
    | none=>none
inductive DC where
  | skip
  | region (ps:List (Nat × Nat)) (gs:List SG)
  | seq (x y:DC)
  | cond (c:SX) (x y:DC)
  | block (id:Nat) (c:DC)
  | loop (c:DC)
  | exit (id:Nat)
  | ret
  deriving Inhabited
def LB (recs:List Rec) (ps:List (Nat × Nat)):Bool:=ps.all fun (i,k)=>match recs[i]?,recs[k]? with
  | some a,some b=>BK a b
  | _,_=>false
abbrev ER:=Option (Exit × ES)
abbrev wj:=DC→ES→ER
noncomputable def Li:ES→ER:=fun e=>some (.normal,e)
noncomputable def GM (P:Program) (call:gh) (ps:List (Nat × Nat)) (gs:List SG) (e:ES):ER:=match Ll P call gs [] e with
  | some (e',recs)=>match LB recs ps with
    | true=>some (.normal,e')
    | false=>none
  | none=>none
noncomputable def Py (run:wj) (x y:DC) (e:ES):ER:=match run x e with
  | some (.normal,e')=>run y e'
  | r=>r
noncomputable def NV (run:wj) (c:SX) (x y:DC) (e:ES):ER:=match c.at e.T with
  | .val (.bool true)=>run x e
  | .val (.bool false)=>run y e
  | _=>none
noncomputable def J5 (run:wj) (id:Nat) (c:DC) (e:ES):ER:=match run c e with
  | some (r,e')=>some (qI id r,e')
  | none=>none
noncomputable def NU (run:wj) (c:DC) (e:ES):ER:=match run c e with
  | some (.normal,e')=>run (.loop c) e'
  | r=>r
noncomputable def k8 (P:Program) (call:gh) (run:wj) (c:DC):ES→ER:=match c with
  | .skip=>Li
  | .region ps gs=>GM P call ps gs
  | .seq x y=>Py run x y
  | .cond c x y=>NV run c x y
  | .block id c=>J5 run id c
  | .loop c=>NU run c
  | .exit id=>fun e=>some (.exit id,e)
  | .ret=>fun e=>some (.ret,e)
noncomputable def M8 (r:SR) (e:ES):Option V:=match r with
  | .tmp t=>some (e.T t)
  | .cell t sz=>match e.T t with
    | .ptr id i j=>match e.V id with
      | .arr _ es=>if i < es.length then k9 sz (es.getD i []) j else none
      | _=>none
    | .aT e j=>k9 sz e j
    | _=>none
noncomputable def uS:List SR→ES→Option (List V)
  | [],_=>some []
  | r :: l,e=>match M8 r e,uS l e with
    | some v,some vs=>some (v :: vs)
    | _,_=>none
noncomputable def lY:List V→Nat→cp V→cp V
  | [],_,t=>t
  | v :: vs,i,t=>lY vs (i+1) (t.put .any v deep i)
structure DF where
  code:DC
  res:List SR
  n:Nat
noncomputable def OT (l:List SR) (r:ER):Option (V × ES):=match r with
  | some (.ret,e)=>(uS l e).map fun vs=>(ah vs,e)
  | some (.normal,e)=>(uS l e).map fun vs=>(ah vs,e)
  | _=>none
noncomputable def Pa (m:Nat) (r:Option (V × ES)):Option (V × ES):=match r with
  | some (v,e)=>some (v,⟨e.L,e.H,e.n,e.w.filter fun id=>Nat.blt id m⟩)
  | none=>none
noncomputable def O1 (run:wj) (F:DF) (vs:List V) (e:ES):Option (V × ES):=match Nat.ble vs.length F.n,Nat.ble F.n 8000 with
  | true,true=>Pa e.n (OT F.res (run F.code ⟨lY vs 0 .nil,e.H,e.n,[]⟩))
  | _,_=>none
abbrev xM:=FuncId→List V→View→Option V
noncomputable def D9 (P:Program) (tab:List (FuncId × DF)) (ext:xM) (run:wj) (g:FuncId) (vs:List V) (e:ES):Option (V × ES):=match ext g vs e.V with
  | some t=>some (t,⟨e.L,e.H,e.n,[]⟩)
  | none=>match tab.find? (fun p=>Nat.beq p.1 g) with
    | some (_,F)=>O1 run F vs e
    | none=>none
noncomputable def Ec (P:Program) (tab:List (FuncId × DF)) (ext:xM):Nat→wj
  | 0=>fun _ _=>none
  | k+1=>k8 P (D9 P tab ext (Ec P tab ext k)) (Ec P tab ext k)
def AN (all:List Oper) (ls:List Nat):List (Nat × Nat) :=
  let b:=ez all []
  (ls.zipIdx.map fun (x,i)=>(ls.zipIdx.filter fun (y,k)=>decide (i < k) && !(ordered b i k || x == 0 || y == 0 || (decide (x≤1) && decide (y≤1)))).map fun (_,k)=>(i,k)).flatten
def Ez (P:Program) (n:Nat) (fz:List Nat) (ops:List Oper) (draw:Bool):Option DC:=match cY P n ops ⟨fz,false⟩ ops with
  | none=>none
  | some l=>if !(group l).all rU then none else
    if draw then (if kT ops then some (.region (AN ops (l.map fun s=>gZ P false s.b)) (group l)) else none) else some (.region [] (group l))
def hU (P:Program) (n:Nat) (fz:List Nat):Code→Option DC
  | .skip=>some .skip
  | .region _ ops draw=>Ez P n fz ops.toList draw
  | .seq x y=>match hU P n fz x,hU P n fz y with
    | some a,some b=>some (.seq a b)
    | _,_=>none
  | .cond c x y=>match hU P n fz x,hU P n fz y with
    | some a,some b=>some (.cond (SX.of c) a b)
    | _,_=>none
  | .block id c=>(hU P n fz c).map (.block id)
  | .loop c=>(hU P n fz c).map .loop
  | .exit id=>some (.exit id)
  | .ret=>some .ret
  | _=>none
abbrev aw (l:List (Option Nat × SB)):DC:=.region [] [⟨none,l⟩]
def bL (P:Program) (f:FuncId) (fz:List Nat):Option DF:=match P.funcs[f]? with
  | some fn=>match fn.body with
    | some c=>match hU P fn.ntmps fz c,eE P fn.results.toList,cW P f with
      | some sc,some rs,true=>some ⟨sc,rs,fn.ntmps⟩
      | _,_,_=>none
    | none=>none
  | none=>none
end Gv
