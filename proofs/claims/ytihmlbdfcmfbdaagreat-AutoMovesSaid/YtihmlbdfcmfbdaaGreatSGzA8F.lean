/-
  Part 6 of the proof: what the machine does and what the functions answer.
  Conditions: those that each lemma names.
-/
import Derived.Test.YtihmlbdfcmfbdaaGreatSGzA8E
set_option linter.unusedSimpArgs false
set_option linter.unusedVariables false
set_option maxRecDepth 100000
namespace Gv
open Go Go.Proofs
structure Term where
  name:ByteArray
  level:Int
  assoc:Int
structure aL where
  left:Int
  right:List Int
  prec:Int
structure an where
  av:List Term
  az:List ByteArray
  rules:List aL
  start:Int
instance:Inhabited Term:=⟨⟨.empty,0,0⟩⟩
instance:Inhabited aL:=⟨⟨0,[],0⟩⟩
def cX (t:Term):List V:=[gs t.name,gi t.level,gi t.assoc]
def bm (r:aL):List V:=[gi r.left,encI r.right,gi r.prec]
def encS (l:List ByteArray):V:=.aK (l.map fun s=>[gs s])
def aw (g:an):List V:=[.aK (g.av.map cX),encS g.az,.aK (g.rules.map bm),gi g.start]
theorem fD {α:Type} (l:List α) (f:α→List V) (h:∀ x∈l,∀ v∈f x,Tree v):Tree (.aK (l.map f)):=by
  refine .aK _ fun i j hi hj=>?_
  simp only[List.length_map] at hi
  have e:(l.map f).getD i []=f l[i]:=by simp[List.getD_eq_getElem?_getD,hi]
  rw[e] at hj ⊢
  have e2:(f l[i]).getD j .any=(f l[i])[j]:=by simp[List.getD_eq_getElem?_getD,hj]
  rw[e2]
  exact h _ (List.getElem_mem _) _ (List.getElem_mem _)
theorem cI (cs:List V) (h:∀ v∈cs,Tree v):Tree (.agg cs):=by
  refine .agg _ fun i hi=>?_
  have e2:cs.getD i .any=cs[i]:=by simp[List.getD_eq_getElem?_getD,hi]
  rw[e2]; exact h _ (List.getElem_mem _)
theorem ur (l:List ByteArray):Tree (encS l):=fD _ _ fun x _ v hv=>by simp at hv; subst hv; exact .val _
theorem qm (t:Term):∀ v∈cX t,Tree v:=by intro v hv; simp[cX] at hv; rcases hv with rfl | rfl | rfl <;> exact .val _
theorem fS (r:aL):∀ v∈bm r,Tree v:=by
  intro v hv; simp[bm] at hv; rcases hv with rfl | rfl | rfl
  · exact .val _
  · exact iY _
  · exact .val _
theorem dr (g:an):∀ v∈aw g,Tree v:=by
  intro v hv; simp[aw] at hv; rcases hv with rfl | rfl | rfl | rfl
  · exact fD _ _ fun x _=>qm x
  · exact ur _
  · exact fD _ _ fun x _=>fS x
  · exact .val _
def bO (x:Int):Prop:=-9223372036854775808≤x∧x≤9223372036854775807
structure an.Ok (g:an):Prop where
  av:bo g.av
  az:bo g.az
  rules:bo g.rules
  start:bO g.start
  term:∀ t∈g.av,bO t.level∧bO t.assoc
  aD:∀ r∈g.rules,bO r.left∧bO r.prec∧bo r.right∧∀ x∈r.right,bO x
def gY (g:an) (s:Int):Bool:=if 0≤s then decide (s < g.av.length) else decide (-1 - s < g.az.length)
def oy:SF:=⟨.seq (al [b6 2 0,aV 4 false]) <|
  .seq (.seq (al [aa 5 1,ax 6 .geq 5 0]) <|
  .cond (.tmp 6) (.seq (al [aa 7 1,ao 8 0 2,aq 9 8,aM 10 9,aO 11 .lss 7 10,aa 4 11]) <|
  .ret) (.skip)) <|
  .seq (al [aa 12 1,((some 13),.op (.arith .sub (.val (.val (.int .i64 (-1)))) (.tmp 12))),ao 14 1 2,aq 15 14,aM 16 15,aO 17 .lss 13 16,aa 4 17]) <|
  .ret,
  [.tmp 4],18⟩
theorem sW:bh Tryz.prog 155 [2]=some oy:=by kernel_rfl
theorem Ng (g:an) (s:Int) (hs:bO s) (H:View):aA Tryz.prog 155 [.agg (aw g),gi s] H fun r H'=>r=gb (gY g s)∧H'=H:=by
  refine aA.of mixed sW ?_
  obtain ⟨h1,h2⟩:=hs
  simp (disch:=omega) only [↓wr,↓reduceIte,wq,ah,ag,aj,ab,ae,af,ai,isNil,Nat.reduceEqDiff,Nat.reduceAdd,Nat.reduceLT,Nat.reduceLeDiff,Int.reduceNeg,Int.reduceToNat,reduceCtorEq,oy,aw,encS]
  refine au.dec (fun h=>?_) (fun h=>?_)
  · simp (disch:=omega) only [↓wr,↓reduceIte,wq,ah,ag,aj,ab,ae,af,ai,isNil,Nat.reduceEqDiff,Nat.reduceAdd,Nat.reduceLT,Nat.reduceLeDiff,Int.reduceNeg,Int.reduceToNat,reduceCtorEq]
    simp[gY,show (0:Int)≤s from h]
  · simp (disch:=omega) only [↓wr,↓reduceIte,wq,ah,ag,aj,ab,ae,af,ai,isNil,Nat.reduceEqDiff,Nat.reduceAdd,Nat.reduceLT,Nat.reduceLeDiff,Int.reduceNeg,Int.reduceToNat,reduceCtorEq]
    simp[gY,show ¬ (0:Int)≤s from h]
theorem NN (g:an) (s:Int) (hs:bO s):aC Tryz.prog 155 [.agg (aw g),gi s] (gb (gY g s)) :=
  aC.of (by
    intro v hv; simp at hv
    rcases hv with rfl | rfl
    · exact cI _ (dr g)
    · exact .val _) ((Ng g s hs _).mono fun r H' h h' _=>by rw[h.1]; exact .tree _ (.val _))
def lp (g:an):Bool:=decide (40 < g.av.length) || decide (40 < g.az.length) || decide (60 < g.rules.length) || g.rules.any fun r=>decide (20 < r.right.length)
def kE:SC :=
  .seq (.seq (al [aa 20 3,ao 21 2 1,aq 22 21,aM 23 22,aO 24 .lss 20 23]) <|
  .cond (.tmp 24) (.skip) (.exit 0)) <|
  .seq (.block 1 (.seq (al [ao 27 2 1,aq 28 27,aa 29 3,aZ 30 3 28 29,ao 31 1 30,aq 32 31,aM 33 32,ax 34 .gtr 33 20]) <|
  .cond (.tmp 34) (.seq (al [aV 2 true]) <|
  .ret) (.skip))) <|
  al [aa 25 3,ax 26 .add 25 1,aa 3 26]
def mg:SF:=⟨.seq (al [b6 1 0,aV 2 false]) <|
  .seq (.seq (.region false [⟨none,[ao 4 0 1,aq 5 4,aM 6 5,ax 7 .gtr 6 40,aa 8 7]⟩,⟨(some (8,false)),[ao 9 1 1,aq 10 9,aM 11 10,ax 12 .gtr 11 40]⟩,⟨none,[bF 13 8 12,aa 14 13]⟩,⟨(some (14,false)),[ao 15 2 1,aq 16 15,aM 17 16,ax 18 .gtr 17 60]⟩,⟨none,[bF 19 14 18]⟩]) <|
  .cond (.tmp 19) (.seq (al [aV 2 true]) <|
  .ret) (.skip)) <|
  .seq (.seq (al [aF 3 0]) <|
  .block 0 (.loop kE)) <|
  .seq (al [aV 2 false]) <|
  .ret,
  [.tmp 2],35⟩
theorem qU:bh Tryz.prog 16 [1]=some mg:=by kernel_rfl
theorem KQ (g:an) (H:View):aA Tryz.prog 16 [.agg (aw g)] H fun r H'=>r=gb (lp g)∧H'=H:=by
  refine aA.of mixed qU ?_
  simp (disch:=omega) only [↓wr,↓reduceIte,wq,ah,ag,aj,ab,ae,af,ai,isNil,Nat.reduceEqDiff,Nat.reduceAdd,Nat.reduceLT,Nat.reduceLeDiff,Int.reduceNeg,Int.reduceToNat,reduceCtorEq,mg,aw,encS]
  refine au.dec (fun h1=>?_) (fun h1=>?_)
  · simp (disch:=omega) only [↓wr,↓reduceIte,wq,ah,ag,aj,ab,ae,af,ai,isNil,Nat.reduceEqDiff,Nat.reduceAdd,Nat.reduceLT,Nat.reduceLeDiff,Int.reduceNeg,Int.reduceToNat,reduceCtorEq]
    simp[lp,show 40 < g.av.length by omega]
  · simp (disch:=omega) only [↓wr,↓reduceIte,wq,ah,ag,aj,ab,ae,af,ai,isNil,Nat.reduceEqDiff,Nat.reduceAdd,Nat.reduceLT,Nat.reduceLeDiff,Int.reduceNeg,Int.reduceToNat,reduceCtorEq]
    refine au.dec (fun h2=>?_) (fun h2=>?_)
    · simp (disch:=omega) only [↓wr,↓reduceIte,wq,ah,ag,aj,ab,ae,af,ai,isNil,Nat.reduceEqDiff,Nat.reduceAdd,Nat.reduceLT,Nat.reduceLeDiff,Int.reduceNeg,Int.reduceToNat,reduceCtorEq]
      simp[lp,show 40 < g.az.length by omega]
    · simp (disch:=omega) only [↓wr,↓reduceIte,wq,ah,ag,aj,ab,ae,af,ai,isNil,Nat.reduceEqDiff,Nat.reduceAdd,Nat.reduceLT,Nat.reduceLeDiff,Int.reduceNeg,Int.reduceToNat,reduceCtorEq]
      refine au.dec (fun h3=>?_) (fun h3=>?_)
      · simp (disch:=omega) only [↓wr,↓reduceIte,wq,ah,ag,aj,ab,ae,af,ai,isNil,Nat.reduceEqDiff,Nat.reduceAdd,Nat.reduceLT,Nat.reduceLeDiff,Int.reduceNeg,Int.reduceToNat,reduceCtorEq]
        simp[lp,show 60 < g.rules.length by omega]
      · simp (disch:=omega) only [↓wr,↓reduceIte,wq,ah,ag,aj,ab,ae,af,ai,isNil,Nat.reduceEqDiff,Nat.reduceAdd,Nat.reduceLT,Nat.reduceLeDiff,Int.reduceNeg,Int.reduceToNat,reduceCtorEq]
        refine bK.intro (fun k T H'=>∃ i:Nat,i+k=g.rules.length∧(∀ r∈g.rules.take i,¬ 20 < r.right.length)∧T 1=.aU (aw g) 0∧T 3=gi i∧H'=H) g.rules.length ?_ ?_
        · exact ⟨0,by omega,by simp,rfl,rfl,rfl⟩
        · rintro k T H' ⟨i,hk,hi,e1,e3,rfl⟩
          simp (disch:=omega) only [↓wr,↓reduceIte,wq,ah,ag,aj,ab,ae,af,ai,isNil,Nat.reduceEqDiff,Nat.reduceAdd,Nat.reduceLT,Nat.reduceLeDiff,Int.reduceNeg,Int.reduceToNat,reduceCtorEq,kE,e1,e3,aw]
          refine au.dec (fun hc=>?_) (fun hc=>?_)
          · have hg:g.rules[i]?=some (g.rules[i]'(by omega)):=List.getElem?_eq_getElem (by omega)
            simp (disch:=omega) only [↓wr,↓reduceIte,wq,ah,ag,aj,ab,ae,af,ai,isNil,Nat.reduceEqDiff,Nat.reduceAdd,Nat.reduceLT,Nat.reduceLeDiff,Int.reduceNeg,Int.reduceToNat,reduceCtorEq,e1,e3,aw,bm,encI,List.getElem?_map,hg,Option.map_some]
            refine au.dec (fun hd=>?_) (fun hd=>?_)
            · simp (disch:=omega) only [↓wr,↓reduceIte,wq,ah,ag,aj,ab,ae,af,ai,isNil,Nat.reduceEqDiff,Nat.reduceAdd,Nat.reduceLT,Nat.reduceLeDiff,Int.reduceNeg,Int.reduceToNat,reduceCtorEq]
              have:g.rules.any (fun r=>decide (20 < r.right.length))=true:=by
                simp only[List.any_eq_true,decide_eq_true_eq]
                exact ⟨g.rules[i]'(by omega),List.getElem_mem _,by omega⟩
              simp[lp,this]
            · simp (disch:=omega) only [↓wr,↓reduceIte,wq,ah,ag,aj,ab,ae,af,ai,isNil,Nat.reduceEqDiff,Nat.reduceAdd,Nat.reduceLT,Nat.reduceLeDiff,Int.reduceNeg,Int.reduceToNat,reduceCtorEq,e1,e3]
              refine ⟨k - 1,by omega,i+1,by omega,?_,rfl,rfl⟩
              intro r hr
              rw[List.take_add_one,hg] at hr
              simp only[Option.toList_some,List.mem_append,List.mem_singleton] at hr
              rcases hr with hr | rfl
              · exact hi r hr
              · omega
          · simp (disch:=omega) only [↓wr,↓reduceIte,wq,ah,ag,aj,ab,ae,af,ai,isNil,Nat.reduceEqDiff,Nat.reduceAdd,Nat.reduceLT,Nat.reduceLeDiff,Int.reduceNeg,Int.reduceToNat,reduceCtorEq,e1,e3]
            have e:i=g.rules.length:=by omega
            rw[List.take_of_length_le (by omega)] at hi
            have:g.rules.any (fun r=>decide (20 < r.right.length))=false:=by
              simp only[List.any_eq_false,decide_eq_true_eq]; exact hi
            simp only[lp,this]
            simp; omega
def fC (l:List Int) (is:List Bool) (av:Bool):Bool:=l.all fun s=>if 0≤s then av else is.getD (-1 - s).toNat false
abbrev gy (x:Int):V:=.val (.int .u8 x)
def r9 (c:Int):Bool:=(decide (97≤c) && decide (c≤122)) || (decide (65≤c) && decide (c≤90)) || c == 95
def lk (c:Int):Bool:=r9 c || (decide (48≤c) && decide (c≤57)) || c == 46
def l0:SF:=⟨.seq (al [aV 2 false]) <|
  .seq (.region false [⟨none,[aa 3 0,((some 4),.op (.arith .geq (.tmp 3) (.val (.val (.int .u8 97))))),aa 5 4]⟩,⟨(some (5,true)),[aa 6 0,((some 7),.op (.arith .leq (.tmp 6) (.val (.val (.int .u8 122)))))]⟩,⟨none,[bB 8 5 7,aa 9 8]⟩,⟨(some (9,false)),[aa 10 0,((some 11),.op (.arith .geq (.tmp 10) (.val (.val (.int .u8 65))))),aa 12 11]⟩,⟨(some (12,true)),[aa 13 0,((some 14),.op (.arith .leq (.tmp 13) (.val (.val (.int .u8 90)))))]⟩,⟨(some (9,false)),[bB 15 12 14]⟩,⟨none,[bF 16 9 15,aa 17 16]⟩,⟨(some (17,false)),[aa 18 0,((some 19),.op (.arith .eql (.tmp 18) (.val (.val (.int .u8 95)))))]⟩,⟨none,[bF 20 17 19,aa 2 20]⟩]) <|
  .ret,
  [.tmp 2],21⟩
theorem qT:bh Tryz.prog 193 []=some l0:=by kernel_rfl
def mf:SF:=⟨.seq (al [aV 2 false]) <|
  .seq (.region false [⟨none,[aa 3 0,aG 4 193 [3],aa 5 4]⟩,⟨(some (5,false)),[aa 6 0,((some 7),.op (.arith .geq (.tmp 6) (.val (.val (.int .u8 48))))),aa 8 7]⟩,⟨(some (8,true)),[aa 9 0,((some 10),.op (.arith .leq (.tmp 9) (.val (.val (.int .u8 57)))))]⟩,⟨(some (5,false)),[bB 11 8 10]⟩,⟨none,[bF 12 5 11,aa 13 12]⟩,⟨(some (13,false)),[aa 14 0,((some 15),.op (.arith .eql (.tmp 14) (.val (.val (.int .u8 46)))))]⟩,⟨none,[bF 16 13 15,aa 2 16]⟩]) <|
  .ret,
  [.tmp 2],17⟩
theorem q4:bh Tryz.prog 194 []=some mf:=by kernel_rfl
theorem LJ (c:Int) (H:View):aA Tryz.prog 193 [gy c] H fun r H'=>r=gb (r9 c)∧H'=H:=by
  refine aA.of mixed qT ?_
  repeat' (first | (refine au.dec (fun _=>?_) (fun _=>?_)) | (refine au.eq (fun _=>?_) (fun _=>?_)) | (refine au.ne (fun _=>?_) (fun _=>?_)) | (refine au.split (fun _=>?_) (fun _=>?_)) | (simp (disch:=omega) only [↓wr,↓reduceIte,wq,ah,ag,aj,ab,ae,af,ai,isNil,Nat.reduceEqDiff,Nat.reduceAdd,Nat.reduceLT,Nat.reduceLeDiff,Int.reduceNeg,Int.reduceToNat,reduceCtorEq,l0]))
  all_goals (congr 2; simp only[r9]; grind)
theorem CQ (c:Int):aC Tryz.prog 193 [gy c] (gb (r9 c)) :=
  aC.of (by intro v hv; simp at hv; subst hv; exact .val _) ((LJ c _).mono fun r H' h h' _=>by rw[h.1]; exact .tree _ (.val _))
theorem Lz (c:Int) (H:View):aA Tryz.prog 194 [gy c] H fun r H'=>r=gb (lk c)∧H'=H:=by
  refine aA.of mixed q4 ?_
  repeat' (first | (refine au.dec (fun _=>?_) (fun _=>?_)) | (refine au.eq (fun _=>?_) (fun _=>?_)) | (refine au.ne (fun _=>?_) (fun _=>?_)) | (refine au.split (fun _=>?_) (fun _=>?_)) | (simp (disch:=omega) only [↓wr,↓reduceIte,wq,ah,ag,aj,ab,ae,af,ai,isNil,Nat.reduceEqDiff,Nat.reduceAdd,Nat.reduceLT,Nat.reduceLeDiff,Int.reduceNeg,Int.reduceToNat,reduceCtorEq,mf]))
  refine aE.pure (CQ c) (by kernel_rfl) ?_
  repeat' (first | (refine au.dec (fun _=>?_) (fun _=>?_)) | (refine au.eq (fun _=>?_) (fun _=>?_)) | (refine au.ne (fun _=>?_) (fun _=>?_)) | (refine au.split (fun _=>?_) (fun _=>?_)) | (simp (disch:=omega) only [↓wr,↓reduceIte,wq,ah,ag,aj,ab,ae,af,ai,isNil,Nat.reduceEqDiff,Nat.reduceAdd,Nat.reduceLT,Nat.reduceLeDiff,Int.reduceNeg,Int.reduceToNat,reduceCtorEq]))
  all_goals (congr 2; simp only[lk]; grind)
theorem KN (c:Int):aC Tryz.prog 194 [gy c] (gb (lk c)) :=
  aC.of (by intro v hv; simp at hv; subst hv; exact .val _) ((Lz c _).mono fun r H' h h' _=>by rw[h.1]; exact .tree _ (.val _))
def fc (l:List Int):Bool:=decide (0 < l.length) && decide (l.length≤20) && (match l with | c :: _=>r9 c | []=>false) && l.all lk
def lf:SC :=
  .seq (.seq (al [aa 18 3,aa 19 0,((some 20),.op (.gG (.tmp 19))),aO 21 .lss 18 20]) <|
  .cond (.tmp 21) (.skip) (.exit 0)) <|
  .seq (.block 1 (.seq (al [aa 24 0,aa 25 3,((some 26),.op (.c7 (.tmp 24) (.tmp 25))),aG 27 194 [26],cb 28 27]) <|
  .cond (.tmp 28) (.seq (al [aV 2 false]) <|
  .ret) (.skip))) <|
  al [aa 22 3,ax 23 .add 22 1,aa 3 23]
def nO:SF:=⟨.seq (al [aV 2 false]) <|
  .seq (.seq (.region false [⟨none,[aa 4 0,((some 5),.op (.gG (.tmp 4))),ax 6 .eql 5 0,aa 7 6]⟩,⟨(some (7,false)),[aa 8 0,((some 9),.op (.gG (.tmp 8))),ax 10 .gtr 9 20]⟩,⟨none,[bF 11 7 10,aa 12 11]⟩,⟨(some (12,false)),[aa 13 0,((some 14),.op (.c7 (.tmp 13) (.val (.val (.int .i64 0))))),aG 15 193 [14],cb 16 15]⟩,⟨none,[bF 17 12 16]⟩]) <|
  .cond (.tmp 17) (.seq (al [aV 2 false]) <|
  .ret) (.skip)) <|
  .seq (.seq (al [aF 3 0]) <|
  .block 0 (.loop lf)) <|
  .seq (al [aV 2 true]) <|
  .ret,
  [.tmp 2],29⟩
theorem rK:bh Tryz.prog 154 []=some nO:=by kernel_rfl
theorem JK (s:ByteArray) (H:View):aA Tryz.prog 154 [gs s] H fun r H'=>r=gb (fc (eh s))∧H'=H:=by
  refine aA.of mixed rK ?_
  repeat' (first | (refine au.dec (fun _=>?_) (fun _=>?_)) | (refine au.eq (fun _=>?_) (fun _=>?_)) | (refine au.ne (fun _=>?_) (fun _=>?_)) | (refine au.split (fun _=>?_) (fun _=>?_)) | (simp (disch:=omega) only [↓wr,↓reduceIte,wq,ah,ag,aj,ab,ae,af,ai,isNil,Nat.reduceEqDiff,Nat.reduceAdd,Nat.reduceLT,Nat.reduceLeDiff,Int.reduceNeg,Int.reduceToNat,reduceCtorEq,nO,dG]))
  · rename_i h
    congr 2; simp[fc,show (eh s).length=0 by omega]
  · rename_i h
    congr 2; simp[fc,show ¬ (eh s).length≤20 by omega]
  · rename_i h1 h2
    cases hb:eh s with
    | nil=>simp[hb] at h1
    | cons c l =>
      repeat' (first | (refine au.dec (fun _=>?_) (fun _=>?_)) | (refine au.eq (fun _=>?_) (fun _=>?_)) | (refine au.ne (fun _=>?_) (fun _=>?_)) | (refine au.split (fun _=>?_) (fun _=>?_)) | (simp (disch:=omega) only [↓wr,↓reduceIte,wq,ah,ag,aj,ab,ae,af,ai,isNil,Nat.reduceEqDiff,Nat.reduceAdd,Nat.reduceLT,Nat.reduceLeDiff,Int.reduceNeg,Int.reduceToNat,reduceCtorEq,hb,List.getElem?_cons_zero,dG]))
      refine aE.pure (CQ c) (by kernel_rfl) ?_
      repeat' (first | (refine au.dec (fun _=>?_) (fun _=>?_)) | (refine au.eq (fun _=>?_) (fun _=>?_)) | (refine au.ne (fun _=>?_) (fun _=>?_)) | (refine au.split (fun _=>?_) (fun _=>?_)) | (simp (disch:=omega) only [↓wr,↓reduceIte,wq,ah,ag,aj,ab,ae,af,ai,isNil,Nat.reduceEqDiff,Nat.reduceAdd,Nat.reduceLT,Nat.reduceLeDiff,Int.reduceNeg,Int.reduceToNat,reduceCtorEq,hb,List.getElem?_cons_zero,dG]))
      · rename_i hf
        refine bK.intro (fun k T H'=>∃ i:Nat,i+k=(c :: l).length∧((c :: l).take i).all lk=true∧T 0=gs s∧T 3=gi i∧H'=H) (c :: l).length ?_ ?_
        · exact ⟨0,by omega,by simp,rfl,rfl,rfl⟩
        · rintro k T H' ⟨i,hk,hi,h0,h3,rfl⟩
          rw[hb] at h1 h2
          simp (disch:=omega) only [↓wr,↓reduceIte,wq,ah,ag,aj,ab,ae,af,ai,isNil,Nat.reduceEqDiff,Nat.reduceAdd,Nat.reduceLT,Nat.reduceLeDiff,Int.reduceNeg,Int.reduceToNat,reduceCtorEq,lf,h0,h3,dG,hb]
          refine au.dec (fun hc=>?_) (fun hc=>?_)
          · simp only[List.length_cons] at hc hk h2
            have hg:(c :: l)[i]?=some ((c :: l)[i]'(by simp; omega)):=List.getElem?_eq_getElem (by simp; omega)
            have hm:(c :: l)[i]'(by simp; omega)∈c :: l:=List.getElem_mem _
            generalize (c :: l)[i]'(by simp; omega)=d at hg hm
            simp (disch:=omega) only [↓wr,↓reduceIte,wq,ah,ag,aj,ab,ae,af,ai,isNil,Nat.reduceEqDiff,Nat.reduceAdd,Nat.reduceLT,Nat.reduceLeDiff,Int.reduceNeg,Int.reduceToNat,reduceCtorEq,h0,h3,dG,hb,hg]
            refine aE.pure (KN d) (by kernel_rfl) ?_
            repeat' (first | (refine au.dec (fun _=>?_) (fun _=>?_)) | (refine au.eq (fun _=>?_) (fun _=>?_)) | (refine au.ne (fun _=>?_) (fun _=>?_)) | (refine au.split (fun _=>?_) (fun _=>?_)) | (simp (disch:=omega) only [↓wr,↓reduceIte,wq,ah,ag,aj,ab,ae,af,ai,isNil,Nat.reduceEqDiff,Nat.reduceAdd,Nat.reduceLT,Nat.reduceLeDiff,Int.reduceNeg,Int.reduceToNat,reduceCtorEq,h0,h3,dG,hb,hg]))
            · rename_i hd
              refine ⟨k - 1,by omega,i+1,by omega,?_,rfl⟩
              rw[List.take_add_one,hg]
              simp only[Option.toList_some,List.all_append,hi,List.all_cons,hd,List.all_nil,Bool.and_self]
            · rename_i hd
              congr 2
              have:(c :: l).all lk=false:=by
                rw[List.all_eq_false]; exact ⟨d,hm,by simp[hd]⟩
              simp only[fc,this,Bool.and_false]
          · simp (disch:=omega) only [↓wr,↓reduceIte,wq,ah,ag,aj,ab,ae,af,ai,isNil,Nat.reduceEqDiff,Nat.reduceAdd,Nat.reduceLT,Nat.reduceLeDiff,Int.reduceNeg,Int.reduceToNat,reduceCtorEq,h0,h3]
            simp only[List.length_cons] at hc hk h2
            rw[List.take_of_length_le (by simp; omega)] at hi
            congr 2
            simp only[fc,hi,List.length_cons]
            simp[hf]; omega
      · rename_i hf
        congr 2; simp[fc,hf]
def ky:List Int→Bool
  | [a,b,c]=>a == 39 && c == 39 && decide (32≤b) && decide (b≤126) && b != 39 && b != 92
  | [a,b,c,d]=>a == 39 && d == 39 && b == 92 && (c == 110 || c == 116 || c == 92 || c == 39)
  | _=>false
theorem Lh {l:List Int} (h3:l.length≠3) (h4:l.length≠4):ky l=false:=by
  match l,h3,h4 with
  | [],_,_=>rfl
  | [_],_,_=>rfl
  | [_,_],_,_=>rfl
  | [_,_,_],h3,_=>exact absurd rfl h3
  | [_,_,_,_],_,h4=>exact absurd rfl h4
  | _ :: _ :: _ :: _ :: _ :: _,_,_=>rfl
theorem Oy {α:Type} {l:List α} (h:l.length=3):∃ a b c,l=[a,b,c]:=by
  match l,h with
  | [a,b,c],_=>exact ⟨a,b,c,rfl⟩
theorem O3 {α:Type} {l:List α} (h:l.length=4):∃ a b c d,l=[a,b,c,d]:=by
  match l,h with
  | [a,b,c,d],_=>exact ⟨a,b,c,d,rfl⟩
def kA:SF:=⟨.seq (al [aV 2 false]) <|
  .seq (.seq (al [aa 3 0,((some 4),.op (.gG (.tmp 3))),ax 5 .eql 4 3]) <|
  .cond (.tmp 5) (.seq (.region false [⟨none,[aa 6 0,((some 7),.op (.c7 (.tmp 6) (.val (.val (.int .i64 0))))),((some 8),.op (.arith .eql (.tmp 7) (.val (.val (.int .u8 39))))),aa 9 8]⟩,⟨(some (9,true)),[aa 10 0,((some 11),.op (.c7 (.tmp 10) (.val (.val (.int .i64 2))))),((some 12),.op (.arith .eql (.tmp 11) (.val (.val (.int .u8 39)))))]⟩,⟨none,[bB 13 9 12,aa 14 13]⟩,⟨(some (14,true)),[aa 15 0,((some 16),.op (.c7 (.tmp 15) (.val (.val (.int .i64 1))))),((some 17),.op (.arith .geq (.tmp 16) (.val (.val (.int .u8 32)))))]⟩,⟨none,[bB 18 14 17,aa 19 18]⟩,⟨(some (19,true)),[aa 20 0,((some 21),.op (.c7 (.tmp 20) (.val (.val (.int .i64 1))))),((some 22),.op (.arith .leq (.tmp 21) (.val (.val (.int .u8 126)))))]⟩,⟨none,[bB 23 19 22,aa 24 23]⟩,⟨(some (24,true)),[aa 25 0,((some 26),.op (.c7 (.tmp 25) (.val (.val (.int .i64 1))))),((some 27),.op (.arith .neq (.tmp 26) (.val (.val (.int .u8 39)))))]⟩,⟨none,[bB 28 24 27,aa 29 28]⟩,⟨(some (29,true)),[aa 30 0,((some 31),.op (.c7 (.tmp 30) (.val (.val (.int .i64 1))))),((some 32),.op (.arith .neq (.tmp 31) (.val (.val (.int .u8 92)))))]⟩,⟨none,[bB 33 29 32,aa 2 33]⟩]) <|
  .ret) (.skip)) <|
  .seq (.region false [⟨none,[aa 34 0,((some 35),.op (.gG (.tmp 34))),ax 36 .eql 35 4,aa 37 36]⟩,⟨(some (37,true)),[aa 38 0,((some 39),.op (.c7 (.tmp 38) (.val (.val (.int .i64 0))))),((some 40),.op (.arith .eql (.tmp 39) (.val (.val (.int .u8 39)))))]⟩,⟨none,[bB 41 37 40,aa 42 41]⟩,⟨(some (42,true)),[aa 43 0,((some 44),.op (.c7 (.tmp 43) (.val (.val (.int .i64 3))))),((some 45),.op (.arith .eql (.tmp 44) (.val (.val (.int .u8 39)))))]⟩,⟨none,[bB 46 42 45,aa 47 46]⟩,⟨(some (47,true)),[aa 48 0,((some 49),.op (.c7 (.tmp 48) (.val (.val (.int .i64 1))))),((some 50),.op (.arith .eql (.tmp 49) (.val (.val (.int .u8 92)))))]⟩,⟨none,[bB 51 47 50,aa 52 51]⟩,⟨(some (52,true)),[aa 53 0,((some 54),.op (.c7 (.tmp 53) (.val (.val (.int .i64 2))))),((some 55),.op (.arith .eql (.tmp 54) (.val (.val (.int .u8 110))))),aa 56 55]⟩,⟨(some (56,false)),[aa 57 0,((some 58),.op (.c7 (.tmp 57) (.val (.val (.int .i64 2))))),((some 59),.op (.arith .eql (.tmp 58) (.val (.val (.int .u8 116)))))]⟩,⟨(some (52,true)),[bF 60 56 59,aa 61 60]⟩,⟨(some (61,false)),[aa 62 0,((some 63),.op (.c7 (.tmp 62) (.val (.val (.int .i64 2))))),((some 64),.op (.arith .eql (.tmp 63) (.val (.val (.int .u8 92)))))]⟩,⟨(some (52,true)),[bF 65 61 64,aa 66 65]⟩,⟨(some (66,false)),[aa 67 0,((some 68),.op (.c7 (.tmp 67) (.val (.val (.int .i64 2))))),((some 69),.op (.arith .eql (.tmp 68) (.val (.val (.int .u8 39)))))]⟩,⟨(some (52,true)),[bF 70 66 69]⟩,⟨none,[bB 71 52 70,aa 2 71]⟩]) <|
  .ret,
  [.tmp 2],72⟩
theorem pD:bh Tryz.prog 192 []=some kA:=by kernel_rfl
def l8:SF:=⟨.seq (al [aV 2 false]) <|
  .seq (.region false [⟨none,[aa 3 0,aG 4 154 [3],aa 5 4]⟩,⟨(some (5,false)),[aa 6 0,aG 7 192 [6]]⟩,⟨none,[bF 8 5 7,aa 2 8]⟩]) <|
  .ret,
  [.tmp 2],9⟩
theorem q7:bh Tryz.prog 151 []=some l8:=by kernel_rfl
set_option maxHeartbeats 1000000 in
theorem LI (s:ByteArray) (H:View):aA Tryz.prog 192 [gs s] H fun r H'=>r=gb (ky (eh s))∧H'=H:=by
  refine aA.of mixed pD ?_
  simp (disch:=omega) only [↓wr,↓reduceIte,wq,ah,ag,aj,ab,ae,af,ai,isNil,Nat.reduceEqDiff,Nat.reduceAdd,Nat.reduceLT,Nat.reduceLeDiff,Int.reduceNeg,Int.reduceToNat,reduceCtorEq,kA,dG]
  refine au.eq (fun h=>?_) (fun h=>?_)
  · obtain ⟨a,b,c,hb⟩:=Oy (l:=eh s) (by omega)
    repeat' (first | (refine au.dec (fun _=>?_) (fun _=>?_)) | (refine au.eq (fun _=>?_) (fun _=>?_)) | (refine au.ne (fun _=>?_) (fun _=>?_)) | (refine au.split (fun _=>?_) (fun _=>?_)) | (simp (disch:=omega) only [↓wr,↓reduceIte,wq,ah,ag,aj,ab,ae,af,ai,isNil,Nat.reduceEqDiff,Nat.reduceAdd,Nat.reduceLT,Nat.reduceLeDiff,Int.reduceNeg,Int.reduceToNat,reduceCtorEq,hb,List.getElem?_cons_zero,List.getElem?_cons_succ]))
    all_goals (congr 2; simp only[ky]; grind)
  · simp (disch:=omega) only [↓wr,↓reduceIte,wq,ah,ag,aj,ab,ae,af,ai,isNil,Nat.reduceEqDiff,Nat.reduceAdd,Nat.reduceLT,Nat.reduceLeDiff,Int.reduceNeg,Int.reduceToNat,reduceCtorEq,dG]
    refine au.eq (fun h4=>?_) (fun h4=>?_)
    · obtain ⟨a,b,c,d,hb⟩:=O3 (l:=eh s) (by omega)
      repeat' (first | (refine au.dec (fun _=>?_) (fun _=>?_)) | (refine au.eq (fun _=>?_) (fun _=>?_)) | (refine au.ne (fun _=>?_) (fun _=>?_)) | (refine au.split (fun _=>?_) (fun _=>?_)) | (simp (disch:=omega) only [↓wr,↓reduceIte,wq,ah,ag,aj,ab,ae,af,ai,isNil,Nat.reduceEqDiff,Nat.reduceAdd,Nat.reduceLT,Nat.reduceLeDiff,Int.reduceNeg,Int.reduceToNat,reduceCtorEq,hb,List.getElem?_cons_zero,List.getElem?_cons_succ]))
      all_goals (congr 2; simp only[ky]; grind)
    · repeat' (first | (refine au.dec (fun _=>?_) (fun _=>?_)) | (refine au.eq (fun _=>?_) (fun _=>?_)) | (refine au.ne (fun _=>?_) (fun _=>?_)) | (refine au.split (fun _=>?_) (fun _=>?_)) | (simp (disch:=omega) only [↓wr,↓reduceIte,wq,ah,ag,aj,ab,ae,af,ai,isNil,Nat.reduceEqDiff,Nat.reduceAdd,Nat.reduceLT,Nat.reduceLeDiff,Int.reduceNeg,Int.reduceToNat,reduceCtorEq,dG]))
      rw[Lh (by omega) (by omega)]
theorem mJ (s:ByteArray):∀ v∈[gs s],Tree v:=by intro v hv; simp at hv; subst hv; exact .val _
theorem AX (s:ByteArray):aC Tryz.prog 154 [gs s] (gb (fc (eh s))) :=
  aC.of (mJ s) ((JK s _).mono fun r H' h h' _=>by rw[h.1]; exact .tree _ (.val _))
theorem KX (s:ByteArray):aC Tryz.prog 192 [gs s] (gb (ky (eh s))) :=
  aC.of (mJ s) ((LI s _).mono fun r H' h h' _=>by rw[h.1]; exact .tree _ (.val _))
def nk (l:List Int):Bool:=fc l || ky l
theorem Hc (s:ByteArray) (H:View):aA Tryz.prog 151 [gs s] H fun r H'=>r=gb (nk (eh s))∧H'=H:=by
  refine aA.of mixed q7 ?_
  simp (disch:=omega) only [↓wr,↓reduceIte,wq,ah,ag,aj,ab,ae,af,ai,isNil,Nat.reduceEqDiff,Nat.reduceAdd,Nat.reduceLT,Nat.reduceLeDiff,Int.reduceNeg,Int.reduceToNat,reduceCtorEq,l8]
  refine aE.pure (AX s) (by kernel_rfl) ?_
  repeat' (first | (refine au.dec (fun _=>?_) (fun _=>?_)) | (refine au.eq (fun _=>?_) (fun _=>?_)) | (refine au.ne (fun _=>?_) (fun _=>?_)) | (refine au.split (fun _=>?_) (fun _=>?_)) | (simp (disch:=omega) only [↓wr,↓reduceIte,wq,ah,ag,aj,ab,ae,af,ai,isNil,Nat.reduceEqDiff,Nat.reduceAdd,Nat.reduceLT,Nat.reduceLeDiff,Int.reduceNeg,Int.reduceToNat,reduceCtorEq]))
  · rename_i h; simp[nk,h]
  · rename_i h
    refine aE.pure (KX s) (by kernel_rfl) ?_
    repeat' (first | (refine au.dec (fun _=>?_) (fun _=>?_)) | (refine au.eq (fun _=>?_) (fun _=>?_)) | (refine au.ne (fun _=>?_) (fun _=>?_)) | (refine au.split (fun _=>?_) (fun _=>?_)) | (simp (disch:=omega) only [↓wr,↓reduceIte,wq,ah,ag,aj,ab,ae,af,ai,isNil,Nat.reduceEqDiff,Nat.reduceAdd,Nat.reduceLT,Nat.reduceLeDiff,Int.reduceNeg,Int.reduceToNat,reduceCtorEq]))
    simp[nk,h]
theorem HU (s:ByteArray):aC Tryz.prog 151 [gs s] (gb (nk (eh s))) :=
  aC.of (mJ s) ((Hc s _).mono fun r H' h h' _=>by rw[h.1]; exact .tree _ (.val _))
def lg (s:ByteArray):List ByteArray→Int→Int
  | [],_=>-1
  | x :: l,i=>if gB x s=true then i else lg s l (i+1)
def kf (g:an) (s:ByteArray):Int:=lg s (g.av.map Term.name) 0
def vo (g:an) (s:ByteArray):Int:=lg s g.az 0
theorem fv {α:Type} {l:List α} {i:Nat} (h:i < l.length):l.drop i=l[i] :: l.drop (i+1):=List.drop_eq_getElem_cons h
theorem CO (g:an) (s:ByteArray):∀ v∈[V.agg (aw g),gs s],Tree v:=by
  intro v hv; simp at hv
  rcases hv with rfl | rfl
  · exact cI _ (dr g)
  · exact .val _
theorem iC (g:an):∀ v∈[V.agg (aw g)],Tree v:=by intro v hv; simp at hv; subst hv; exact cI _ (dr g)
theorem EV (g:an) (x:Int):∀ v∈[V.agg (aw g),gi x],Tree v:=by
  intro v hv; simp at hv
  rcases hv with rfl | rfl
  · exact cI _ (dr g)
  · exact .val _
theorem aC.val {P:Program} {f:FuncId} {vs:List V} {x:Value} (ht:∀ v∈vs,Tree v) (h:∀ H,aA P f vs H fun r _=>r=.val x):aC P f vs (.val x) :=
  aC.of ht ((h _).mono fun r H' e h' _=>by rw[e]; exact .tree _ (.val _))
def lC:SC :=
  .seq (.seq (al [aa 6 5,ao 7 0 2,aq 8 7,aM 9 8,aO 10 .lss 6 9]) <|
  .cond (.tmp 10) (.skip) (.exit 0)) <|
  .seq (.block 1 (.seq (al [ao 13 0 2,aq 14 13,aa 15 5,aZ 16 3 14 15,ao 17 0 16,aq 18 17,aa 19 1,((some 20),.op (.iO .eql (.tmp 18) (.tmp 19)))]) <|
  .cond (.tmp 20) (.seq (al [aa 21 5,aa 4 21]) <|
  .ret) (.skip))) <|
  al [aa 11 5,ax 12 .add 11 1,aa 5 12]
def nr:SF:=⟨.seq (al [b6 2 0,aF 4 0]) <|
  .seq (.seq (al [aF 5 0]) <|
  .block 0 (.loop lC)) <|
  .seq (al [aF 4 (-1)]) <|
  .ret,
  [.tmp 4],22⟩
theorem rV:bh Tryz.prog 152 [2]=some nr:=by kernel_rfl
def lY:SC :=
  .seq (.seq (al [aa 6 5,ao 7 1 2,aq 8 7,aM 9 8,aO 10 .lss 6 9]) <|
  .cond (.tmp 10) (.skip) (.exit 0)) <|
  .seq (.block 1 (.seq (al [ao 13 1 2,aq 14 13,aa 15 5,aZ 16 1 14 15,aq 17 16,aa 18 1,((some 19),.op (.iO .eql (.tmp 17) (.tmp 18)))]) <|
  .cond (.tmp 19) (.seq (al [aa 20 5,aa 4 20]) <|
  .ret) (.skip))) <|
  al [aa 11 5,ax 12 .add 11 1,aa 5 12]
def ov:SF:=⟨.seq (al [b6 2 0,aF 4 0]) <|
  .seq (.seq (al [aF 5 0]) <|
  .block 0 (.loop lY)) <|
  .seq (al [aF 4 (-1)]) <|
  .ret,
  [.tmp 4],21⟩
theorem tB:bh Tryz.prog 139 [2]=some ov:=by kernel_rfl
def kD:SC :=
  .seq (.seq (al [aa 8 6,ao 9 0 2,aq 10 9,aM 11 10,aO 12 .lss 8 11]) <|
  .cond (.tmp 12) (.skip) (.exit 0)) <|
  .seq (.block 1 (.seq (.region false [⟨none,[ao 15 0 2,aq 16 15,aa 17 6,aZ 18 3 16 17,aH 19 3 18,((some 7),.op (.alloc [(.val (.string ⟨#[]⟩)),(.val (.int .i64 0)),(.val (.int .i64 0))])),(none,.op (.store 3 (.tmp 7) (.tmp 19)))]⟩]) <|
  .seq (.seq (al [ao 20 1 7,aq 21 20,aa 22 1,aO 23 .neq 21 22]) <|
  .cond (.tmp 23) (.exit 1) (.skip)) <|
  .seq (.seq (.region false [⟨none,[aa 24 5,ax 25 .neq 24 0,aa 26 25]⟩,⟨(some (26,true)),[aa 27 5,ao 28 2 7,aq 29 28,aO 30 .neq 27 29]⟩,⟨none,[bB 31 26 30]⟩]) <|
  .cond (.tmp 31) (.seq (al [aV 4 false]) <|
  .ret) (.skip)) <|
  al [ao 32 2 7,aq 33 32,aa 5 33])) <|
  al [aa 13 6,ax 14 .add 13 1,aa 6 14]
def mc:SF:=⟨.seq (al [b6 2 0,aV 4 false]) <|
  .seq (al [aF 5 0]) <|
  .seq (.seq (al [aF 6 0]) <|
  .block 0 (.loop kD)) <|
  .seq (al [aa 34 5,ax 35 .neq 34 0,aa 4 35]) <|
  .ret,
  [.tmp 4],36⟩
theorem qE:bh Tryz.prog 153 [2]=some mc:=by kernel_rfl
theorem Iw (g:an) (hg:g.Ok) (s:ByteArray) (H:View):aA Tryz.prog 152 [.agg (aw g),gs s] H fun r _=>r=gi (kf g s):=by
  refine aA.of mixed rV ?_
  have hs:g.av.length < 4611686018427387904:=hg.av
  simp (disch:=omega) only [↓wr,↓reduceIte,wq,ah,ag,aj,ab,ae,af,ai,isNil,Nat.reduceEqDiff,Nat.reduceAdd,Nat.reduceLT,Nat.reduceLeDiff,Int.reduceNeg,Int.reduceToNat,reduceCtorEq,nr,aw,encS]
  refine bK.intro (fun k T _=>∃ i:Nat,i+k=g.av.length∧lg s ((g.av.drop i).map Term.name) i=kf g s∧T 1=gs s∧T 2=.aU (aw g) 0∧T 5=gi i) g.av.length ?_ ?_
  · exact ⟨0,by omega,rfl,rfl,rfl,rfl⟩
  · rintro k T H' ⟨i,hk,hi,h1,h2,h5⟩
    simp (disch:=omega) only [↓wr,↓reduceIte,wq,ah,ag,aj,ab,ae,af,ai,isNil,Nat.reduceEqDiff,Nat.reduceAdd,Nat.reduceLT,Nat.reduceLeDiff,Int.reduceNeg,Int.reduceToNat,reduceCtorEq,lC,h1,h2,h5,aw]
    refine au.dec (fun hc=>?_) (fun hc=>?_)
    · have hg2:g.av[i]?=some (g.av[i]'(by omega)):=List.getElem?_eq_getElem (by omega)
      rw[fv (show i < g.av.length by omega)] at hi
      generalize g.av[i]'(by omega)=t at hg2 hi
      simp only[List.map_cons,lg] at hi
      simp (disch:=omega) only [↓wr,↓reduceIte,wq,ah,ag,aj,ab,ae,af,ai,isNil,Nat.reduceEqDiff,Nat.reduceAdd,Nat.reduceLT,Nat.reduceLeDiff,Int.reduceNeg,Int.reduceToNat,reduceCtorEq,h1,h2,h5,aw,cX,List.getElem?_map,hg2,Option.map_some]
      refine au.split (fun hd=>?_) (fun hd=>?_)
      · rw[if_pos hd] at hi
        simp (disch:=omega) only [↓wr,↓reduceIte,wq,ah,ag,aj,ab,ae,af,ai,isNil,Nat.reduceEqDiff,Nat.reduceAdd,Nat.reduceLT,Nat.reduceLeDiff,Int.reduceNeg,Int.reduceToNat,reduceCtorEq,h1,h2,h5]
        rw[hi]
      · rw[hd,if_neg (by simp)] at hi
        simp (disch:=omega) only [↓wr,↓reduceIte,wq,ah,ag,aj,ab,ae,af,ai,isNil,Nat.reduceEqDiff,Nat.reduceAdd,Nat.reduceLT,Nat.reduceLeDiff,Int.reduceNeg,Int.reduceToNat,reduceCtorEq,h1,h2,h5]
        exact ⟨k - 1,by omega,i+1,by omega,by push_cast; exact hi,rfl,rfl⟩
    · rw[List.drop_eq_nil_of_le (by omega)] at hi
      simp only[List.map_nil,lg] at hi
      simp (disch:=omega) only [↓wr,↓reduceIte,wq,ah,ag,aj,ab,ae,af,ai,isNil,Nat.reduceEqDiff,Nat.reduceAdd,Nat.reduceLT,Nat.reduceLeDiff,Int.reduceNeg,Int.reduceToNat,reduceCtorEq,h1,h2,h5]
      rw[hi]
theorem Bf (g:an) (hg:g.Ok) (s:ByteArray):aC Tryz.prog 152 [.agg (aw g),gs s] (gi (kf g s)):=aC.val (CO g s) (Iw g hg s)
theorem KD (g:an) (hg:g.Ok) (s:ByteArray) (H:View):aA Tryz.prog 139 [.agg (aw g),gs s] H fun r _=>r=gi (vo g s):=by
  refine aA.of mixed tB ?_
  have hs:g.az.length < 4611686018427387904:=hg.az
  simp (disch:=omega) only [↓wr,↓reduceIte,wq,ah,ag,aj,ab,ae,af,ai,isNil,Nat.reduceEqDiff,Nat.reduceAdd,Nat.reduceLT,Nat.reduceLeDiff,Int.reduceNeg,Int.reduceToNat,reduceCtorEq,ov,aw,encS]
  refine bK.intro (fun k T _=>∃ i:Nat,i+k=g.az.length∧lg s (g.az.drop i) i=vo g s∧T 1=gs s∧T 2=.aU (aw g) 0∧T 5=gi i) g.az.length ?_ ?_
  · exact ⟨0,by omega,rfl,rfl,rfl,rfl⟩
  · rintro k T H' ⟨i,hk,hi,h1,h2,h5⟩
    simp (disch:=omega) only [↓wr,↓reduceIte,wq,ah,ag,aj,ab,ae,af,ai,isNil,Nat.reduceEqDiff,Nat.reduceAdd,Nat.reduceLT,Nat.reduceLeDiff,Int.reduceNeg,Int.reduceToNat,reduceCtorEq,lY,h1,h2,h5,aw,encS]
    refine au.dec (fun hc=>?_) (fun hc=>?_)
    · have hg2:g.az[i]?=some (g.az[i]'(by omega)):=List.getElem?_eq_getElem (by omega)
      rw[fv (show i < g.az.length by omega)] at hi
      generalize g.az[i]'(by omega)=t at hg2 hi
      simp only[List.map_cons,lg] at hi
      simp (disch:=omega) only [↓wr,↓reduceIte,wq,ah,ag,aj,ab,ae,af,ai,isNil,Nat.reduceEqDiff,Nat.reduceAdd,Nat.reduceLT,Nat.reduceLeDiff,Int.reduceNeg,Int.reduceToNat,reduceCtorEq,h1,h2,h5,aw,encS,List.getElem?_map,hg2,Option.map_some]
      refine au.split (fun hd=>?_) (fun hd=>?_)
      · rw[if_pos hd] at hi
        simp (disch:=omega) only [↓wr,↓reduceIte,wq,ah,ag,aj,ab,ae,af,ai,isNil,Nat.reduceEqDiff,Nat.reduceAdd,Nat.reduceLT,Nat.reduceLeDiff,Int.reduceNeg,Int.reduceToNat,reduceCtorEq,h1,h2,h5]
        rw[hi]
      · rw[hd,if_neg (by simp)] at hi
        simp (disch:=omega) only [↓wr,↓reduceIte,wq,ah,ag,aj,ab,ae,af,ai,isNil,Nat.reduceEqDiff,Nat.reduceAdd,Nat.reduceLT,Nat.reduceLeDiff,Int.reduceNeg,Int.reduceToNat,reduceCtorEq,h1,h2,h5]
        exact ⟨k - 1,by omega,i+1,by omega,by push_cast; exact hi,rfl,rfl⟩
    · rw[List.drop_eq_nil_of_le (by omega)] at hi
      simp only[List.map_nil,lg] at hi
      simp (disch:=omega) only [↓wr,↓reduceIte,wq,ah,ag,aj,ab,ae,af,ai,isNil,Nat.reduceEqDiff,Nat.reduceAdd,Nat.reduceLT,Nat.reduceLeDiff,Int.reduceNeg,Int.reduceToNat,reduceCtorEq,h1,h2,h5]
      rw[hi]
theorem KC (g:an) (hg:g.Ok) (s:ByteArray):aC Tryz.prog 139 [.agg (aw g),gs s] (gi (vo g s)):=aC.val (CO g s) (KD g hg s)
def gS (n:Int):List Term→Int→Option Int
  | [],way=>some way
  | t :: r,way=>if t.level=n then (if way≠0∧way≠t.assoc then none else gS n r t.assoc) else gS n r way
def fG (l:List Term) (n:Int):Bool:=match gS n l 0 with
  | some w=>w != 0
  | none=>false
theorem HK (g:an) (hg:g.Ok) (n:Int) (H:View):aA Tryz.prog 153 [.agg (aw g),gi n] H fun r _=>r=gb (fG g.av n):=by
  refine aA.of mixed qE ?_
  have hs:g.av.length < 4611686018427387904:=hg.av
  simp (disch:=omega) only [↓wr,↓reduceIte,wq,ah,ag,aj,ab,ae,af,ai,isNil,Nat.reduceEqDiff,Nat.reduceAdd,Nat.reduceLT,Nat.reduceLeDiff,Int.reduceNeg,Int.reduceToNat,reduceCtorEq,mc,aw,encS]
  refine bK.intro (fun k T _=>∃ (i:Nat) (w:Int),i+k=g.av.length∧gS n (g.av.drop i) w=gS n g.av 0∧T 1=gi n∧T 2=.aU (aw g) 0∧T 5=gi w∧T 6=gi i) g.av.length ?_ ?_
  · exact ⟨0,0,by omega,rfl,rfl,rfl,rfl,rfl⟩
  · rintro k T H' ⟨i,w,hk,hi,h1,h2,h5,h6⟩
    simp (disch:=omega) only [↓wr,↓reduceIte,wq,ah,ag,aj,ab,ae,af,ai,isNil,Nat.reduceEqDiff,Nat.reduceAdd,Nat.reduceLT,Nat.reduceLeDiff,Int.reduceNeg,Int.reduceToNat,reduceCtorEq,kD,h1,h2,h5,h6,aw]
    refine au.dec (fun hc=>?_) (fun hc=>?_)
    · have hg2:g.av[i]?=some (g.av[i]'(by omega)):=List.getElem?_eq_getElem (by omega)
      rw[fv (show i < g.av.length by omega)] at hi
      generalize g.av[i]'(by omega)=t at hg2 hi
      simp only[gS] at hi
      simp (disch:=omega) only [↓wr,↓reduceIte,wq,ah,ag,aj,ab,ae,af,ai,isNil,Nat.reduceEqDiff,Nat.reduceAdd,Nat.reduceLT,Nat.reduceLeDiff,Int.reduceNeg,Int.reduceToNat,reduceCtorEq,h1,h2,h5,h6,aw,cX,List.getElem?_map,hg2,Option.map_some]
      intro m hm
      try simp (disch:=omega) only [↓wr,↓reduceIte,wq,ah,ag,aj,ab,ae,af,ai,isNil,Nat.reduceEqDiff,Nat.reduceAdd,Nat.reduceLT,Nat.reduceLeDiff,Int.reduceNeg,Int.reduceToNat,reduceCtorEq,h1,h2,h5,h6]
      refine au.ne (fun hd=>?_) (fun hd=>?_)
      · rw[if_neg hd] at hi
        simp (disch:=omega) only [↓wr,↓reduceIte,wq,ah,ag,aj,ab,ae,af,ai,isNil,Nat.reduceEqDiff,Nat.reduceAdd,Nat.reduceLT,Nat.reduceLeDiff,Int.reduceNeg,Int.reduceToNat,reduceCtorEq,h1,h2,h5,h6]
        exact ⟨k - 1,by omega,i+1,w,by omega,hi,by first | rfl | exact ⟨rfl,rfl⟩ | exact ⟨rfl,rfl,rfl⟩⟩
      · rw[if_pos hd] at hi
        repeat' (first | (refine au.dec (fun _=>?_) (fun _=>?_)) | (refine au.eq (fun _=>?_) (fun _=>?_)) | (refine au.ne (fun _=>?_) (fun _=>?_)) | (refine au.split (fun _=>?_) (fun _=>?_)) | (simp (disch:=omega) only [↓wr,↓reduceIte,wq,ah,ag,aj,ab,ae,af,ai,isNil,Nat.reduceEqDiff,Nat.reduceAdd,Nat.reduceLT,Nat.reduceLeDiff,Int.reduceNeg,Int.reduceToNat,reduceCtorEq,h1,h2,h5,h6]))
        · rename_i a b
          rw[if_pos ⟨a,b⟩] at hi
          simp only[fG,← hi]
        · rename_i a b
          rw[if_neg (fun e=>e.2 b)] at hi
          exact ⟨k - 1,by omega,i+1,_,by omega,hi,by first | rfl | exact ⟨rfl,rfl⟩ | exact ⟨rfl,rfl,rfl⟩⟩
        · rename_i a
          rw[if_neg (fun e=>e.1 a)] at hi
          exact ⟨k - 1,by omega,i+1,_,by omega,hi,by first | rfl | exact ⟨rfl,rfl⟩ | exact ⟨rfl,rfl,rfl⟩⟩
    · rw[List.drop_eq_nil_of_le (by omega)] at hi
      simp only[gS] at hi
      simp (disch:=omega) only [↓wr,↓reduceIte,wq,ah,ag,aj,ab,ae,af,ai,isNil,Nat.reduceEqDiff,Nat.reduceAdd,Nat.reduceLT,Nat.reduceLeDiff,Int.reduceNeg,Int.reduceToNat,reduceCtorEq,h1,h2,h5,h6]
      simp only[fG,← hi]
theorem GN (g:an) (hg:g.Ok) (n:Int):aC Tryz.prog 153 [.agg (aw g),gi n] (gb (fG g.av n)):=aC.val (EV g n) (HK g hg n)
def oL (g:an) (t:Term):Bool:=(List.range t.level.toNat).all fun k=>fG g.av ((k:Int)+1)
def iR (g:an) (i:Int) (t:Term):Bool :=
  nk (eh t.name) && (kf g t.name == i) && decide (0≤t.level) && decide (t.level≤24) && decide (0≤t.assoc) && decide (t.assoc≤3) && ((t.level == 0) == (t.assoc == 0)) && oL g t
def iA (g:an):List Term→Int→Bool
  | [],_=>true
  | t :: r,i=>iR g i t && iA g r (i+1)
def iB (g:an):Bool:=decide (g.av.length≤24) && iA g g.av 0
def kB:SC :=
  .seq (.seq (al [aa 63 5,ao 64 1 4,aq 65 64,aO 66 .leq 63 65]) <|
  .cond (.tmp 66) (.skip) (.exit 2)) <|
  .seq (.block 3 (.seq (al [aH 69 4 1,aa 70 5,aG 71 153 [69,70],cb 72 71]) <|
  .cond (.tmp 72) (.seq (al [aV 2 false]) <|
  .ret) (.skip))) <|
  al [aa 67 5,ax 68 .add 67 1,aa 5 68]
def kC:SC :=
  .seq (.seq (al [aa 10 3,ao 11 0 1,aq 12 11,aM 13 12,aO 14 .lss 10 13]) <|
  .cond (.tmp 14) (.skip) (.exit 0)) <|
  .seq (.block 1 (.seq (.region false [⟨none,[ao 17 0 1,aq 18 17,aa 19 3,aZ 20 3 18 19,aH 21 3 20,((some 4),.op (.alloc [(.val (.string ⟨#[]⟩)),(.val (.int .i64 0)),(.val (.int .i64 0))])),(none,.op (.store 3 (.tmp 4) (.tmp 21)))]⟩]) <|
  .seq (.seq (.region false [⟨none,[ao 22 0 4,aq 23 22,aG 24 151 [23],cb 25 24,aa 26 25]⟩,⟨(some (26,false)),[aH 27 4 1,ao 28 0 4,aq 29 28,aG 30 152 [27,29],aa 31 3,aO 32 .neq 30 31]⟩,⟨none,[bF 33 26 32,aa 34 33]⟩,⟨(some (34,false)),[ao 35 1 4,aq 36 35,ax 37 .lss 36 0]⟩,⟨none,[bF 38 34 37,aa 39 38]⟩,⟨(some (39,false)),[ao 40 1 4,aq 41 40,ax 42 .gtr 41 24]⟩,⟨none,[bF 43 39 42,aa 44 43]⟩,⟨(some (44,false)),[ao 45 2 4,aq 46 45,ax 47 .lss 46 0]⟩,⟨none,[bF 48 44 47,aa 49 48]⟩,⟨(some (49,false)),[ao 50 2 4,aq 51 50,ax 52 .gtr 51 3]⟩,⟨none,[bF 53 49 52,aa 54 53]⟩,⟨(some (54,false)),[ao 55 1 4,aq 56 55,ax 57 .eql 56 0,ao 58 2 4,aq 59 58,ax 60 .eql 59 0,((some 61),.op (.beq false (.tmp 57) (.tmp 60)))]⟩,⟨none,[bF 62 54 61]⟩]) <|
  .cond (.tmp 62) (.seq (al [aV 2 false]) <|
  .ret) (.skip)) <|
  .seq (al [aF 5 1]) <|
  .block 2 (.loop kB))) <|
  al [aa 15 3,ax 16 .add 15 1,aa 3 16]
def mb:SF:=⟨.seq (al [b6 1 0,aV 2 false]) <|
  .seq (.seq (al [ao 6 0 1,aq 7 6,aM 8 7,ax 9 .gtr 8 24]) <|
  .cond (.tmp 9) (.seq (al [aV 2 false]) <|
  .ret) (.skip)) <|
  .seq (.seq (al [aF 3 0]) <|
  .block 0 (.loop kC)) <|
  .seq (al [aV 2 true]) <|
  .ret,
  [.tmp 2],73⟩
theorem q6:bh Tryz.prog 104 [1]=some mb:=by kernel_rfl
def k6:SC :=
  .seq (.seq (al [aa 14 3,ao 15 1 1,aq 16 15,aM 17 16,aO 18 .lss 14 17]) <|
  .cond (.tmp 18) (.skip) (.exit 0)) <|
  .seq (.block 1 (.seq (.region false [⟨none,[ao 21 1 1,aq 22 21,aa 23 3,aZ 24 1 22 23,aq 25 24,aG 26 154 [25],cb 27 26,aa 28 27]⟩,⟨(some (28,false)),[aH 29 4 1,ao 30 1 1,aq 31 30,aa 32 3,aZ 33 1 31 32,aq 34 33,aG 35 139 [29,34],aa 36 3,aO 37 .neq 35 36]⟩,⟨none,[bF 38 28 37,aa 39 38]⟩,⟨(some (39,false)),[aH 40 4 1,ao 41 1 1,aq 42 41,aa 43 3,aZ 44 1 42 43,aq 45 44,aG 46 152 [40,45],ax 47 .geq 46 0]⟩,⟨none,[bF 48 39 47]⟩]) <|
  .cond (.tmp 48) (.seq (al [aV 2 false]) <|
  .ret) (.skip))) <|
  al [aa 19 3,ax 20 .add 19 1,aa 3 20]
def nQ:SF:=⟨.seq (al [b6 1 0,aV 2 false]) <|
  .seq (.seq (.region false [⟨none,[ao 4 1 1,aq 5 4,aM 6 5,ax 7 .lss 6 1,aa 8 7]⟩,⟨(some (8,false)),[ao 9 1 1,aq 10 9,aM 11 10,ax 12 .gtr 11 16]⟩,⟨none,[bF 13 8 12]⟩]) <|
  .cond (.tmp 13) (.seq (al [aV 2 false]) <|
  .ret) (.skip)) <|
  .seq (.seq (al [aF 3 0]) <|
  .block 0 (.loop k6)) <|
  .seq (al [aV 2 true]) <|
  .ret,
  [.tmp 2],49⟩
theorem rR:bh Tryz.prog 105 [1]=some nQ:=by kernel_rfl
def kW:SC :=
  .seq (.seq (al [aa 23 5,ao 24 1 3,aq 25 24,aM 26 25,aO 27 .lss 23 26]) <|
  .cond (.tmp 27) (.skip) (.exit 0)) <|
  .seq (.block 1 (.seq (.region false [⟨none,[aH 30 4 2,ao 31 1 3,aq 32 31,aa 33 5,aZ 34 1 32 33,aq 35 34,aG 36 155 [30,35],cb 37 36,aa 38 37]⟩,⟨(some (38,false)),[ao 39 1 3,aq 40 39,aa 41 5,aZ 42 1 40 41,aq 43 42,ax 44 .geq 43 0,aa 45 44]⟩,⟨(some (45,true)),[ao 46 2 3,aq 47 46,ax 48 .eql 47 (-1)]⟩,⟨(some (38,false)),[bB 49 45 48]⟩,⟨none,[bF 50 38 49]⟩]) <|
  .cond (.tmp 50) (.seq (al [aV 4 false]) <|
  .ret) (.skip))) <|
  al [aa 28 5,ax 29 .add 28 1,aa 5 29]
def nb:SF:=⟨.seq (al [b6 2 0,b6 3 1,aV 4 false]) <|
  .seq (.seq (.region false [⟨none,[ao 6 1 3,aq 7 6,aM 8 7,ax 9 .gtr 8 6,aa 10 9]⟩,⟨(some (10,false)),[ao 11 2 3,aq 12 11,ax 13 .lss 12 (-1)]⟩,⟨none,[bF 14 10 13,aa 15 14]⟩,⟨(some (15,false)),[ao 16 2 3,aq 17 16,ao 18 0 2,aq 19 18,aM 20 19,aO 21 .geq 17 20]⟩,⟨none,[bF 22 15 21]⟩]) <|
  .cond (.tmp 22) (.seq (al [aV 4 false]) <|
  .ret) (.skip)) <|
  .seq (.seq (al [aF 5 0]) <|
  .block 0 (.loop kW)) <|
  .seq (al [aV 4 true]) <|
  .ret,
  [.tmp 4],51⟩
theorem rm:bh Tryz.prog 106 [2,3]=some nb:=by kernel_rfl
def kO:SC :=
  .seq (.seq (al [aa 39 4,ao 40 2 1,aq 41 40,aM 42 41,aO 43 .lss 39 42]) <|
  .cond (.tmp 43) (.skip) (.exit 0)) <|
  .seq (.block 1 (.seq (al [ao 46 2 1,aq 47 46,aa 48 4,aZ 49 3 47 48,aH 50 3 49,((some 5),.op (.alloc [(.val (.int .i64 0)),(.emp 1),(.val (.int .i64 0))])),(none,.op (.store 3 (.tmp 5) (.tmp 50)))]) <|
  .seq (.seq (.region false [⟨none,[ao 51 0 5,aq 52 51,ax 53 .lss 52 0,aa 54 53]⟩,⟨(some (54,false)),[ao 55 0 5,aq 56 55,aa 57 3,ax 58 .add 57 1,aO 59 .gtr 56 58]⟩,⟨none,[bF 60 54 59,aa 61 60]⟩,⟨(some (61,false)),[aH 62 4 1,aH 63 3 5,aG 64 106 [62,63],cb 65 64]⟩,⟨none,[bF 66 61 65]⟩]) <|
  .cond (.tmp 66) (.seq (al [aV 2 false]) <|
  .ret) (.skip)) <|
  .seq (al [ao 67 0 5,aq 68 67,aa 69 3,aO 70 .gtr 68 69]) <|
  .cond (.tmp 70) (al [ao 71 0 5,aq 72 71,aa 3 72]) (.skip))) <|
  al [aa 44 4,ax 45 .add 44 1,aa 4 45]
def lX:SF:=⟨.seq (al [b6 1 0,aV 2 false]) <|
  .seq (.seq (.region false [⟨none,[aH 6 4 1,aG 7 104 [6],cb 8 7,aa 9 8]⟩,⟨(some (9,false)),[aH 10 4 1,aG 11 105 [10],cb 12 11]⟩,⟨none,[bF 13 9 12,aa 14 13]⟩,⟨(some (14,false)),[ao 15 2 1,aq 16 15,aM 17 16,ax 18 .lss 17 1]⟩,⟨none,[bF 19 14 18,aa 20 19]⟩,⟨(some (20,false)),[ao 21 2 1,aq 22 21,aM 23 22,ax 24 .gtr 23 40]⟩,⟨none,[bF 25 20 24,aa 26 25]⟩,⟨(some (26,false)),[ao 27 3 1,aq 28 27,ax 29 .lss 28 0]⟩,⟨none,[bF 30 26 29,aa 31 30]⟩,⟨(some (31,false)),[ao 32 3 1,aq 33 32,ao 34 1 1,aq 35 34,aM 36 35,aO 37 .geq 33 36]⟩,⟨none,[bF 38 31 37]⟩]) <|
  .cond (.tmp 38) (.seq (al [aV 2 false]) <|
  .ret) (.skip)) <|
  .seq (al [aF 3 (-1)]) <|
  .seq (.seq (al [aF 4 0]) <|
  .block 0 (.loop kO)) <|
  .seq (al [aa 73 3,ao 74 1 1,aq 75 74,aM 76 75,ax 77 .sub 76 1,aO 78 .eql 73 77,aa 2 78]) <|
  .ret,
  [.tmp 2],79⟩
theorem qJ:bh Tryz.prog 54 [1]=some lX:=by kernel_rfl
set_option maxHeartbeats 2000000 in
theorem Hu (g:an) (hg:g.Ok) (H:View):aA Tryz.prog 104 [.agg (aw g)] H fun r _=>r=gb (iB g):=by
  refine aA.of mixed q6 ?_
  simp (disch:=omega) only [↓wr,↓reduceIte,wq,ah,ag,aj,ab,ae,af,ai,isNil,Nat.reduceEqDiff,Nat.reduceAdd,Nat.reduceLT,Nat.reduceLeDiff,Int.reduceNeg,Int.reduceToNat,reduceCtorEq,mb,aw,encS]
  refine au.dec (fun h=>?_) (fun h=>?_)
  · simp (disch:=omega) only [↓wr,↓reduceIte,wq,ah,ag,aj,ab,ae,af,ai,isNil,Nat.reduceEqDiff,Nat.reduceAdd,Nat.reduceLT,Nat.reduceLeDiff,Int.reduceNeg,Int.reduceToNat,reduceCtorEq]
    simp[iB,show ¬ g.av.length≤24 by omega]
  · have hle:g.av.length≤24:=by omega
    simp (disch:=omega) only [↓wr,↓reduceIte,wq,ah,ag,aj,ab,ae,af,ai,isNil,Nat.reduceEqDiff,Nat.reduceAdd,Nat.reduceLT,Nat.reduceLeDiff,Int.reduceNeg,Int.reduceToNat,reduceCtorEq]
    refine bK.intro (fun k T _=>∃ i:Nat,i+k=g.av.length∧iA g (g.av.drop i) i=iA g g.av 0∧T 1=.aU (aw g) 0∧T 3=gi i) g.av.length ?_ ?_
    · exact ⟨0,by omega,rfl,rfl,rfl⟩
    · rintro k T H' ⟨i,hk,hi,h1,h3⟩
      simp (disch:=omega) only [↓wr,↓reduceIte,wq,ah,ag,aj,ab,ae,af,ai,isNil,Nat.reduceEqDiff,Nat.reduceAdd,Nat.reduceLT,Nat.reduceLeDiff,Int.reduceNeg,Int.reduceToNat,reduceCtorEq,kC,h1,h3,aw]
      refine au.dec (fun hc=>?_) (fun hc=>?_)
      · have hg2:g.av[i]?=some (g.av[i]'(by omega)):=List.getElem?_eq_getElem (by omega)
        rw[fv (show i < g.av.length by omega)] at hi
        have hmem:g.av[i]'(by omega)∈g.av:=List.getElem_mem _
        generalize g.av[i]'(by omega)=t at hg2 hi hmem
        obtain ⟨⟨hl1,hl2⟩,⟨ha1,ha2⟩⟩:=hg.term t hmem
        simp only[iA] at hi
        have hbad:iR g i t=false→gb false=gb (iB g):=fun e=>by rw[e,Bool.false_and] at hi; simp[iB,← hi]
        simp (disch:=omega) only [↓wr,↓reduceIte,wq,ah,ag,aj,ab,ae,af,ai,isNil,Nat.reduceEqDiff,Nat.reduceAdd,Nat.reduceLT,Nat.reduceLeDiff,Int.reduceNeg,Int.reduceToNat,reduceCtorEq,h1,h3,aw,cX,List.getElem?_map,hg2,Option.map_some]
        intro m hm
        try simp (disch:=omega) only [↓wr,↓reduceIte,wq,ah,ag,aj,ab,ae,af,ai,isNil,Nat.reduceEqDiff,Nat.reduceAdd,Nat.reduceLT,Nat.reduceLeDiff,Int.reduceNeg,Int.reduceToNat,reduceCtorEq,h1,h3]
        refine aE.pure (HU t.name) (by kernel_rfl) ?_
        repeat' (first | (refine au.dec (fun _=>?_) (fun _=>?_)) | (refine au.eq (fun _=>?_) (fun _=>?_)) | (refine au.ne (fun _=>?_) (fun _=>?_)) | (refine au.split (fun _=>?_) (fun _=>?_)) | (simp (disch:=omega) only [↓wr,↓reduceIte,wq,ah,ag,aj,ab,ae,af,ai,isNil,Nat.reduceEqDiff,Nat.reduceAdd,Nat.reduceLT,Nat.reduceLeDiff,Int.reduceNeg,Int.reduceToNat,reduceCtorEq,h1,h3,aw]))
        all_goals try (refine hbad ?_; simp[iR, *]; done)
        rename_i hnm
        refine aE.pure (Bf g hg t.name) (by kernel_rfl) ?_
        repeat' (first | (refine au.dec (fun _=>?_) (fun _=>?_)) | (refine au.eq (fun _=>?_) (fun _=>?_)) | (refine au.ne (fun _=>?_) (fun _=>?_)) | (refine au.split (fun _=>?_) (fun _=>?_)) | (simp (disch:=omega) only [↓wr,↓reduceIte,wq,ah,ag,aj,ab,ae,af,ai,isNil,Nat.reduceEqDiff,Nat.reduceAdd,Nat.reduceLT,Nat.reduceLeDiff,Int.reduceNeg,Int.reduceToNat,reduceCtorEq,h1,h3,aw]))
        all_goals try (refine hbad ?_; simp[iR, *]; done)
        all_goals try (refine hbad ?_; simp[iR]; grind)
        rename_i e1 e2 e3 e4 e5 e6
        have hpre:iR g i t=oL g t:=by
          have e6':((t.level == 0) == (t.assoc == 0))=true:=by simpa using e6
          simp[iR,hnm,e1,e6',show (0:Int)≤t.level by omega,show t.level≤24 by omega,show (0:Int)≤t.assoc by omega,show t.assoc≤3 by omega]
        refine bK.intro (fun k' T H''=>∃ j:Nat,1≤j∧j+k'=t.level.toNat+1∧(∀ q:Nat,q+1 < j→fG g.av ((q:Int)+1)=true)∧T 1=.aU (aw g) 0∧T 3=gi i∧T 4=.ptr m 0 0∧H'' m=.arr 3 [[gs t.name,gi t.level,gi t.assoc]]∧T 5=gi j) t.level.toNat ?_ ?_
        · refine ⟨1,by omega,by omega,fun q hq=>by omega,?_⟩
          simp (disch:=omega) only [↓wr,↓reduceIte,wq,ah,ag,aj,ab,ae,af,ai,isNil,Nat.reduceEqDiff,Nat.reduceAdd,Nat.reduceLT,Nat.reduceLeDiff,Int.reduceNeg,Int.reduceToNat,reduceCtorEq,h1,h3,aw]
          rfl
        · rintro k' T' H'' ⟨j,hj1,hj2,hj3,f1,f3,f4,fm,f5⟩
          simp (disch:=omega) only [↓wr,↓reduceIte,wq,ah,ag,aj,ab,ae,af,ai,isNil,Nat.reduceEqDiff,Nat.reduceAdd,Nat.reduceLT,Nat.reduceLeDiff,Int.reduceNeg,Int.reduceToNat,reduceCtorEq,kB,f1,f3,f4,f5,fm]
          refine au.dec (fun hd=>?_) (fun hd=>?_)
          · simp (disch:=omega) only [↓wr,↓reduceIte,wq,ah,ag,aj,ab,ae,af,ai,isNil,Nat.reduceEqDiff,Nat.reduceAdd,Nat.reduceLT,Nat.reduceLeDiff,Int.reduceNeg,Int.reduceToNat,reduceCtorEq,f1,f3,f4,f5,fm,aw]
            refine aE.pure (GN g hg j) (by kernel_rfl) ?_
            repeat' (first | (refine au.dec (fun _=>?_) (fun _=>?_)) | (refine au.eq (fun _=>?_) (fun _=>?_)) | (refine au.ne (fun _=>?_) (fun _=>?_)) | (refine au.split (fun _=>?_) (fun _=>?_)) | (simp (disch:=omega) only [↓wr,↓reduceIte,wq,ah,ag,aj,ab,ae,af,ai,isNil,Nat.reduceEqDiff,Nat.reduceAdd,Nat.reduceLT,Nat.reduceLeDiff,Int.reduceNeg,Int.reduceToNat,reduceCtorEq,f1,f3,f4,f5,fm,aw]))
            · rename_i hb
              refine ⟨k' - 1,by omega,j+1,by omega,by omega,fun q hq=>?_,by first | rfl | exact ⟨rfl,rfl⟩ | exact ⟨rfl,rfl,rfl⟩⟩
              by_cases e:q+1=j
              · have:(q:Int)+1=j:=by omega
                rw[this]; exact hb
              · exact hj3 q (by omega)
            · rename_i hb
              refine hbad ?_
              rw[hpre,oL,List.all_eq_false]
              refine ⟨j - 1,by simp; omega,?_⟩
              have:((j - 1:Nat):Int)+1=j:=by omega
              rw[this,hb]; simp
          · simp (disch:=omega) only [↓wr,↓reduceIte,wq,ah,ag,aj,ab,ae,af,ai,isNil,Nat.reduceEqDiff,Nat.reduceAdd,Nat.reduceLT,Nat.reduceLeDiff,Int.reduceNeg,Int.reduceToNat,reduceCtorEq,f1,f3,f4,f5,fm]
            refine ⟨k - 1,by omega,i+1,by omega,?_,by first | rfl | exact ⟨rfl,rfl⟩ | exact ⟨rfl,rfl,rfl⟩⟩
            have hlv:oL g t=true:=by
              rw[oL,List.all_eq_true]
              intro q hq
              exact hj3 q (by simp at hq; omega)
            rw[hpre,hlv,Bool.true_and] at hi
            push_cast; exact hi
      · rw[List.drop_eq_nil_of_le (by omega)] at hi
        simp only[iA] at hi
        simp (disch:=omega) only [↓wr,↓reduceIte,wq,ah,ag,aj,ab,ae,af,ai,isNil,Nat.reduceEqDiff,Nat.reduceAdd,Nat.reduceLT,Nat.reduceLeDiff,Int.reduceNeg,Int.reduceToNat,reduceCtorEq,h1,h3]
        simp[iB,hle,← hi]
theorem HQ (g:an) (hg:g.Ok):aC Tryz.prog 104 [.agg (aw g)] (gb (iB g)):=aC.val (iC g) (Hu g hg)
def jZ (g:an) (i:Int) (s:ByteArray):Bool:=fc (eh s) && (vo g s == i) && decide (kf g s < 0)
def oF (g:an):List ByteArray→Int→Bool
  | [],_=>true
  | s :: r,i=>jZ g i s && oF g r (i+1)
def jn (g:an):Bool:=decide (1≤g.az.length) && decide (g.az.length≤16) && oF g g.az 0
set_option maxHeartbeats 1000000 in
theorem Ji (g:an) (hg:g.Ok) (H:View):aA Tryz.prog 105 [.agg (aw g)] H fun r _=>r=gb (jn g):=by
  refine aA.of mixed rR ?_
  repeat' (first | (refine au.dec (fun _=>?_) (fun _=>?_)) | (refine au.eq (fun _=>?_) (fun _=>?_)) | (refine au.ne (fun _=>?_) (fun _=>?_)) | (refine au.split (fun _=>?_) (fun _=>?_)) | (simp (disch:=omega) only [↓wr,↓reduceIte,wq,ah,ag,aj,ab,ae,af,ai,isNil,Nat.reduceEqDiff,Nat.reduceAdd,Nat.reduceLT,Nat.reduceLeDiff,Int.reduceNeg,Int.reduceToNat,reduceCtorEq,nQ,aw,encS]))
  · simp[jn,show ¬ 1≤g.az.length by omega]
  · simp[jn,show ¬ g.az.length≤16 by omega]
  · have hle:g.az.length≤16:=by omega
    refine bK.intro (fun k T _=>∃ i:Nat,i+k=g.az.length∧oF g (g.az.drop i) i=oF g g.az 0∧T 1=.aU (aw g) 0∧T 3=gi i) g.az.length ?_ ?_
    · exact ⟨0,by omega,rfl,rfl,rfl⟩
    · rintro k T H' ⟨i,hk,hi,h1,h3⟩
      simp (disch:=omega) only [↓wr,↓reduceIte,wq,ah,ag,aj,ab,ae,af,ai,isNil,Nat.reduceEqDiff,Nat.reduceAdd,Nat.reduceLT,Nat.reduceLeDiff,Int.reduceNeg,Int.reduceToNat,reduceCtorEq,k6,h1,h3,aw,encS]
      refine au.dec (fun hc=>?_) (fun hc=>?_)
      · have hg2:g.az[i]?=some (g.az[i]'(by omega)):=List.getElem?_eq_getElem (by omega)
        rw[fv (show i < g.az.length by omega)] at hi
        generalize g.az[i]'(by omega)=t at hg2 hi
        simp only[oF] at hi
        have hbad:jZ g i t=false→gb false=gb (jn g):=fun e=>by rw[e,Bool.false_and] at hi; simp[jn,← hi]
        simp (disch:=omega) only [↓wr,↓reduceIte,wq,ah,ag,aj,ab,ae,af,ai,isNil,Nat.reduceEqDiff,Nat.reduceAdd,Nat.reduceLT,Nat.reduceLeDiff,Int.reduceNeg,Int.reduceToNat,reduceCtorEq,h1,h3,aw,encS,List.getElem?_map,hg2,Option.map_some]
        refine aE.pure (AX t) (by kernel_rfl) ?_
        repeat' (first | (refine au.dec (fun _=>?_) (fun _=>?_)) | (refine au.eq (fun _=>?_) (fun _=>?_)) | (refine au.ne (fun _=>?_) (fun _=>?_)) | (refine au.split (fun _=>?_) (fun _=>?_)) | (simp (disch:=omega) only [↓wr,↓reduceIte,wq,ah,ag,aj,ab,ae,af,ai,isNil,Nat.reduceEqDiff,Nat.reduceAdd,Nat.reduceLT,Nat.reduceLeDiff,Int.reduceNeg,Int.reduceToNat,reduceCtorEq,h1,h3,aw,encS,List.getElem?_map,hg2,Option.map_some]))
        all_goals try (refine hbad ?_; simp[jZ, *]; done)
        rename_i hnm
        refine aE.pure (KC g hg t) (by kernel_rfl) ?_
        repeat' (first | (refine au.dec (fun _=>?_) (fun _=>?_)) | (refine au.eq (fun _=>?_) (fun _=>?_)) | (refine au.ne (fun _=>?_) (fun _=>?_)) | (refine au.split (fun _=>?_) (fun _=>?_)) | (simp (disch:=omega) only [↓wr,↓reduceIte,wq,ah,ag,aj,ab,ae,af,ai,isNil,Nat.reduceEqDiff,Nat.reduceAdd,Nat.reduceLT,Nat.reduceLeDiff,Int.reduceNeg,Int.reduceToNat,reduceCtorEq,h1,h3,aw,encS,List.getElem?_map,hg2,Option.map_some]))
        all_goals try (refine hbad ?_; simp[jZ, *]; done)
        rename_i hno
        refine aE.pure (Bf g hg t) (by kernel_rfl) ?_
        repeat' (first | (refine au.dec (fun _=>?_) (fun _=>?_)) | (refine au.eq (fun _=>?_) (fun _=>?_)) | (refine au.ne (fun _=>?_) (fun _=>?_)) | (refine au.split (fun _=>?_) (fun _=>?_)) | (simp (disch:=omega) only [↓wr,↓reduceIte,wq,ah,ag,aj,ab,ae,af,ai,isNil,Nat.reduceEqDiff,Nat.reduceAdd,Nat.reduceLT,Nat.reduceLeDiff,Int.reduceNeg,Int.reduceToNat,reduceCtorEq,h1,h3,aw,encS]))
        all_goals try (refine hbad ?_; simp[jZ, *]; done)
        rename_i hte
        refine ⟨k - 1,by omega,i+1,by omega,?_,by first | rfl | exact ⟨rfl,rfl⟩ | exact ⟨rfl,rfl,rfl⟩⟩
        have:jZ g i t=true:=by simp[jZ,hnm,hno,show kf g t < 0 by omega]
        rw[this,Bool.true_and] at hi
        push_cast; exact hi
      · rw[List.drop_eq_nil_of_le (by omega)] at hi
        simp only[oF] at hi
        simp (disch:=omega) only [↓wr,↓reduceIte,wq,ah,ag,aj,ab,ae,af,ai,isNil,Nat.reduceEqDiff,Nat.reduceAdd,Nat.reduceLT,Nat.reduceLeDiff,Int.reduceNeg,Int.reduceToNat,reduceCtorEq,h1,h3]
        simp[jn,hle,show 1≤g.az.length by omega,← hi]
theorem Jw (g:an) (hg:g.Ok):aC Tryz.prog 105 [.agg (aw g)] (gb (jn g)):=aC.val (iC g) (Ji g hg)
def kn (g:an) (prec s:Int):Bool:=gY g s && !(decide (0≤s) && prec == -1)
def ga (g:an) (r:aL):Bool:=decide (r.right.length≤6) && decide (-1≤r.prec) && decide (r.prec < g.av.length) && r.right.all (kn g r.prec)
theorem Da (g:an) (r:aL):∀ v∈[V.agg (aw g),V.agg (bm r)],Tree v:=by
  intro v hv; simp at hv
  rcases hv with rfl | rfl
  · exact cI _ (dr g)
  · exact cI _ (fS r)
set_option maxHeartbeats 1000000 in
theorem Jq (g:an) (r:aL) (hr:bo r.right∧∀ x∈r.right,bO x) (H:View):aA Tryz.prog 106 [.agg (aw g),.agg (bm r)] H fun v _=>v=gb (ga g r):=by
  refine aA.of mixed rm ?_
  repeat' (first | (refine au.dec (fun _=>?_) (fun _=>?_)) | (refine au.eq (fun _=>?_) (fun _=>?_)) | (refine au.ne (fun _=>?_) (fun _=>?_)) | (refine au.split (fun _=>?_) (fun _=>?_)) | (simp (disch:=omega) only [↓wr,↓reduceIte,wq,ah,ag,aj,ab,ae,af,ai,isNil,Nat.reduceEqDiff,Nat.reduceAdd,Nat.reduceLT,Nat.reduceLeDiff,Int.reduceNeg,Int.reduceToNat,reduceCtorEq,nb,aw,encS,bm,encI]))
  · simp[ga,show ¬ r.right.length≤6 by omega]
  · simp[ga,show ¬ -1≤r.prec by omega]
  · simp[ga,show ¬ r.prec < g.av.length by omega]
  · have hle:r.right.length≤6:=by omega
    have hp1 : -1≤r.prec:=by omega
    have hp2:r.prec < g.av.length:=by omega
    refine bK.intro (fun k T _=>∃ i:Nat,i+k=r.right.length∧(r.right.drop i).all (kn g r.prec)=r.right.all (kn g r.prec)∧T 2=.aU (aw g) 0∧T 3=.aU (bm r) 0∧T 5=gi i) r.right.length ?_ ?_
    · exact ⟨0,by omega,rfl,rfl,rfl,rfl⟩
    · rintro k T H' ⟨i,hk,hi,h2,h3,h5⟩
      simp (disch:=omega) only [↓wr,↓reduceIte,wq,ah,ag,aj,ab,ae,af,ai,isNil,Nat.reduceEqDiff,Nat.reduceAdd,Nat.reduceLT,Nat.reduceLeDiff,Int.reduceNeg,Int.reduceToNat,reduceCtorEq,kW,h2,h3,h5,bm,encI]
      refine au.dec (fun hc=>?_) (fun hc=>?_)
      · have hg2:r.right[i]?=some (r.right[i]'(by omega)):=List.getElem?_eq_getElem (by omega)
        rw[fv (show i < r.right.length by omega)] at hi
        have hmem:r.right[i]'(by omega)∈r.right:=List.getElem_mem _
        generalize r.right[i]'(by omega)=t at hg2 hi hmem
        have hin:=hr.2 t hmem
        simp only[List.all_cons] at hi
        have hbad:kn g r.prec t=false→gb false=gb (ga g r):=fun e=>by rw[e,Bool.false_and] at hi; simp only[ga,← hi,Bool.and_false]
        have hok:kn g r.prec t=true→(r.right.drop (i+1)).all (kn g r.prec)=r.right.all (kn g r.prec):=fun e=>by rw[e,Bool.true_and] at hi; exact hi
        simp (disch:=omega) only [↓wr,↓reduceIte,wq,ah,ag,aj,ab,ae,af,ai,isNil,Nat.reduceEqDiff,Nat.reduceAdd,Nat.reduceLT,Nat.reduceLeDiff,Int.reduceNeg,Int.reduceToNat,reduceCtorEq,h2,h3,h5,aw,encS,bm,encI,List.getElem?_map,hg2,Option.map_some]
        refine aE.pure (NN g t hin) (by kernel_rfl) ?_
        repeat' (first | (refine au.dec (fun _=>?_) (fun _=>?_)) | (refine au.eq (fun _=>?_) (fun _=>?_)) | (refine au.ne (fun _=>?_) (fun _=>?_)) | (refine au.split (fun _=>?_) (fun _=>?_)) | (simp (disch:=omega) only [↓wr,↓reduceIte,wq,ah,ag,aj,ab,ae,af,ai,isNil,Nat.reduceEqDiff,Nat.reduceAdd,Nat.reduceLT,Nat.reduceLeDiff,Int.reduceNeg,Int.reduceToNat,reduceCtorEq,h2,h3,h5,aw,encS,bm,encI,List.getElem?_map,hg2,Option.map_some]))
        all_goals first
          | (refine hbad ?_; simp[kn, *]; done)
          | (refine ⟨k - 1,by omega,i+1,by omega,hok (by simp[kn, *]; done),by first | rfl | exact ⟨rfl,rfl⟩ | exact ⟨rfl,rfl,rfl⟩⟩)
          | skip
      · rw[List.drop_eq_nil_of_le (by omega)] at hi
        simp only[List.all_nil] at hi
        simp (disch:=omega) only [↓wr,↓reduceIte,wq,ah,ag,aj,ab,ae,af,ai,isNil,Nat.reduceEqDiff,Nat.reduceAdd,Nat.reduceLT,Nat.reduceLeDiff,Int.reduceNeg,Int.reduceToNat,reduceCtorEq,h2,h3,h5]
        simp only[ga,hle,hp1,hp2,decide_true,Bool.true_and,← hi]
theorem JZ (g:an) (r:aL) (hr:bo r.right∧∀ x∈r.right,bO x):aC Tryz.prog 106 [.agg (aw g),.agg (bm r)] (gb (ga g r)):=aC.val (Da g r) (Jq g r hr)
def fH (g:an):List aL→Int→Bool
  | [],top=>top == (g.az.length:Int) - 1
  | r :: l,top=>decide (0≤r.left) && decide (r.left≤top+1) && ga g r && fH g l (if r.left > top then r.left else top)
def bt (g:an):Bool :=
  iB g && jn g && decide (1≤g.rules.length) && decide (g.rules.length≤40) && decide (0≤g.start) && decide (g.start < g.az.length) && fH g g.rules (-1)
set_option maxHeartbeats 1000000 in
theorem Ho (g:an) (hg:g.Ok) (H:View):aA Tryz.prog 54 [.agg (aw g)] H fun r _=>r=gb (bt g):=by
  refine aA.of mixed qJ ?_
  have hn:=hg.az
  unfold bo at hn
  simp (disch:=omega) only [↓wr,↓reduceIte,wq,ah,ag,aj,ab,ae,af,ai,isNil,Nat.reduceEqDiff,Nat.reduceAdd,Nat.reduceLT,Nat.reduceLeDiff,Int.reduceNeg,Int.reduceToNat,reduceCtorEq,lX,aw,encS]
  refine aE.pure (HQ g hg) (by kernel_rfl) ?_
  repeat' (first | (refine au.dec (fun _=>?_) (fun _=>?_)) | (refine au.eq (fun _=>?_) (fun _=>?_)) | (refine au.ne (fun _=>?_) (fun _=>?_)) | (refine au.split (fun _=>?_) (fun _=>?_)) | (simp (disch:=omega) only [↓wr,↓reduceIte,wq,ah,ag,aj,ab,ae,af,ai,isNil,Nat.reduceEqDiff,Nat.reduceAdd,Nat.reduceLT,Nat.reduceLeDiff,Int.reduceNeg,Int.reduceToNat,reduceCtorEq,aw,encS]))
  · rename_i h1
    refine aE.pure (Jw g hg) (by kernel_rfl) ?_
    repeat' (first | (refine au.dec (fun _=>?_) (fun _=>?_)) | (refine au.eq (fun _=>?_) (fun _=>?_)) | (refine au.ne (fun _=>?_) (fun _=>?_)) | (refine au.split (fun _=>?_) (fun _=>?_)) | (simp (disch:=omega) only [↓wr,↓reduceIte,wq,ah,ag,aj,ab,ae,af,ai,isNil,Nat.reduceEqDiff,Nat.reduceAdd,Nat.reduceLT,Nat.reduceLeDiff,Int.reduceNeg,Int.reduceToNat,reduceCtorEq,aw,encS]))
    all_goals try (simp[bt, *]; done)
    all_goals try (simp[bt]; omega)
    rename_i h2 h3 h4 h5 h6
    have hle:g.rules.length≤40:=by omega
    have hpre:∀ b,fH g g.rules (-1)=b→gb b=gb (bt g):=fun b e=>by
      simp[bt,h1,h2,show 1≤g.rules.length by omega,hle,show 0≤g.start by omega,show g.start < g.az.length by omega,e]
    refine bK.intro (fun k T _=>∃ (i:Nat) (w:Int),i+k=g.rules.length∧-1≤w∧w < i∧fH g (g.rules.drop i) w=fH g g.rules (-1)∧T 1=.aU (aw g) 0∧T 3=gi w∧T 4=gi i) g.rules.length ?_ ?_
    · exact ⟨0,-1,by omega,by omega,by omega,rfl,rfl,rfl,rfl⟩
    · rintro k T H' ⟨i,w,hk,hw1,hw2,hi,f1,f3,f4⟩
      simp (disch:=omega) only [↓wr,↓reduceIte,wq,ah,ag,aj,ab,ae,af,ai,isNil,Nat.reduceEqDiff,Nat.reduceAdd,Nat.reduceLT,Nat.reduceLeDiff,Int.reduceNeg,Int.reduceToNat,reduceCtorEq,kO,f1,f3,f4,aw]
      refine au.dec (fun hc=>?_) (fun hc=>?_)
      · have hg2:g.rules[i]?=some (g.rules[i]'(by omega)):=List.getElem?_eq_getElem (by omega)
        rw[fv (show i < g.rules.length by omega)] at hi
        have hmem:g.rules[i]'(by omega)∈g.rules:=List.getElem_mem _
        generalize g.rules[i]'(by omega)=t at hg2 hi hmem
        obtain ⟨⟨hl1,hl2⟩,hp,hr1,hr2⟩:=hg.aD t hmem
        simp only[fH] at hi
        simp (disch:=omega) only [↓wr,↓reduceIte,wq,ah,ag,aj,ab,ae,af,ai,isNil,Nat.reduceEqDiff,Nat.reduceAdd,Nat.reduceLT,Nat.reduceLeDiff,Int.reduceNeg,Int.reduceToNat,reduceCtorEq,f1,f3,f4,aw,encS,bm,encI,List.getElem?_map,hg2,Option.map_some]
        intro m hm
        try simp (disch:=omega) only [↓wr,↓reduceIte,wq,ah,ag,aj,ab,ae,af,ai,isNil,Nat.reduceEqDiff,Nat.reduceAdd,Nat.reduceLT,Nat.reduceLeDiff,Int.reduceNeg,Int.reduceToNat,reduceCtorEq,f1,f3,f4]
        repeat' (first | (refine au.dec (fun _=>?_) (fun _=>?_)) | (refine au.eq (fun _=>?_) (fun _=>?_)) | (refine au.ne (fun _=>?_) (fun _=>?_)) | (refine au.split (fun _=>?_) (fun _=>?_)) | (simp (disch:=omega) only [↓wr,↓reduceIte,wq,ah,ag,aj,ab,ae,af,ai,isNil,Nat.reduceEqDiff,Nat.reduceAdd,Nat.reduceLT,Nat.reduceLeDiff,Int.reduceNeg,Int.reduceToNat,reduceCtorEq,f1,f3,f4,aw,encS,bm,encI]))
        all_goals try (refine hpre _ ?_; simp only[← hi]; simp; omega)
        rename_i e1 e2
        refine aE.pure (JZ g t ⟨hr1,hr2⟩) (by kernel_rfl) ?_
        repeat' (first | (refine au.dec (fun _=>?_) (fun _=>?_)) | (refine au.eq (fun _=>?_) (fun _=>?_)) | (refine au.ne (fun _=>?_) (fun _=>?_)) | (refine au.split (fun _=>?_) (fun _=>?_)) | (simp (disch:=omega) only [↓wr,↓reduceIte,wq,ah,ag,aj,ab,ae,af,ai,isNil,Nat.reduceEqDiff,Nat.reduceAdd,Nat.reduceLT,Nat.reduceLeDiff,Int.reduceNeg,Int.reduceToNat,reduceCtorEq,f1,f3,f4,aw,encS,bm,encI]))
        all_goals simp only[show 0≤t.left by omega,show t.left≤w+1 by omega,decide_true,Bool.true_and] at hi
        · rename_i e3 e4
          rw[e3,Bool.true_and,if_pos e4] at hi
          exact ⟨k - 1,by omega,i+1,_,by omega,by omega,by push_cast; omega,hi,by first | rfl | exact ⟨rfl,rfl⟩ | exact ⟨rfl,rfl,rfl⟩⟩
        · rename_i e3 e4
          rw[e3,Bool.true_and,if_neg e4] at hi
          exact ⟨k - 1,by omega,i+1,_,by omega,by omega,by push_cast; omega,hi,by first | rfl | exact ⟨rfl,rfl⟩ | exact ⟨rfl,rfl,rfl⟩⟩
        · rename_i e3
          rw[e3,Bool.false_and] at hi
          exact hpre _ hi.symm
      · rw[List.drop_eq_nil_of_le (by omega)] at hi
        simp only[fH] at hi
        simp (disch:=omega) only [↓wr,↓reduceIte,wq,ah,ag,aj,ab,ae,af,ai,isNil,Nat.reduceEqDiff,Nat.reduceAdd,Nat.reduceLT,Nat.reduceLeDiff,Int.reduceNeg,Int.reduceToNat,reduceCtorEq,f1,f3,f4,aw,encS]
        exact hpre _ hi.symm
  · rename_i h1; simp[bt,h1]
theorem HN (g:an) (hg:g.Ok):aC Tryz.prog 54 [.agg (aw g)] (gb (bt g)):=aC.val (iC g) (Ho g hg)
inductive bX (α:Type) where
  | nil
  | node (v:α) (l r:bX α)
noncomputable def bX.get {α:Type} (z:α) (t:bX α):Nat→α :=
  bX.rec (motive:=fun _=>Nat→α) (fun _=>z) (fun v _ _ gl gr i=>Bool.rec (Bool.rec (gr (i / 2 - 1)) (gl (i / 2)) (Nat.beq (i % 2) 1)) v (Nat.beq i 0)) t
theorem bX.get_nil {α:Type} (z:α) (i:Nat):bX.get z .nil i=z:=rfl
theorem bX.Lx {α:Type} (z v:α) (l r:bX α) (i:Nat):bX.get z (.node v l r) i=match Nat.beq i 0 with
    | true=>v
    | false=>match Nat.beq (i % 2) 1 with
      | true=>bX.get z l (i / 2)
      | false=>bX.get z r (i / 2 - 1):=by
  change (Bool.rec (motive:=fun _=>α) _ _ _:α)=_
  cases Nat.beq i 0 with
  | true=>rfl
  | false=>cases Nat.beq (i % 2) 1 <;> rfl
def bX.val {α:Type} (z:α):bX α→α
  | .nil=>z
  | .node v _ _=>v
def bX.left {α:Type} : bX α→bX α
  | .nil=>.nil
  | .node _ l _=>l
def bX.right {α:Type} : bX α→bX α
  | .nil=>.nil
  | .node _ _ r=>r
noncomputable def bX.put {α:Type} (z:α) (x:α) (d:Nat):bX α→Nat→bX α :=
  Nat.rec (motive:=fun _=>bX α→Nat→bX α) (fun t _=>t) (fun _ pd t i =>
    Bool.rec (Bool.rec (.node (t.val z) t.left (pd t.right (i / 2 - 1))) (.node (t.val z) (pd t.left (i / 2)) t.right) (Nat.beq (i % 2) 1)) (.node x t.left t.right) (Nat.beq i 0)) d
theorem bX.Lo {α:Type} (z x:α) (d:Nat) (t:bX α) (i:Nat):bX.put z x (d+1) t i=match Nat.beq i 0 with
    | true=>.node x t.left t.right
    | false=>match Nat.beq (i % 2) 1 with
      | true=>.node (t.val z) (bX.put z x d t.left (i / 2)) t.right
      | false=>.node (t.val z) t.left (bX.put z x d t.right (i / 2 - 1)):=by
  change (Bool.rec (motive:=fun _=>bX α) _ _ _:bX α)=_
  cases Nat.beq i 0 with
  | true=>rfl
  | false=>cases Nat.beq (i % 2) 1 <;> rfl
theorem bX.kI {α:Type} (z:α) (t:bX α) (j:Nat):t.get z j=if j=0 then t.val z else if j % 2=1 then t.left.get z (j / 2) else t.right.get z (j / 2 - 1):=by
  cases t with
  | nil=>simp[bX.get_nil,bX.val,bX.left,bX.right]
  | node v l r =>
    simp only[bX.Lx,bX.val,bX.left,bX.right]
    by_cases h:j=0
    · subst h; rfl
    · have:Nat.beq j 0=false:=by cases e:Nat.beq j 0 with | true=>exact absurd (Nat.eq_of_beq_eq_true e) h | false=>rfl
      rw[this,if_neg h]
      simp only
      by_cases h2:j % 2=1
      · have:Nat.beq (j % 2) 1=true:=by rw[h2]; rfl
        rw[this,if_pos h2]
      · have:Nat.beq (j % 2) 1=false:=by cases e:Nat.beq (j % 2) 1 with | true=>exact absurd (Nat.eq_of_beq_eq_true e) h2 | false=>rfl
        rw[this,if_neg h2]
theorem bX.kP {α:Type} (z x:α):∀ (d:Nat) (t:bX α) (i j:Nat),i+1 < 2 ^ d→(bX.put z x d t i).get z j=if j=i then x else t.get z j
  | 0,t,i,j,h=>by simp at h
  | d+1,t,i,j,h=>by
    rw[Nat.pow_succ] at h
    simp only[bX.Lo]
    by_cases hi:i=0
    · subst hi
      have:Nat.beq 0 0=true:=rfl
      rw[this]
      simp only
      rw[bX.kI,bX.kI z t]
      simp only[bX.val,bX.left,bX.right]
      by_cases hj:j=0
      · rw[if_pos hj,if_pos hj]
      · rw[if_neg hj,if_neg hj,if_neg hj]
    · have:Nat.beq i 0=false:=by cases e:Nat.beq i 0 with | true=>exact absurd (Nat.eq_of_beq_eq_true e) hi | false=>rfl
      rw[this]
      simp only
      by_cases h2:i % 2=1
      · have:Nat.beq (i % 2) 1=true:=by rw[h2]; rfl
        rw[this]
        simp only
        rw[bX.kI,bX.kI z t]
        simp only[bX.val,bX.left,bX.right]
        by_cases hj:j=0
        · subst hj; rw[if_pos rfl,if_neg (fun e=>hi e.symm),if_pos rfl]
        · rw[if_neg hj,if_neg hj]
          by_cases hj2:j % 2=1
          · rw[if_pos hj2,if_pos hj2,bX.kP z x d _ _ _ (by omega)]
            by_cases e:j=i
            · subst e; simp
            · rw[if_neg e,if_neg (by omega)]
          · rw[if_neg hj2,if_neg hj2,if_neg (fun e=>hj2 (by rw[e]; exact h2))]
      · have:Nat.beq (i % 2) 1=false:=by cases e:Nat.beq (i % 2) 1 with | true=>exact absurd (Nat.eq_of_beq_eq_true e) h2 | false=>rfl
        rw[this]
        simp only
        rw[bX.kI,bX.kI z t]
        simp only[bX.val,bX.left,bX.right]
        by_cases hj:j=0
        · subst hj; rw[if_pos rfl,if_neg (fun e=>hi e.symm),if_pos rfl]
        · rw[if_neg hj,if_neg hj]
          by_cases hj2:j % 2=1
          · rw[if_pos hj2,if_pos hj2,if_neg (fun e=>h2 (by rw[← e]; exact hj2))]
          · rw[if_neg hj2,if_neg hj2,bX.kP z x d _ _ _ (by omega)]
            by_cases e:j=i
            · subst e; simp
            · rw[if_neg e,if_neg (by omega)]
abbrev deep:Nat:=13
structure ES where
  L:bX V
  H:bX bI
  n:Nat
  w:List Nat
noncomputable def ES.T (s:ES):Env:=s.L.get .any
noncomputable def ES.V (s:ES):View:=s.H.get .dead
noncomputable def ES.put (s:ES) (d:Option Nat) (v:Gv.V):ES:=match d with
  | some t=>⟨s.L.put .any v deep t,s.H,s.n,s.w⟩
  | none=>s
theorem ES.Md {s:ES} {d:Option Nat} {v:Gv.V} (h:∀ t,d=some t→t < 8000):(s.put d v).T=s.T.put d v:=by
  cases d with
  | none=>rfl
  | some t =>
    funext k
    have:=h t rfl
    simp only[ES.put,ES.T,Env.put]
    rw[bX.kP _ _ _ _ _ _ (by simp[deep]; omega)]
noncomputable def CW (v:V) (eff:aY) (rd:List Nat) (s:ES):Option (V × ES × Rec):=match eff with
  | .none=>some (v,s,⟨rd,[],false,s.n,s.n⟩)
  | .new o=>match Nat.ble s.n 8000 with
    | true=>some (v,⟨s.L,s.H.put .dead o deep s.n,s.n+1,s.w⟩,⟨rd,[],false,s.n,s.n+1⟩)
    | false=>none
  | .eC id o=>match Nat.ble id 8000 with
    | true=>some (v,⟨s.L,s.H.put .dead o deep id,s.n,id :: s.w⟩,⟨rd,[id],false,s.n,s.n⟩)
    | false=>none
  | .bj id o=>match Nat.ble s.n 8000,Nat.ble id 8000 with
    | true,true=>some (v,⟨s.L,(s.H.put .dead .dead deep id).put .dead o deep s.n,s.n+1,id :: s.w⟩,⟨rd,[id],false,s.n,s.n+1⟩)
    | _,_=>none
noncomputable def Pc (x:SX) (_:Program) (T:Env) (_:View) (_:Nat):Out:=some (x.at T,.none,[])
noncomputable def N9 (c a b:SX) (_:Program) (T:Env) (_:View) (_:Nat):Out:=match c.at T with
  | .val (.bool t)=>some (if t then a.at T else b.at T,.none,[])
  | _=>none
noncomputable def Og (sz:Option Nat) (a:SX) (_:Program) (T:Env) (H:View) (_:Nat):Out:=tf sz (a.at T) H
noncomputable def Ni (sz:Nat) (a x:SX) (_:Program) (T:Env) (H:View) (_:Nat):Out:=ye sz (a.at T) (x.at T) H
noncomputable def Oj (off:Nat) (x:SX) (_:Program) (T:Env) (_:View) (_:Nat):Out:=vR off (x.at T)
noncomputable def OQ (sz:Nat) (x i:SX) (_:Program) (T:Env) (_:View) (_:Nat):Out:=AR sz (x.at T) (i.at T)
noncomputable def OL (x:SX) (_:Program) (T:Env) (_:View) (_:Nat):Out:=(cH (x.at T)).map fun n=>(aj n,.none,[])
noncomputable def Nd (op:BinOp) (x y:SX) (_:Program) (T:Env) (_:View) (_:Nat):Out:=u4 op (x.at T) (y.at T)
noncomputable def OE (op:BinOp) (x y:SX) (_:Program) (T:Env) (_:View) (_:Nat):Out:=xH op (x.at T) (y.at T)
noncomputable def OP (x:SX) (_:Program) (T:Env) (_:View) (_:Nat):Out:=match x.at T with
  | .val (.bool t)=>some (.val (.bool (!t)),.none,[])
  | _=>none
noncomputable def OJ (i:Nat) (x:SX) (_:Program) (T:Env) (_:View) (_:Nat):Out:=match x.at T with
  | .bc vs=>if i < vs.length then some (vs.getD i .any,.none,[]) else none
  | _=>none
noncomputable def N5 (x:SX) (_:Program) (T:Env) (_:View) (_:Nat):Out:=match x.at T with
  | .ptr id i j=>some (.ptr id i j,.none,[])
  | .aU e j=>some (.aU e j,.none,[])
  | .fn f a b=>some (.fn f a b,.none,[])
  | _=>none
noncomputable def eI (s:SI):Program→Env→View→Nat→Out:=match s with
  | .bj x=>Pc x
  | .pick c a b=>N9 c a b
  | .load sz a=>Og sz a
  | .store sz a x=>Ni sz a x
  | .addr o x=>Oj o x
  | .idx sz x i=>OQ sz x i
  | .len x=>OL x
  | .arith op x y=>Nd op x y
  | .iO op x y=>OE op x y
  | .not x=>OP x
  | .ext i x=>OJ i x
  | .x4 x=>N5 x
  | s=>fun P T H n=>sI P s T H n
theorem Hq (s:SI) (P:Program) (T:Env) (H:View) (n:Nat):eI s P T H n=sI P s T H n:=by
  cases s <;> rfl
abbrev fV:=FuncId→List V→ES→Option (V × ES)
noncomputable def IH (P:Program) (s:SI) (e:ES):Option (V × ES × Rec):=match eI s P e.T e.V e.n with
  | some (v,eff,rd)=>CW v eff rd e
  | none=>none
noncomputable def Ja (call:fV) (f:SX) (args:List SX) (e:ES):Option (V × ES × Rec):=match f.at e.T with
  | .fn g first cap=>match call g (first ++ args.map (SX.at e.T) ++ cap) e with
    | some (v,e')=>some (v,⟨e.L,e'.H,e'.n,e'.w ++ e.w⟩,⟨[],e'.w,true,e.n,e'.n⟩)
    | none=>none
  | _=>none
noncomputable def eB (P:Program) (call:fV) (b:SB):ES→Option (V × ES × Rec):=match b with
  | .op s=>IH P s
  | .call f args=>Ja call f args
noncomputable def FW (P:Program) (call:fV):List (Option Nat × SB)→List Rec→ES→Option (ES × List Rec)
  | [],a,e=>some (e,a)
  | (d,b) :: r,a,e=>match eB P call b e with
    | some (v,e',c)=>FW P call r (a ++ [c]) (e'.put d v)
    | none=>none
noncomputable def Ml (e:ES):Rec:=⟨[],[],false,e.n,e.n⟩
noncomputable def s8:List (Option Nat × SB)→List Rec→ES→ES × List Rec
  | [],a,e=>(e,a)
  | (d,_) :: r,a,e=>s8 r (a ++ [Ml e]) (e.put d (.bc []))
noncomputable def JH (P:Program) (call:fV) (ops:List (Option Nat × SB)) (want:Bool) (v:V) (a:List Rec) (e:ES):Option (ES × List Rec):=match v with
  | .val (.bool b)=>match xor b want with
    | true=>some (s8 ops a e)
    | false=>FW P call ops a e
  | .bc []=>some (s8 ops a e)
  | _=>none
noncomputable def eG (P:Program) (call:fV) (g:SG) (a:List Rec) (e:ES):Option (ES × List Rec):=match g.guard with
  | none=>FW P call g.ops a e
  | some (d,want)=>JH P call g.ops want (e.T d) a e
noncomputable def Ie (P:Program) (call:fV):List SG→List Rec→ES→Option (ES × List Rec)
  | [],a,e=>some (e,a)
  | g :: r,a,e=>match eG P call g a e with
    | some (e',a')=>Ie P call r a' e'
    | none=>none
inductive DC where
  | skip
  | region (ps:List (Nat × Nat)) (gs:List SG)
  | seq (x y:DC)
  | cond (c:SX) (x y:DC)
  | block (id:Nat) (c:DC)
  | loop (c:DC)
  | exit (id:Nat)
  | ret
  deriving Inhabited
def J6 (recs:List Rec) (ps:List (Nat × Nat)):Bool:=ps.all fun (i,k)=>match recs[i]?,recs[k]? with
  | some a,some b=>Ad a b
  | _,_=>false
abbrev ER:=Option (Exit × ES)
abbrev tI:=DC→ES→ER
noncomputable def Jd:ES→ER:=fun e=>some (.normal,e)
noncomputable def FQ (P:Program) (call:fV) (ps:List (Nat × Nat)) (gs:List SG) (e:ES):ER:=match Ie P call gs [] e with
  | some (e',recs)=>match J6 recs ps with
    | true=>some (.normal,e')
    | false=>none
  | none=>none
noncomputable def NB (run:tI) (x y:DC) (e:ES):ER:=match run x e with
  | some (.normal,e')=>run y e'
  | r=>r
noncomputable def L6 (run:tI) (c:SX) (x y:DC) (e:ES):ER:=match c.at e.T with
  | .val (.bool true)=>run x e
  | .val (.bool false)=>run y e
  | _=>none
noncomputable def J9 (run:tI) (id:Nat) (c:DC) (e:ES):ER:=match run c e with
  | some (r,e')=>some (mR id r,e')
  | none=>none
noncomputable def Mi (run:tI) (c:DC) (e:ES):ER:=match run c e with
  | some (.normal,e')=>run (.loop c) e'
  | r=>r
noncomputable def kd (P:Program) (call:fV) (run:tI) (c:DC):ES→ER:=match c with
  | .skip=>Jd
  | .region ps gs=>FQ P call ps gs
  | .seq x y=>NB run x y
  | .cond c x y=>L6 run c x y
  | .block id c=>J9 run id c
  | .loop c=>Mi run c
  | .exit id=>fun e=>some (.exit id,e)
  | .ret=>fun e=>some (.ret,e)
noncomputable def LP (r:SR) (e:ES):Option V:=match r with
  | .tmp t=>some (e.T t)
  | .cell t sz=>match e.T t with
    | .ptr id i j=>match e.V id with
      | .arr _ es=>if i < es.length then kc sz (es.getD i []) j else none
      | _=>none
    | .aU e j=>kc sz e j
    | _=>none
noncomputable def tc:List SR→ES→Option (List V)
  | [],_=>some []
  | r :: l,e=>match LP r e,tc l e with
    | some v,some vs=>some (v :: vs)
    | _,_=>none
noncomputable def kF:List V→Nat→bX V→bX V
  | [],_,t=>t
  | v :: vs,i,t=>kF vs (i+1) (t.put .any v deep i)
structure DF where
  code:DC
  res:List SR
  n:Nat
noncomputable def NL (l:List SR) (r:ER):Option (V × ES):=match r with
  | some (.ret,e)=>(tc l e).map fun vs=>(ah vs,e)
  | some (.normal,e)=>(tc l e).map fun vs=>(ah vs,e)
  | _=>none
noncomputable def Np (m:Nat) (r:Option (V × ES)):Option (V × ES):=match r with
  | some (v,e)=>some (v,⟨e.L,e.H,e.n,e.w.filter fun id=>Nat.blt id m⟩)
  | none=>none
noncomputable def NQ (run:tI) (F:DF) (vs:List V) (e:ES):Option (V × ES):=match Nat.ble vs.length F.n,Nat.ble F.n 8000 with
  | true,true=>Np e.n (NL F.res (run F.code ⟨kF vs 0 .nil,e.H,e.n,[]⟩))
  | _,_=>none
abbrev u6:=FuncId→List V→View→Option V
noncomputable def CC (P:Program) (tab:List (FuncId × DF)) (ext:u6) (run:tI) (g:FuncId) (vs:List V) (e:ES):Option (V × ES):=match ext g vs e.V with
  | some t=>some (t,⟨e.L,e.H,e.n,[]⟩)
  | none=>match tab.find? (fun p=>Nat.beq p.1 g) with
    | some (_,F)=>NQ run F vs e
    | none=>none
noncomputable def DW (P:Program) (tab:List (FuncId × DF)) (ext:u6):Nat→tI
  | 0=>fun _ _=>none
  | k+1=>kd P (CC P tab ext (DW P tab ext k)) (DW P tab ext k)
def yp (all:List Oper) (ls:List Nat):List (Nat × Nat) :=
  let b:=er all []
  (ls.zipIdx.map fun (x,i)=>(ls.zipIdx.filter fun (y,k)=>decide (i < k) && !(ordered b i k || x == 0 || y == 0 || (decide (x≤1) && decide (y≤1)))).map fun (_,k)=>(i,k)).flatten
def C0 (P:Program) (n:Nat) (fz:List Nat) (ops:List Oper) (draw:Bool):Option DC:=match cU P n ops ⟨fz,false⟩ ops with
  | none=>none
  | some l=>if !(group l).all qh then none else
    if draw then (if j5 ops then some (.region (yp ops (l.map fun s=>gK P false s.b)) (group l)) else none) else some (.region [] (group l))
def gN (P:Program) (n:Nat) (fz:List Nat):Code→Option DC
  | .skip=>some .skip
  | .region _ ops draw=>C0 P n fz ops.toList draw
  | .seq x y=>match gN P n fz x,gN P n fz y with
    | some a,some b=>some (.seq a b)
    | _,_=>none
  | .cond c x y=>match gN P n fz x,gN P n fz y with
    | some a,some b=>some (.cond (SX.of c) a b)
    | _,_=>none
  | .block id c=>(gN P n fz c).map (.block id)
  | .loop c=>(gN P n fz c).map .loop
  | .exit id=>some (.exit id)
  | .ret=>some .ret
  | _=>none
abbrev ak (l:List (Option Nat × SB)):DC:=.region [] [⟨none,l⟩]
def aP (P:Program) (f:FuncId) (fz:List Nat):Option DF:=match P.funcs[f]? with
  | some fn=>match fn.body with
    | some c=>match gN P fn.ntmps fz c,eu P fn.results.toList,cR P f with
      | some sc,some rs,true=>some ⟨sc,rs,fn.ntmps⟩
      | _,_,_=>none
    | none=>none
  | none=>none
end Gv
