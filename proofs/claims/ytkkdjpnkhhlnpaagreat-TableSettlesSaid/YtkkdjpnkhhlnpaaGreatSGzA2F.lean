/-
  Part 6 of the proof: what the machine does and what the functions answer.
  Conditions: those that each lemma names.
-/
import Derived.Test.YtkkdjpnkhhlnpaaGreatSGzA2E
set_option linter.unusedSimpArgs false
set_option linter.unusedVariables false
set_option maxRecDepth 100000
namespace Gv
open Go Go.Proofs
structure Term where
  name:ByteArray
  level:Int
  assoc:Int
structure aZ where
  left:Int
  right:List Int
  prec:Int
structure aE where
  az:List Term
  aK:List ByteArray
  rules:List aZ
  start:Int
instance:Inhabited Term:=⟨⟨.empty,0,0⟩⟩
instance:Inhabited aZ:=⟨⟨0,[],0⟩⟩
def bN (t:Term):List V:=[gs t.name,gi t.level,gi t.assoc]
def aY (r:aZ):List V:=[gi r.left,encI r.right,gi r.prec]
def encS (l:List ByteArray):V:=.aS (l.map fun s=>[gs s])
def aw (g:aE):List V:=[.aS (g.az.map bN),encS g.aK,.aS (g.rules.map aY),gi g.start]
theorem eC {α:Type} (l:List α) (f:α→List V) (h:∀ x∈l,∀ v∈f x,Tree v):Tree (.aS (l.map f)):=by
  refine .aS _ fun i j hi hj=>?_
  simp only[List.length_map] at hi
  have e:(l.map f).getD i []=f l[i]:=by simp[List.getD_eq_getElem?_getD,hi]
  rw[e] at hj ⊢
  have e2:(f l[i]).getD j .any=(f l[i])[j]:=by simp[List.getD_eq_getElem?_getD,hj]
  rw[e2]
  exact h _ (List.getElem_mem _) _ (List.getElem_mem _)
theorem cI (cs:List V) (h:∀ v∈cs,Tree v):Tree (.agg cs):=by
  refine .agg _ fun i hi=>?_
  have e2:cs.getD i .any=cs[i]:=by simp[List.getD_eq_getElem?_getD,hi]
  rw[e2]; exact h _ (List.getElem_mem _)
theorem rM (l:List ByteArray):Tree (encS l):=eC _ _ fun x _ v hv=>by simp at hv; subst hv; exact .val _
theorem m5 (t:Term):∀ v∈bN t,Tree v:=by intro v hv; simp[bN] at hv; rcases hv with rfl | rfl | rfl <;> exact .val _
theorem dw (r:aZ):∀ v∈aY r,Tree v:=by
  intro v hv; simp[aY] at hv; rcases hv with rfl | rfl | rfl
  · exact .val _
  · exact rl _
  · exact .val _
theorem dr (g:aE):∀ v∈aw g,Tree v:=by
  intro v hv; simp[aw] at hv; rcases hv with rfl | rfl | rfl | rfl
  · exact eC _ _ fun x _=>m5 x
  · exact rM _
  · exact eC _ _ fun x _=>dw x
  · exact .val _
def cU (x:Int):Prop:=-9223372036854775808≤x∧x≤9223372036854775807
structure aE.Ok (g:aE):Prop where
  az:bd g.az
  aK:bd g.aK
  rules:bd g.rules
  start:cU g.start
  term:∀ t∈g.az,cU t.level∧cU t.assoc
  bg:∀ r∈g.rules,cU r.left∧cU r.prec∧bd r.right∧∀ x∈r.right,cU x
def mh (g:aE) (s:Int):Bool:=if 0≤s then decide (s < g.az.length) else decide (-1 - s < g.aK.length)
def ly:SF:=⟨.seq (ao [bu 2 0,aM 4 false]) <|
  .seq (.seq (ao [aa 5 1,aq 6 .geq 5 0]) <|
  .cond (.tmp 6) (.seq (ao [aa 7 1,al 8 0 2,ak 9 8,aH 10 9,aF 11 .lss 7 10,aa 4 11]) <|
  .ret) (.skip)) <|
  .seq (ao [aa 12 1,((some 13),.op (.arith .sub (.val (.val (.int .i64 (-1)))) (.tmp 12))),al 14 1 2,ak 15 14,aH 16 15,aF 17 .lss 13 16,aa 4 17]) <|
  .ret,
  [.tmp 4],18⟩
theorem pN:bb Tryz.prog 172 [2]=some ly:=by kernel_rfl
theorem GZ (g:aE) (s:Int) (hs:cU s) (H:View):aD Tryz.prog 172 [.agg (aw g),gi s] H fun r H'=>r=gb (mh g s)∧H'=H:=by
  refine aD.of mixed pN ?_
  obtain ⟨h1,h2⟩:=hs
  simp (disch:=omega) only [↓wr,↓reduceIte,wq,ai,ah,an,ab,ae,ag,aj,isNil,Nat.reduceEqDiff,Nat.reduceAdd,Nat.reduceLT,Nat.reduceLeDiff,Int.reduceNeg,Int.reduceToNat,reduceCtorEq,ly,aw,encS]
  refine ar.dec (fun h=>?_) (fun h=>?_)
  · simp (disch:=omega) only [↓wr,↓reduceIte,wq,ai,ah,an,ab,ae,ag,aj,isNil,Nat.reduceEqDiff,Nat.reduceAdd,Nat.reduceLT,Nat.reduceLeDiff,Int.reduceNeg,Int.reduceToNat,reduceCtorEq]
    simp[mh,show (0:Int)≤s from h]
  · simp (disch:=omega) only [↓wr,↓reduceIte,wq,ai,ah,an,ab,ae,ag,aj,isNil,Nat.reduceEqDiff,Nat.reduceAdd,Nat.reduceLT,Nat.reduceLeDiff,Int.reduceNeg,Int.reduceToNat,reduceCtorEq]
    simp[mh,show ¬ (0:Int)≤s from h]
theorem Hd (g:aE) (s:Int) (hs:cU s):aA Tryz.prog 172 [.agg (aw g),gi s] (gb (mh g s)) :=
  aA.of (by
    intro v hv; simp at hv
    rcases hv with rfl | rfl
    · exact cI _ (dr g)
    · exact .val _) ((GZ g s hs _).mono fun r H' h h' _=>by rw[h.1]; exact .tree _ (.val _))
def jq (g:aE):Bool:=decide (40 < g.az.length) || decide (40 < g.aK.length) || decide (60 < g.rules.length) || g.rules.any fun r=>decide (20 < r.right.length)
def iL:SC :=
  .seq (.seq (ao [aa 20 3,al 21 2 1,ak 22 21,aH 23 22,aF 24 .lss 20 23]) <|
  .cond (.tmp 24) (.skip) (.exit 0)) <|
  .seq (.block 1 (.seq (ao [al 27 2 1,ak 28 27,aa 29 3,aI 30 3 28 29,al 31 1 30,ak 32 31,aH 33 32,aq 34 .gtr 33 20]) <|
  .cond (.tmp 34) (.seq (ao [aM 2 true]) <|
  .ret) (.skip))) <|
  ao [aa 25 3,aq 26 .add 25 1,aa 3 26]
def jI:SF:=⟨.seq (ao [bu 1 0,aM 2 false]) <|
  .seq (.seq (.region false [⟨none,[al 4 0 1,ak 5 4,aH 6 5,aq 7 .gtr 6 40,aa 8 7]⟩,⟨(some (8,false)),[al 9 1 1,ak 10 9,aH 11 10,aq 12 .gtr 11 40]⟩,⟨none,[aT 13 8 12,aa 14 13]⟩,⟨(some (14,false)),[al 15 2 1,ak 16 15,aH 17 16,aq 18 .gtr 17 60]⟩,⟨none,[aT 19 14 18]⟩]) <|
  .cond (.tmp 19) (.seq (ao [aM 2 true]) <|
  .ret) (.skip)) <|
  .seq (.seq (ao [ax 3 0]) <|
  .block 0 (.loop iL)) <|
  .seq (ao [aM 2 false]) <|
  .ret,
  [.tmp 2],35⟩
theorem nQ:bb Tryz.prog 16 [1]=some jI:=by kernel_rfl
theorem Fm (g:aE) (H:View):aD Tryz.prog 16 [.agg (aw g)] H fun r H'=>r=gb (jq g)∧H'=H:=by
  refine aD.of mixed nQ ?_
  simp (disch:=omega) only [↓wr,↓reduceIte,wq,ai,ah,an,ab,ae,ag,aj,isNil,Nat.reduceEqDiff,Nat.reduceAdd,Nat.reduceLT,Nat.reduceLeDiff,Int.reduceNeg,Int.reduceToNat,reduceCtorEq,jI,aw,encS]
  refine ar.dec (fun h1=>?_) (fun h1=>?_)
  · simp (disch:=omega) only [↓wr,↓reduceIte,wq,ai,ah,an,ab,ae,ag,aj,isNil,Nat.reduceEqDiff,Nat.reduceAdd,Nat.reduceLT,Nat.reduceLeDiff,Int.reduceNeg,Int.reduceToNat,reduceCtorEq]
    simp[jq,show 40 < g.az.length by omega]
  · simp (disch:=omega) only [↓wr,↓reduceIte,wq,ai,ah,an,ab,ae,ag,aj,isNil,Nat.reduceEqDiff,Nat.reduceAdd,Nat.reduceLT,Nat.reduceLeDiff,Int.reduceNeg,Int.reduceToNat,reduceCtorEq]
    refine ar.dec (fun h2=>?_) (fun h2=>?_)
    · simp (disch:=omega) only [↓wr,↓reduceIte,wq,ai,ah,an,ab,ae,ag,aj,isNil,Nat.reduceEqDiff,Nat.reduceAdd,Nat.reduceLT,Nat.reduceLeDiff,Int.reduceNeg,Int.reduceToNat,reduceCtorEq]
      simp[jq,show 40 < g.aK.length by omega]
    · simp (disch:=omega) only [↓wr,↓reduceIte,wq,ai,ah,an,ab,ae,ag,aj,isNil,Nat.reduceEqDiff,Nat.reduceAdd,Nat.reduceLT,Nat.reduceLeDiff,Int.reduceNeg,Int.reduceToNat,reduceCtorEq]
      refine ar.dec (fun h3=>?_) (fun h3=>?_)
      · simp (disch:=omega) only [↓wr,↓reduceIte,wq,ai,ah,an,ab,ae,ag,aj,isNil,Nat.reduceEqDiff,Nat.reduceAdd,Nat.reduceLT,Nat.reduceLeDiff,Int.reduceNeg,Int.reduceToNat,reduceCtorEq]
        simp[jq,show 60 < g.rules.length by omega]
      · simp (disch:=omega) only [↓wr,↓reduceIte,wq,ai,ah,an,ab,ae,ag,aj,isNil,Nat.reduceEqDiff,Nat.reduceAdd,Nat.reduceLT,Nat.reduceLeDiff,Int.reduceNeg,Int.reduceToNat,reduceCtorEq]
        refine bJ.intro (fun k T H'=>∃ i:Nat,i+k=g.rules.length∧(∀ r∈g.rules.take i,¬ 20 < r.right.length)∧T 1=.aQ (aw g) 0∧T 3=gi i∧H'=H) g.rules.length ?_ ?_
        · exact ⟨0,by omega,by simp,rfl,rfl,rfl⟩
        · rintro k T H' ⟨i,hk,hi,e1,e3,rfl⟩
          simp (disch:=omega) only [↓wr,↓reduceIte,wq,ai,ah,an,ab,ae,ag,aj,isNil,Nat.reduceEqDiff,Nat.reduceAdd,Nat.reduceLT,Nat.reduceLeDiff,Int.reduceNeg,Int.reduceToNat,reduceCtorEq,iL,e1,e3,aw]
          refine ar.dec (fun hc=>?_) (fun hc=>?_)
          · have hg:g.rules[i]?=some (g.rules[i]'(by omega)):=List.getElem?_eq_getElem (by omega)
            simp (disch:=omega) only [↓wr,↓reduceIte,wq,ai,ah,an,ab,ae,ag,aj,isNil,Nat.reduceEqDiff,Nat.reduceAdd,Nat.reduceLT,Nat.reduceLeDiff,Int.reduceNeg,Int.reduceToNat,reduceCtorEq,e1,e3,aw,aY,encI,List.getElem?_map,hg,Option.map_some]
            refine ar.dec (fun hd=>?_) (fun hd=>?_)
            · simp (disch:=omega) only [↓wr,↓reduceIte,wq,ai,ah,an,ab,ae,ag,aj,isNil,Nat.reduceEqDiff,Nat.reduceAdd,Nat.reduceLT,Nat.reduceLeDiff,Int.reduceNeg,Int.reduceToNat,reduceCtorEq]
              have:g.rules.any (fun r=>decide (20 < r.right.length))=true:=by
                simp only[List.any_eq_true,decide_eq_true_eq]
                exact ⟨g.rules[i]'(by omega),List.getElem_mem _,by omega⟩
              simp[jq,this]
            · simp (disch:=omega) only [↓wr,↓reduceIte,wq,ai,ah,an,ab,ae,ag,aj,isNil,Nat.reduceEqDiff,Nat.reduceAdd,Nat.reduceLT,Nat.reduceLeDiff,Int.reduceNeg,Int.reduceToNat,reduceCtorEq,e1,e3]
              refine ⟨k - 1,by omega,i+1,by omega,?_,rfl,rfl⟩
              intro r hr
              rw[List.take_add_one,hg] at hr
              simp only[Option.toList_some,List.mem_append,List.mem_singleton] at hr
              rcases hr with hr | rfl
              · exact hi r hr
              · omega
          · simp (disch:=omega) only [↓wr,↓reduceIte,wq,ai,ah,an,ab,ae,ag,aj,isNil,Nat.reduceEqDiff,Nat.reduceAdd,Nat.reduceLT,Nat.reduceLeDiff,Int.reduceNeg,Int.reduceToNat,reduceCtorEq,e1,e3]
            have e:i=g.rules.length:=by omega
            rw[List.take_of_length_le (by omega)] at hi
            have:g.rules.any (fun r=>decide (20 < r.right.length))=false:=by
              simp only[List.any_eq_false,decide_eq_true_eq]; exact hi
            simp only[jq,this]
            simp; omega
def eU (l:List Int) (is:List Bool) (az:Bool):Bool:=l.all fun s=>if 0≤s then az else is.getD (-1 - s).toNat false
abbrev gy (x:Int):V:=.val (.int .u8 x)
def oP (c:Int):Bool:=(decide (97≤c) && decide (c≤122)) || (decide (65≤c) && decide (c≤90)) || c == 95
def iZ (c:Int):Bool:=oP c || (decide (48≤c) && decide (c≤57)) || c == 46
def jD:SF:=⟨.seq (ao [aM 2 false]) <|
  .seq (.region false [⟨none,[aa 3 0,((some 4),.op (.arith .geq (.tmp 3) (.val (.val (.int .u8 97))))),aa 5 4]⟩,⟨(some (5,true)),[aa 6 0,((some 7),.op (.arith .leq (.tmp 6) (.val (.val (.int .u8 122)))))]⟩,⟨none,[bf 8 5 7,aa 9 8]⟩,⟨(some (9,false)),[aa 10 0,((some 11),.op (.arith .geq (.tmp 10) (.val (.val (.int .u8 65))))),aa 12 11]⟩,⟨(some (12,true)),[aa 13 0,((some 14),.op (.arith .leq (.tmp 13) (.val (.val (.int .u8 90)))))]⟩,⟨(some (9,false)),[bf 15 12 14]⟩,⟨none,[aT 16 9 15,aa 17 16]⟩,⟨(some (17,false)),[aa 18 0,((some 19),.op (.arith .eql (.tmp 18) (.val (.val (.int .u8 95)))))]⟩,⟨none,[aT 20 17 19,aa 2 20]⟩]) <|
  .ret,
  [.tmp 2],21⟩
theorem nJ:bb Tryz.prog 218 []=some jD:=by kernel_rfl
def jQ:SF:=⟨.seq (ao [aM 2 false]) <|
  .seq (.region false [⟨none,[aa 3 0,aB 4 218 [3],aa 5 4]⟩,⟨(some (5,false)),[aa 6 0,((some 7),.op (.arith .geq (.tmp 6) (.val (.val (.int .u8 48))))),aa 8 7]⟩,⟨(some (8,true)),[aa 9 0,((some 10),.op (.arith .leq (.tmp 9) (.val (.val (.int .u8 57)))))]⟩,⟨(some (5,false)),[bf 11 8 10]⟩,⟨none,[aT 12 5 11,aa 13 12]⟩,⟨(some (13,false)),[aa 14 0,((some 15),.op (.arith .eql (.tmp 14) (.val (.val (.int .u8 46)))))]⟩,⟨none,[aT 16 13 15,aa 2 16]⟩]) <|
  .ret,
  [.tmp 2],17⟩
theorem nH:bb Tryz.prog 219 []=some jQ:=by kernel_rfl
theorem Fj (c:Int) (H:View):aD Tryz.prog 218 [gy c] H fun r H'=>r=gb (oP c)∧H'=H:=by
  refine aD.of mixed nJ ?_
  repeat' (first | (refine ar.dec (fun _=>?_) (fun _=>?_)) | (refine ar.eq (fun _=>?_) (fun _=>?_)) | (refine ar.ne (fun _=>?_) (fun _=>?_)) | (refine ar.split (fun _=>?_) (fun _=>?_)) | (simp (disch:=omega) only [↓wr,↓reduceIte,wq,ai,ah,an,ab,ae,ag,aj,isNil,Nat.reduceEqDiff,Nat.reduceAdd,Nat.reduceLT,Nat.reduceLeDiff,Int.reduceNeg,Int.reduceToNat,reduceCtorEq,jD]))
  all_goals (congr 2; simp only[oP]; grind)
theorem zH (c:Int):aA Tryz.prog 218 [gy c] (gb (oP c)) :=
  aA.of (by intro v hv; simp at hv; subst hv; exact .val _) ((Fj c _).mono fun r H' h h' _=>by rw[h.1]; exact .tree _ (.val _))
theorem Fy (c:Int) (H:View):aD Tryz.prog 219 [gy c] H fun r H'=>r=gb (iZ c)∧H'=H:=by
  refine aD.of mixed nH ?_
  repeat' (first | (refine ar.dec (fun _=>?_) (fun _=>?_)) | (refine ar.eq (fun _=>?_) (fun _=>?_)) | (refine ar.ne (fun _=>?_) (fun _=>?_)) | (refine ar.split (fun _=>?_) (fun _=>?_)) | (simp (disch:=omega) only [↓wr,↓reduceIte,wq,ai,ah,an,ab,ae,ag,aj,isNil,Nat.reduceEqDiff,Nat.reduceAdd,Nat.reduceLT,Nat.reduceLeDiff,Int.reduceNeg,Int.reduceToNat,reduceCtorEq,jQ]))
  refine aJ.pure (zH c) (by kernel_rfl) ?_
  repeat' (first | (refine ar.dec (fun _=>?_) (fun _=>?_)) | (refine ar.eq (fun _=>?_) (fun _=>?_)) | (refine ar.ne (fun _=>?_) (fun _=>?_)) | (refine ar.split (fun _=>?_) (fun _=>?_)) | (simp (disch:=omega) only [↓wr,↓reduceIte,wq,ai,ah,an,ab,ae,ag,aj,isNil,Nat.reduceEqDiff,Nat.reduceAdd,Nat.reduceLT,Nat.reduceLeDiff,Int.reduceNeg,Int.reduceToNat,reduceCtorEq]))
  all_goals (congr 2; simp only[iZ]; grind)
theorem EL (c:Int):aA Tryz.prog 219 [gy c] (gb (iZ c)) :=
  aA.of (by intro v hv; simp at hv; subst hv; exact .val _) ((Fy c _).mono fun r H' h h' _=>by rw[h.1]; exact .tree _ (.val _))
def dy (l:List Int):Bool:=decide (0 < l.length) && decide (l.length≤20) && (match l with | c :: _=>oP c | []=>false) && l.all iZ
def ji:SC :=
  .seq (.seq (ao [aa 18 3,aa 19 0,((some 20),.op (.eA (.tmp 19))),aF 21 .lss 18 20]) <|
  .cond (.tmp 21) (.skip) (.exit 0)) <|
  .seq (.block 1 (.seq (ao [aa 24 0,aa 25 3,((some 26),.op (.bZ (.tmp 24) (.tmp 25))),aB 27 219 [26],bB 28 27]) <|
  .cond (.tmp 28) (.seq (ao [aM 2 false]) <|
  .ret) (.skip))) <|
  ao [aa 22 3,aq 23 .add 22 1,aa 3 23]
def kF:SF:=⟨.seq (ao [aM 2 false]) <|
  .seq (.seq (.region false [⟨none,[aa 4 0,((some 5),.op (.eA (.tmp 4))),aq 6 .eql 5 0,aa 7 6]⟩,⟨(some (7,false)),[aa 8 0,((some 9),.op (.eA (.tmp 8))),aq 10 .gtr 9 20]⟩,⟨none,[aT 11 7 10,aa 12 11]⟩,⟨(some (12,false)),[aa 13 0,((some 14),.op (.bZ (.tmp 13) (.val (.val (.int .i64 0))))),aB 15 218 [14],bB 16 15]⟩,⟨none,[aT 17 12 16]⟩]) <|
  .cond (.tmp 17) (.seq (ao [aM 2 false]) <|
  .ret) (.skip)) <|
  .seq (.seq (ao [ax 3 0]) <|
  .block 0 (.loop ji)) <|
  .seq (ao [aM 2 true]) <|
  .ret,
  [.tmp 2],29⟩
theorem oB:bb Tryz.prog 171 []=some kF:=by kernel_rfl
theorem DW (s:ByteArray) (H:View):aD Tryz.prog 171 [gs s] H fun r H'=>r=gb (dy (cW s))∧H'=H:=by
  refine aD.of mixed oB ?_
  repeat' (first | (refine ar.dec (fun _=>?_) (fun _=>?_)) | (refine ar.eq (fun _=>?_) (fun _=>?_)) | (refine ar.ne (fun _=>?_) (fun _=>?_)) | (refine ar.split (fun _=>?_) (fun _=>?_)) | (simp (disch:=omega) only [↓wr,↓reduceIte,wq,ai,ah,an,ab,ae,ag,aj,isNil,Nat.reduceEqDiff,Nat.reduceAdd,Nat.reduceLT,Nat.reduceLeDiff,Int.reduceNeg,Int.reduceToNat,reduceCtorEq,kF,cr]))
  · rename_i h
    congr 2; simp[dy,show (cW s).length=0 by omega]
  · rename_i h
    congr 2; simp[dy,show ¬ (cW s).length≤20 by omega]
  · rename_i h1 h2
    cases hb:cW s with
    | nil=>simp[hb] at h1
    | cons c l =>
      repeat' (first | (refine ar.dec (fun _=>?_) (fun _=>?_)) | (refine ar.eq (fun _=>?_) (fun _=>?_)) | (refine ar.ne (fun _=>?_) (fun _=>?_)) | (refine ar.split (fun _=>?_) (fun _=>?_)) | (simp (disch:=omega) only [↓wr,↓reduceIte,wq,ai,ah,an,ab,ae,ag,aj,isNil,Nat.reduceEqDiff,Nat.reduceAdd,Nat.reduceLT,Nat.reduceLeDiff,Int.reduceNeg,Int.reduceToNat,reduceCtorEq,hb,List.getElem?_cons_zero,cr]))
      refine aJ.pure (zH c) (by kernel_rfl) ?_
      repeat' (first | (refine ar.dec (fun _=>?_) (fun _=>?_)) | (refine ar.eq (fun _=>?_) (fun _=>?_)) | (refine ar.ne (fun _=>?_) (fun _=>?_)) | (refine ar.split (fun _=>?_) (fun _=>?_)) | (simp (disch:=omega) only [↓wr,↓reduceIte,wq,ai,ah,an,ab,ae,ag,aj,isNil,Nat.reduceEqDiff,Nat.reduceAdd,Nat.reduceLT,Nat.reduceLeDiff,Int.reduceNeg,Int.reduceToNat,reduceCtorEq,hb,List.getElem?_cons_zero,cr]))
      · rename_i hf
        refine bJ.intro (fun k T H'=>∃ i:Nat,i+k=(c :: l).length∧((c :: l).take i).all iZ=true∧T 0=gs s∧T 3=gi i∧H'=H) (c :: l).length ?_ ?_
        · exact ⟨0,by omega,by simp,rfl,rfl,rfl⟩
        · rintro k T H' ⟨i,hk,hi,h0,h3,rfl⟩
          rw[hb] at h1 h2
          simp (disch:=omega) only [↓wr,↓reduceIte,wq,ai,ah,an,ab,ae,ag,aj,isNil,Nat.reduceEqDiff,Nat.reduceAdd,Nat.reduceLT,Nat.reduceLeDiff,Int.reduceNeg,Int.reduceToNat,reduceCtorEq,ji,h0,h3,cr,hb]
          refine ar.dec (fun hc=>?_) (fun hc=>?_)
          · simp only[List.length_cons] at hc hk h2
            have hg:(c :: l)[i]?=some ((c :: l)[i]'(by simp; omega)):=List.getElem?_eq_getElem (by simp; omega)
            have hm:(c :: l)[i]'(by simp; omega)∈c :: l:=List.getElem_mem _
            generalize (c :: l)[i]'(by simp; omega)=d at hg hm
            simp (disch:=omega) only [↓wr,↓reduceIte,wq,ai,ah,an,ab,ae,ag,aj,isNil,Nat.reduceEqDiff,Nat.reduceAdd,Nat.reduceLT,Nat.reduceLeDiff,Int.reduceNeg,Int.reduceToNat,reduceCtorEq,h0,h3,cr,hb,hg]
            refine aJ.pure (EL d) (by kernel_rfl) ?_
            repeat' (first | (refine ar.dec (fun _=>?_) (fun _=>?_)) | (refine ar.eq (fun _=>?_) (fun _=>?_)) | (refine ar.ne (fun _=>?_) (fun _=>?_)) | (refine ar.split (fun _=>?_) (fun _=>?_)) | (simp (disch:=omega) only [↓wr,↓reduceIte,wq,ai,ah,an,ab,ae,ag,aj,isNil,Nat.reduceEqDiff,Nat.reduceAdd,Nat.reduceLT,Nat.reduceLeDiff,Int.reduceNeg,Int.reduceToNat,reduceCtorEq,h0,h3,cr,hb,hg]))
            · rename_i hd
              refine ⟨k - 1,by omega,i+1,by omega,?_,rfl⟩
              rw[List.take_add_one,hg]
              simp only[Option.toList_some,List.all_append,hi,List.all_cons,hd,List.all_nil,Bool.and_self]
            · rename_i hd
              congr 2
              have:(c :: l).all iZ=false:=by
                rw[List.all_eq_false]; exact ⟨d,hm,by simp[hd]⟩
              simp only[dy,this,Bool.and_false]
          · simp (disch:=omega) only [↓wr,↓reduceIte,wq,ai,ah,an,ab,ae,ag,aj,isNil,Nat.reduceEqDiff,Nat.reduceAdd,Nat.reduceLT,Nat.reduceLeDiff,Int.reduceNeg,Int.reduceToNat,reduceCtorEq,h0,h3]
            simp only[List.length_cons] at hc hk h2
            rw[List.take_of_length_le (by simp; omega)] at hi
            congr 2
            simp only[dy,hi,List.length_cons]
            simp[hf]; omega
      · rename_i hf
        congr 2; simp[dy,hf]
def ic:List Int→Bool
  | [a,b,c]=>a == 39 && c == 39 && decide (32≤b) && decide (b≤126) && b != 39 && b != 92
  | [a,b,c,d]=>a == 39 && d == 39 && b == 92 && (c == 110 || c == 116 || c == 92 || c == 39)
  | _=>false
theorem ET {l:List Int} (h3:l.length≠3) (h4:l.length≠4):ic l=false:=by
  match l,h3,h4 with
  | [],_,_=>rfl
  | [_],_,_=>rfl
  | [_,_],_,_=>rfl
  | [_,_,_],h3,_=>exact absurd rfl h3
  | [_,_,_,_],_,h4=>exact absurd rfl h4
  | _ :: _ :: _ :: _ :: _ :: _,_,_=>rfl
theorem HL {α:Type} {l:List α} (h:l.length=3):∃ a b c,l=[a,b,c]:=by
  match l,h with
  | [a,b,c],_=>exact ⟨a,b,c,rfl⟩
theorem HU {α:Type} {l:List α} (h:l.length=4):∃ a b c d,l=[a,b,c,d]:=by
  match l,h with
  | [a,b,c,d],_=>exact ⟨a,b,c,d,rfl⟩
def iy:SF:=⟨.seq (ao [aM 2 false]) <|
  .seq (.seq (ao [aa 3 0,((some 4),.op (.eA (.tmp 3))),aq 5 .eql 4 3]) <|
  .cond (.tmp 5) (.seq (.region false [⟨none,[aa 6 0,((some 7),.op (.bZ (.tmp 6) (.val (.val (.int .i64 0))))),((some 8),.op (.arith .eql (.tmp 7) (.val (.val (.int .u8 39))))),aa 9 8]⟩,⟨(some (9,true)),[aa 10 0,((some 11),.op (.bZ (.tmp 10) (.val (.val (.int .i64 2))))),((some 12),.op (.arith .eql (.tmp 11) (.val (.val (.int .u8 39)))))]⟩,⟨none,[bf 13 9 12,aa 14 13]⟩,⟨(some (14,true)),[aa 15 0,((some 16),.op (.bZ (.tmp 15) (.val (.val (.int .i64 1))))),((some 17),.op (.arith .geq (.tmp 16) (.val (.val (.int .u8 32)))))]⟩,⟨none,[bf 18 14 17,aa 19 18]⟩,⟨(some (19,true)),[aa 20 0,((some 21),.op (.bZ (.tmp 20) (.val (.val (.int .i64 1))))),((some 22),.op (.arith .leq (.tmp 21) (.val (.val (.int .u8 126)))))]⟩,⟨none,[bf 23 19 22,aa 24 23]⟩,⟨(some (24,true)),[aa 25 0,((some 26),.op (.bZ (.tmp 25) (.val (.val (.int .i64 1))))),((some 27),.op (.arith .neq (.tmp 26) (.val (.val (.int .u8 39)))))]⟩,⟨none,[bf 28 24 27,aa 29 28]⟩,⟨(some (29,true)),[aa 30 0,((some 31),.op (.bZ (.tmp 30) (.val (.val (.int .i64 1))))),((some 32),.op (.arith .neq (.tmp 31) (.val (.val (.int .u8 92)))))]⟩,⟨none,[bf 33 29 32,aa 2 33]⟩]) <|
  .ret) (.skip)) <|
  .seq (.region false [⟨none,[aa 34 0,((some 35),.op (.eA (.tmp 34))),aq 36 .eql 35 4,aa 37 36]⟩,⟨(some (37,true)),[aa 38 0,((some 39),.op (.bZ (.tmp 38) (.val (.val (.int .i64 0))))),((some 40),.op (.arith .eql (.tmp 39) (.val (.val (.int .u8 39)))))]⟩,⟨none,[bf 41 37 40,aa 42 41]⟩,⟨(some (42,true)),[aa 43 0,((some 44),.op (.bZ (.tmp 43) (.val (.val (.int .i64 3))))),((some 45),.op (.arith .eql (.tmp 44) (.val (.val (.int .u8 39)))))]⟩,⟨none,[bf 46 42 45,aa 47 46]⟩,⟨(some (47,true)),[aa 48 0,((some 49),.op (.bZ (.tmp 48) (.val (.val (.int .i64 1))))),((some 50),.op (.arith .eql (.tmp 49) (.val (.val (.int .u8 92)))))]⟩,⟨none,[bf 51 47 50,aa 52 51]⟩,⟨(some (52,true)),[aa 53 0,((some 54),.op (.bZ (.tmp 53) (.val (.val (.int .i64 2))))),((some 55),.op (.arith .eql (.tmp 54) (.val (.val (.int .u8 110))))),aa 56 55]⟩,⟨(some (56,false)),[aa 57 0,((some 58),.op (.bZ (.tmp 57) (.val (.val (.int .i64 2))))),((some 59),.op (.arith .eql (.tmp 58) (.val (.val (.int .u8 116)))))]⟩,⟨(some (52,true)),[aT 60 56 59,aa 61 60]⟩,⟨(some (61,false)),[aa 62 0,((some 63),.op (.bZ (.tmp 62) (.val (.val (.int .i64 2))))),((some 64),.op (.arith .eql (.tmp 63) (.val (.val (.int .u8 92)))))]⟩,⟨(some (52,true)),[aT 65 61 64,aa 66 65]⟩,⟨(some (66,false)),[aa 67 0,((some 68),.op (.bZ (.tmp 67) (.val (.val (.int .i64 2))))),((some 69),.op (.arith .eql (.tmp 68) (.val (.val (.int .u8 39)))))]⟩,⟨(some (52,true)),[aT 70 66 69]⟩,⟨none,[bf 71 52 70,aa 2 71]⟩]) <|
  .ret,
  [.tmp 2],72⟩
theorem ml:bb Tryz.prog 217 []=some iy:=by kernel_rfl
def jJ:SF:=⟨.seq (ao [aM 2 false]) <|
  .seq (.region false [⟨none,[aa 3 0,aB 4 171 [3],aa 5 4]⟩,⟨(some (5,false)),[aa 6 0,aB 7 217 [6]]⟩,⟨none,[aT 8 5 7,aa 2 8]⟩]) <|
  .ret,
  [.tmp 2],9⟩
theorem nZ:bb Tryz.prog 168 []=some jJ:=by kernel_rfl
set_option maxHeartbeats 1000000 in
theorem FK (s:ByteArray) (H:View):aD Tryz.prog 217 [gs s] H fun r H'=>r=gb (ic (cW s))∧H'=H:=by
  refine aD.of mixed ml ?_
  simp (disch:=omega) only [↓wr,↓reduceIte,wq,ai,ah,an,ab,ae,ag,aj,isNil,Nat.reduceEqDiff,Nat.reduceAdd,Nat.reduceLT,Nat.reduceLeDiff,Int.reduceNeg,Int.reduceToNat,reduceCtorEq,iy,cr]
  refine ar.eq (fun h=>?_) (fun h=>?_)
  · obtain ⟨a,b,c,hb⟩:=HL (l:=cW s) (by omega)
    repeat' (first | (refine ar.dec (fun _=>?_) (fun _=>?_)) | (refine ar.eq (fun _=>?_) (fun _=>?_)) | (refine ar.ne (fun _=>?_) (fun _=>?_)) | (refine ar.split (fun _=>?_) (fun _=>?_)) | (simp (disch:=omega) only [↓wr,↓reduceIte,wq,ai,ah,an,ab,ae,ag,aj,isNil,Nat.reduceEqDiff,Nat.reduceAdd,Nat.reduceLT,Nat.reduceLeDiff,Int.reduceNeg,Int.reduceToNat,reduceCtorEq,hb,List.getElem?_cons_zero,List.getElem?_cons_succ]))
    all_goals (congr 2; simp only[ic]; grind)
  · simp (disch:=omega) only [↓wr,↓reduceIte,wq,ai,ah,an,ab,ae,ag,aj,isNil,Nat.reduceEqDiff,Nat.reduceAdd,Nat.reduceLT,Nat.reduceLeDiff,Int.reduceNeg,Int.reduceToNat,reduceCtorEq,cr]
    refine ar.eq (fun h4=>?_) (fun h4=>?_)
    · obtain ⟨a,b,c,d,hb⟩:=HU (l:=cW s) (by omega)
      repeat' (first | (refine ar.dec (fun _=>?_) (fun _=>?_)) | (refine ar.eq (fun _=>?_) (fun _=>?_)) | (refine ar.ne (fun _=>?_) (fun _=>?_)) | (refine ar.split (fun _=>?_) (fun _=>?_)) | (simp (disch:=omega) only [↓wr,↓reduceIte,wq,ai,ah,an,ab,ae,ag,aj,isNil,Nat.reduceEqDiff,Nat.reduceAdd,Nat.reduceLT,Nat.reduceLeDiff,Int.reduceNeg,Int.reduceToNat,reduceCtorEq,hb,List.getElem?_cons_zero,List.getElem?_cons_succ]))
      all_goals (congr 2; simp only[ic]; grind)
    · repeat' (first | (refine ar.dec (fun _=>?_) (fun _=>?_)) | (refine ar.eq (fun _=>?_) (fun _=>?_)) | (refine ar.ne (fun _=>?_) (fun _=>?_)) | (refine ar.split (fun _=>?_) (fun _=>?_)) | (simp (disch:=omega) only [↓wr,↓reduceIte,wq,ai,ah,an,ab,ae,ag,aj,isNil,Nat.reduceEqDiff,Nat.reduceAdd,Nat.reduceLT,Nat.reduceLeDiff,Int.reduceNeg,Int.reduceToNat,reduceCtorEq,cr]))
      rw[ET (by omega) (by omega)]
theorem kh (s:ByteArray):∀ v∈[gs s],Tree v:=by intro v hv; simp at hv; subst hv; exact .val _
theorem wJ (s:ByteArray):aA Tryz.prog 171 [gs s] (gb (dy (cW s))) :=
  aA.of (kh s) ((DW s _).mono fun r H' h h' _=>by rw[h.1]; exact .tree _ (.val _))
theorem FH (s:ByteArray):aA Tryz.prog 217 [gs s] (gb (ic (cW s))) :=
  aA.of (kh s) ((FK s _).mono fun r H' h h' _=>by rw[h.1]; exact .tree _ (.val _))
def kS (l:List Int):Bool:=dy l || ic l
theorem B5 (s:ByteArray) (H:View):aD Tryz.prog 168 [gs s] H fun r H'=>r=gb (kS (cW s))∧H'=H:=by
  refine aD.of mixed nZ ?_
  simp (disch:=omega) only [↓wr,↓reduceIte,wq,ai,ah,an,ab,ae,ag,aj,isNil,Nat.reduceEqDiff,Nat.reduceAdd,Nat.reduceLT,Nat.reduceLeDiff,Int.reduceNeg,Int.reduceToNat,reduceCtorEq,jJ]
  refine aJ.pure (wJ s) (by kernel_rfl) ?_
  repeat' (first | (refine ar.dec (fun _=>?_) (fun _=>?_)) | (refine ar.eq (fun _=>?_) (fun _=>?_)) | (refine ar.ne (fun _=>?_) (fun _=>?_)) | (refine ar.split (fun _=>?_) (fun _=>?_)) | (simp (disch:=omega) only [↓wr,↓reduceIte,wq,ai,ah,an,ab,ae,ag,aj,isNil,Nat.reduceEqDiff,Nat.reduceAdd,Nat.reduceLT,Nat.reduceLeDiff,Int.reduceNeg,Int.reduceToNat,reduceCtorEq]))
  · rename_i h; simp[kS,h]
  · rename_i h
    refine aJ.pure (FH s) (by kernel_rfl) ?_
    repeat' (first | (refine ar.dec (fun _=>?_) (fun _=>?_)) | (refine ar.eq (fun _=>?_) (fun _=>?_)) | (refine ar.ne (fun _=>?_) (fun _=>?_)) | (refine ar.split (fun _=>?_) (fun _=>?_)) | (simp (disch:=omega) only [↓wr,↓reduceIte,wq,ai,ah,an,ab,ae,ag,aj,isNil,Nat.reduceEqDiff,Nat.reduceAdd,Nat.reduceLT,Nat.reduceLeDiff,Int.reduceNeg,Int.reduceToNat,reduceCtorEq]))
    simp[kS,h]
theorem B7 (s:ByteArray):aA Tryz.prog 168 [gs s] (gb (kS (cW s))) :=
  aA.of (kh s) ((B5 s _).mono fun r H' h h' _=>by rw[h.1]; exact .tree _ (.val _))
def jl (s:ByteArray):List ByteArray→Int→Int
  | [],_=>-1
  | x :: l,i=>if ey x s=true then i else jl s l (i+1)
def lM (g:aE) (s:ByteArray):Int:=jl s (g.az.map Term.name) 0
def vO (g:aE) (s:ByteArray):Int:=jl s g.aK 0
theorem dS {α:Type} {l:List α} {i:Nat} (h:i < l.length):l.drop i=l[i] :: l.drop (i+1):=List.drop_eq_getElem_cons h
theorem yQ (g:aE) (s:ByteArray):∀ v∈[V.agg (aw g),gs s],Tree v:=by
  intro v hv; simp at hv
  rcases hv with rfl | rfl
  · exact cI _ (dr g)
  · exact .val _
theorem fF (g:aE):∀ v∈[V.agg (aw g)],Tree v:=by intro v hv; simp at hv; subst hv; exact cI _ (dr g)
theorem y9 (g:aE) (x:Int):∀ v∈[V.agg (aw g),gi x],Tree v:=by
  intro v hv; simp at hv
  rcases hv with rfl | rfl
  · exact cI _ (dr g)
  · exact .val _
theorem aA.val {P:Program} {f:FuncId} {vs:List V} {x:Value} (ht:∀ v∈vs,Tree v) (h:∀ H,aD P f vs H fun r _=>r=.val x):aA P f vs (.val x) :=
  aA.of ht ((h _).mono fun r H' e h' _=>by rw[e]; exact .tree _ (.val _))
def iT:SC :=
  .seq (.seq (ao [aa 6 5,al 7 0 2,ak 8 7,aH 9 8,aF 10 .lss 6 9]) <|
  .cond (.tmp 10) (.skip) (.exit 0)) <|
  .seq (.block 1 (.seq (ao [al 13 0 2,ak 14 13,aa 15 5,aI 16 3 14 15,al 17 0 16,ak 18 17,aa 19 1,((some 20),.op (.fT .eql (.tmp 18) (.tmp 19)))]) <|
  .cond (.tmp 20) (.seq (ao [aa 21 5,aa 4 21]) <|
  .ret) (.skip))) <|
  ao [aa 11 5,aq 12 .add 11 1,aa 5 12]
def k5:SF:=⟨.seq (ao [bu 2 0,ax 4 0]) <|
  .seq (.seq (ao [ax 5 0]) <|
  .block 0 (.loop iT)) <|
  .seq (ao [ax 4 (-1)]) <|
  .ret,
  [.tmp 4],22⟩
theorem oQ:bb Tryz.prog 169 [2]=some k5:=by kernel_rfl
def jW:SC :=
  .seq (.seq (ao [aa 6 5,al 7 1 2,ak 8 7,aH 9 8,aF 10 .lss 6 9]) <|
  .cond (.tmp 10) (.skip) (.exit 0)) <|
  .seq (.block 1 (.seq (ao [al 13 1 2,ak 14 13,aa 15 5,aI 16 1 14 15,ak 17 16,aa 18 1,((some 19),.op (.fT .eql (.tmp 17) (.tmp 18)))]) <|
  .cond (.tmp 19) (.seq (ao [aa 20 5,aa 4 20]) <|
  .ret) (.skip))) <|
  ao [aa 11 5,aq 12 .add 11 1,aa 5 12]
def lI:SF:=⟨.seq (ao [bu 2 0,ax 4 0]) <|
  .seq (.seq (ao [ax 5 0]) <|
  .block 0 (.loop jW)) <|
  .seq (ao [ax 4 (-1)]) <|
  .ret,
  [.tmp 4],21⟩
theorem pH:bb Tryz.prog 145 [2]=some lI:=by kernel_rfl
def iz:SC :=
  .seq (.seq (ao [aa 8 6,al 9 0 2,ak 10 9,aH 11 10,aF 12 .lss 8 11]) <|
  .cond (.tmp 12) (.skip) (.exit 0)) <|
  .seq (.block 1 (.seq (.region false [⟨none,[al 15 0 2,ak 16 15,aa 17 6,aI 18 3 16 17,aG 19 3 18,((some 7),.op (.alloc [(.val (.string ⟨#[]⟩)),(.val (.int .i64 0)),(.val (.int .i64 0))])),(none,.op (.store 3 (.tmp 7) (.tmp 19)))]⟩]) <|
  .seq (.seq (ao [al 20 1 7,ak 21 20,aa 22 1,aF 23 .neq 21 22]) <|
  .cond (.tmp 23) (.exit 1) (.skip)) <|
  .seq (.seq (.region false [⟨none,[aa 24 5,aq 25 .neq 24 0,aa 26 25]⟩,⟨(some (26,true)),[aa 27 5,al 28 2 7,ak 29 28,aF 30 .neq 27 29]⟩,⟨none,[bf 31 26 30]⟩]) <|
  .cond (.tmp 31) (.seq (ao [aM 4 false]) <|
  .ret) (.skip)) <|
  ao [al 32 2 7,ak 33 32,aa 5 33])) <|
  ao [aa 13 6,aq 14 .add 13 1,aa 6 14]
def jV:SF:=⟨.seq (ao [bu 2 0,aM 4 false]) <|
  .seq (ao [ax 5 0]) <|
  .seq (.seq (ao [ax 6 0]) <|
  .block 0 (.loop iz)) <|
  .seq (ao [aa 34 5,aq 35 .neq 34 0,aa 4 35]) <|
  .ret,
  [.tmp 4],36⟩
theorem nS:bb Tryz.prog 170 [2]=some jV:=by kernel_rfl
theorem Dq (g:aE) (hg:g.Ok) (s:ByteArray) (H:View):aD Tryz.prog 169 [.agg (aw g),gs s] H fun r _=>r=gi (lM g s):=by
  refine aD.of mixed oQ ?_
  have hs:g.az.length < 4611686018427387904:=hg.az
  simp (disch:=omega) only [↓wr,↓reduceIte,wq,ai,ah,an,ab,ae,ag,aj,isNil,Nat.reduceEqDiff,Nat.reduceAdd,Nat.reduceLT,Nat.reduceLeDiff,Int.reduceNeg,Int.reduceToNat,reduceCtorEq,k5,aw,encS]
  refine bJ.intro (fun k T _=>∃ i:Nat,i+k=g.az.length∧jl s ((g.az.drop i).map Term.name) i=lM g s∧T 1=gs s∧T 2=.aQ (aw g) 0∧T 5=gi i) g.az.length ?_ ?_
  · exact ⟨0,by omega,rfl,rfl,rfl,rfl⟩
  · rintro k T H' ⟨i,hk,hi,h1,h2,h5⟩
    simp (disch:=omega) only [↓wr,↓reduceIte,wq,ai,ah,an,ab,ae,ag,aj,isNil,Nat.reduceEqDiff,Nat.reduceAdd,Nat.reduceLT,Nat.reduceLeDiff,Int.reduceNeg,Int.reduceToNat,reduceCtorEq,iT,h1,h2,h5,aw]
    refine ar.dec (fun hc=>?_) (fun hc=>?_)
    · have hg2:g.az[i]?=some (g.az[i]'(by omega)):=List.getElem?_eq_getElem (by omega)
      rw[dS (show i < g.az.length by omega)] at hi
      generalize g.az[i]'(by omega)=t at hg2 hi
      simp only[List.map_cons,jl] at hi
      simp (disch:=omega) only [↓wr,↓reduceIte,wq,ai,ah,an,ab,ae,ag,aj,isNil,Nat.reduceEqDiff,Nat.reduceAdd,Nat.reduceLT,Nat.reduceLeDiff,Int.reduceNeg,Int.reduceToNat,reduceCtorEq,h1,h2,h5,aw,bN,List.getElem?_map,hg2,Option.map_some]
      refine ar.split (fun hd=>?_) (fun hd=>?_)
      · rw[if_pos hd] at hi
        simp (disch:=omega) only [↓wr,↓reduceIte,wq,ai,ah,an,ab,ae,ag,aj,isNil,Nat.reduceEqDiff,Nat.reduceAdd,Nat.reduceLT,Nat.reduceLeDiff,Int.reduceNeg,Int.reduceToNat,reduceCtorEq,h1,h2,h5]
        rw[hi]
      · rw[hd,if_neg (by simp)] at hi
        simp (disch:=omega) only [↓wr,↓reduceIte,wq,ai,ah,an,ab,ae,ag,aj,isNil,Nat.reduceEqDiff,Nat.reduceAdd,Nat.reduceLT,Nat.reduceLeDiff,Int.reduceNeg,Int.reduceToNat,reduceCtorEq,h1,h2,h5]
        exact ⟨k - 1,by omega,i+1,by omega,by push_cast; exact hi,rfl,rfl⟩
    · rw[List.drop_eq_nil_of_le (by omega)] at hi
      simp only[List.map_nil,jl] at hi
      simp (disch:=omega) only [↓wr,↓reduceIte,wq,ai,ah,an,ab,ae,ag,aj,isNil,Nat.reduceEqDiff,Nat.reduceAdd,Nat.reduceLT,Nat.reduceLeDiff,Int.reduceNeg,Int.reduceToNat,reduceCtorEq,h1,h2,h5]
      rw[hi]
theorem w7 (g:aE) (hg:g.Ok) (s:ByteArray):aA Tryz.prog 169 [.agg (aw g),gs s] (gi (lM g s)):=aA.val (yQ g s) (Dq g hg s)
theorem E3 (g:aE) (hg:g.Ok) (s:ByteArray) (H:View):aD Tryz.prog 145 [.agg (aw g),gs s] H fun r _=>r=gi (vO g s):=by
  refine aD.of mixed pH ?_
  have hs:g.aK.length < 4611686018427387904:=hg.aK
  simp (disch:=omega) only [↓wr,↓reduceIte,wq,ai,ah,an,ab,ae,ag,aj,isNil,Nat.reduceEqDiff,Nat.reduceAdd,Nat.reduceLT,Nat.reduceLeDiff,Int.reduceNeg,Int.reduceToNat,reduceCtorEq,lI,aw,encS]
  refine bJ.intro (fun k T _=>∃ i:Nat,i+k=g.aK.length∧jl s (g.aK.drop i) i=vO g s∧T 1=gs s∧T 2=.aQ (aw g) 0∧T 5=gi i) g.aK.length ?_ ?_
  · exact ⟨0,by omega,rfl,rfl,rfl,rfl⟩
  · rintro k T H' ⟨i,hk,hi,h1,h2,h5⟩
    simp (disch:=omega) only [↓wr,↓reduceIte,wq,ai,ah,an,ab,ae,ag,aj,isNil,Nat.reduceEqDiff,Nat.reduceAdd,Nat.reduceLT,Nat.reduceLeDiff,Int.reduceNeg,Int.reduceToNat,reduceCtorEq,jW,h1,h2,h5,aw,encS]
    refine ar.dec (fun hc=>?_) (fun hc=>?_)
    · have hg2:g.aK[i]?=some (g.aK[i]'(by omega)):=List.getElem?_eq_getElem (by omega)
      rw[dS (show i < g.aK.length by omega)] at hi
      generalize g.aK[i]'(by omega)=t at hg2 hi
      simp only[List.map_cons,jl] at hi
      simp (disch:=omega) only [↓wr,↓reduceIte,wq,ai,ah,an,ab,ae,ag,aj,isNil,Nat.reduceEqDiff,Nat.reduceAdd,Nat.reduceLT,Nat.reduceLeDiff,Int.reduceNeg,Int.reduceToNat,reduceCtorEq,h1,h2,h5,aw,encS,List.getElem?_map,hg2,Option.map_some]
      refine ar.split (fun hd=>?_) (fun hd=>?_)
      · rw[if_pos hd] at hi
        simp (disch:=omega) only [↓wr,↓reduceIte,wq,ai,ah,an,ab,ae,ag,aj,isNil,Nat.reduceEqDiff,Nat.reduceAdd,Nat.reduceLT,Nat.reduceLeDiff,Int.reduceNeg,Int.reduceToNat,reduceCtorEq,h1,h2,h5]
        rw[hi]
      · rw[hd,if_neg (by simp)] at hi
        simp (disch:=omega) only [↓wr,↓reduceIte,wq,ai,ah,an,ab,ae,ag,aj,isNil,Nat.reduceEqDiff,Nat.reduceAdd,Nat.reduceLT,Nat.reduceLeDiff,Int.reduceNeg,Int.reduceToNat,reduceCtorEq,h1,h2,h5]
        exact ⟨k - 1,by omega,i+1,by omega,by push_cast; exact hi,rfl,rfl⟩
    · rw[List.drop_eq_nil_of_le (by omega)] at hi
      simp only[List.map_nil,jl] at hi
      simp (disch:=omega) only [↓wr,↓reduceIte,wq,ai,ah,an,ab,ae,ag,aj,isNil,Nat.reduceEqDiff,Nat.reduceAdd,Nat.reduceLT,Nat.reduceLeDiff,Int.reduceNeg,Int.reduceToNat,reduceCtorEq,h1,h2,h5]
      rw[hi]
theorem FM (g:aE) (hg:g.Ok) (s:ByteArray):aA Tryz.prog 145 [.agg (aw g),gs s] (gi (vO g s)):=aA.val (yQ g s) (E3 g hg s)
def eR (n:Int):List Term→Int→Option Int
  | [],way=>some way
  | t :: r,way=>if t.level=n then (if way≠0∧way≠t.assoc then none else eR n r t.assoc) else eR n r way
def dI (l:List Term) (n:Int):Bool:=match eR n l 0 with
  | some w=>w != 0
  | none=>false
theorem Cv (g:aE) (hg:g.Ok) (n:Int) (H:View):aD Tryz.prog 170 [.agg (aw g),gi n] H fun r _=>r=gb (dI g.az n):=by
  refine aD.of mixed nS ?_
  have hs:g.az.length < 4611686018427387904:=hg.az
  simp (disch:=omega) only [↓wr,↓reduceIte,wq,ai,ah,an,ab,ae,ag,aj,isNil,Nat.reduceEqDiff,Nat.reduceAdd,Nat.reduceLT,Nat.reduceLeDiff,Int.reduceNeg,Int.reduceToNat,reduceCtorEq,jV,aw,encS]
  refine bJ.intro (fun k T _=>∃ (i:Nat) (w:Int),i+k=g.az.length∧eR n (g.az.drop i) w=eR n g.az 0∧T 1=gi n∧T 2=.aQ (aw g) 0∧T 5=gi w∧T 6=gi i) g.az.length ?_ ?_
  · exact ⟨0,0,by omega,rfl,rfl,rfl,rfl,rfl⟩
  · rintro k T H' ⟨i,w,hk,hi,h1,h2,h5,h6⟩
    simp (disch:=omega) only [↓wr,↓reduceIte,wq,ai,ah,an,ab,ae,ag,aj,isNil,Nat.reduceEqDiff,Nat.reduceAdd,Nat.reduceLT,Nat.reduceLeDiff,Int.reduceNeg,Int.reduceToNat,reduceCtorEq,iz,h1,h2,h5,h6,aw]
    refine ar.dec (fun hc=>?_) (fun hc=>?_)
    · have hg2:g.az[i]?=some (g.az[i]'(by omega)):=List.getElem?_eq_getElem (by omega)
      rw[dS (show i < g.az.length by omega)] at hi
      generalize g.az[i]'(by omega)=t at hg2 hi
      simp only[eR] at hi
      simp (disch:=omega) only [↓wr,↓reduceIte,wq,ai,ah,an,ab,ae,ag,aj,isNil,Nat.reduceEqDiff,Nat.reduceAdd,Nat.reduceLT,Nat.reduceLeDiff,Int.reduceNeg,Int.reduceToNat,reduceCtorEq,h1,h2,h5,h6,aw,bN,List.getElem?_map,hg2,Option.map_some]
      intro m hm
      try simp (disch:=omega) only [↓wr,↓reduceIte,wq,ai,ah,an,ab,ae,ag,aj,isNil,Nat.reduceEqDiff,Nat.reduceAdd,Nat.reduceLT,Nat.reduceLeDiff,Int.reduceNeg,Int.reduceToNat,reduceCtorEq,h1,h2,h5,h6]
      refine ar.ne (fun hd=>?_) (fun hd=>?_)
      · rw[if_neg hd] at hi
        simp (disch:=omega) only [↓wr,↓reduceIte,wq,ai,ah,an,ab,ae,ag,aj,isNil,Nat.reduceEqDiff,Nat.reduceAdd,Nat.reduceLT,Nat.reduceLeDiff,Int.reduceNeg,Int.reduceToNat,reduceCtorEq,h1,h2,h5,h6]
        exact ⟨k - 1,by omega,i+1,w,by omega,hi,by first | rfl | exact ⟨rfl,rfl⟩ | exact ⟨rfl,rfl,rfl⟩⟩
      · rw[if_pos hd] at hi
        repeat' (first | (refine ar.dec (fun _=>?_) (fun _=>?_)) | (refine ar.eq (fun _=>?_) (fun _=>?_)) | (refine ar.ne (fun _=>?_) (fun _=>?_)) | (refine ar.split (fun _=>?_) (fun _=>?_)) | (simp (disch:=omega) only [↓wr,↓reduceIte,wq,ai,ah,an,ab,ae,ag,aj,isNil,Nat.reduceEqDiff,Nat.reduceAdd,Nat.reduceLT,Nat.reduceLeDiff,Int.reduceNeg,Int.reduceToNat,reduceCtorEq,h1,h2,h5,h6]))
        · rename_i a b
          rw[if_pos ⟨a,b⟩] at hi
          simp only[dI,← hi]
        · rename_i a b
          rw[if_neg (fun e=>e.2 b)] at hi
          exact ⟨k - 1,by omega,i+1,_,by omega,hi,by first | rfl | exact ⟨rfl,rfl⟩ | exact ⟨rfl,rfl,rfl⟩⟩
        · rename_i a
          rw[if_neg (fun e=>e.1 a)] at hi
          exact ⟨k - 1,by omega,i+1,_,by omega,hi,by first | rfl | exact ⟨rfl,rfl⟩ | exact ⟨rfl,rfl,rfl⟩⟩
    · rw[List.drop_eq_nil_of_le (by omega)] at hi
      simp only[eR] at hi
      simp (disch:=omega) only [↓wr,↓reduceIte,wq,ai,ah,an,ab,ae,ag,aj,isNil,Nat.reduceEqDiff,Nat.reduceAdd,Nat.reduceLT,Nat.reduceLeDiff,Int.reduceNeg,Int.reduceToNat,reduceCtorEq,h1,h2,h5,h6]
      simp only[dI,← hi]
theorem B1 (g:aE) (hg:g.Ok) (n:Int):aA Tryz.prog 170 [.agg (aw g),gi n] (gb (dI g.az n)):=aA.val (y9 g n) (Cv g hg n)
def mW (g:aE) (t:Term):Bool:=(List.range t.level.toNat).all fun k=>dI g.az ((k:Int)+1)
def gE (g:aE) (i:Int) (t:Term):Bool :=
  kS (cW t.name) && (lM g t.name == i) && decide (0≤t.level) && decide (t.level≤24) && decide (0≤t.assoc) && decide (t.assoc≤3) && ((t.level == 0) == (t.assoc == 0)) && mW g t
def iY (g:aE):List Term→Int→Bool
  | [],_=>true
  | t :: r,i=>gE g i t && iY g r (i+1)
def gM (g:aE):Bool:=decide (g.az.length≤24) && iY g g.az 0
def iw:SC :=
  .seq (.seq (ao [aa 63 5,al 64 1 4,ak 65 64,aF 66 .leq 63 65]) <|
  .cond (.tmp 66) (.skip) (.exit 2)) <|
  .seq (.block 3 (.seq (ao [aG 69 4 1,aa 70 5,aB 71 170 [69,70],bB 72 71]) <|
  .cond (.tmp 72) (.seq (ao [aM 2 false]) <|
  .ret) (.skip))) <|
  ao [aa 67 5,aq 68 .add 67 1,aa 5 68]
def iA:SC :=
  .seq (.seq (ao [aa 10 3,al 11 0 1,ak 12 11,aH 13 12,aF 14 .lss 10 13]) <|
  .cond (.tmp 14) (.skip) (.exit 0)) <|
  .seq (.block 1 (.seq (.region false [⟨none,[al 17 0 1,ak 18 17,aa 19 3,aI 20 3 18 19,aG 21 3 20,((some 4),.op (.alloc [(.val (.string ⟨#[]⟩)),(.val (.int .i64 0)),(.val (.int .i64 0))])),(none,.op (.store 3 (.tmp 4) (.tmp 21)))]⟩]) <|
  .seq (.seq (.region false [⟨none,[al 22 0 4,ak 23 22,aB 24 168 [23],bB 25 24,aa 26 25]⟩,⟨(some (26,false)),[aG 27 4 1,al 28 0 4,ak 29 28,aB 30 169 [27,29],aa 31 3,aF 32 .neq 30 31]⟩,⟨none,[aT 33 26 32,aa 34 33]⟩,⟨(some (34,false)),[al 35 1 4,ak 36 35,aq 37 .lss 36 0]⟩,⟨none,[aT 38 34 37,aa 39 38]⟩,⟨(some (39,false)),[al 40 1 4,ak 41 40,aq 42 .gtr 41 24]⟩,⟨none,[aT 43 39 42,aa 44 43]⟩,⟨(some (44,false)),[al 45 2 4,ak 46 45,aq 47 .lss 46 0]⟩,⟨none,[aT 48 44 47,aa 49 48]⟩,⟨(some (49,false)),[al 50 2 4,ak 51 50,aq 52 .gtr 51 3]⟩,⟨none,[aT 53 49 52,aa 54 53]⟩,⟨(some (54,false)),[al 55 1 4,ak 56 55,aq 57 .eql 56 0,al 58 2 4,ak 59 58,aq 60 .eql 59 0,((some 61),.op (.beq false (.tmp 57) (.tmp 60)))]⟩,⟨none,[aT 62 54 61]⟩]) <|
  .cond (.tmp 62) (.seq (ao [aM 2 false]) <|
  .ret) (.skip)) <|
  .seq (ao [ax 5 1]) <|
  .block 2 (.loop iw))) <|
  ao [aa 15 3,aq 16 .add 15 1,aa 3 16]
def jO:SF:=⟨.seq (ao [bu 1 0,aM 2 false]) <|
  .seq (.seq (ao [al 6 0 1,ak 7 6,aH 8 7,aq 9 .gtr 8 24]) <|
  .cond (.tmp 9) (.seq (ao [aM 2 false]) <|
  .ret) (.skip)) <|
  .seq (.seq (ao [ax 3 0]) <|
  .block 0 (.loop iA)) <|
  .seq (ao [aM 2 true]) <|
  .ret,
  [.tmp 2],73⟩
theorem nE:bb Tryz.prog 115 [1]=some jO:=by kernel_rfl
def iO:SC :=
  .seq (.seq (ao [aa 14 3,al 15 1 1,ak 16 15,aH 17 16,aF 18 .lss 14 17]) <|
  .cond (.tmp 18) (.skip) (.exit 0)) <|
  .seq (.block 1 (.seq (.region false [⟨none,[al 21 1 1,ak 22 21,aa 23 3,aI 24 1 22 23,ak 25 24,aB 26 171 [25],bB 27 26,aa 28 27]⟩,⟨(some (28,false)),[aG 29 4 1,al 30 1 1,ak 31 30,aa 32 3,aI 33 1 31 32,ak 34 33,aB 35 145 [29,34],aa 36 3,aF 37 .neq 35 36]⟩,⟨none,[aT 38 28 37,aa 39 38]⟩,⟨(some (39,false)),[aG 40 4 1,al 41 1 1,ak 42 41,aa 43 3,aI 44 1 42 43,ak 45 44,aB 46 169 [40,45],aq 47 .geq 46 0]⟩,⟨none,[aT 48 39 47]⟩]) <|
  .cond (.tmp 48) (.seq (ao [aM 2 false]) <|
  .ret) (.skip))) <|
  ao [aa 19 3,aq 20 .add 19 1,aa 3 20]
def kW:SF:=⟨.seq (ao [bu 1 0,aM 2 false]) <|
  .seq (.seq (.region false [⟨none,[al 4 1 1,ak 5 4,aH 6 5,aq 7 .lss 6 1,aa 8 7]⟩,⟨(some (8,false)),[al 9 1 1,ak 10 9,aH 11 10,aq 12 .gtr 11 16]⟩,⟨none,[aT 13 8 12]⟩]) <|
  .cond (.tmp 13) (.seq (ao [aM 2 false]) <|
  .ret) (.skip)) <|
  .seq (.seq (ao [ax 3 0]) <|
  .block 0 (.loop iO)) <|
  .seq (ao [aM 2 true]) <|
  .ret,
  [.tmp 2],49⟩
theorem oo:bb Tryz.prog 116 [1]=some kW:=by kernel_rfl
def ju:SC :=
  .seq (.seq (ao [aa 23 5,al 24 1 3,ak 25 24,aH 26 25,aF 27 .lss 23 26]) <|
  .cond (.tmp 27) (.skip) (.exit 0)) <|
  .seq (.block 1 (.seq (.region false [⟨none,[aG 30 4 2,al 31 1 3,ak 32 31,aa 33 5,aI 34 1 32 33,ak 35 34,aB 36 172 [30,35],bB 37 36,aa 38 37]⟩,⟨(some (38,false)),[al 39 1 3,ak 40 39,aa 41 5,aI 42 1 40 41,ak 43 42,aq 44 .geq 43 0,aa 45 44]⟩,⟨(some (45,true)),[al 46 2 3,ak 47 46,aq 48 .eql 47 (-1)]⟩,⟨(some (38,false)),[bf 49 45 48]⟩,⟨none,[aT 50 38 49]⟩]) <|
  .cond (.tmp 50) (.seq (ao [aM 4 false]) <|
  .ret) (.skip))) <|
  ao [aa 28 5,aq 29 .add 28 1,aa 5 29]
def kZ:SF:=⟨.seq (ao [bu 2 0,bu 3 1,aM 4 false]) <|
  .seq (.seq (.region false [⟨none,[al 6 1 3,ak 7 6,aH 8 7,aq 9 .gtr 8 6,aa 10 9]⟩,⟨(some (10,false)),[al 11 2 3,ak 12 11,aq 13 .lss 12 (-1)]⟩,⟨none,[aT 14 10 13,aa 15 14]⟩,⟨(some (15,false)),[al 16 2 3,ak 17 16,al 18 0 2,ak 19 18,aH 20 19,aF 21 .geq 17 20]⟩,⟨none,[aT 22 15 21]⟩]) <|
  .cond (.tmp 22) (.seq (ao [aM 4 false]) <|
  .ret) (.skip)) <|
  .seq (.seq (ao [ax 5 0]) <|
  .block 0 (.loop ju)) <|
  .seq (ao [aM 4 true]) <|
  .ret,
  [.tmp 4],51⟩
theorem oU:bb Tryz.prog 117 [2,3]=some kZ:=by kernel_rfl
def iH:SC :=
  .seq (.seq (ao [aa 39 4,al 40 2 1,ak 41 40,aH 42 41,aF 43 .lss 39 42]) <|
  .cond (.tmp 43) (.skip) (.exit 0)) <|
  .seq (.block 1 (.seq (ao [al 46 2 1,ak 47 46,aa 48 4,aI 49 3 47 48,aG 50 3 49,((some 5),.op (.alloc [(.val (.int .i64 0)),(.emp 1),(.val (.int .i64 0))])),(none,.op (.store 3 (.tmp 5) (.tmp 50)))]) <|
  .seq (.seq (.region false [⟨none,[al 51 0 5,ak 52 51,aq 53 .lss 52 0,aa 54 53]⟩,⟨(some (54,false)),[al 55 0 5,ak 56 55,aa 57 3,aq 58 .add 57 1,aF 59 .gtr 56 58]⟩,⟨none,[aT 60 54 59,aa 61 60]⟩,⟨(some (61,false)),[aG 62 4 1,aG 63 3 5,aB 64 117 [62,63],bB 65 64]⟩,⟨none,[aT 66 61 65]⟩]) <|
  .cond (.tmp 66) (.seq (ao [aM 2 false]) <|
  .ret) (.skip)) <|
  .seq (ao [al 67 0 5,ak 68 67,aa 69 3,aF 70 .gtr 68 69]) <|
  .cond (.tmp 70) (ao [al 71 0 5,ak 72 71,aa 3 72]) (.skip))) <|
  ao [aa 44 4,aq 45 .add 44 1,aa 4 45]
def jH:SF:=⟨.seq (ao [bu 1 0,aM 2 false]) <|
  .seq (.seq (.region false [⟨none,[aG 6 4 1,aB 7 115 [6],bB 8 7,aa 9 8]⟩,⟨(some (9,false)),[aG 10 4 1,aB 11 116 [10],bB 12 11]⟩,⟨none,[aT 13 9 12,aa 14 13]⟩,⟨(some (14,false)),[al 15 2 1,ak 16 15,aH 17 16,aq 18 .lss 17 1]⟩,⟨none,[aT 19 14 18,aa 20 19]⟩,⟨(some (20,false)),[al 21 2 1,ak 22 21,aH 23 22,aq 24 .gtr 23 40]⟩,⟨none,[aT 25 20 24,aa 26 25]⟩,⟨(some (26,false)),[al 27 3 1,ak 28 27,aq 29 .lss 28 0]⟩,⟨none,[aT 30 26 29,aa 31 30]⟩,⟨(some (31,false)),[al 32 3 1,ak 33 32,al 34 1 1,ak 35 34,aH 36 35,aF 37 .geq 33 36]⟩,⟨none,[aT 38 31 37]⟩]) <|
  .cond (.tmp 38) (.seq (ao [aM 2 false]) <|
  .ret) (.skip)) <|
  .seq (ao [ax 3 (-1)]) <|
  .seq (.seq (ao [ax 4 0]) <|
  .block 0 (.loop iH)) <|
  .seq (ao [aa 73 3,al 74 1 1,ak 75 74,aH 76 75,aq 77 .sub 76 1,aF 78 .eql 73 77,aa 2 78]) <|
  .ret,
  [.tmp 2],79⟩
theorem nX:bb Tryz.prog 66 [1]=some jH:=by kernel_rfl
set_option maxHeartbeats 2000000 in
theorem B4 (g:aE) (hg:g.Ok) (H:View):aD Tryz.prog 115 [.agg (aw g)] H fun r _=>r=gb (gM g):=by
  refine aD.of mixed nE ?_
  simp (disch:=omega) only [↓wr,↓reduceIte,wq,ai,ah,an,ab,ae,ag,aj,isNil,Nat.reduceEqDiff,Nat.reduceAdd,Nat.reduceLT,Nat.reduceLeDiff,Int.reduceNeg,Int.reduceToNat,reduceCtorEq,jO,aw,encS]
  refine ar.dec (fun h=>?_) (fun h=>?_)
  · simp (disch:=omega) only [↓wr,↓reduceIte,wq,ai,ah,an,ab,ae,ag,aj,isNil,Nat.reduceEqDiff,Nat.reduceAdd,Nat.reduceLT,Nat.reduceLeDiff,Int.reduceNeg,Int.reduceToNat,reduceCtorEq]
    simp[gM,show ¬ g.az.length≤24 by omega]
  · have hle:g.az.length≤24:=by omega
    simp (disch:=omega) only [↓wr,↓reduceIte,wq,ai,ah,an,ab,ae,ag,aj,isNil,Nat.reduceEqDiff,Nat.reduceAdd,Nat.reduceLT,Nat.reduceLeDiff,Int.reduceNeg,Int.reduceToNat,reduceCtorEq]
    refine bJ.intro (fun k T _=>∃ i:Nat,i+k=g.az.length∧iY g (g.az.drop i) i=iY g g.az 0∧T 1=.aQ (aw g) 0∧T 3=gi i) g.az.length ?_ ?_
    · exact ⟨0,by omega,rfl,rfl,rfl⟩
    · rintro k T H' ⟨i,hk,hi,h1,h3⟩
      simp (disch:=omega) only [↓wr,↓reduceIte,wq,ai,ah,an,ab,ae,ag,aj,isNil,Nat.reduceEqDiff,Nat.reduceAdd,Nat.reduceLT,Nat.reduceLeDiff,Int.reduceNeg,Int.reduceToNat,reduceCtorEq,iA,h1,h3,aw]
      refine ar.dec (fun hc=>?_) (fun hc=>?_)
      · have hg2:g.az[i]?=some (g.az[i]'(by omega)):=List.getElem?_eq_getElem (by omega)
        rw[dS (show i < g.az.length by omega)] at hi
        have hmem:g.az[i]'(by omega)∈g.az:=List.getElem_mem _
        generalize g.az[i]'(by omega)=t at hg2 hi hmem
        obtain ⟨⟨hl1,hl2⟩,⟨ha1,ha2⟩⟩:=hg.term t hmem
        simp only[iY] at hi
        have hbad:gE g i t=false→gb false=gb (gM g):=fun e=>by rw[e,Bool.false_and] at hi; simp[gM,← hi]
        simp (disch:=omega) only [↓wr,↓reduceIte,wq,ai,ah,an,ab,ae,ag,aj,isNil,Nat.reduceEqDiff,Nat.reduceAdd,Nat.reduceLT,Nat.reduceLeDiff,Int.reduceNeg,Int.reduceToNat,reduceCtorEq,h1,h3,aw,bN,List.getElem?_map,hg2,Option.map_some]
        intro m hm
        try simp (disch:=omega) only [↓wr,↓reduceIte,wq,ai,ah,an,ab,ae,ag,aj,isNil,Nat.reduceEqDiff,Nat.reduceAdd,Nat.reduceLT,Nat.reduceLeDiff,Int.reduceNeg,Int.reduceToNat,reduceCtorEq,h1,h3]
        refine aJ.pure (B7 t.name) (by kernel_rfl) ?_
        repeat' (first | (refine ar.dec (fun _=>?_) (fun _=>?_)) | (refine ar.eq (fun _=>?_) (fun _=>?_)) | (refine ar.ne (fun _=>?_) (fun _=>?_)) | (refine ar.split (fun _=>?_) (fun _=>?_)) | (simp (disch:=omega) only [↓wr,↓reduceIte,wq,ai,ah,an,ab,ae,ag,aj,isNil,Nat.reduceEqDiff,Nat.reduceAdd,Nat.reduceLT,Nat.reduceLeDiff,Int.reduceNeg,Int.reduceToNat,reduceCtorEq,h1,h3,aw]))
        all_goals try (refine hbad ?_; simp[gE, *]; done)
        rename_i hnm
        refine aJ.pure (w7 g hg t.name) (by kernel_rfl) ?_
        repeat' (first | (refine ar.dec (fun _=>?_) (fun _=>?_)) | (refine ar.eq (fun _=>?_) (fun _=>?_)) | (refine ar.ne (fun _=>?_) (fun _=>?_)) | (refine ar.split (fun _=>?_) (fun _=>?_)) | (simp (disch:=omega) only [↓wr,↓reduceIte,wq,ai,ah,an,ab,ae,ag,aj,isNil,Nat.reduceEqDiff,Nat.reduceAdd,Nat.reduceLT,Nat.reduceLeDiff,Int.reduceNeg,Int.reduceToNat,reduceCtorEq,h1,h3,aw]))
        all_goals try (refine hbad ?_; simp[gE, *]; done)
        all_goals try (refine hbad ?_; simp[gE]; grind)
        rename_i e1 e2 e3 e4 e5 e6
        have hpre:gE g i t=mW g t:=by
          have e6':((t.level == 0) == (t.assoc == 0))=true:=by simpa using e6
          simp[gE,hnm,e1,e6',show (0:Int)≤t.level by omega,show t.level≤24 by omega,show (0:Int)≤t.assoc by omega,show t.assoc≤3 by omega]
        refine bJ.intro (fun k' T H''=>∃ j:Nat,1≤j∧j+k'=t.level.toNat+1∧(∀ q:Nat,q+1 < j→dI g.az ((q:Int)+1)=true)∧T 1=.aQ (aw g) 0∧T 3=gi i∧T 4=.ptr m 0 0∧H'' m=.arr 3 [[gs t.name,gi t.level,gi t.assoc]]∧T 5=gi j) t.level.toNat ?_ ?_
        · refine ⟨1,by omega,by omega,fun q hq=>by omega,?_⟩
          simp (disch:=omega) only [↓wr,↓reduceIte,wq,ai,ah,an,ab,ae,ag,aj,isNil,Nat.reduceEqDiff,Nat.reduceAdd,Nat.reduceLT,Nat.reduceLeDiff,Int.reduceNeg,Int.reduceToNat,reduceCtorEq,h1,h3,aw]
          rfl
        · rintro k' T' H'' ⟨j,hj1,hj2,hj3,f1,f3,f4,fm,f5⟩
          simp (disch:=omega) only [↓wr,↓reduceIte,wq,ai,ah,an,ab,ae,ag,aj,isNil,Nat.reduceEqDiff,Nat.reduceAdd,Nat.reduceLT,Nat.reduceLeDiff,Int.reduceNeg,Int.reduceToNat,reduceCtorEq,iw,f1,f3,f4,f5,fm]
          refine ar.dec (fun hd=>?_) (fun hd=>?_)
          · simp (disch:=omega) only [↓wr,↓reduceIte,wq,ai,ah,an,ab,ae,ag,aj,isNil,Nat.reduceEqDiff,Nat.reduceAdd,Nat.reduceLT,Nat.reduceLeDiff,Int.reduceNeg,Int.reduceToNat,reduceCtorEq,f1,f3,f4,f5,fm,aw]
            refine aJ.pure (B1 g hg j) (by kernel_rfl) ?_
            repeat' (first | (refine ar.dec (fun _=>?_) (fun _=>?_)) | (refine ar.eq (fun _=>?_) (fun _=>?_)) | (refine ar.ne (fun _=>?_) (fun _=>?_)) | (refine ar.split (fun _=>?_) (fun _=>?_)) | (simp (disch:=omega) only [↓wr,↓reduceIte,wq,ai,ah,an,ab,ae,ag,aj,isNil,Nat.reduceEqDiff,Nat.reduceAdd,Nat.reduceLT,Nat.reduceLeDiff,Int.reduceNeg,Int.reduceToNat,reduceCtorEq,f1,f3,f4,f5,fm,aw]))
            · rename_i hb
              refine ⟨k' - 1,by omega,j+1,by omega,by omega,fun q hq=>?_,by first | rfl | exact ⟨rfl,rfl⟩ | exact ⟨rfl,rfl,rfl⟩⟩
              by_cases e:q+1=j
              · have:(q:Int)+1=j:=by omega
                rw[this]; exact hb
              · exact hj3 q (by omega)
            · rename_i hb
              refine hbad ?_
              rw[hpre,mW,List.all_eq_false]
              refine ⟨j - 1,by simp; omega,?_⟩
              have:((j - 1:Nat):Int)+1=j:=by omega
              rw[this,hb]; simp
          · simp (disch:=omega) only [↓wr,↓reduceIte,wq,ai,ah,an,ab,ae,ag,aj,isNil,Nat.reduceEqDiff,Nat.reduceAdd,Nat.reduceLT,Nat.reduceLeDiff,Int.reduceNeg,Int.reduceToNat,reduceCtorEq,f1,f3,f4,f5,fm]
            refine ⟨k - 1,by omega,i+1,by omega,?_,by first | rfl | exact ⟨rfl,rfl⟩ | exact ⟨rfl,rfl,rfl⟩⟩
            have hlv:mW g t=true:=by
              rw[mW,List.all_eq_true]
              intro q hq
              exact hj3 q (by simp at hq; omega)
            rw[hpre,hlv,Bool.true_and] at hi
            push_cast; exact hi
      · rw[List.drop_eq_nil_of_le (by omega)] at hi
        simp only[iY] at hi
        simp (disch:=omega) only [↓wr,↓reduceIte,wq,ai,ah,an,ab,ae,ag,aj,isNil,Nat.reduceEqDiff,Nat.reduceAdd,Nat.reduceLT,Nat.reduceLeDiff,Int.reduceNeg,Int.reduceToNat,reduceCtorEq,h1,h3]
        simp[gM,hle,← hi]
theorem CB (g:aE) (hg:g.Ok):aA Tryz.prog 115 [.agg (aw g)] (gb (gM g)):=aA.val (fF g) (B4 g hg)
def j3 (g:aE) (i:Int) (s:ByteArray):Bool:=dy (cW s) && (vO g s == i) && decide (lM g s < 0)
def lN (g:aE):List ByteArray→Int→Bool
  | [],_=>true
  | s :: r,i=>j3 g i s && lN g r (i+1)
def hD (g:aE):Bool:=decide (1≤g.aK.length) && decide (g.aK.length≤16) && lN g g.aK 0
set_option maxHeartbeats 1000000 in
theorem Df (g:aE) (hg:g.Ok) (H:View):aD Tryz.prog 116 [.agg (aw g)] H fun r _=>r=gb (hD g):=by
  refine aD.of mixed oo ?_
  repeat' (first | (refine ar.dec (fun _=>?_) (fun _=>?_)) | (refine ar.eq (fun _=>?_) (fun _=>?_)) | (refine ar.ne (fun _=>?_) (fun _=>?_)) | (refine ar.split (fun _=>?_) (fun _=>?_)) | (simp (disch:=omega) only [↓wr,↓reduceIte,wq,ai,ah,an,ab,ae,ag,aj,isNil,Nat.reduceEqDiff,Nat.reduceAdd,Nat.reduceLT,Nat.reduceLeDiff,Int.reduceNeg,Int.reduceToNat,reduceCtorEq,kW,aw,encS]))
  · simp[hD,show ¬ 1≤g.aK.length by omega]
  · simp[hD,show ¬ g.aK.length≤16 by omega]
  · have hle:g.aK.length≤16:=by omega
    refine bJ.intro (fun k T _=>∃ i:Nat,i+k=g.aK.length∧lN g (g.aK.drop i) i=lN g g.aK 0∧T 1=.aQ (aw g) 0∧T 3=gi i) g.aK.length ?_ ?_
    · exact ⟨0,by omega,rfl,rfl,rfl⟩
    · rintro k T H' ⟨i,hk,hi,h1,h3⟩
      simp (disch:=omega) only [↓wr,↓reduceIte,wq,ai,ah,an,ab,ae,ag,aj,isNil,Nat.reduceEqDiff,Nat.reduceAdd,Nat.reduceLT,Nat.reduceLeDiff,Int.reduceNeg,Int.reduceToNat,reduceCtorEq,iO,h1,h3,aw,encS]
      refine ar.dec (fun hc=>?_) (fun hc=>?_)
      · have hg2:g.aK[i]?=some (g.aK[i]'(by omega)):=List.getElem?_eq_getElem (by omega)
        rw[dS (show i < g.aK.length by omega)] at hi
        generalize g.aK[i]'(by omega)=t at hg2 hi
        simp only[lN] at hi
        have hbad:j3 g i t=false→gb false=gb (hD g):=fun e=>by rw[e,Bool.false_and] at hi; simp[hD,← hi]
        simp (disch:=omega) only [↓wr,↓reduceIte,wq,ai,ah,an,ab,ae,ag,aj,isNil,Nat.reduceEqDiff,Nat.reduceAdd,Nat.reduceLT,Nat.reduceLeDiff,Int.reduceNeg,Int.reduceToNat,reduceCtorEq,h1,h3,aw,encS,List.getElem?_map,hg2,Option.map_some]
        refine aJ.pure (wJ t) (by kernel_rfl) ?_
        repeat' (first | (refine ar.dec (fun _=>?_) (fun _=>?_)) | (refine ar.eq (fun _=>?_) (fun _=>?_)) | (refine ar.ne (fun _=>?_) (fun _=>?_)) | (refine ar.split (fun _=>?_) (fun _=>?_)) | (simp (disch:=omega) only [↓wr,↓reduceIte,wq,ai,ah,an,ab,ae,ag,aj,isNil,Nat.reduceEqDiff,Nat.reduceAdd,Nat.reduceLT,Nat.reduceLeDiff,Int.reduceNeg,Int.reduceToNat,reduceCtorEq,h1,h3,aw,encS,List.getElem?_map,hg2,Option.map_some]))
        all_goals try (refine hbad ?_; simp[j3, *]; done)
        rename_i hnm
        refine aJ.pure (FM g hg t) (by kernel_rfl) ?_
        repeat' (first | (refine ar.dec (fun _=>?_) (fun _=>?_)) | (refine ar.eq (fun _=>?_) (fun _=>?_)) | (refine ar.ne (fun _=>?_) (fun _=>?_)) | (refine ar.split (fun _=>?_) (fun _=>?_)) | (simp (disch:=omega) only [↓wr,↓reduceIte,wq,ai,ah,an,ab,ae,ag,aj,isNil,Nat.reduceEqDiff,Nat.reduceAdd,Nat.reduceLT,Nat.reduceLeDiff,Int.reduceNeg,Int.reduceToNat,reduceCtorEq,h1,h3,aw,encS,List.getElem?_map,hg2,Option.map_some]))
        all_goals try (refine hbad ?_; simp[j3, *]; done)
        rename_i hno
        refine aJ.pure (w7 g hg t) (by kernel_rfl) ?_
        repeat' (first | (refine ar.dec (fun _=>?_) (fun _=>?_)) | (refine ar.eq (fun _=>?_) (fun _=>?_)) | (refine ar.ne (fun _=>?_) (fun _=>?_)) | (refine ar.split (fun _=>?_) (fun _=>?_)) | (simp (disch:=omega) only [↓wr,↓reduceIte,wq,ai,ah,an,ab,ae,ag,aj,isNil,Nat.reduceEqDiff,Nat.reduceAdd,Nat.reduceLT,Nat.reduceLeDiff,Int.reduceNeg,Int.reduceToNat,reduceCtorEq,h1,h3,aw,encS]))
        all_goals try (refine hbad ?_; simp[j3, *]; done)
        rename_i hte
        refine ⟨k - 1,by omega,i+1,by omega,?_,by first | rfl | exact ⟨rfl,rfl⟩ | exact ⟨rfl,rfl,rfl⟩⟩
        have:j3 g i t=true:=by simp[j3,hnm,hno,show lM g t < 0 by omega]
        rw[this,Bool.true_and] at hi
        push_cast; exact hi
      · rw[List.drop_eq_nil_of_le (by omega)] at hi
        simp only[lN] at hi
        simp (disch:=omega) only [↓wr,↓reduceIte,wq,ai,ah,an,ab,ae,ag,aj,isNil,Nat.reduceEqDiff,Nat.reduceAdd,Nat.reduceLT,Nat.reduceLeDiff,Int.reduceNeg,Int.reduceToNat,reduceCtorEq,h1,h3]
        simp[hD,hle,show 1≤g.aK.length by omega,← hi]
theorem EE (g:aE) (hg:g.Ok):aA Tryz.prog 116 [.agg (aw g)] (gb (hD g)):=aA.val (fF g) (Df g hg)
def j8 (g:aE) (prec s:Int):Bool:=mh g s && !(decide (0≤s) && prec == -1)
def eM (g:aE) (r:aZ):Bool:=decide (r.right.length≤6) && decide (-1≤r.prec) && decide (r.prec < g.az.length) && r.right.all (j8 g r.prec)
theorem zf (g:aE) (r:aZ):∀ v∈[V.agg (aw g),V.agg (aY r)],Tree v:=by
  intro v hv; simp at hv
  rcases hv with rfl | rfl
  · exact cI _ (dr g)
  · exact cI _ (dw r)
set_option maxHeartbeats 1000000 in
theorem DE (g:aE) (r:aZ) (hr:bd r.right∧∀ x∈r.right,cU x) (H:View):aD Tryz.prog 117 [.agg (aw g),.agg (aY r)] H fun v _=>v=gb (eM g r):=by
  refine aD.of mixed oU ?_
  repeat' (first | (refine ar.dec (fun _=>?_) (fun _=>?_)) | (refine ar.eq (fun _=>?_) (fun _=>?_)) | (refine ar.ne (fun _=>?_) (fun _=>?_)) | (refine ar.split (fun _=>?_) (fun _=>?_)) | (simp (disch:=omega) only [↓wr,↓reduceIte,wq,ai,ah,an,ab,ae,ag,aj,isNil,Nat.reduceEqDiff,Nat.reduceAdd,Nat.reduceLT,Nat.reduceLeDiff,Int.reduceNeg,Int.reduceToNat,reduceCtorEq,kZ,aw,encS,aY,encI]))
  · simp[eM,show ¬ r.right.length≤6 by omega]
  · simp[eM,show ¬ -1≤r.prec by omega]
  · simp[eM,show ¬ r.prec < g.az.length by omega]
  · have hle:r.right.length≤6:=by omega
    have hp1 : -1≤r.prec:=by omega
    have hp2:r.prec < g.az.length:=by omega
    refine bJ.intro (fun k T _=>∃ i:Nat,i+k=r.right.length∧(r.right.drop i).all (j8 g r.prec)=r.right.all (j8 g r.prec)∧T 2=.aQ (aw g) 0∧T 3=.aQ (aY r) 0∧T 5=gi i) r.right.length ?_ ?_
    · exact ⟨0,by omega,rfl,rfl,rfl,rfl⟩
    · rintro k T H' ⟨i,hk,hi,h2,h3,h5⟩
      simp (disch:=omega) only [↓wr,↓reduceIte,wq,ai,ah,an,ab,ae,ag,aj,isNil,Nat.reduceEqDiff,Nat.reduceAdd,Nat.reduceLT,Nat.reduceLeDiff,Int.reduceNeg,Int.reduceToNat,reduceCtorEq,ju,h2,h3,h5,aY,encI]
      refine ar.dec (fun hc=>?_) (fun hc=>?_)
      · have hg2:r.right[i]?=some (r.right[i]'(by omega)):=List.getElem?_eq_getElem (by omega)
        rw[dS (show i < r.right.length by omega)] at hi
        have hmem:r.right[i]'(by omega)∈r.right:=List.getElem_mem _
        generalize r.right[i]'(by omega)=t at hg2 hi hmem
        have hin:=hr.2 t hmem
        simp only[List.all_cons] at hi
        have hbad:j8 g r.prec t=false→gb false=gb (eM g r):=fun e=>by rw[e,Bool.false_and] at hi; simp only[eM,← hi,Bool.and_false]
        have hok:j8 g r.prec t=true→(r.right.drop (i+1)).all (j8 g r.prec)=r.right.all (j8 g r.prec):=fun e=>by rw[e,Bool.true_and] at hi; exact hi
        simp (disch:=omega) only [↓wr,↓reduceIte,wq,ai,ah,an,ab,ae,ag,aj,isNil,Nat.reduceEqDiff,Nat.reduceAdd,Nat.reduceLT,Nat.reduceLeDiff,Int.reduceNeg,Int.reduceToNat,reduceCtorEq,h2,h3,h5,aw,encS,aY,encI,List.getElem?_map,hg2,Option.map_some]
        refine aJ.pure (Hd g t hin) (by kernel_rfl) ?_
        repeat' (first | (refine ar.dec (fun _=>?_) (fun _=>?_)) | (refine ar.eq (fun _=>?_) (fun _=>?_)) | (refine ar.ne (fun _=>?_) (fun _=>?_)) | (refine ar.split (fun _=>?_) (fun _=>?_)) | (simp (disch:=omega) only [↓wr,↓reduceIte,wq,ai,ah,an,ab,ae,ag,aj,isNil,Nat.reduceEqDiff,Nat.reduceAdd,Nat.reduceLT,Nat.reduceLeDiff,Int.reduceNeg,Int.reduceToNat,reduceCtorEq,h2,h3,h5,aw,encS,aY,encI,List.getElem?_map,hg2,Option.map_some]))
        all_goals first
          | (refine hbad ?_; simp[j8, *]; done)
          | (refine ⟨k - 1,by omega,i+1,by omega,hok (by simp[j8, *]; done),by first | rfl | exact ⟨rfl,rfl⟩ | exact ⟨rfl,rfl,rfl⟩⟩)
          | skip
      · rw[List.drop_eq_nil_of_le (by omega)] at hi
        simp only[List.all_nil] at hi
        simp (disch:=omega) only [↓wr,↓reduceIte,wq,ai,ah,an,ab,ae,ag,aj,isNil,Nat.reduceEqDiff,Nat.reduceAdd,Nat.reduceLT,Nat.reduceLeDiff,Int.reduceNeg,Int.reduceToNat,reduceCtorEq,h2,h3,h5]
        simp only[eM,hle,hp1,hp2,decide_true,Bool.true_and,← hi]
theorem Dd (g:aE) (r:aZ) (hr:bd r.right∧∀ x∈r.right,cU x):aA Tryz.prog 117 [.agg (aw g),.agg (aY r)] (gb (eM g r)):=aA.val (zf g r) (DE g r hr)
def eP (g:aE):List aZ→Int→Bool
  | [],top=>top == (g.aK.length:Int) - 1
  | r :: l,top=>decide (0≤r.left) && decide (r.left≤top+1) && eM g r && eP g l (if r.left > top then r.left else top)
def bo (g:aE):Bool :=
  gM g && hD g && decide (1≤g.rules.length) && decide (g.rules.length≤40) && decide (0≤g.start) && decide (g.start < g.aK.length) && eP g g.rules (-1)
set_option maxHeartbeats 1000000 in
theorem B3 (g:aE) (hg:g.Ok) (H:View):aD Tryz.prog 66 [.agg (aw g)] H fun r _=>r=gb (bo g):=by
  refine aD.of mixed nX ?_
  have hn:=hg.aK
  unfold bd at hn
  simp (disch:=omega) only [↓wr,↓reduceIte,wq,ai,ah,an,ab,ae,ag,aj,isNil,Nat.reduceEqDiff,Nat.reduceAdd,Nat.reduceLT,Nat.reduceLeDiff,Int.reduceNeg,Int.reduceToNat,reduceCtorEq,jH,aw,encS]
  refine aJ.pure (CB g hg) (by kernel_rfl) ?_
  repeat' (first | (refine ar.dec (fun _=>?_) (fun _=>?_)) | (refine ar.eq (fun _=>?_) (fun _=>?_)) | (refine ar.ne (fun _=>?_) (fun _=>?_)) | (refine ar.split (fun _=>?_) (fun _=>?_)) | (simp (disch:=omega) only [↓wr,↓reduceIte,wq,ai,ah,an,ab,ae,ag,aj,isNil,Nat.reduceEqDiff,Nat.reduceAdd,Nat.reduceLT,Nat.reduceLeDiff,Int.reduceNeg,Int.reduceToNat,reduceCtorEq,aw,encS]))
  · rename_i h1
    refine aJ.pure (EE g hg) (by kernel_rfl) ?_
    repeat' (first | (refine ar.dec (fun _=>?_) (fun _=>?_)) | (refine ar.eq (fun _=>?_) (fun _=>?_)) | (refine ar.ne (fun _=>?_) (fun _=>?_)) | (refine ar.split (fun _=>?_) (fun _=>?_)) | (simp (disch:=omega) only [↓wr,↓reduceIte,wq,ai,ah,an,ab,ae,ag,aj,isNil,Nat.reduceEqDiff,Nat.reduceAdd,Nat.reduceLT,Nat.reduceLeDiff,Int.reduceNeg,Int.reduceToNat,reduceCtorEq,aw,encS]))
    all_goals try (simp[bo, *]; done)
    all_goals try (simp[bo]; omega)
    rename_i h2 h3 h4 h5 h6
    have hle:g.rules.length≤40:=by omega
    have hpre:∀ b,eP g g.rules (-1)=b→gb b=gb (bo g):=fun b e=>by
      simp[bo,h1,h2,show 1≤g.rules.length by omega,hle,show 0≤g.start by omega,show g.start < g.aK.length by omega,e]
    refine bJ.intro (fun k T _=>∃ (i:Nat) (w:Int),i+k=g.rules.length∧-1≤w∧w < i∧eP g (g.rules.drop i) w=eP g g.rules (-1)∧T 1=.aQ (aw g) 0∧T 3=gi w∧T 4=gi i) g.rules.length ?_ ?_
    · exact ⟨0,-1,by omega,by omega,by omega,rfl,rfl,rfl,rfl⟩
    · rintro k T H' ⟨i,w,hk,hw1,hw2,hi,f1,f3,f4⟩
      simp (disch:=omega) only [↓wr,↓reduceIte,wq,ai,ah,an,ab,ae,ag,aj,isNil,Nat.reduceEqDiff,Nat.reduceAdd,Nat.reduceLT,Nat.reduceLeDiff,Int.reduceNeg,Int.reduceToNat,reduceCtorEq,iH,f1,f3,f4,aw]
      refine ar.dec (fun hc=>?_) (fun hc=>?_)
      · have hg2:g.rules[i]?=some (g.rules[i]'(by omega)):=List.getElem?_eq_getElem (by omega)
        rw[dS (show i < g.rules.length by omega)] at hi
        have hmem:g.rules[i]'(by omega)∈g.rules:=List.getElem_mem _
        generalize g.rules[i]'(by omega)=t at hg2 hi hmem
        obtain ⟨⟨hl1,hl2⟩,hp,hr1,hr2⟩:=hg.bg t hmem
        simp only[eP] at hi
        simp (disch:=omega) only [↓wr,↓reduceIte,wq,ai,ah,an,ab,ae,ag,aj,isNil,Nat.reduceEqDiff,Nat.reduceAdd,Nat.reduceLT,Nat.reduceLeDiff,Int.reduceNeg,Int.reduceToNat,reduceCtorEq,f1,f3,f4,aw,encS,aY,encI,List.getElem?_map,hg2,Option.map_some]
        intro m hm
        try simp (disch:=omega) only [↓wr,↓reduceIte,wq,ai,ah,an,ab,ae,ag,aj,isNil,Nat.reduceEqDiff,Nat.reduceAdd,Nat.reduceLT,Nat.reduceLeDiff,Int.reduceNeg,Int.reduceToNat,reduceCtorEq,f1,f3,f4]
        repeat' (first | (refine ar.dec (fun _=>?_) (fun _=>?_)) | (refine ar.eq (fun _=>?_) (fun _=>?_)) | (refine ar.ne (fun _=>?_) (fun _=>?_)) | (refine ar.split (fun _=>?_) (fun _=>?_)) | (simp (disch:=omega) only [↓wr,↓reduceIte,wq,ai,ah,an,ab,ae,ag,aj,isNil,Nat.reduceEqDiff,Nat.reduceAdd,Nat.reduceLT,Nat.reduceLeDiff,Int.reduceNeg,Int.reduceToNat,reduceCtorEq,f1,f3,f4,aw,encS,aY,encI]))
        all_goals try (refine hpre _ ?_; simp only[← hi]; simp; omega)
        rename_i e1 e2
        refine aJ.pure (Dd g t ⟨hr1,hr2⟩) (by kernel_rfl) ?_
        repeat' (first | (refine ar.dec (fun _=>?_) (fun _=>?_)) | (refine ar.eq (fun _=>?_) (fun _=>?_)) | (refine ar.ne (fun _=>?_) (fun _=>?_)) | (refine ar.split (fun _=>?_) (fun _=>?_)) | (simp (disch:=omega) only [↓wr,↓reduceIte,wq,ai,ah,an,ab,ae,ag,aj,isNil,Nat.reduceEqDiff,Nat.reduceAdd,Nat.reduceLT,Nat.reduceLeDiff,Int.reduceNeg,Int.reduceToNat,reduceCtorEq,f1,f3,f4,aw,encS,aY,encI]))
        all_goals simp only[show 0≤t.left by omega,show t.left≤w+1 by omega,decide_true,Bool.true_and] at hi
        · rename_i e3 e4
          rw[e3,Bool.true_and,if_pos e4] at hi
          exact ⟨k - 1,by omega,i+1,_,by omega,by omega,by push_cast; omega,hi,by first | rfl | exact ⟨rfl,rfl⟩ | exact ⟨rfl,rfl,rfl⟩⟩
        · rename_i e3 e4
          rw[e3,Bool.true_and,if_neg e4] at hi
          exact ⟨k - 1,by omega,i+1,_,by omega,by omega,by push_cast; omega,hi,by first | rfl | exact ⟨rfl,rfl⟩ | exact ⟨rfl,rfl,rfl⟩⟩
        · rename_i e3
          rw[e3,Bool.false_and] at hi
          exact hpre _ hi.symm
      · rw[List.drop_eq_nil_of_le (by omega)] at hi
        simp only[eP] at hi
        simp (disch:=omega) only [↓wr,↓reduceIte,wq,ai,ah,an,ab,ae,ag,aj,isNil,Nat.reduceEqDiff,Nat.reduceAdd,Nat.reduceLT,Nat.reduceLeDiff,Int.reduceNeg,Int.reduceToNat,reduceCtorEq,f1,f3,f4,aw,encS]
        exact hpre _ hi.symm
  · rename_i h1; simp[bo,h1]
theorem Cs (g:aE) (hg:g.Ok):aA Tryz.prog 66 [.agg (aw g)] (gb (bo g)):=aA.val (fF g) (B3 g hg)
inductive bp (α:Type) where
  | nil
  | node (v:α) (l r:bp α)
noncomputable def bp.get {α:Type} (z:α) (t:bp α):Nat→α :=
  bp.rec (motive:=fun _=>Nat→α) (fun _=>z) (fun v _ _ gl gr i=>Bool.rec (Bool.rec (gr (i / 2 - 1)) (gl (i / 2)) (Nat.beq (i % 2) 1)) v (Nat.beq i 0)) t
theorem bp.get_nil {α:Type} (z:α) (i:Nat):bp.get z .nil i=z:=rfl
theorem bp.Fs {α:Type} (z v:α) (l r:bp α) (i:Nat):bp.get z (.node v l r) i=match Nat.beq i 0 with
    | true=>v
    | false=>match Nat.beq (i % 2) 1 with
      | true=>bp.get z l (i / 2)
      | false=>bp.get z r (i / 2 - 1):=by
  change (Bool.rec (motive:=fun _=>α) _ _ _:α)=_
  cases Nat.beq i 0 with
  | true=>rfl
  | false=>cases Nat.beq (i % 2) 1 <;> rfl
def bp.val {α:Type} (z:α):bp α→α
  | .nil=>z
  | .node v _ _=>v
def bp.left {α:Type} : bp α→bp α
  | .nil=>.nil
  | .node _ l _=>l
def bp.right {α:Type} : bp α→bp α
  | .nil=>.nil
  | .node _ _ r=>r
noncomputable def bp.put {α:Type} (z:α) (x:α) (d:Nat):bp α→Nat→bp α :=
  Nat.rec (motive:=fun _=>bp α→Nat→bp α) (fun t _=>t) (fun _ pd t i =>
    Bool.rec (Bool.rec (.node (t.val z) t.left (pd t.right (i / 2 - 1))) (.node (t.val z) (pd t.left (i / 2)) t.right) (Nat.beq (i % 2) 1)) (.node x t.left t.right) (Nat.beq i 0)) d
theorem bp.Fu {α:Type} (z x:α) (d:Nat) (t:bp α) (i:Nat):bp.put z x (d+1) t i=match Nat.beq i 0 with
    | true=>.node x t.left t.right
    | false=>match Nat.beq (i % 2) 1 with
      | true=>.node (t.val z) (bp.put z x d t.left (i / 2)) t.right
      | false=>.node (t.val z) t.left (bp.put z x d t.right (i / 2 - 1)):=by
  change (Bool.rec (motive:=fun _=>bp α) _ _ _:bp α)=_
  cases Nat.beq i 0 with
  | true=>rfl
  | false=>cases Nat.beq (i % 2) 1 <;> rfl
theorem bp.iu {α:Type} (z:α) (t:bp α) (j:Nat):t.get z j=if j=0 then t.val z else if j % 2=1 then t.left.get z (j / 2) else t.right.get z (j / 2 - 1):=by
  cases t with
  | nil=>simp[bp.get_nil,bp.val,bp.left,bp.right]
  | node v l r =>
    simp only[bp.Fs,bp.val,bp.left,bp.right]
    by_cases h:j=0
    · subst h; rfl
    · have:Nat.beq j 0=false:=by cases e:Nat.beq j 0 with | true=>exact absurd (Nat.eq_of_beq_eq_true e) h | false=>rfl
      rw[this,if_neg h]
      simp only
      by_cases h2:j % 2=1
      · have:Nat.beq (j % 2) 1=true:=by rw[h2]; rfl
        rw[this,if_pos h2]
      · have:Nat.beq (j % 2) 1=false:=by cases e:Nat.beq (j % 2) 1 with | true=>exact absurd (Nat.eq_of_beq_eq_true e) h2 | false=>rfl
        rw[this,if_neg h2]
theorem bp.iD {α:Type} (z x:α):∀ (d:Nat) (t:bp α) (i j:Nat),i+1 < 2 ^ d→(bp.put z x d t i).get z j=if j=i then x else t.get z j
  | 0,t,i,j,h=>by simp at h
  | d+1,t,i,j,h=>by
    rw[Nat.pow_succ] at h
    simp only[bp.Fu]
    by_cases hi:i=0
    · subst hi
      have:Nat.beq 0 0=true:=rfl
      rw[this]
      simp only
      rw[bp.iu,bp.iu z t]
      simp only[bp.val,bp.left,bp.right]
      by_cases hj:j=0
      · rw[if_pos hj,if_pos hj]
      · rw[if_neg hj,if_neg hj,if_neg hj]
    · have:Nat.beq i 0=false:=by cases e:Nat.beq i 0 with | true=>exact absurd (Nat.eq_of_beq_eq_true e) hi | false=>rfl
      rw[this]
      simp only
      by_cases h2:i % 2=1
      · have:Nat.beq (i % 2) 1=true:=by rw[h2]; rfl
        rw[this]
        simp only
        rw[bp.iu,bp.iu z t]
        simp only[bp.val,bp.left,bp.right]
        by_cases hj:j=0
        · subst hj; rw[if_pos rfl,if_neg (fun e=>hi e.symm),if_pos rfl]
        · rw[if_neg hj,if_neg hj]
          by_cases hj2:j % 2=1
          · rw[if_pos hj2,if_pos hj2,bp.iD z x d _ _ _ (by omega)]
            by_cases e:j=i
            · subst e; simp
            · rw[if_neg e,if_neg (by omega)]
          · rw[if_neg hj2,if_neg hj2,if_neg (fun e=>hj2 (by rw[e]; exact h2))]
      · have:Nat.beq (i % 2) 1=false:=by cases e:Nat.beq (i % 2) 1 with | true=>exact absurd (Nat.eq_of_beq_eq_true e) h2 | false=>rfl
        rw[this]
        simp only
        rw[bp.iu,bp.iu z t]
        simp only[bp.val,bp.left,bp.right]
        by_cases hj:j=0
        · subst hj; rw[if_pos rfl,if_neg (fun e=>hi e.symm),if_pos rfl]
        · rw[if_neg hj,if_neg hj]
          by_cases hj2:j % 2=1
          · rw[if_pos hj2,if_pos hj2,if_neg (fun e=>h2 (by rw[← e]; exact hj2))]
          · rw[if_neg hj2,if_neg hj2,bp.iD z x d _ _ _ (by omega)]
            by_cases e:j=i
            · subst e; simp
            · rw[if_neg e,if_neg (by omega)]
abbrev deep:Nat:=13
structure ES where
  L:bp V
  H:bp cR
  n:Nat
  w:List Nat
noncomputable def ES.T (s:ES):Env:=s.L.get .any
noncomputable def ES.V (s:ES):View:=s.H.get .dead
noncomputable def ES.put (s:ES) (d:Option Nat) (v:Gv.V):ES:=match d with
  | some t=>⟨s.L.put .any v deep t,s.H,s.n,s.w⟩
  | none=>s
theorem ES.F2 {s:ES} {d:Option Nat} {v:Gv.V} (h:∀ t,d=some t→t < 8000):(s.put d v).T=s.T.put d v:=by
  cases d with
  | none=>rfl
  | some t =>
    funext k
    have:=h t rfl
    simp only[ES.put,ES.T,Env.put]
    rw[bp.iD _ _ _ _ _ _ (by simp[deep]; omega)]
noncomputable def zl (v:V) (av:aN) (rd:List Nat) (s:ES):Option (V × ES × Rec):=match av with
  | .none=>some (v,s,⟨rd,[],false,s.n,s.n⟩)
  | .new o=>match Nat.ble s.n 8000 with
    | true=>some (v,⟨s.L,s.H.put .dead o deep s.n,s.n+1,s.w⟩,⟨rd,[],false,s.n,s.n+1⟩)
    | false=>none
  | .dH id o=>match Nat.ble id 8000 with
    | true=>some (v,⟨s.L,s.H.put .dead o deep id,s.n,id :: s.w⟩,⟨rd,[id],false,s.n,s.n⟩)
    | false=>none
  | .aV id o=>match Nat.ble s.n 8000,Nat.ble id 8000 with
    | true,true=>some (v,⟨s.L,(s.H.put .dead .dead deep id).put .dead o deep s.n,s.n+1,id :: s.w⟩,⟨rd,[id],false,s.n,s.n+1⟩)
    | _,_=>none
noncomputable def Ia (x:SX) (_:Program) (T:Env) (_:View) (_:Nat):Out:=some (x.at T,.none,[])
noncomputable def Hn (c a b:SX) (_:Program) (T:Env) (_:View) (_:Nat):Out:=match c.at T with
  | .val (.bool t)=>some (if t then a.at T else b.at T,.none,[])
  | _=>none
noncomputable def HC (sz:Option Nat) (a:SX) (_:Program) (T:Env) (H:View) (_:Nat):Out:=pV sz (a.at T) H
noncomputable def Hf (sz:Nat) (a x:SX) (_:Program) (T:Env) (H:View) (_:Nat):Out:=tY sz (a.at T) (x.at T) H
noncomputable def Ho (off:Nat) (x:SX) (_:Program) (T:Env) (_:View) (_:Nat):Out:=sr off (x.at T)
noncomputable def H7 (sz:Nat) (x i:SX) (_:Program) (T:Env) (_:View) (_:Nat):Out:=vW sz (x.at T) (i.at T)
noncomputable def HV (x:SX) (_:Program) (T:Env) (_:View) (_:Nat):Out:=(dF (x.at T)).map fun n=>(an n,.none,[])
noncomputable def G7 (op:BinOp) (x y:SX) (_:Program) (T:Env) (_:View) (_:Nat):Out:=r9 op (x.at T) (y.at T)
noncomputable def HX (op:BinOp) (x y:SX) (_:Program) (T:Env) (_:View) (_:Nat):Out:=tN op (x.at T) (y.at T)
noncomputable def Ih (x:SX) (_:Program) (T:Env) (_:View) (_:Nat):Out:=match x.at T with
  | .val (.bool t)=>some (.val (.bool (!t)),.none,[])
  | _=>none
noncomputable def HO (i:Nat) (x:SX) (_:Program) (T:Env) (_:View) (_:Nat):Out:=match x.at T with
  | .bc vs=>if i < vs.length then some (vs.getD i .any,.none,[]) else none
  | _=>none
noncomputable def Hr (x:SX) (_:Program) (T:Env) (_:View) (_:Nat):Out:=match x.at T with
  | .ptr id i j=>some (.ptr id i j,.none,[])
  | .aQ e j=>some (.aQ e j,.none,[])
  | .fn f a b=>some (.fn f a b,.none,[])
  | _=>none
noncomputable def eI (s:SI):Program→Env→View→Nat→Out:=match s with
  | .aV x=>Ia x
  | .pick c a b=>Hn c a b
  | .load sz a=>HC sz a
  | .store sz a x=>Hf sz a x
  | .addr o x=>Ho o x
  | .idx sz x i=>H7 sz x i
  | .len x=>HV x
  | .arith op x y=>G7 op x y
  | .fT op x y=>HX op x y
  | .not x=>Ih x
  | .ext i x=>HO i x
  | .tQ x=>Hr x
  | s=>fun P T H n=>sI P s T H n
theorem Cf (s:SI) (P:Program) (T:Env) (H:View) (n:Nat):eI s P T H n=sI P s T H n:=by
  cases s <;> rfl
abbrev dY:=FuncId→List V→ES→Option (V × ES)
noncomputable def CY (P:Program) (s:SI) (e:ES):Option (V × ES × Rec):=match eI s P e.T e.V e.n with
  | some (v,av,rd)=>zl v av rd e
  | none=>none
noncomputable def CH (call:dY) (f:SX) (args:List SX) (e:ES):Option (V × ES × Rec):=match f.at e.T with
  | .fn g first cap=>match call g (first ++ args.map (SX.at e.T) ++ cap) e with
    | some (v,e')=>some (v,⟨e.L,e'.H,e'.n,e'.w ++ e.w⟩,⟨[],e'.w,true,e.n,e'.n⟩)
    | none=>none
  | _=>none
noncomputable def eB (P:Program) (call:dY) (b:SB):ES→Option (V × ES × Rec):=match b with
  | .op s=>CY P s
  | .call f args=>CH call f args
noncomputable def AR (P:Program) (call:dY):List (Option Nat × SB)→List Rec→ES→Option (ES × List Rec)
  | [],a,e=>some (e,a)
  | (d,b) :: r,a,e=>match eB P call b e with
    | some (v,e',c)=>AR P call r (a ++ [c]) (e'.put d v)
    | none=>none
noncomputable def F7 (e:ES):Rec:=⟨[],[],false,e.n,e.n⟩
noncomputable def pU:List (Option Nat × SB)→List Rec→ES→ES × List Rec
  | [],a,e=>(e,a)
  | (d,_) :: r,a,e=>pU r (a ++ [F7 e]) (e.put d (.bc []))
noncomputable def Ed (P:Program) (call:dY) (ops:List (Option Nat × SB)) (want:Bool) (v:V) (a:List Rec) (e:ES):Option (ES × List Rec):=match v with
  | .val (.bool b)=>match xor b want with
    | true=>some (pU ops a e)
    | false=>AR P call ops a e
  | .bc []=>some (pU ops a e)
  | _=>none
noncomputable def eG (P:Program) (call:dY) (g:SG) (a:List Rec) (e:ES):Option (ES × List Rec):=match g.guard with
  | none=>AR P call g.ops a e
  | some (d,want)=>Ed P call g.ops want (e.T d) a e
noncomputable def Dw (P:Program) (call:dY):List SG→List Rec→ES→Option (ES × List Rec)
  | [],a,e=>some (e,a)
  | g :: r,a,e=>match eG P call g a e with
    | some (e',a')=>Dw P call r a' e'
    | none=>none
inductive DC where
  | skip
  | region (ps:List (Nat × Nat)) (gs:List SG)
  | seq (x y:DC)
  | cond (c:SX) (x y:DC)
  | block (id:Nat) (c:DC)
  | loop (c:DC)
  | exit (id:Nat)
  | ret
  deriving Inhabited
def D6 (recs:List Rec) (ps:List (Nat × Nat)):Bool:=ps.all fun (i,k)=>match recs[i]?,recs[k]? with
  | some a,some b=>vr a b
  | _,_=>false
abbrev ER:=Option (Exit × ES)
abbrev qq:=DC→ES→ER
noncomputable def CR:ES→ER:=fun e=>some (.normal,e)
noncomputable def Bh (P:Program) (call:dY) (ps:List (Nat × Nat)) (gs:List SG) (e:ES):ER:=match Dw P call gs [] e with
  | some (e',recs)=>match D6 recs ps with
    | true=>some (.normal,e')
    | false=>none
  | none=>none
noncomputable def GU (run:qq) (x y:DC) (e:ES):ER:=match run x e with
  | some (.normal,e')=>run y e'
  | r=>r
noncomputable def FQ (run:qq) (c:SX) (x y:DC) (e:ES):ER:=match c.at e.T with
  | .val (.bool true)=>run x e
  | .val (.bool false)=>run y e
  | _=>none
noncomputable def DG (run:qq) (id:Nat) (c:DC) (e:ES):ER:=match run c e with
  | some (r,e')=>some (kn id r,e')
  | none=>none
noncomputable def FW (run:qq) (c:DC) (e:ES):ER:=match run c e with
  | some (.normal,e')=>run (.loop c) e'
  | r=>r
noncomputable def ia (P:Program) (call:dY) (run:qq) (c:DC):ES→ER:=match c with
  | .skip=>CR
  | .region ps gs=>Bh P call ps gs
  | .seq x y=>GU run x y
  | .cond c x y=>FQ run c x y
  | .block id c=>DG run id c
  | .loop c=>FW run c
  | .exit id=>fun e=>some (.exit id,e)
  | .ret=>fun e=>some (.ret,e)
noncomputable def E7 (r:SR) (e:ES):Option V:=match r with
  | .tmp t=>some (e.T t)
  | .cell t sz=>match e.T t with
    | .ptr id i j=>match e.V id with
      | .arr _ es=>if i < es.length then ib sz (es.getD i []) j else none
      | _=>none
    | .aQ e j=>ib sz e j
    | _=>none
noncomputable def po:List SR→ES→Option (List V)
  | [],_=>some []
  | r :: l,e=>match E7 r e,po l e with
    | some v,some vs=>some (v :: vs)
    | _,_=>none
noncomputable def iJ:List V→Nat→bp V→bp V
  | [],_,t=>t
  | v :: vs,i,t=>iJ vs (i+1) (t.put .any v deep i)
structure DF where
  code:DC
  res:List SR
  n:Nat
noncomputable def G1 (l:List SR) (r:ER):Option (V × ES):=match r with
  | some (.ret,e)=>(po l e).map fun vs=>(ai vs,e)
  | some (.normal,e)=>(po l e).map fun vs=>(ai vs,e)
  | _=>none
noncomputable def Hk (m:Nat) (r:Option (V × ES)):Option (V × ES):=match r with
  | some (v,e)=>some (v,⟨e.L,e.H,e.n,e.w.filter fun id=>Nat.blt id m⟩)
  | none=>none
noncomputable def G5 (run:qq) (F:DF) (vs:List V) (e:ES):Option (V × ES):=match Nat.ble vs.length F.n,Nat.ble F.n 8000 with
  | true,true=>Hk e.n (G1 F.res (run F.code ⟨iJ vs 0 .nil,e.H,e.n,[]⟩))
  | _,_=>none
abbrev rZ:=FuncId→List V→View→Option V
noncomputable def xW (P:Program) (tab:List (FuncId × DF)) (ext:rZ) (run:qq) (g:FuncId) (vs:List V) (e:ES):Option (V × ES):=match ext g vs e.V with
  | some t=>some (t,⟨e.L,e.H,e.n,[]⟩)
  | none=>match tab.find? (fun p=>Nat.beq p.1 g) with
    | some (_,F)=>G5 run F vs e
    | none=>none
noncomputable def yN (P:Program) (tab:List (FuncId × DF)) (ext:rZ):Nat→qq
  | 0=>fun _ _=>none
  | k+1=>ia P (xW P tab ext (yN P tab ext k)) (yN P tab ext k)
def ux (all:List Oper) (ls:List Nat):List (Nat × Nat) :=
  let b:=cT all []
  (ls.zipIdx.map fun (x,i)=>(ls.zipIdx.filter fun (y,k)=>decide (i < k) && !(ordered b i k || x == 0 || y == 0 || (decide (x≤1) && decide (y≤1)))).map fun (_,k)=>(i,k)).flatten
def zd (P:Program) (n:Nat) (fz:List Nat) (ops:List Oper) (draw:Bool):Option DC:=match bR P n ops ⟨fz,false⟩ ops with
  | none=>none
  | some l=>if !(group l).all m8 then none else
    if draw then (if hG ops then some (.region (ux ops (l.map fun s=>eK P false s.b)) (group l)) else none) else some (.region [] (group l))
def eJ (P:Program) (n:Nat) (fz:List Nat):Code→Option DC
  | .skip=>some .skip
  | .region _ ops draw=>zd P n fz ops.toList draw
  | .seq x y=>match eJ P n fz x,eJ P n fz y with
    | some a,some b=>some (.seq a b)
    | _,_=>none
  | .cond c x y=>match eJ P n fz x,eJ P n fz y with
    | some a,some b=>some (.cond (SX.of c) a b)
    | _,_=>none
  | .block id c=>(eJ P n fz c).map (.block id)
  | .loop c=>(eJ P n fz c).map .loop
  | .exit id=>some (.exit id)
  | .ret=>some .ret
  | _=>none
abbrev af (l:List (Option Nat × SB)):DC:=.region [] [⟨none,l⟩]
def aC (P:Program) (f:FuncId) (fz:List Nat):Option DF:=match P.funcs[f]? with
  | some fn=>match fn.body with
    | some c=>match eJ P fn.ntmps fz c,cX P fn.results.toList,bO P f with
      | some sc,some rs,true=>some ⟨sc,rs,fn.ntmps⟩
      | _,_,_=>none
    | none=>none
  | none=>none
end Gv
