/-
  Part 6 of the proof: what the machine does and what the functions answer.
  Conditions: those that each lemma names.
-/
import Derived.Test.YtkkdjpnkhhlnpaaGreatSGzZE
set_option linter.unusedSimpArgs false
set_option linter.unusedVariables false
set_option maxRecDepth 100000
namespace Gv
open Go Go.Proofs
structure Term where
  name:ByteArray
  level:Int
  assoc:Int
structure Rule where
  left:Int
  right:List Int
  prec:Int
structure Gram where
  terms:List Term
  nons:List ByteArray
  rules:List Rule
  start:Int
instance:Inhabited Term:=⟨⟨.empty,0,0⟩⟩
instance:Inhabited Rule:=⟨⟨0,[],0⟩⟩
def encT (t:Term):List V:=[gs t.name,gi t.level,gi t.assoc]
def encR (r:Rule):List V:=[gi r.left,encI r.right,gi r.prec]
def encS (l:List ByteArray):V:=.fro (l.map fun s=>[gs s])
def encG (g:Gram):List V:=[.fro (g.terms.map encT),encS g.nons,.fro (g.rules.map encR),gi g.start]
theorem tree_fro {α:Type} (l:List α) (f:α→List V) (h:∀ x∈l,∀ v∈f x,Tree v):Tree (.fro (l.map f)):=by
  refine .fro _ fun i j hi hj=>?_
  simp only[List.length_map] at hi
  have e:(l.map f).getD i []=f l[i]:=by simp[List.getD_eq_getElem?_getD,hi]
  rw[e] at hj ⊢
  have e2:(f l[i]).getD j .any=(f l[i])[j]:=by simp[List.getD_eq_getElem?_getD,hj]
  rw[e2]
  exact h _ (List.getElem_mem _) _ (List.getElem_mem _)
theorem tree_agg (cs:List V) (h:∀ v∈cs,Tree v):Tree (.agg cs):=by
  refine .agg _ fun i hi=>?_
  have e2:cs.getD i .any=cs[i]:=by simp[List.getD_eq_getElem?_getD,hi]
  rw[e2]; exact h _ (List.getElem_mem _)
theorem encS_tree (l:List ByteArray):Tree (encS l):=tree_fro _ _ fun x _ v hv=>by simp at hv; subst hv; exact .val _
theorem encT_tree (t:Term):∀ v∈encT t,Tree v:=by intro v hv; simp[encT] at hv; rcases hv with rfl | rfl | rfl <;> exact .val _
theorem encR_tree (r:Rule):∀ v∈encR r,Tree v:=by
  intro v hv; simp[encR] at hv; rcases hv with rfl | rfl | rfl
  · exact .val _
  · exact encI_tree _
  · exact .val _
theorem encG_tree (g:Gram):∀ v∈encG g,Tree v:=by
  intro v hv; simp[encG] at hv; rcases hv with rfl | rfl | rfl | rfl
  · exact tree_fro _ _ fun x _=>encT_tree x
  · exact encS_tree _
  · exact tree_fro _ _ fun x _=>encR_tree x
  · exact .val _
def In64 (x:Int):Prop:=-9223372036854775808≤x∧x≤9223372036854775807
structure Gram.Ok (g:Gram):Prop where
  terms:Short g.terms
  nons:Short g.nons
  rules:Short g.rules
  start:In64 g.start
  term:∀ t∈g.terms,In64 t.level∧In64 t.assoc
  rule:∀ r∈g.rules,In64 r.left∧In64 r.prec∧Short r.right∧∀ x∈r.right,In64 x
def hasG (g:Gram) (s:Int):Bool:=if 0≤s then decide (s < g.terms.length) else decide (-1 - s < g.nons.length)
def S_gerundref09_Has:SF:=⟨.seq (ab [aC 2 0,aw 4 false]) <|
  .seq (.seq (ab [aa 5 1,ah 6 .geq 5 0]) <|
  .cond (.tmp 6) (.seq (ab [aa 7 1,af 8 0 2,ae 9 8,aj 10 9,ak 11 .lss 7 10,aa 4 11]) <|
  .ret) (.skip)) <|
  .seq (ab [aa 12 1,((some 13),.op (.arith .sub (.val (.val (.int .i64 (-1)))) (.tmp 12))),af 14 1 2,ae 15 14,aj 16 15,ak 17 .lss 13 16,aa 4 17]) <|
  .ret,
  [.tmp 4],18⟩
theorem S_gerundref09_Has_ok:compF Tryz.prog 172 [2]=some S_gerundref09_Has:=by kernel_rfl
theorem mc_Has (g:Gram) (s:Int) (hs:In64 s) (H:View):MCall Tryz.prog 172 [.agg (encG g),gi s] H fun r H'=>r=gb (hasG g s)∧H'=H:=by
  refine MCall.of mixed S_gerundref09_Has_ok ?_
  obtain ⟨h1,h2⟩:=hs
  simp (disch:=omega) only [↓wr,↓reduceIte,wq,oneV,intOp,Nat.reduceEqDiff,Nat.reduceAdd,Nat.reduceLeDiff,Int.reduceNeg,S_gerundref09_Has,encG,encS]
  refine GoB.dec (fun h=>?_) (fun h=>?_)
  · simp (disch:=omega) only [↓wr,↓reduceIte,wq,intOp,goI,Nat.reduceEqDiff,Nat.reduceAdd,Nat.reduceLT,Int.reduceNeg,reduceCtorEq]
    simp[hasG,show (0:Int)≤s from h]
  · simp (disch:=omega) only [↓wr,↓reduceIte,wq,intOp,goI,Nat.reduceEqDiff,Nat.reduceAdd,Nat.reduceLT,Int.reduceNeg,reduceCtorEq]
    simp[hasG,show ¬ (0:Int)≤s from h]
theorem pc_Has (g:Gram) (s:Int) (hs:In64 s):PCall Tryz.prog 172 [.agg (encG g),gi s] (gb (hasG g s)) :=
  PCall.of (by
    intro v hv; simp at hv
    rcases hv with rfl | rfl
    · exact tree_agg _ (encG_tree g)
    · exact .val _) ((mc_Has g s hs _).mono fun r H' h h' _=>by rw[h.1]; exact .tree _ (.val _))
def greatG (g:Gram):Bool:=decide (40 < g.terms.length) || decide (40 < g.nons.length) || decide (60 < g.rules.length) || g.rules.any fun r=>decide (20 < r.right.length)
def B_gerundref09_Great_0:SC :=
  .seq (.seq (ab [aa 20 3,af 21 2 1,ae 22 21,aj 23 22,ak 24 .lss 20 23]) <|
  .cond (.tmp 24) (.skip) (.exit 0)) <|
  .seq (.block 1 (.seq (ab [af 27 2 1,ae 28 27,aa 29 3,av 30 3 28 29,af 31 1 30,ae 32 31,aj 33 32,ah 34 .gtr 33 20]) <|
  .cond (.tmp 34) (.seq (ab [aw 2 true]) <|
  .ret) (.skip))) <|
  ab [aa 25 3,ah 26 .add 25 1,aa 3 26]
def S_gerundref09_Great:SF:=⟨.seq (ab [aC 1 0,aw 2 false]) <|
  .seq (.seq (.region false [⟨none,[af 4 0 1,ae 5 4,aj 6 5,ah 7 .gtr 6 40,aa 8 7]⟩,⟨(some (8,false)),[af 9 1 1,ae 10 9,aj 11 10,ah 12 .gtr 11 40]⟩,⟨none,[ay 13 8 12,aa 14 13]⟩,⟨(some (14,false)),[af 15 2 1,ae 16 15,aj 17 16,ah 18 .gtr 17 60]⟩,⟨none,[ay 19 14 18]⟩]) <|
  .cond (.tmp 19) (.seq (ab [aw 2 true]) <|
  .ret) (.skip)) <|
  .seq (.seq (ab [ai 3 0]) <|
  .block 0 (.loop B_gerundref09_Great_0)) <|
  .seq (ab [aw 2 false]) <|
  .ret,
  [.tmp 2],35⟩
theorem S_gerundref09_Great_ok:compF Tryz.prog 16 [1]=some S_gerundref09_Great:=by kernel_rfl
theorem mc_Great (g:Gram) (H:View):MCall Tryz.prog 16 [.agg (encG g)] H fun r H'=>r=gb (greatG g)∧H'=H:=by
  refine MCall.of mixed S_gerundref09_Great_ok ?_
  simp (disch:=omega) only [↓wr,↓reduceIte,wq,oneV,intOp,goI,Nat.reduceEqDiff,Nat.reduceAdd,Nat.reduceLT,Nat.reduceLeDiff,S_gerundref09_Great,encG,encS]
  refine GoB.dec (fun h1=>?_) (fun h1=>?_)
  · simp (disch:=omega) only [↓wr,↓reduceIte,wq,Nat.reduceEqDiff,reduceCtorEq]
    simp[greatG,show 40 < g.terms.length by omega]
  · simp (disch:=omega) only [↓wr,↓reduceIte,wq,intOp,goI,Nat.reduceEqDiff,Nat.reduceAdd,Nat.reduceLT]
    refine GoB.dec (fun h2=>?_) (fun h2=>?_)
    · simp (disch:=omega) only [↓wr,↓reduceIte,wq,Nat.reduceEqDiff,reduceCtorEq]
      simp[greatG,show 40 < g.nons.length by omega]
    · simp (disch:=omega) only [↓wr,↓reduceIte,wq,intOp,goI,Nat.reduceEqDiff,Nat.reduceAdd,Nat.reduceLT]
      refine GoB.dec (fun h3=>?_) (fun h3=>?_)
      · simp (disch:=omega) only [↓wr,↓reduceIte,wq,reduceCtorEq]
        simp[greatG,show 60 < g.rules.length by omega]
      · simp (disch:=omega) only [↓wr,wq]
        refine LoopG.intro (fun k T H'=>∃ i:Nat,i+k=g.rules.length∧(∀ r∈g.rules.take i,¬ 20 < r.right.length)∧T 1=.fptr (encG g) 0∧T 3=gi i∧H'=H) g.rules.length ?_ ?_
        · exact ⟨0,by omega,by simp,rfl,rfl,rfl⟩
        · rintro k T H' ⟨i,hk,hi,e1,e3,rfl⟩
          simp (disch:=omega) only [↓wr,↓reduceIte,wq,intOp,goI,Nat.reduceEqDiff,Nat.reduceAdd,Nat.reduceLT,reduceCtorEq,B_gerundref09_Great_0,e1,e3,encG]
          refine GoB.dec (fun hc=>?_) (fun hc=>?_)
          · have hg:g.rules[i]?=some (g.rules[i]'(by omega)):=List.getElem?_eq_getElem (by omega)
            simp (disch:=omega) only [↓wr,↓reduceIte,wq,intOp,goI,Nat.reduceEqDiff,Nat.reduceAdd,Nat.reduceLT,e1,e3,encG,encR,encI,List.getElem?_map,hg]
            refine GoB.dec (fun hd=>?_) (fun hd=>?_)
            · simp (disch:=omega) only [↓wr,↓reduceIte,wq,intOp,Nat.reduceEqDiff,reduceCtorEq]
              have:g.rules.any (fun r=>decide (20 < r.right.length))=true:=by
                simp only[List.any_eq_true,decide_eq_true_eq]
                exact ⟨g.rules[i]'(by omega),List.getElem_mem _,by omega⟩
              simp[greatG,this]
            · simp (disch:=omega) only [↓wr,↓reduceIte,wq,intOp,Nat.reduceEqDiff,reduceCtorEq,e1,e3]
              refine ⟨k - 1,by omega,i+1,by omega,?_,rfl,rfl⟩
              intro r hr
              rw[List.take_add_one,hg] at hr
              simp only[Option.toList_some,List.mem_append,List.mem_singleton] at hr
              rcases hr with hr | rfl
              · exact hi r hr
              · omega
          · simp (disch:=omega) only [↓wr,↓reduceIte,wq,Nat.reduceEqDiff,reduceCtorEq]
            have e:i=g.rules.length:=by omega
            rw[List.take_of_length_le (by omega)] at hi
            have:g.rules.any (fun r=>decide (20 < r.right.length))=false:=by
              simp only[List.any_eq_false,decide_eq_true_eq]; exact hi
            simp only[greatG,this]
            simp; omega
def allG (l:List Int) (is:List Bool) (terms:Bool):Bool:=l.all fun s=>if 0≤s then terms else is.getD (-1 - s).toNat false
def B_gerundref11_all_0:SC :=
  .seq (.seq (ab [aa 8 7,aa 9 0,aj 10 9,ak 11 .lss 8 10]) <|
  .cond (.tmp 11) (.skip) (.exit 0)) <|
  .seq (.block 1 (.seq (.region false [⟨none,[aa 14 0,aa 15 7,av 16 1 14 15,ae 17 16,ah 18 .geq 17 0,aa 19 18]⟩,⟨(some (19,true)),[aa 20 2,aB 21 20]⟩,⟨none,[az 22 19 21,aa 23 22]⟩,⟨(some (23,false)),[aa 24 0,aa 25 7,av 26 1 24 25,ae 27 26,ah 28 .lss 27 0,aa 29 28]⟩,⟨(some (29,true)),[aa 30 1,aa 31 0,aa 32 7,av 33 1 31 32,ae 34 33,((some 35),.op (.arith .sub (.val (.val (.int .i64 (-1)))) (.tmp 34))),av 36 1 30 35,ae 37 36,aB 38 37]⟩,⟨(some (23,false)),[az 39 29 38]⟩,⟨none,[ay 40 23 39]⟩]) <|
  .cond (.tmp 40) (.seq (ab [aw 6 false]) <|
  .ret) (.skip))) <|
  ab [aa 12 7,ah 13 .add 12 1,aa 7 13]
def S_gerundref11_all:SF:=⟨.seq (ab [aw 6 false]) <|
  .seq (.seq (ab [ai 7 0]) <|
  .block 0 (.loop B_gerundref11_all_0)) <|
  .seq (ab [aw 6 true]) <|
  .ret,
  [.tmp 6],41⟩
theorem S_gerundref11_all_ok:compF Tryz.prog 128 []=some S_gerundref11_all:=by kernel_rfl
theorem mc_all (l:List Int) (is:List Bool) (t:Bool) (hl:Short l) (hs:∀ s∈l,In64 s∧(s < 0→-1 - s < is.length)) (H:View) :
    MCall Tryz.prog 128 [encI l,encB is,gb t] H fun r H'=>r=gb (allG l is t)∧H'=H:=by
  refine MCall.of mixed S_gerundref11_all_ok ?_
  unfold Short at hl
  simp (disch:=omega) only [↓wr,wq,oneV,Nat.reduceAdd,Nat.reduceLeDiff,S_gerundref11_all]
  refine LoopG.intro (fun k T H'=>∃ i:Nat,i+k=l.length∧allG (l.take i) is t=true∧T 0=encI l∧T 1=encB is∧T 2=gb t∧T 7=gi i∧H'=H) l.length ?_ ?_
  · exact ⟨0,by omega,by simp[allG],rfl,rfl,rfl,rfl,rfl⟩
  · rintro k T H' ⟨i,hk,hi,h0,h1,h2,h7,rfl⟩
    simp (disch:=omega) only [↓wr,↓reduceIte,wq,intOp,goI,Nat.reduceEqDiff,Int.reduceNeg,reduceCtorEq,B_gerundref11_all_0,h0,h7,encI]
    refine GoB.dec (fun hc=>?_) (fun hc=>?_)
    · have hg:l[i]?=some (l[i]'(by omega)):=List.getElem?_eq_getElem (by omega)
      have hm:l[i]'(by omega)∈l:=List.getElem_mem _
      generalize l[i]'(by omega)=s at hg hm
      obtain ⟨⟨hs1,hs2⟩,hs3⟩:=hs s hm
      have hstep:allG (l.take (i+1)) is t=(if 0≤s then t else is.getD (-1 - s).toNat false):=by
        rw[List.take_add_one,hg]
        simp only[allG,Option.toList_some,List.all_append,List.all_cons,List.all_nil,Bool.and_true] at hi ⊢
        rw[hi,Bool.true_and]
      have hfail:(if 0≤s then t else is.getD (-1 - s).toNat false)=false→allG l is t=false:=by
        intro hb
        simp only[allG,List.all_eq_false]
        exact ⟨s,hm,by simpa using hb⟩
      simp (disch:=omega) only [↓wr,↓reduceIte,wq,intOp,Nat.reduceEqDiff,Nat.reduceLT,Int.reduceNeg,reduceCtorEq,h0,h7,encI,List.getElem?_map,hg]
      refine GoB.dec (fun hd=>?_) (fun hd=>?_)
      · rw[if_pos (show 0≤s from hd)] at hstep hfail
        cases t with
        | true =>
          simp (disch:=omega) only [↓wr,↓reduceIte,wq,intOp,Nat.reduceEqDiff,Nat.reduceLT,Int.reduceNeg,reduceCtorEq,h0,h2,h7,encI,List.getElem?_map,hg]
          refine GoB.dec (fun hn=>absurd hn (by omega)) (fun _=>?_)
          simp (disch:=omega) only [↓wr,↓reduceIte,wq,intOp,Nat.reduceEqDiff,Int.reduceNeg,reduceCtorEq,h0,h1,h2,h7,encI,encB]
          exact ⟨k - 1,by omega,i+1,by omega,hstep,rfl⟩
        | false =>
          simp (disch:=omega) only [↓wr,↓reduceIte,wq,intOp,Nat.reduceEqDiff,Int.reduceNeg,reduceCtorEq,h0,h1,h2,h7,encI]
          rw[hfail rfl]
      · rw[if_neg (show ¬ 0≤s from hd)] at hstep hfail
        simp (disch:=omega) only [↓wr,↓reduceIte,wq,intOp,Nat.reduceEqDiff,Nat.reduceLT,Int.reduceNeg,reduceCtorEq,h0,h7,encI,List.getElem?_map,hg]
        refine GoB.dec (fun hn=>?_) (fun hn=>absurd hn (by omega))
        have hb:is[(-1 - s).toNat]?=some (is[(-1 - s).toNat]'(by omega)):=List.getElem?_eq_getElem (by omega)
        have hbd:is.getD (-1 - s).toNat false=is[(-1 - s).toNat]'(by omega):=by simp[List.getD_eq_getElem?_getD,hb]
        rw[hbd] at hstep hfail
        generalize is[(-1 - s).toNat]'(by omega)=b at hb hstep hfail
        simp (disch:=omega) only [↓wr,↓reduceIte,wq,intOp,Nat.reduceEqDiff,Nat.reduceLT,Int.reduceNeg,reduceCtorEq,h0,h1,h7,encI,encB,List.getElem?_map,hg,hb]
        cases b with
        | true =>
          simp (disch:=omega) only [↓wr,↓reduceIte,wq,intOp,Nat.reduceEqDiff,Int.reduceNeg,reduceCtorEq,h0,h1,h2,h7,encI,encB]
          exact ⟨k - 1,by omega,i+1,by omega,hstep,rfl⟩
        | false =>
          simp (disch:=omega) only [↓wr,↓reduceIte,wq,intOp,Nat.reduceEqDiff,Int.reduceNeg,reduceCtorEq,h0,h1,h2,h7,encI,encB]
          rw[hfail rfl]
    · simp (disch:=omega) only [↓wr,↓reduceIte,wq,Nat.reduceEqDiff,reduceCtorEq]
      have e:i=l.length:=by omega
      rw[List.take_of_length_le (by omega)] at hi
      rw[hi]
abbrev gy (x:Int):V:=.val (.int .u8 x)
def firstB (c:Int):Bool:=(decide (97≤c) && decide (c≤122)) || (decide (65≤c) && decide (c≤90)) || c == 95
def laterB (c:Int):Bool:=firstB c || (decide (48≤c) && decide (c≤57)) || c == 46
def S_gerundref07_first:SF:=⟨.seq (ab [aw 2 false]) <|
  .seq (.region false [⟨none,[aa 3 0,((some 4),.op (.arith .geq (.tmp 3) (.val (.val (.int .u8 97))))),aa 5 4]⟩,⟨(some (5,true)),[aa 6 0,((some 7),.op (.arith .leq (.tmp 6) (.val (.val (.int .u8 122)))))]⟩,⟨none,[az 8 5 7,aa 9 8]⟩,⟨(some (9,false)),[aa 10 0,((some 11),.op (.arith .geq (.tmp 10) (.val (.val (.int .u8 65))))),aa 12 11]⟩,⟨(some (12,true)),[aa 13 0,((some 14),.op (.arith .leq (.tmp 13) (.val (.val (.int .u8 90)))))]⟩,⟨(some (9,false)),[az 15 12 14]⟩,⟨none,[ay 16 9 15,aa 17 16]⟩,⟨(some (17,false)),[aa 18 0,((some 19),.op (.arith .eql (.tmp 18) (.val (.val (.int .u8 95)))))]⟩,⟨none,[ay 20 17 19,aa 2 20]⟩]) <|
  .ret,
  [.tmp 2],21⟩
theorem S_gerundref07_first_ok:compF Tryz.prog 218 []=some S_gerundref07_first:=by kernel_rfl
def S_gerundref07_later:SF:=⟨.seq (ab [aw 2 false]) <|
  .seq (.region false [⟨none,[aa 3 0,ao 4 218 [3],aa 5 4]⟩,⟨(some (5,false)),[aa 6 0,((some 7),.op (.arith .geq (.tmp 6) (.val (.val (.int .u8 48))))),aa 8 7]⟩,⟨(some (8,true)),[aa 9 0,((some 10),.op (.arith .leq (.tmp 9) (.val (.val (.int .u8 57)))))]⟩,⟨(some (5,false)),[az 11 8 10]⟩,⟨none,[ay 12 5 11,aa 13 12]⟩,⟨(some (13,false)),[aa 14 0,((some 15),.op (.arith .eql (.tmp 14) (.val (.val (.int .u8 46)))))]⟩,⟨none,[ay 16 13 15,aa 2 16]⟩]) <|
  .ret,
  [.tmp 2],17⟩
theorem S_gerundref07_later_ok:compF Tryz.prog 219 []=some S_gerundref07_later:=by kernel_rfl
theorem mc_first (c:Int) (H:View):MCall Tryz.prog 218 [gy c] H fun r H'=>r=gb (firstB c)∧H'=H:=by
  refine MCall.of mixed S_gerundref07_first_ok ?_
  repeat' (first | (refine GoB.dec (fun _=>?_) (fun _=>?_)) | (refine GoB.eq (fun _=>?_) (fun _=>?_)) | (refine GoB.ne (fun _=>?_) (fun _=>?_)) | (refine GoB.split (fun _=>?_) (fun _=>?_)) | (simp (disch:=omega) only [↓wr,↓reduceIte,wq,oneV,intOp,Nat.reduceEqDiff,Nat.reduceLeDiff,reduceCtorEq,S_gerundref07_first]))
  all_goals (congr 2; simp only[firstB]; grind)
theorem pc_first (c:Int):PCall Tryz.prog 218 [gy c] (gb (firstB c)) :=
  PCall.of (by intro v hv; simp at hv; subst hv; exact .val _) ((mc_first c _).mono fun r H' h h' _=>by rw[h.1]; exact .tree _ (.val _))
theorem mc_later (c:Int) (H:View):MCall Tryz.prog 219 [gy c] H fun r H'=>r=gb (laterB c)∧H'=H:=by
  refine MCall.of mixed S_gerundref07_later_ok ?_
  repeat' (first | (refine GoB.dec (fun _=>?_) (fun _=>?_)) | (refine GoB.eq (fun _=>?_) (fun _=>?_)) | (refine GoB.ne (fun _=>?_) (fun _=>?_)) | (refine GoB.split (fun _=>?_) (fun _=>?_)) | (simp (disch:=omega) only [↓wr,↓reduceIte,wq,oneV,Nat.reduceLeDiff,reduceCtorEq,S_gerundref07_later]))
  refine CallG.pure (pc_first c) (by kernel_rfl) ?_
  repeat' (first | (refine GoB.dec (fun _=>?_) (fun _=>?_)) | (refine GoB.eq (fun _=>?_) (fun _=>?_)) | (refine GoB.ne (fun _=>?_) (fun _=>?_)) | (refine GoB.split (fun _=>?_) (fun _=>?_)) | (simp (disch:=omega) only [↓wr,↓reduceIte,wq,intOp,Nat.reduceEqDiff,reduceCtorEq]))
  all_goals (congr 2; simp only[laterB]; grind)
theorem pc_later (c:Int):PCall Tryz.prog 219 [gy c] (gb (laterB c)) :=
  PCall.of (by intro v hv; simp at hv; subst hv; exact .val _) ((mc_later c _).mono fun r H' h h' _=>by rw[h.1]; exact .tree _ (.val _))
def nameB (l:List Int):Bool:=decide (0 < l.length) && decide (l.length≤20) && (match l with | c :: _=>firstB c | []=>false) && l.all laterB
def B_gerundref07_Name_0:SC :=
  .seq (.seq (ab [aa 18 3,aa 19 0,((some 20),.op (.lenS (.tmp 19))),ak 21 .lss 18 20]) <|
  .cond (.tmp 21) (.skip) (.exit 0)) <|
  .seq (.block 1 (.seq (ab [aa 24 0,aa 25 3,((some 26),.op (.sidx (.tmp 24) (.tmp 25))),ao 27 219 [26],aB 28 27]) <|
  .cond (.tmp 28) (.seq (ab [aw 2 false]) <|
  .ret) (.skip))) <|
  ab [aa 22 3,ah 23 .add 22 1,aa 3 23]
def S_gerundref07_Name:SF:=⟨.seq (ab [aw 2 false]) <|
  .seq (.seq (.region false [⟨none,[aa 4 0,((some 5),.op (.lenS (.tmp 4))),ah 6 .eql 5 0,aa 7 6]⟩,⟨(some (7,false)),[aa 8 0,((some 9),.op (.lenS (.tmp 8))),ah 10 .gtr 9 20]⟩,⟨none,[ay 11 7 10,aa 12 11]⟩,⟨(some (12,false)),[aa 13 0,((some 14),.op (.sidx (.tmp 13) (.val (.val (.int .i64 0))))),ao 15 218 [14],aB 16 15]⟩,⟨none,[ay 17 12 16]⟩]) <|
  .cond (.tmp 17) (.seq (ab [aw 2 false]) <|
  .ret) (.skip)) <|
  .seq (.seq (ab [ai 3 0]) <|
  .block 0 (.loop B_gerundref07_Name_0)) <|
  .seq (ab [aw 2 true]) <|
  .ret,
  [.tmp 2],29⟩
theorem S_gerundref07_Name_ok:compF Tryz.prog 171 []=some S_gerundref07_Name:=by kernel_rfl
theorem mc_Name07 (s:ByteArray) (H:View):MCall Tryz.prog 171 [gs s] H fun r H'=>r=gb (nameB (bts s))∧H'=H:=by
  refine MCall.of mixed S_gerundref07_Name_ok ?_
  repeat' (first | (refine GoB.dec (fun _=>?_) (fun _=>?_)) | (refine GoB.eq (fun _=>?_) (fun _=>?_)) | (refine GoB.ne (fun _=>?_) (fun _=>?_)) | (refine GoB.split (fun _=>?_) (fun _=>?_)) | (simp (disch:=omega) only [↓wr,↓reduceIte,wq,oneV,intOp,goI,Nat.reduceEqDiff,Nat.reduceLeDiff,Int.reduceToNat,reduceCtorEq,S_gerundref07_Name,bts_len]))
  · rename_i h
    congr 2; simp[nameB,show (bts s).length=0 by omega]
  · rename_i h
    congr 2; simp[nameB,show ¬ (bts s).length≤20 by omega]
  · rename_i h1 h2
    cases hb:bts s with
    | nil=>simp[hb] at h1
    | cons c l =>
      repeat' (first | (refine GoB.dec (fun _=>?_) (fun _=>?_)) | (refine GoB.eq (fun _=>?_) (fun _=>?_)) | (refine GoB.ne (fun _=>?_) (fun _=>?_)) | (refine GoB.split (fun _=>?_) (fun _=>?_)) | (simp (disch:=omega) only [↓wr,↓reduceIte,wq,List.getElem?_cons_zero]))
      refine CallG.pure (pc_first c) (by kernel_rfl) ?_
      repeat' (first | (refine GoB.dec (fun _=>?_) (fun _=>?_)) | (refine GoB.eq (fun _=>?_) (fun _=>?_)) | (refine GoB.ne (fun _=>?_) (fun _=>?_)) | (refine GoB.split (fun _=>?_) (fun _=>?_)) | (simp (disch:=omega) only [↓wr,↓reduceIte,wq,Nat.reduceEqDiff,reduceCtorEq]))
      · rename_i hf
        refine LoopG.intro (fun k T H'=>∃ i:Nat,i+k=(c :: l).length∧((c :: l).take i).all laterB=true∧T 0=gs s∧T 3=gi i∧H'=H) (c :: l).length ?_ ?_
        · exact ⟨0,by omega,by simp,rfl,rfl,rfl⟩
        · rintro k T H' ⟨i,hk,hi,h0,h3,rfl⟩
          rw[hb] at h1 h2
          simp (disch:=omega) only [↓wr,↓reduceIte,wq,intOp,goI,Nat.reduceEqDiff,reduceCtorEq,B_gerundref07_Name_0,h0,h3,bts_len,hb]
          refine GoB.dec (fun hc=>?_) (fun hc=>?_)
          · simp only[List.length_cons] at hc hk h2
            have hg:(c :: l)[i]?=some ((c :: l)[i]'(by simp; omega)):=List.getElem?_eq_getElem (by simp; omega)
            have hm:(c :: l)[i]'(by simp; omega)∈c :: l:=List.getElem_mem _
            generalize (c :: l)[i]'(by simp; omega)=d at hg hm
            simp (disch:=omega) only [↓wr,↓reduceIte,wq,Nat.reduceEqDiff,reduceCtorEq,h0,h3,hb,hg]
            refine CallG.pure (pc_later d) (by kernel_rfl) ?_
            repeat' (first | (refine GoB.dec (fun _=>?_) (fun _=>?_)) | (refine GoB.eq (fun _=>?_) (fun _=>?_)) | (refine GoB.ne (fun _=>?_) (fun _=>?_)) | (refine GoB.split (fun _=>?_) (fun _=>?_)) | (simp (disch:=omega) only [↓wr,↓reduceIte,wq,intOp,Nat.reduceEqDiff,reduceCtorEq,h0,h3]))
            · rename_i hd
              refine ⟨k - 1,by omega,i+1,by omega,?_,rfl⟩
              rw[List.take_add_one,hg]
              simp only[Option.toList_some,List.all_append,hi,List.all_cons,hd,List.all_nil,Bool.and_self]
            · rename_i hd
              congr 2
              have:(c :: l).all laterB=false:=by
                rw[List.all_eq_false]; exact ⟨d,hm,by simp[hd]⟩
              simp only[nameB,this,Bool.and_false]
          · simp (disch:=omega) only [↓wr,↓reduceIte,wq,Nat.reduceEqDiff,reduceCtorEq]
            simp only[List.length_cons] at hc hk h2
            rw[List.take_of_length_le (by simp; omega)] at hi
            congr 2
            simp only[nameB,hi,List.length_cons]
            simp[hf]; omega
      · rename_i hf
        congr 2; simp[nameB,hf]
def litB:List Int→Bool
  | [a,b,c]=>a == 39 && c == 39 && decide (32≤b) && decide (b≤126) && b != 39 && b != 92
  | [a,b,c,d]=>a == 39 && d == 39 && b == 92 && (c == 110 || c == 116 || c == 92 || c == 39)
  | _=>false
theorem litB_off {l:List Int} (h3:l.length≠3) (h4:l.length≠4):litB l=false:=by
  match l,h3,h4 with
  | [],_,_=>rfl
  | [_],_,_=>rfl
  | [_,_],_,_=>rfl
  | [_,_,_],h3,_=>exact absurd rfl h3
  | [_,_,_,_],_,h4=>exact absurd rfl h4
  | _ :: _ :: _ :: _ :: _ :: _,_,_=>rfl
theorem len3 {α:Type} {l:List α} (h:l.length=3):∃ a b c,l=[a,b,c]:=by
  match l,h with
  | [a,b,c],_=>exact ⟨a,b,c,rfl⟩
theorem len4 {α:Type} {l:List α} (h:l.length=4):∃ a b c d,l=[a,b,c,d]:=by
  match l,h with
  | [a,b,c,d],_=>exact ⟨a,b,c,d,rfl⟩
def S_gerundref07_Literal:SF:=⟨.seq (ab [aw 2 false]) <|
  .seq (.seq (ab [aa 3 0,((some 4),.op (.lenS (.tmp 3))),ah 5 .eql 4 3]) <|
  .cond (.tmp 5) (.seq (.region false [⟨none,[aa 6 0,((some 7),.op (.sidx (.tmp 6) (.val (.val (.int .i64 0))))),((some 8),.op (.arith .eql (.tmp 7) (.val (.val (.int .u8 39))))),aa 9 8]⟩,⟨(some (9,true)),[aa 10 0,((some 11),.op (.sidx (.tmp 10) (.val (.val (.int .i64 2))))),((some 12),.op (.arith .eql (.tmp 11) (.val (.val (.int .u8 39)))))]⟩,⟨none,[az 13 9 12,aa 14 13]⟩,⟨(some (14,true)),[aa 15 0,((some 16),.op (.sidx (.tmp 15) (.val (.val (.int .i64 1))))),((some 17),.op (.arith .geq (.tmp 16) (.val (.val (.int .u8 32)))))]⟩,⟨none,[az 18 14 17,aa 19 18]⟩,⟨(some (19,true)),[aa 20 0,((some 21),.op (.sidx (.tmp 20) (.val (.val (.int .i64 1))))),((some 22),.op (.arith .leq (.tmp 21) (.val (.val (.int .u8 126)))))]⟩,⟨none,[az 23 19 22,aa 24 23]⟩,⟨(some (24,true)),[aa 25 0,((some 26),.op (.sidx (.tmp 25) (.val (.val (.int .i64 1))))),((some 27),.op (.arith .neq (.tmp 26) (.val (.val (.int .u8 39)))))]⟩,⟨none,[az 28 24 27,aa 29 28]⟩,⟨(some (29,true)),[aa 30 0,((some 31),.op (.sidx (.tmp 30) (.val (.val (.int .i64 1))))),((some 32),.op (.arith .neq (.tmp 31) (.val (.val (.int .u8 92)))))]⟩,⟨none,[az 33 29 32,aa 2 33]⟩]) <|
  .ret) (.skip)) <|
  .seq (.region false [⟨none,[aa 34 0,((some 35),.op (.lenS (.tmp 34))),ah 36 .eql 35 4,aa 37 36]⟩,⟨(some (37,true)),[aa 38 0,((some 39),.op (.sidx (.tmp 38) (.val (.val (.int .i64 0))))),((some 40),.op (.arith .eql (.tmp 39) (.val (.val (.int .u8 39)))))]⟩,⟨none,[az 41 37 40,aa 42 41]⟩,⟨(some (42,true)),[aa 43 0,((some 44),.op (.sidx (.tmp 43) (.val (.val (.int .i64 3))))),((some 45),.op (.arith .eql (.tmp 44) (.val (.val (.int .u8 39)))))]⟩,⟨none,[az 46 42 45,aa 47 46]⟩,⟨(some (47,true)),[aa 48 0,((some 49),.op (.sidx (.tmp 48) (.val (.val (.int .i64 1))))),((some 50),.op (.arith .eql (.tmp 49) (.val (.val (.int .u8 92)))))]⟩,⟨none,[az 51 47 50,aa 52 51]⟩,⟨(some (52,true)),[aa 53 0,((some 54),.op (.sidx (.tmp 53) (.val (.val (.int .i64 2))))),((some 55),.op (.arith .eql (.tmp 54) (.val (.val (.int .u8 110))))),aa 56 55]⟩,⟨(some (56,false)),[aa 57 0,((some 58),.op (.sidx (.tmp 57) (.val (.val (.int .i64 2))))),((some 59),.op (.arith .eql (.tmp 58) (.val (.val (.int .u8 116)))))]⟩,⟨(some (52,true)),[ay 60 56 59,aa 61 60]⟩,⟨(some (61,false)),[aa 62 0,((some 63),.op (.sidx (.tmp 62) (.val (.val (.int .i64 2))))),((some 64),.op (.arith .eql (.tmp 63) (.val (.val (.int .u8 92)))))]⟩,⟨(some (52,true)),[ay 65 61 64,aa 66 65]⟩,⟨(some (66,false)),[aa 67 0,((some 68),.op (.sidx (.tmp 67) (.val (.val (.int .i64 2))))),((some 69),.op (.arith .eql (.tmp 68) (.val (.val (.int .u8 39)))))]⟩,⟨(some (52,true)),[ay 70 66 69]⟩,⟨none,[az 71 52 70,aa 2 71]⟩]) <|
  .ret,
  [.tmp 2],72⟩
theorem S_gerundref07_Literal_ok:compF Tryz.prog 217 []=some S_gerundref07_Literal:=by kernel_rfl
def S_gerundref09_named:SF:=⟨.seq (ab [aw 2 false]) <|
  .seq (.region false [⟨none,[aa 3 0,ao 4 171 [3],aa 5 4]⟩,⟨(some (5,false)),[aa 6 0,ao 7 217 [6]]⟩,⟨none,[ay 8 5 7,aa 2 8]⟩]) <|
  .ret,
  [.tmp 2],9⟩
theorem S_gerundref09_named_ok:compF Tryz.prog 168 []=some S_gerundref09_named:=by kernel_rfl
set_option maxHeartbeats 1000000 in
theorem mc_Lit07 (s:ByteArray) (H:View):MCall Tryz.prog 217 [gs s] H fun r H'=>r=gb (litB (bts s))∧H'=H:=by
  refine MCall.of mixed S_gerundref07_Literal_ok ?_
  simp (disch:=omega) only [↓wr,↓reduceIte,wq,oneV,intOp,goI,Nat.reduceLeDiff,reduceCtorEq,S_gerundref07_Literal,bts_len]
  refine GoB.eq (fun h=>?_) (fun h=>?_)
  · obtain ⟨a,b,c,hb⟩:=len3 (l:=bts s) (by omega)
    repeat' (first | (refine GoB.dec (fun _=>?_) (fun _=>?_)) | (refine GoB.eq (fun _=>?_) (fun _=>?_)) | (refine GoB.ne (fun _=>?_) (fun _=>?_)) | (refine GoB.split (fun _=>?_) (fun _=>?_)) | (simp (disch:=omega) only [↓wr,↓reduceIte,wq,intOp,Nat.reduceEqDiff,Int.reduceToNat,reduceCtorEq,hb,List.getElem?_cons_zero,List.getElem?_cons_succ]))
    all_goals (congr 2; simp only[litB]; grind)
  · simp (disch:=omega) only [↓wr,↓reduceIte,wq,intOp,goI,reduceCtorEq,bts_len]
    refine GoB.eq (fun h4=>?_) (fun h4=>?_)
    · obtain ⟨a,b,c,d,hb⟩:=len4 (l:=bts s) (by omega)
      repeat' (first | (refine GoB.dec (fun _=>?_) (fun _=>?_)) | (refine GoB.eq (fun _=>?_) (fun _=>?_)) | (refine GoB.ne (fun _=>?_) (fun _=>?_)) | (refine GoB.split (fun _=>?_) (fun _=>?_)) | (simp (disch:=omega) only [↓wr,↓reduceIte,wq,intOp,Nat.reduceEqDiff,Int.reduceToNat,reduceCtorEq,hb,List.getElem?_cons_zero,List.getElem?_cons_succ]))
      all_goals (congr 2; simp only[litB]; grind)
    · repeat' (first | (refine GoB.dec (fun _=>?_) (fun _=>?_)) | (refine GoB.eq (fun _=>?_) (fun _=>?_)) | (refine GoB.ne (fun _=>?_) (fun _=>?_)) | (refine GoB.split (fun _=>?_) (fun _=>?_)) | (simp (disch:=omega) only [↓wr,↓reduceIte,wq,Nat.reduceEqDiff,reduceCtorEq]))
      rw[litB_off (by omega) (by omega)]
theorem gs_tree (s:ByteArray):∀ v∈[gs s],Tree v:=by intro v hv; simp at hv; subst hv; exact .val _
theorem pc_Name07 (s:ByteArray):PCall Tryz.prog 171 [gs s] (gb (nameB (bts s))) :=
  PCall.of (gs_tree s) ((mc_Name07 s _).mono fun r H' h h' _=>by rw[h.1]; exact .tree _ (.val _))
theorem pc_Lit07 (s:ByteArray):PCall Tryz.prog 217 [gs s] (gb (litB (bts s))) :=
  PCall.of (gs_tree s) ((mc_Lit07 s _).mono fun r H' h h' _=>by rw[h.1]; exact .tree _ (.val _))
def namedB (l:List Int):Bool:=nameB l || litB l
theorem mc_named09 (s:ByteArray) (H:View):MCall Tryz.prog 168 [gs s] H fun r H'=>r=gb (namedB (bts s))∧H'=H:=by
  refine MCall.of mixed S_gerundref09_named_ok ?_
  simp (disch:=omega) only [↓wr,↓reduceIte,wq,oneV,Nat.reduceLeDiff,reduceCtorEq,S_gerundref09_named]
  refine CallG.pure (pc_Name07 s) (by kernel_rfl) ?_
  repeat' (first | (refine GoB.dec (fun _=>?_) (fun _=>?_)) | (refine GoB.eq (fun _=>?_) (fun _=>?_)) | (refine GoB.ne (fun _=>?_) (fun _=>?_)) | (refine GoB.split (fun _=>?_) (fun _=>?_)) | (simp (disch:=omega) only [↓wr,↓reduceIte,wq,Nat.reduceEqDiff,reduceCtorEq]))
  · rename_i h; simp[namedB,h]
  · rename_i h
    refine CallG.pure (pc_Lit07 s) (by kernel_rfl) ?_
    repeat' (first | (refine GoB.dec (fun _=>?_) (fun _=>?_)) | (refine GoB.eq (fun _=>?_) (fun _=>?_)) | (refine GoB.ne (fun _=>?_) (fun _=>?_)) | (refine GoB.split (fun _=>?_) (fun _=>?_)) | (simp (disch:=omega) only [↓wr,↓reduceIte,wq,Nat.reduceEqDiff,reduceCtorEq]))
    simp[namedB,h]
theorem pc_named09 (s:ByteArray):PCall Tryz.prog 168 [gs s] (gb (namedB (bts s))) :=
  PCall.of (gs_tree s) ((mc_named09 s _).mono fun r H' h h' _=>by rw[h.1]; exact .tree _ (.val _))
def idxS (s:ByteArray):List ByteArray→Int→Int
  | [],_=>-1
  | x :: l,i=>if strEq x s=true then i else idxS s l (i+1)
def termI (g:Gram) (s:ByteArray):Int:=idxS s (g.terms.map Term.name) 0
def nonI (g:Gram) (s:ByteArray):Int:=idxS s g.nons 0
theorem drop_at {α:Type} {l:List α} {i:Nat} (h:i < l.length):l.drop i=l[i] :: l.drop (i+1):=List.drop_eq_getElem_cons h
theorem gs_trees (g:Gram) (s:ByteArray):∀ v∈[V.agg (encG g),gs s],Tree v:=by
  intro v hv; simp at hv
  rcases hv with rfl | rfl
  · exact tree_agg _ (encG_tree g)
  · exact .val _
theorem gg_tree (g:Gram):∀ v∈[V.agg (encG g)],Tree v:=by intro v hv; simp at hv; subst hv; exact tree_agg _ (encG_tree g)
theorem gi_trees (g:Gram) (x:Int):∀ v∈[V.agg (encG g),gi x],Tree v:=by
  intro v hv; simp at hv
  rcases hv with rfl | rfl
  · exact tree_agg _ (encG_tree g)
  · exact .val _
theorem PCall.val {P:Program} {f:FuncId} {vs:List V} {x:Value} (ht:∀ v∈vs,Tree v) (h:∀ H,MCall P f vs H fun r _=>r=.val x):PCall P f vs (.val x) :=
  PCall.of ht ((h _).mono fun r H' e h' _=>by rw[e]; exact .tree _ (.val _))
def B_gerundref09_term_0:SC :=
  .seq (.seq (ab [aa 6 5,af 7 0 2,ae 8 7,aj 9 8,ak 10 .lss 6 9]) <|
  .cond (.tmp 10) (.skip) (.exit 0)) <|
  .seq (.block 1 (.seq (ab [af 13 0 2,ae 14 13,aa 15 5,av 16 3 14 15,af 17 0 16,ae 18 17,aa 19 1,((some 20),.op (.sop .eql (.tmp 18) (.tmp 19)))]) <|
  .cond (.tmp 20) (.seq (ab [aa 21 5,aa 4 21]) <|
  .ret) (.skip))) <|
  ab [aa 11 5,ah 12 .add 11 1,aa 5 12]
def S_gerundref09_term:SF:=⟨.seq (ab [aC 2 0,ai 4 0]) <|
  .seq (.seq (ab [ai 5 0]) <|
  .block 0 (.loop B_gerundref09_term_0)) <|
  .seq (ab [ai 4 (-1)]) <|
  .ret,
  [.tmp 4],22⟩
theorem S_gerundref09_term_ok:compF Tryz.prog 169 [2]=some S_gerundref09_term:=by kernel_rfl
def B_gerundref09_non_0:SC :=
  .seq (.seq (ab [aa 6 5,af 7 1 2,ae 8 7,aj 9 8,ak 10 .lss 6 9]) <|
  .cond (.tmp 10) (.skip) (.exit 0)) <|
  .seq (.block 1 (.seq (ab [af 13 1 2,ae 14 13,aa 15 5,av 16 1 14 15,ae 17 16,aa 18 1,((some 19),.op (.sop .eql (.tmp 17) (.tmp 18)))]) <|
  .cond (.tmp 19) (.seq (ab [aa 20 5,aa 4 20]) <|
  .ret) (.skip))) <|
  ab [aa 11 5,ah 12 .add 11 1,aa 5 12]
def S_gerundref09_non:SF:=⟨.seq (ab [aC 2 0,ai 4 0]) <|
  .seq (.seq (ab [ai 5 0]) <|
  .block 0 (.loop B_gerundref09_non_0)) <|
  .seq (ab [ai 4 (-1)]) <|
  .ret,
  [.tmp 4],21⟩
theorem S_gerundref09_non_ok:compF Tryz.prog 145 [2]=some S_gerundref09_non:=by kernel_rfl
def B_gerundref09_level_0:SC :=
  .seq (.seq (ab [aa 8 6,af 9 0 2,ae 10 9,aj 11 10,ak 12 .lss 8 11]) <|
  .cond (.tmp 12) (.skip) (.exit 0)) <|
  .seq (.block 1 (.seq (.region false [⟨none,[af 15 0 2,ae 16 15,aa 17 6,av 18 3 16 17,au 19 3 18,((some 7),.op (.alloc [(.val (.string ⟨#[]⟩)),(.val (.int .i64 0)),(.val (.int .i64 0))])),(none,.op (.store 3 (.tmp 7) (.tmp 19)))]⟩]) <|
  .seq (.seq (ab [af 20 1 7,ae 21 20,aa 22 1,ak 23 .neq 21 22]) <|
  .cond (.tmp 23) (.exit 1) (.skip)) <|
  .seq (.seq (.region false [⟨none,[aa 24 5,ah 25 .neq 24 0,aa 26 25]⟩,⟨(some (26,true)),[aa 27 5,af 28 2 7,ae 29 28,ak 30 .neq 27 29]⟩,⟨none,[az 31 26 30]⟩]) <|
  .cond (.tmp 31) (.seq (ab [aw 4 false]) <|
  .ret) (.skip)) <|
  ab [af 32 2 7,ae 33 32,aa 5 33])) <|
  ab [aa 13 6,ah 14 .add 13 1,aa 6 14]
def S_gerundref09_level:SF:=⟨.seq (ab [aC 2 0,aw 4 false]) <|
  .seq (ab [ai 5 0]) <|
  .seq (.seq (ab [ai 6 0]) <|
  .block 0 (.loop B_gerundref09_level_0)) <|
  .seq (ab [aa 34 5,ah 35 .neq 34 0,aa 4 35]) <|
  .ret,
  [.tmp 4],36⟩
theorem S_gerundref09_level_ok:compF Tryz.prog 170 [2]=some S_gerundref09_level:=by kernel_rfl
theorem mc_term09 (g:Gram) (hg:g.Ok) (s:ByteArray) (H:View):MCall Tryz.prog 169 [.agg (encG g),gs s] H fun r _=>r=gi (termI g s):=by
  refine MCall.of mixed S_gerundref09_term_ok ?_
  have hs:g.terms.length < 4611686018427387904:=hg.terms
  simp (disch:=omega) only [↓wr,wq,oneV,Nat.reduceAdd,Nat.reduceLeDiff,Int.reduceNeg,S_gerundref09_term,encG,encS]
  refine LoopG.intro (fun k T _=>∃ i:Nat,i+k=g.terms.length∧idxS s ((g.terms.drop i).map Term.name) i=termI g s∧T 1=gs s∧T 2=.fptr (encG g) 0∧T 5=gi i) g.terms.length ?_ ?_
  · exact ⟨0,by omega,rfl,rfl,rfl,rfl⟩
  · rintro k T H' ⟨i,hk,hi,h1,h2,h5⟩
    simp (disch:=omega) only [↓wr,↓reduceIte,wq,intOp,goI,Nat.reduceEqDiff,Nat.reduceAdd,Nat.reduceLT,Int.reduceNeg,reduceCtorEq,B_gerundref09_term_0,h2,h5,encG]
    refine GoB.dec (fun hc=>?_) (fun hc=>?_)
    · have hg2:g.terms[i]?=some (g.terms[i]'(by omega)):=List.getElem?_eq_getElem (by omega)
      rw[drop_at (show i < g.terms.length by omega)] at hi
      generalize g.terms[i]'(by omega)=t at hg2 hi
      simp only[List.map_cons,idxS] at hi
      simp (disch:=omega) only [↓wr,↓reduceIte,wq,Nat.reduceEqDiff,Nat.reduceAdd,Nat.reduceLT,Int.reduceNeg,h1,h2,h5,encG,encT,List.getElem?_map,hg2]
      refine GoB.split (fun hd=>?_) (fun hd=>?_)
      · rw[if_pos hd] at hi
        simp (disch:=omega) only [↓wr,↓reduceIte,wq,intOp,Nat.reduceEqDiff,Int.reduceNeg,reduceCtorEq,h1,h2,h5]
        rw[hi]
      · rw[hd,if_neg (by simp)] at hi
        simp (disch:=omega) only [↓wr,↓reduceIte,wq,intOp,Nat.reduceEqDiff,Int.reduceNeg,reduceCtorEq,h1,h2,h5]
        exact ⟨k - 1,by omega,i+1,by omega,by push_cast; exact hi,rfl,rfl⟩
    · rw[List.drop_eq_nil_of_le (by omega)] at hi
      simp only[List.map_nil,idxS] at hi
      simp (disch:=omega) only [↓wr,↓reduceIte,wq,Nat.reduceEqDiff,Int.reduceNeg,reduceCtorEq]
      rw[hi]
theorem pc_term09 (g:Gram) (hg:g.Ok) (s:ByteArray):PCall Tryz.prog 169 [.agg (encG g),gs s] (gi (termI g s)):=PCall.val (gs_trees g s) (mc_term09 g hg s)
theorem mc_non09 (g:Gram) (hg:g.Ok) (s:ByteArray) (H:View):MCall Tryz.prog 145 [.agg (encG g),gs s] H fun r _=>r=gi (nonI g s):=by
  refine MCall.of mixed S_gerundref09_non_ok ?_
  have hs:g.nons.length < 4611686018427387904:=hg.nons
  simp (disch:=omega) only [↓wr,wq,oneV,Nat.reduceAdd,Nat.reduceLeDiff,Int.reduceNeg,S_gerundref09_non,encG,encS]
  refine LoopG.intro (fun k T _=>∃ i:Nat,i+k=g.nons.length∧idxS s (g.nons.drop i) i=nonI g s∧T 1=gs s∧T 2=.fptr (encG g) 0∧T 5=gi i) g.nons.length ?_ ?_
  · exact ⟨0,by omega,rfl,rfl,rfl,rfl⟩
  · rintro k T H' ⟨i,hk,hi,h1,h2,h5⟩
    simp (disch:=omega) only [↓wr,↓reduceIte,wq,intOp,goI,Nat.reduceEqDiff,Nat.reduceAdd,Nat.reduceLT,Int.reduceNeg,reduceCtorEq,B_gerundref09_non_0,h2,h5,encG,encS]
    refine GoB.dec (fun hc=>?_) (fun hc=>?_)
    · have hg2:g.nons[i]?=some (g.nons[i]'(by omega)):=List.getElem?_eq_getElem (by omega)
      rw[drop_at (show i < g.nons.length by omega)] at hi
      generalize g.nons[i]'(by omega)=t at hg2 hi
      simp only[idxS] at hi
      simp (disch:=omega) only [↓wr,↓reduceIte,wq,Nat.reduceEqDiff,Nat.reduceAdd,Nat.reduceLT,Int.reduceNeg,h1,h2,h5,encG,encS,List.getElem?_map,hg2]
      refine GoB.split (fun hd=>?_) (fun hd=>?_)
      · rw[if_pos hd] at hi
        simp (disch:=omega) only [↓wr,↓reduceIte,wq,intOp,Nat.reduceEqDiff,Int.reduceNeg,reduceCtorEq,h1,h2,h5]
        rw[hi]
      · rw[hd,if_neg (by simp)] at hi
        simp (disch:=omega) only [↓wr,↓reduceIte,wq,intOp,Nat.reduceEqDiff,Int.reduceNeg,reduceCtorEq,h1,h2,h5]
        exact ⟨k - 1,by omega,i+1,by omega,by push_cast; exact hi,rfl,rfl⟩
    · rw[List.drop_eq_nil_of_le (by omega)] at hi
      simp only[idxS] at hi
      simp (disch:=omega) only [↓wr,↓reduceIte,wq,Nat.reduceEqDiff,Int.reduceNeg,reduceCtorEq]
      rw[hi]
theorem pc_non09 (g:Gram) (hg:g.Ok) (s:ByteArray):PCall Tryz.prog 145 [.agg (encG g),gs s] (gi (nonI g s)):=PCall.val (gs_trees g s) (mc_non09 g hg s)
def levelW (n:Int):List Term→Int→Option Int
  | [],way=>some way
  | t :: r,way=>if t.level=n then (if way≠0∧way≠t.assoc then none else levelW n r t.assoc) else levelW n r way
def levelB (l:List Term) (n:Int):Bool:=match levelW n l 0 with
  | some w=>w != 0
  | none=>false
theorem mc_level09 (g:Gram) (hg:g.Ok) (n:Int) (H:View):MCall Tryz.prog 170 [.agg (encG g),gi n] H fun r _=>r=gb (levelB g.terms n):=by
  refine MCall.of mixed S_gerundref09_level_ok ?_
  have hs:g.terms.length < 4611686018427387904:=hg.terms
  simp (disch:=omega) only [↓wr,wq,oneV,Nat.reduceAdd,Nat.reduceLeDiff,S_gerundref09_level,encG,encS]
  refine LoopG.intro (fun k T _=>∃ (i:Nat) (w:Int),i+k=g.terms.length∧levelW n (g.terms.drop i) w=levelW n g.terms 0∧T 1=gi n∧T 2=.fptr (encG g) 0∧T 5=gi w∧T 6=gi i) g.terms.length ?_ ?_
  · exact ⟨0,0,by omega,rfl,rfl,rfl,rfl,rfl⟩
  · rintro k T H' ⟨i,w,hk,hi,h1,h2,h5,h6⟩
    simp (disch:=omega) only [↓wr,↓reduceIte,wq,intOp,goI,Nat.reduceEqDiff,Nat.reduceAdd,Nat.reduceLT,B_gerundref09_level_0,h2,h6,encG]
    refine GoB.dec (fun hc=>?_) (fun hc=>?_)
    · have hg2:g.terms[i]?=some (g.terms[i]'(by omega)):=List.getElem?_eq_getElem (by omega)
      rw[drop_at (show i < g.terms.length by omega)] at hi
      generalize g.terms[i]'(by omega)=t at hg2 hi
      simp only[levelW] at hi
      simp (disch:=omega) only [↓wr,↓reduceIte,wq,intOp,splice,Nat.reduceEqDiff,Nat.reduceAdd,Nat.reduceLT,Nat.reduceLeDiff,h1,h2,h6,encG,encT,List.getElem?_map,hg2]
      intro m hm
      try simp (disch:=omega) only [↓wr,↓reduceIte,wq,oneV,intOp,goI,splice,sBuild,fillE,nilB,isNil,Nat.reduceEqDiff,Nat.reduceAdd,Nat.reduceLT,Nat.reduceLeDiff,Int.reduceNeg,Int.reduceToNat,reduceCtorEq,h1,h2,h5,h6]
      refine GoB.ne (fun hd=>?_) (fun hd=>?_)
      · rw[if_neg hd] at hi
        simp (disch:=omega) only [↓wr,↓reduceIte,wq,intOp,Nat.reduceEqDiff,reduceCtorEq,h1,h2,h5,h6]
        exact ⟨k - 1,by omega,i+1,w,by omega,hi,by first | rfl | exact ⟨rfl,rfl⟩ | exact ⟨rfl,rfl,rfl⟩⟩
      · rw[if_pos hd] at hi
        repeat' (first | (refine GoB.dec (fun _=>?_) (fun _=>?_)) | (refine GoB.eq (fun _=>?_) (fun _=>?_)) | (refine GoB.ne (fun _=>?_) (fun _=>?_)) | (refine GoB.split (fun _=>?_) (fun _=>?_)) | (simp (disch:=omega) only [↓wr,↓reduceIte,wq,intOp,Nat.reduceEqDiff,Nat.reduceAdd,Nat.reduceLT,reduceCtorEq,h1,h2,h5,h6]))
        · rename_i a b
          rw[if_pos ⟨a,b⟩] at hi
          simp only[levelB,← hi]
        · rename_i a b
          rw[if_neg (fun e=>e.2 b)] at hi
          exact ⟨k - 1,by omega,i+1,_,by omega,hi,by first | rfl | exact ⟨rfl,rfl⟩ | exact ⟨rfl,rfl,rfl⟩⟩
        · rename_i a
          rw[if_neg (fun e=>e.1 a)] at hi
          exact ⟨k - 1,by omega,i+1,_,by omega,hi,by first | rfl | exact ⟨rfl,rfl⟩ | exact ⟨rfl,rfl,rfl⟩⟩
    · rw[List.drop_eq_nil_of_le (by omega)] at hi
      simp only[levelW] at hi
      simp (disch:=omega) only [↓wr,↓reduceIte,wq,Nat.reduceEqDiff,reduceCtorEq,h5]
      simp only[levelB,← hi]
theorem pc_level09 (g:Gram) (hg:g.Ok) (n:Int):PCall Tryz.prog 170 [.agg (encG g),gi n] (gb (levelB g.terms n)):=PCall.val (gi_trees g n) (mc_level09 g hg n)
def lvlsB (g:Gram) (t:Term):Bool:=(List.range t.level.toNat).all fun k=>levelB g.terms ((k:Int)+1)
def termB (g:Gram) (i:Int) (t:Term):Bool :=
  namedB (bts t.name) && (termI g t.name == i) && decide (0≤t.level) && decide (t.level≤24) && decide (0≤t.assoc) && decide (t.assoc≤3) && ((t.level == 0) == (t.assoc == 0)) && lvlsB g t
def termsL (g:Gram):List Term→Int→Bool
  | [],_=>true
  | t :: r,i=>termB g i t && termsL g r (i+1)
def terms09 (g:Gram):Bool:=decide (g.terms.length≤24) && termsL g g.terms 0
def B_gerundref09_terms_0:SC :=
  .seq (.seq (ab [aa 63 5,af 64 1 4,ae 65 64,ak 66 .leq 63 65]) <|
  .cond (.tmp 66) (.skip) (.exit 2)) <|
  .seq (.block 3 (.seq (ab [au 69 4 1,aa 70 5,ao 71 170 [69,70],aB 72 71]) <|
  .cond (.tmp 72) (.seq (ab [aw 2 false]) <|
  .ret) (.skip))) <|
  ab [aa 67 5,ah 68 .add 67 1,aa 5 68]
def B_gerundref09_terms_1:SC :=
  .seq (.seq (ab [aa 10 3,af 11 0 1,ae 12 11,aj 13 12,ak 14 .lss 10 13]) <|
  .cond (.tmp 14) (.skip) (.exit 0)) <|
  .seq (.block 1 (.seq (.region false [⟨none,[af 17 0 1,ae 18 17,aa 19 3,av 20 3 18 19,au 21 3 20,((some 4),.op (.alloc [(.val (.string ⟨#[]⟩)),(.val (.int .i64 0)),(.val (.int .i64 0))])),(none,.op (.store 3 (.tmp 4) (.tmp 21)))]⟩]) <|
  .seq (.seq (.region false [⟨none,[af 22 0 4,ae 23 22,ao 24 168 [23],aB 25 24,aa 26 25]⟩,⟨(some (26,false)),[au 27 4 1,af 28 0 4,ae 29 28,ao 30 169 [27,29],aa 31 3,ak 32 .neq 30 31]⟩,⟨none,[ay 33 26 32,aa 34 33]⟩,⟨(some (34,false)),[af 35 1 4,ae 36 35,ah 37 .lss 36 0]⟩,⟨none,[ay 38 34 37,aa 39 38]⟩,⟨(some (39,false)),[af 40 1 4,ae 41 40,ah 42 .gtr 41 24]⟩,⟨none,[ay 43 39 42,aa 44 43]⟩,⟨(some (44,false)),[af 45 2 4,ae 46 45,ah 47 .lss 46 0]⟩,⟨none,[ay 48 44 47,aa 49 48]⟩,⟨(some (49,false)),[af 50 2 4,ae 51 50,ah 52 .gtr 51 3]⟩,⟨none,[ay 53 49 52,aa 54 53]⟩,⟨(some (54,false)),[af 55 1 4,ae 56 55,ah 57 .eql 56 0,af 58 2 4,ae 59 58,ah 60 .eql 59 0,((some 61),.op (.beq false (.tmp 57) (.tmp 60)))]⟩,⟨none,[ay 62 54 61]⟩]) <|
  .cond (.tmp 62) (.seq (ab [aw 2 false]) <|
  .ret) (.skip)) <|
  .seq (ab [ai 5 1]) <|
  .block 2 (.loop B_gerundref09_terms_0))) <|
  ab [aa 15 3,ah 16 .add 15 1,aa 3 16]
def S_gerundref09_terms:SF:=⟨.seq (ab [aC 1 0,aw 2 false]) <|
  .seq (.seq (ab [af 6 0 1,ae 7 6,aj 8 7,ah 9 .gtr 8 24]) <|
  .cond (.tmp 9) (.seq (ab [aw 2 false]) <|
  .ret) (.skip)) <|
  .seq (.seq (ab [ai 3 0]) <|
  .block 0 (.loop B_gerundref09_terms_1)) <|
  .seq (ab [aw 2 true]) <|
  .ret,
  [.tmp 2],73⟩
theorem S_gerundref09_terms_ok:compF Tryz.prog 115 [1]=some S_gerundref09_terms:=by kernel_rfl
def B_gerundref09_nons_0:SC :=
  .seq (.seq (ab [aa 14 3,af 15 1 1,ae 16 15,aj 17 16,ak 18 .lss 14 17]) <|
  .cond (.tmp 18) (.skip) (.exit 0)) <|
  .seq (.block 1 (.seq (.region false [⟨none,[af 21 1 1,ae 22 21,aa 23 3,av 24 1 22 23,ae 25 24,ao 26 171 [25],aB 27 26,aa 28 27]⟩,⟨(some (28,false)),[au 29 4 1,af 30 1 1,ae 31 30,aa 32 3,av 33 1 31 32,ae 34 33,ao 35 145 [29,34],aa 36 3,ak 37 .neq 35 36]⟩,⟨none,[ay 38 28 37,aa 39 38]⟩,⟨(some (39,false)),[au 40 4 1,af 41 1 1,ae 42 41,aa 43 3,av 44 1 42 43,ae 45 44,ao 46 169 [40,45],ah 47 .geq 46 0]⟩,⟨none,[ay 48 39 47]⟩]) <|
  .cond (.tmp 48) (.seq (ab [aw 2 false]) <|
  .ret) (.skip))) <|
  ab [aa 19 3,ah 20 .add 19 1,aa 3 20]
def S_gerundref09_nons:SF:=⟨.seq (ab [aC 1 0,aw 2 false]) <|
  .seq (.seq (.region false [⟨none,[af 4 1 1,ae 5 4,aj 6 5,ah 7 .lss 6 1,aa 8 7]⟩,⟨(some (8,false)),[af 9 1 1,ae 10 9,aj 11 10,ah 12 .gtr 11 16]⟩,⟨none,[ay 13 8 12]⟩]) <|
  .cond (.tmp 13) (.seq (ab [aw 2 false]) <|
  .ret) (.skip)) <|
  .seq (.seq (ab [ai 3 0]) <|
  .block 0 (.loop B_gerundref09_nons_0)) <|
  .seq (ab [aw 2 true]) <|
  .ret,
  [.tmp 2],49⟩
theorem S_gerundref09_nons_ok:compF Tryz.prog 116 [1]=some S_gerundref09_nons:=by kernel_rfl
def B_gerundref09_rule_0:SC :=
  .seq (.seq (ab [aa 23 5,af 24 1 3,ae 25 24,aj 26 25,ak 27 .lss 23 26]) <|
  .cond (.tmp 27) (.skip) (.exit 0)) <|
  .seq (.block 1 (.seq (.region false [⟨none,[au 30 4 2,af 31 1 3,ae 32 31,aa 33 5,av 34 1 32 33,ae 35 34,ao 36 172 [30,35],aB 37 36,aa 38 37]⟩,⟨(some (38,false)),[af 39 1 3,ae 40 39,aa 41 5,av 42 1 40 41,ae 43 42,ah 44 .geq 43 0,aa 45 44]⟩,⟨(some (45,true)),[af 46 2 3,ae 47 46,ah 48 .eql 47 (-1)]⟩,⟨(some (38,false)),[az 49 45 48]⟩,⟨none,[ay 50 38 49]⟩]) <|
  .cond (.tmp 50) (.seq (ab [aw 4 false]) <|
  .ret) (.skip))) <|
  ab [aa 28 5,ah 29 .add 28 1,aa 5 29]
def S_gerundref09_rule:SF:=⟨.seq (ab [aC 2 0,aC 3 1,aw 4 false]) <|
  .seq (.seq (.region false [⟨none,[af 6 1 3,ae 7 6,aj 8 7,ah 9 .gtr 8 6,aa 10 9]⟩,⟨(some (10,false)),[af 11 2 3,ae 12 11,ah 13 .lss 12 (-1)]⟩,⟨none,[ay 14 10 13,aa 15 14]⟩,⟨(some (15,false)),[af 16 2 3,ae 17 16,af 18 0 2,ae 19 18,aj 20 19,ak 21 .geq 17 20]⟩,⟨none,[ay 22 15 21]⟩]) <|
  .cond (.tmp 22) (.seq (ab [aw 4 false]) <|
  .ret) (.skip)) <|
  .seq (.seq (ab [ai 5 0]) <|
  .block 0 (.loop B_gerundref09_rule_0)) <|
  .seq (ab [aw 4 true]) <|
  .ret,
  [.tmp 4],51⟩
theorem S_gerundref09_rule_ok:compF Tryz.prog 117 [2,3]=some S_gerundref09_rule:=by kernel_rfl
def B_gerundref09_Right_0:SC :=
  .seq (.seq (ab [aa 39 4,af 40 2 1,ae 41 40,aj 42 41,ak 43 .lss 39 42]) <|
  .cond (.tmp 43) (.skip) (.exit 0)) <|
  .seq (.block 1 (.seq (ab [af 46 2 1,ae 47 46,aa 48 4,av 49 3 47 48,au 50 3 49,((some 5),.op (.alloc [(.val (.int .i64 0)),(.emp 1),(.val (.int .i64 0))])),(none,.op (.store 3 (.tmp 5) (.tmp 50)))]) <|
  .seq (.seq (.region false [⟨none,[af 51 0 5,ae 52 51,ah 53 .lss 52 0,aa 54 53]⟩,⟨(some (54,false)),[af 55 0 5,ae 56 55,aa 57 3,ah 58 .add 57 1,ak 59 .gtr 56 58]⟩,⟨none,[ay 60 54 59,aa 61 60]⟩,⟨(some (61,false)),[au 62 4 1,au 63 3 5,ao 64 117 [62,63],aB 65 64]⟩,⟨none,[ay 66 61 65]⟩]) <|
  .cond (.tmp 66) (.seq (ab [aw 2 false]) <|
  .ret) (.skip)) <|
  .seq (ab [af 67 0 5,ae 68 67,aa 69 3,ak 70 .gtr 68 69]) <|
  .cond (.tmp 70) (ab [af 71 0 5,ae 72 71,aa 3 72]) (.skip))) <|
  ab [aa 44 4,ah 45 .add 44 1,aa 4 45]
def S_gerundref09_Right:SF:=⟨.seq (ab [aC 1 0,aw 2 false]) <|
  .seq (.seq (.region false [⟨none,[au 6 4 1,ao 7 115 [6],aB 8 7,aa 9 8]⟩,⟨(some (9,false)),[au 10 4 1,ao 11 116 [10],aB 12 11]⟩,⟨none,[ay 13 9 12,aa 14 13]⟩,⟨(some (14,false)),[af 15 2 1,ae 16 15,aj 17 16,ah 18 .lss 17 1]⟩,⟨none,[ay 19 14 18,aa 20 19]⟩,⟨(some (20,false)),[af 21 2 1,ae 22 21,aj 23 22,ah 24 .gtr 23 40]⟩,⟨none,[ay 25 20 24,aa 26 25]⟩,⟨(some (26,false)),[af 27 3 1,ae 28 27,ah 29 .lss 28 0]⟩,⟨none,[ay 30 26 29,aa 31 30]⟩,⟨(some (31,false)),[af 32 3 1,ae 33 32,af 34 1 1,ae 35 34,aj 36 35,ak 37 .geq 33 36]⟩,⟨none,[ay 38 31 37]⟩]) <|
  .cond (.tmp 38) (.seq (ab [aw 2 false]) <|
  .ret) (.skip)) <|
  .seq (ab [ai 3 (-1)]) <|
  .seq (.seq (ab [ai 4 0]) <|
  .block 0 (.loop B_gerundref09_Right_0)) <|
  .seq (ab [aa 73 3,af 74 1 1,ae 75 74,aj 76 75,ah 77 .sub 76 1,ak 78 .eql 73 77,aa 2 78]) <|
  .ret,
  [.tmp 2],79⟩
theorem S_gerundref09_Right_ok:compF Tryz.prog 66 [1]=some S_gerundref09_Right:=by kernel_rfl
set_option maxHeartbeats 2000000 in
theorem mc_terms09 (g:Gram) (hg:g.Ok) (H:View):MCall Tryz.prog 115 [.agg (encG g)] H fun r _=>r=gb (terms09 g):=by
  refine MCall.of mixed S_gerundref09_terms_ok ?_
  simp (disch:=omega) only [↓wr,↓reduceIte,wq,oneV,intOp,goI,Nat.reduceEqDiff,Nat.reduceAdd,Nat.reduceLT,Nat.reduceLeDiff,S_gerundref09_terms,encG,encS]
  refine GoB.dec (fun h=>?_) (fun h=>?_)
  · simp (disch:=omega) only [↓wr,↓reduceIte,wq,reduceCtorEq]
    simp[terms09,show ¬ g.terms.length≤24 by omega]
  · have hle:g.terms.length≤24:=by omega
    simp (disch:=omega) only [↓wr,wq]
    refine LoopG.intro (fun k T _=>∃ i:Nat,i+k=g.terms.length∧termsL g (g.terms.drop i) i=termsL g g.terms 0∧T 1=.fptr (encG g) 0∧T 3=gi i) g.terms.length ?_ ?_
    · exact ⟨0,by omega,rfl,rfl,rfl⟩
    · rintro k T H' ⟨i,hk,hi,h1,h3⟩
      simp (disch:=omega) only [↓wr,↓reduceIte,wq,intOp,goI,Nat.reduceEqDiff,Nat.reduceAdd,Nat.reduceLT,reduceCtorEq,B_gerundref09_terms_1,h1,h3,encG]
      refine GoB.dec (fun hc=>?_) (fun hc=>?_)
      · have hg2:g.terms[i]?=some (g.terms[i]'(by omega)):=List.getElem?_eq_getElem (by omega)
        rw[drop_at (show i < g.terms.length by omega)] at hi
        have hmem:g.terms[i]'(by omega)∈g.terms:=List.getElem_mem _
        generalize g.terms[i]'(by omega)=t at hg2 hi hmem
        obtain ⟨⟨hl1,hl2⟩,⟨ha1,ha2⟩⟩:=hg.term t hmem
        simp only[termsL] at hi
        have hbad:termB g i t=false→gb false=gb (terms09 g):=fun e=>by rw[e,Bool.false_and] at hi; simp[terms09,← hi]
        simp (disch:=omega) only [↓wr,↓reduceIte,wq,splice,Nat.reduceEqDiff,Nat.reduceAdd,Nat.reduceLT,Nat.reduceLeDiff,h1,h3,encG,encT,List.getElem?_map,hg2]
        intro m hm
        try simp (disch:=omega) only [↓wr,↓reduceIte,wq,oneV,intOp,goI,splice,sBuild,fillE,nilB,isNil,Nat.reduceEqDiff,Nat.reduceAdd,Nat.reduceLT,Nat.reduceLeDiff,Int.reduceNeg,Int.reduceToNat,reduceCtorEq,h1,h3]
        refine CallG.pure (pc_named09 t.name) (by kernel_rfl) ?_
        repeat' (first | (refine GoB.dec (fun _=>?_) (fun _=>?_)) | (refine GoB.eq (fun _=>?_) (fun _=>?_)) | (refine GoB.ne (fun _=>?_) (fun _=>?_)) | (refine GoB.split (fun _=>?_) (fun _=>?_)) | (simp (disch:=omega) only [↓wr,↓reduceIte,wq,intOp,Nat.reduceEqDiff,Nat.reduceAdd,Nat.reduceLT,Nat.reduceLeDiff,reduceCtorEq,h1,h3,encG]))
        all_goals try (refine hbad ?_; simp[termB, *]; done)
        rename_i hnm
        refine CallG.pure (pc_term09 g hg t.name) (by kernel_rfl) ?_
        repeat' (first | (refine GoB.dec (fun _=>?_) (fun _=>?_)) | (refine GoB.eq (fun _=>?_) (fun _=>?_)) | (refine GoB.ne (fun _=>?_) (fun _=>?_)) | (refine GoB.split (fun _=>?_) (fun _=>?_)) | (simp (disch:=omega) only [↓wr,↓reduceIte,wq,intOp,Nat.reduceEqDiff,Nat.reduceAdd,Nat.reduceLT,reduceCtorEq,h1,h3,encG]))
        all_goals try (refine hbad ?_; simp[termB, *]; done)
        all_goals try (refine hbad ?_; simp[termB]; grind)
        rename_i e1 e2 e3 e4 e5 e6
        have hpre:termB g i t=lvlsB g t:=by
          have e6':((t.level == 0) == (t.assoc == 0))=true:=by simpa using e6
          simp[termB,hnm,e1,e6',show (0:Int)≤t.level by omega,show t.level≤24 by omega,show (0:Int)≤t.assoc by omega,show t.assoc≤3 by omega]
        refine LoopG.intro (fun k' T H''=>∃ j:Nat,1≤j∧j+k'=t.level.toNat+1∧(∀ q:Nat,q+1 < j→levelB g.terms ((q:Int)+1)=true)∧T 1=.fptr (encG g) 0∧T 3=gi i∧T 4=.ptr m 0 0∧H'' m=.arr 3 [[gs t.name,gi t.level,gi t.assoc]]∧T 5=gi j) t.level.toNat ?_ ?_
        · refine ⟨1,by omega,by omega,fun q hq=>by omega,?_⟩
          simp (disch:=omega) only [↓wr,↓reduceIte,wq,Nat.reduceEqDiff,Nat.reduceAdd,h1,h3,encG]
          rfl
        · rintro k' T' H'' ⟨j,hj1,hj2,hj3,f1,f3,f4,fm,f5⟩
          simp (disch:=omega) only [↓wr,↓reduceIte,wq,intOp,Nat.reduceEqDiff,Nat.reduceAdd,Nat.reduceLT,B_gerundref09_terms_0,f4,f5,fm]
          refine GoB.dec (fun hd=>?_) (fun hd=>?_)
          · simp (disch:=omega) only [↓wr,↓reduceIte,wq,Nat.reduceEqDiff,Nat.reduceAdd,Nat.reduceLeDiff,f1,f5,encG]
            refine CallG.pure (pc_level09 g hg j) (by kernel_rfl) ?_
            repeat' (first | (refine GoB.dec (fun _=>?_) (fun _=>?_)) | (refine GoB.eq (fun _=>?_) (fun _=>?_)) | (refine GoB.ne (fun _=>?_) (fun _=>?_)) | (refine GoB.split (fun _=>?_) (fun _=>?_)) | (simp (disch:=omega) only [↓wr,↓reduceIte,wq,intOp,Nat.reduceEqDiff,reduceCtorEq,f1,f3,f4,f5,fm,encG]))
            · rename_i hb
              refine ⟨k' - 1,by omega,j+1,by omega,by omega,fun q hq=>?_,by first | rfl | exact ⟨rfl,rfl⟩ | exact ⟨rfl,rfl,rfl⟩⟩
              by_cases e:q+1=j
              · have:(q:Int)+1=j:=by omega
                rw[this]; exact hb
              · exact hj3 q (by omega)
            · rename_i hb
              refine hbad ?_
              rw[hpre,lvlsB,List.all_eq_false]
              refine ⟨j - 1,by simp; omega,?_⟩
              have:((j - 1:Nat):Int)+1=j:=by omega
              rw[this,hb]; simp
          · simp (disch:=omega) only [↓wr,↓reduceIte,wq,Nat.reduceEqDiff,reduceCtorEq,f1,f3]
            refine ⟨k - 1,by omega,i+1,by omega,?_,by first | rfl | exact ⟨rfl,rfl⟩ | exact ⟨rfl,rfl,rfl⟩⟩
            have hlv:lvlsB g t=true:=by
              rw[lvlsB,List.all_eq_true]
              intro q hq
              exact hj3 q (by simp at hq; omega)
            rw[hpre,hlv,Bool.true_and] at hi
            push_cast; exact hi
      · rw[List.drop_eq_nil_of_le (by omega)] at hi
        simp only[termsL] at hi
        simp (disch:=omega) only [↓wr,↓reduceIte,wq,Nat.reduceEqDiff,reduceCtorEq]
        simp[terms09,hle,← hi]
theorem pc_terms09 (g:Gram) (hg:g.Ok):PCall Tryz.prog 115 [.agg (encG g)] (gb (terms09 g)):=PCall.val (gg_tree g) (mc_terms09 g hg)
def nonB (g:Gram) (i:Int) (s:ByteArray):Bool:=nameB (bts s) && (nonI g s == i) && decide (termI g s < 0)
def nonsL (g:Gram):List ByteArray→Int→Bool
  | [],_=>true
  | s :: r,i=>nonB g i s && nonsL g r (i+1)
def nons09 (g:Gram):Bool:=decide (1≤g.nons.length) && decide (g.nons.length≤16) && nonsL g g.nons 0
set_option maxHeartbeats 1000000 in
theorem mc_nons09 (g:Gram) (hg:g.Ok) (H:View):MCall Tryz.prog 116 [.agg (encG g)] H fun r _=>r=gb (nons09 g):=by
  refine MCall.of mixed S_gerundref09_nons_ok ?_
  repeat' (first | (refine GoB.dec (fun _=>?_) (fun _=>?_)) | (refine GoB.eq (fun _=>?_) (fun _=>?_)) | (refine GoB.ne (fun _=>?_) (fun _=>?_)) | (refine GoB.split (fun _=>?_) (fun _=>?_)) | (simp (disch:=omega) only [↓wr,↓reduceIte,wq,oneV,intOp,goI,Nat.reduceEqDiff,Nat.reduceAdd,Nat.reduceLT,Nat.reduceLeDiff,reduceCtorEq,S_gerundref09_nons,encG,encS]))
  · simp[nons09,show ¬ 1≤g.nons.length by omega]
  · simp[nons09,show ¬ g.nons.length≤16 by omega]
  · have hle:g.nons.length≤16:=by omega
    refine LoopG.intro (fun k T _=>∃ i:Nat,i+k=g.nons.length∧nonsL g (g.nons.drop i) i=nonsL g g.nons 0∧T 1=.fptr (encG g) 0∧T 3=gi i) g.nons.length ?_ ?_
    · exact ⟨0,by omega,rfl,rfl,rfl⟩
    · rintro k T H' ⟨i,hk,hi,h1,h3⟩
      simp (disch:=omega) only [↓wr,↓reduceIte,wq,intOp,goI,Nat.reduceEqDiff,Nat.reduceAdd,Nat.reduceLT,reduceCtorEq,B_gerundref09_nons_0,h1,h3,encG,encS]
      refine GoB.dec (fun hc=>?_) (fun hc=>?_)
      · have hg2:g.nons[i]?=some (g.nons[i]'(by omega)):=List.getElem?_eq_getElem (by omega)
        rw[drop_at (show i < g.nons.length by omega)] at hi
        generalize g.nons[i]'(by omega)=t at hg2 hi
        simp only[nonsL] at hi
        have hbad:nonB g i t=false→gb false=gb (nons09 g):=fun e=>by rw[e,Bool.false_and] at hi; simp[nons09,← hi]
        simp (disch:=omega) only [↓wr,↓reduceIte,wq,Nat.reduceEqDiff,Nat.reduceAdd,Nat.reduceLT,h1,h3,encG,encS,List.getElem?_map,hg2]
        refine CallG.pure (pc_Name07 t) (by kernel_rfl) ?_
        repeat' (first | (refine GoB.dec (fun _=>?_) (fun _=>?_)) | (refine GoB.eq (fun _=>?_) (fun _=>?_)) | (refine GoB.ne (fun _=>?_) (fun _=>?_)) | (refine GoB.split (fun _=>?_) (fun _=>?_)) | (simp (disch:=omega) only [↓wr,↓reduceIte,wq,intOp,Nat.reduceEqDiff,Nat.reduceAdd,Nat.reduceLT,Nat.reduceLeDiff,reduceCtorEq,h1,h3,encG,encS,List.getElem?_map,hg2]))
        all_goals try (refine hbad ?_; simp[nonB, *]; done)
        rename_i hnm
        refine CallG.pure (pc_non09 g hg t) (by kernel_rfl) ?_
        repeat' (first | (refine GoB.dec (fun _=>?_) (fun _=>?_)) | (refine GoB.eq (fun _=>?_) (fun _=>?_)) | (refine GoB.ne (fun _=>?_) (fun _=>?_)) | (refine GoB.split (fun _=>?_) (fun _=>?_)) | (simp (disch:=omega) only [↓wr,↓reduceIte,wq,intOp,Nat.reduceEqDiff,Nat.reduceAdd,Nat.reduceLT,Nat.reduceLeDiff,reduceCtorEq,h1,h3,encG,encS,List.getElem?_map,hg2]))
        all_goals try (refine hbad ?_; simp[nonB, *]; done)
        rename_i hno
        refine CallG.pure (pc_term09 g hg t) (by kernel_rfl) ?_
        repeat' (first | (refine GoB.dec (fun _=>?_) (fun _=>?_)) | (refine GoB.eq (fun _=>?_) (fun _=>?_)) | (refine GoB.ne (fun _=>?_) (fun _=>?_)) | (refine GoB.split (fun _=>?_) (fun _=>?_)) | (simp (disch:=omega) only [↓wr,↓reduceIte,wq,intOp,Nat.reduceEqDiff,reduceCtorEq,h1,h3,encG,encS]))
        all_goals try (refine hbad ?_; simp[nonB, *]; done)
        rename_i hte
        refine ⟨k - 1,by omega,i+1,by omega,?_,by first | rfl | exact ⟨rfl,rfl⟩ | exact ⟨rfl,rfl,rfl⟩⟩
        have:nonB g i t=true:=by simp[nonB,hnm,hno,show termI g t < 0 by omega]
        rw[this,Bool.true_and] at hi
        push_cast; exact hi
      · rw[List.drop_eq_nil_of_le (by omega)] at hi
        simp only[nonsL] at hi
        simp (disch:=omega) only [↓wr,↓reduceIte,wq,Nat.reduceEqDiff,reduceCtorEq]
        simp[nons09,hle,show 1≤g.nons.length by omega,← hi]
theorem pc_nons09 (g:Gram) (hg:g.Ok):PCall Tryz.prog 116 [.agg (encG g)] (gb (nons09 g)):=PCall.val (gg_tree g) (mc_nons09 g hg)
def symB (g:Gram) (prec s:Int):Bool:=hasG g s && !(decide (0≤s) && prec == -1)
def ruleB (g:Gram) (r:Rule):Bool:=decide (r.right.length≤6) && decide (-1≤r.prec) && decide (r.prec < g.terms.length) && r.right.all (symB g r.prec)
theorem gr_trees (g:Gram) (r:Rule):∀ v∈[V.agg (encG g),V.agg (encR r)],Tree v:=by
  intro v hv; simp at hv
  rcases hv with rfl | rfl
  · exact tree_agg _ (encG_tree g)
  · exact tree_agg _ (encR_tree r)
set_option maxHeartbeats 1000000 in
theorem mc_rule09 (g:Gram) (r:Rule) (hr:Short r.right∧∀ x∈r.right,In64 x) (H:View):MCall Tryz.prog 117 [.agg (encG g),.agg (encR r)] H fun v _=>v=gb (ruleB g r):=by
  refine MCall.of mixed S_gerundref09_rule_ok ?_
  repeat' (first | (refine GoB.dec (fun _=>?_) (fun _=>?_)) | (refine GoB.eq (fun _=>?_) (fun _=>?_)) | (refine GoB.ne (fun _=>?_) (fun _=>?_)) | (refine GoB.split (fun _=>?_) (fun _=>?_)) | (simp (disch:=omega) only [↓wr,↓reduceIte,wq,oneV,intOp,goI,Nat.reduceEqDiff,Nat.reduceAdd,Nat.reduceLT,Nat.reduceLeDiff,Int.reduceNeg,reduceCtorEq,S_gerundref09_rule,encG,encS,encR,encI]))
  · simp[ruleB,show ¬ r.right.length≤6 by omega]
  · simp[ruleB,show ¬ -1≤r.prec by omega]
  · simp[ruleB,show ¬ r.prec < g.terms.length by omega]
  · have hle:r.right.length≤6:=by omega
    have hp1 : -1≤r.prec:=by omega
    have hp2:r.prec < g.terms.length:=by omega
    refine LoopG.intro (fun k T _=>∃ i:Nat,i+k=r.right.length∧(r.right.drop i).all (symB g r.prec)=r.right.all (symB g r.prec)∧T 2=.fptr (encG g) 0∧T 3=.fptr (encR r) 0∧T 5=gi i) r.right.length ?_ ?_
    · exact ⟨0,by omega,rfl,rfl,rfl,rfl⟩
    · rintro k T H' ⟨i,hk,hi,h2,h3,h5⟩
      simp (disch:=omega) only [↓wr,↓reduceIte,wq,intOp,goI,Nat.reduceEqDiff,Nat.reduceAdd,Nat.reduceLT,Int.reduceNeg,reduceCtorEq,B_gerundref09_rule_0,h3,h5,encR,encI]
      refine GoB.dec (fun hc=>?_) (fun hc=>?_)
      · have hg2:r.right[i]?=some (r.right[i]'(by omega)):=List.getElem?_eq_getElem (by omega)
        rw[drop_at (show i < r.right.length by omega)] at hi
        have hmem:r.right[i]'(by omega)∈r.right:=List.getElem_mem _
        generalize r.right[i]'(by omega)=t at hg2 hi hmem
        have hin:=hr.2 t hmem
        simp only[List.all_cons] at hi
        have hbad:symB g r.prec t=false→gb false=gb (ruleB g r):=fun e=>by rw[e,Bool.false_and] at hi; simp only[ruleB,← hi,Bool.and_false]
        have hok:symB g r.prec t=true→(r.right.drop (i+1)).all (symB g r.prec)=r.right.all (symB g r.prec):=fun e=>by rw[e,Bool.true_and] at hi; exact hi
        simp (disch:=omega) only [↓wr,↓reduceIte,wq,Nat.reduceEqDiff,Nat.reduceAdd,Nat.reduceLT,Nat.reduceLeDiff,Int.reduceNeg,h2,h3,h5,encG,encS,encR,encI,List.getElem?_map,hg2]
        refine CallG.pure (pc_Has g t hin) (by kernel_rfl) ?_
        repeat' (first | (refine GoB.dec (fun _=>?_) (fun _=>?_)) | (refine GoB.eq (fun _=>?_) (fun _=>?_)) | (refine GoB.ne (fun _=>?_) (fun _=>?_)) | (refine GoB.split (fun _=>?_) (fun _=>?_)) | (simp (disch:=omega) only [↓wr,↓reduceIte,wq,intOp,Nat.reduceEqDiff,Nat.reduceAdd,Nat.reduceLT,Int.reduceNeg,reduceCtorEq,h2,h3,h5,encG,encS,encR,encI,List.getElem?_map,hg2]))
        all_goals first
          | (refine hbad ?_; simp[symB, *]; done)
          | (refine ⟨k - 1,by omega,i+1,by omega,hok (by simp[symB, *]; done),by first | rfl | exact ⟨rfl,rfl⟩ | exact ⟨rfl,rfl,rfl⟩⟩)
          | skip
      · rw[List.drop_eq_nil_of_le (by omega)] at hi
        simp only[List.all_nil] at hi
        simp (disch:=omega) only [↓wr,↓reduceIte,wq,Nat.reduceEqDiff,reduceCtorEq]
        simp only[ruleB,hle,hp1,hp2,decide_true,Bool.true_and,← hi]
theorem pc_rule09 (g:Gram) (r:Rule) (hr:Short r.right∧∀ x∈r.right,In64 x):PCall Tryz.prog 117 [.agg (encG g),.agg (encR r)] (gb (ruleB g r)):=PCall.val (gr_trees g r) (mc_rule09 g r hr)
def rulesL (g:Gram):List Rule→Int→Bool
  | [],top=>top == (g.nons.length:Int) - 1
  | r :: l,top=>decide (0≤r.left) && decide (r.left≤top+1) && ruleB g r && rulesL g l (if r.left > top then r.left else top)
def right09 (g:Gram):Bool :=
  terms09 g && nons09 g && decide (1≤g.rules.length) && decide (g.rules.length≤40) && decide (0≤g.start) && decide (g.start < g.nons.length) && rulesL g g.rules (-1)
set_option maxHeartbeats 1000000 in
theorem mc_Right09 (g:Gram) (hg:g.Ok) (H:View):MCall Tryz.prog 66 [.agg (encG g)] H fun r _=>r=gb (right09 g):=by
  refine MCall.of mixed S_gerundref09_Right_ok ?_
  have hn:=hg.nons
  unfold Short at hn
  simp (disch:=omega) only [↓wr,↓reduceIte,wq,oneV,Nat.reduceEqDiff,Nat.reduceAdd,Nat.reduceLeDiff,Int.reduceNeg,S_gerundref09_Right,encG,encS]
  refine CallG.pure (pc_terms09 g hg) (by kernel_rfl) ?_
  repeat' (first | (refine GoB.dec (fun _=>?_) (fun _=>?_)) | (refine GoB.eq (fun _=>?_) (fun _=>?_)) | (refine GoB.ne (fun _=>?_) (fun _=>?_)) | (refine GoB.split (fun _=>?_) (fun _=>?_)) | (simp (disch:=omega) only [↓wr,↓reduceIte,wq,Nat.reduceEqDiff,Nat.reduceAdd,Nat.reduceLeDiff,Int.reduceNeg,reduceCtorEq]))
  · rename_i h1
    refine CallG.pure (pc_nons09 g hg) (by kernel_rfl) ?_
    repeat' (first | (refine GoB.dec (fun _=>?_) (fun _=>?_)) | (refine GoB.eq (fun _=>?_) (fun _=>?_)) | (refine GoB.ne (fun _=>?_) (fun _=>?_)) | (refine GoB.split (fun _=>?_) (fun _=>?_)) | (simp (disch:=omega) only [↓wr,↓reduceIte,wq,intOp,goI,Nat.reduceEqDiff,Nat.reduceAdd,Nat.reduceLT,Int.reduceNeg,reduceCtorEq]))
    all_goals try (simp[right09, *]; done)
    all_goals try (simp[right09]; omega)
    rename_i h2 h3 h4 h5 h6
    have hle:g.rules.length≤40:=by omega
    have hpre:∀ b,rulesL g g.rules (-1)=b→gb b=gb (right09 g):=fun b e=>by
      simp[right09,h1,h2,show 1≤g.rules.length by omega,hle,show 0≤g.start by omega,show g.start < g.nons.length by omega,e]
    refine LoopG.intro (fun k T _=>∃ (i:Nat) (w:Int),i+k=g.rules.length∧-1≤w∧w < i∧rulesL g (g.rules.drop i) w=rulesL g g.rules (-1)∧T 1=.fptr (encG g) 0∧T 3=gi w∧T 4=gi i) g.rules.length ?_ ?_
    · exact ⟨0,-1,by omega,by omega,by omega,rfl,rfl,rfl,rfl⟩
    · rintro k T H' ⟨i,w,hk,hw1,hw2,hi,f1,f3,f4⟩
      simp (disch:=omega) only [↓wr,↓reduceIte,wq,intOp,goI,Nat.reduceEqDiff,Nat.reduceAdd,Nat.reduceLT,Int.reduceNeg,B_gerundref09_Right_0,f1,f4,encG]
      refine GoB.dec (fun hc=>?_) (fun hc=>?_)
      · have hg2:g.rules[i]?=some (g.rules[i]'(by omega)):=List.getElem?_eq_getElem (by omega)
        rw[drop_at (show i < g.rules.length by omega)] at hi
        have hmem:g.rules[i]'(by omega)∈g.rules:=List.getElem_mem _
        generalize g.rules[i]'(by omega)=t at hg2 hi hmem
        obtain ⟨⟨hl1,hl2⟩,hp,hr1,hr2⟩:=hg.rule t hmem
        simp only[rulesL] at hi
        simp (disch:=omega) only [↓wr,↓reduceIte,wq,intOp,splice,Nat.reduceEqDiff,Nat.reduceAdd,Nat.reduceLT,Nat.reduceLeDiff,Int.reduceNeg,f1,f4,encG,encS,encR,encI,List.getElem?_map,hg2]
        intro m hm
        try simp (disch:=omega) only [↓wr,↓reduceIte,wq,oneV,intOp,goI,splice,sBuild,fillE,nilB,isNil,Nat.reduceEqDiff,Nat.reduceAdd,Nat.reduceLT,Nat.reduceLeDiff,Int.reduceNeg,Int.reduceToNat,reduceCtorEq,f1,f3,f4]
        repeat' (first | (refine GoB.dec (fun _=>?_) (fun _=>?_)) | (refine GoB.eq (fun _=>?_) (fun _=>?_)) | (refine GoB.ne (fun _=>?_) (fun _=>?_)) | (refine GoB.split (fun _=>?_) (fun _=>?_)) | (simp (disch:=omega) only [↓wr,↓reduceIte,wq,intOp,goI,Nat.reduceEqDiff,Nat.reduceAdd,Nat.reduceLT,Nat.reduceLeDiff,Int.reduceNeg,reduceCtorEq,f1,f3,f4,encG,encS]))
        all_goals try (refine hpre _ ?_; simp only[← hi]; simp; omega)
        rename_i e1 e2
        refine CallG.pure (pc_rule09 g t ⟨hr1,hr2⟩) (by kernel_rfl) ?_
        repeat' (first | (refine GoB.dec (fun _=>?_) (fun _=>?_)) | (refine GoB.eq (fun _=>?_) (fun _=>?_)) | (refine GoB.ne (fun _=>?_) (fun _=>?_)) | (refine GoB.split (fun _=>?_) (fun _=>?_)) | (simp (disch:=omega) only [↓wr,↓reduceIte,wq,intOp,goI,Nat.reduceEqDiff,Nat.reduceAdd,Nat.reduceLT,Int.reduceNeg,reduceCtorEq,f1,f3,f4,encG,encS]))
        all_goals simp only[show 0≤t.left by omega,show t.left≤w+1 by omega,decide_true,Bool.true_and] at hi
        · rename_i e3 e4
          rw[e3,Bool.true_and,if_pos e4] at hi
          exact ⟨k - 1,by omega,i+1,_,by omega,by omega,by push_cast; omega,hi,by first | rfl | exact ⟨rfl,rfl⟩ | exact ⟨rfl,rfl,rfl⟩⟩
        · rename_i e3 e4
          rw[e3,Bool.true_and,if_neg e4] at hi
          exact ⟨k - 1,by omega,i+1,_,by omega,by omega,by push_cast; omega,hi,by first | rfl | exact ⟨rfl,rfl⟩ | exact ⟨rfl,rfl,rfl⟩⟩
        · rename_i e3
          rw[e3,Bool.false_and] at hi
          exact hpre _ hi.symm
      · rw[List.drop_eq_nil_of_le (by omega)] at hi
        simp only[rulesL] at hi
        simp (disch:=omega) only [↓wr,↓reduceIte,wq,intOp,goI,Nat.reduceEqDiff,Nat.reduceAdd,Nat.reduceLT,reduceCtorEq,f1,f3,encG,encS]
        exact hpre _ hi.symm
  · rename_i h1; simp[right09,h1]
theorem pc_Right09 (g:Gram) (hg:g.Ok):PCall Tryz.prog 66 [.agg (encG g)] (gb (right09 g)):=PCall.val (gg_tree g) (mc_Right09 g hg)
inductive Tr2 (α:Type) where
  | nil
  | node (v:α) (l r:Tr2 α)
noncomputable def Tr2.get {α:Type} (z:α) (t:Tr2 α):Nat→α :=
  Tr2.rec (motive:=fun _=>Nat→α) (fun _=>z) (fun v _ _ gl gr i=>Bool.rec (Bool.rec (gr (i / 2 - 1)) (gl (i / 2)) (Nat.beq (i % 2) 1)) v (Nat.beq i 0)) t
theorem Tr2.get_nil {α:Type} (z:α) (i:Nat):Tr2.get z .nil i=z:=rfl
theorem Tr2.get_node {α:Type} (z v:α) (l r:Tr2 α) (i:Nat):Tr2.get z (.node v l r) i=match Nat.beq i 0 with
    | true=>v
    | false=>match Nat.beq (i % 2) 1 with
      | true=>Tr2.get z l (i / 2)
      | false=>Tr2.get z r (i / 2 - 1):=by
  change (Bool.rec (motive:=fun _=>α) _ _ _:α)=_
  cases Nat.beq i 0 with
  | true=>rfl
  | false=>cases Nat.beq (i % 2) 1 <;> rfl
def Tr2.val {α:Type} (z:α):Tr2 α→α
  | .nil=>z
  | .node v _ _=>v
def Tr2.left {α:Type} : Tr2 α→Tr2 α
  | .nil=>.nil
  | .node _ l _=>l
def Tr2.right {α:Type} : Tr2 α→Tr2 α
  | .nil=>.nil
  | .node _ _ r=>r
noncomputable def Tr2.put {α:Type} (z:α) (x:α) (d:Nat):Tr2 α→Nat→Tr2 α :=
  Nat.rec (motive:=fun _=>Tr2 α→Nat→Tr2 α) (fun t _=>t) (fun _ pd t i =>
    Bool.rec (Bool.rec (.node (t.val z) t.left (pd t.right (i / 2 - 1))) (.node (t.val z) (pd t.left (i / 2)) t.right) (Nat.beq (i % 2) 1)) (.node x t.left t.right) (Nat.beq i 0)) d
theorem Tr2.put_succ {α:Type} (z x:α) (d:Nat) (t:Tr2 α) (i:Nat):Tr2.put z x (d+1) t i=match Nat.beq i 0 with
    | true=>.node x t.left t.right
    | false=>match Nat.beq (i % 2) 1 with
      | true=>.node (t.val z) (Tr2.put z x d t.left (i / 2)) t.right
      | false=>.node (t.val z) t.left (Tr2.put z x d t.right (i / 2 - 1)):=by
  change (Bool.rec (motive:=fun _=>Tr2 α) _ _ _:Tr2 α)=_
  cases Nat.beq i 0 with
  | true=>rfl
  | false=>cases Nat.beq (i % 2) 1 <;> rfl
theorem Tr2.get_parts {α:Type} (z:α) (t:Tr2 α) (j:Nat):t.get z j=if j=0 then t.val z else if j % 2=1 then t.left.get z (j / 2) else t.right.get z (j / 2 - 1):=by
  cases t with
  | nil=>simp[Tr2.get_nil,Tr2.val,Tr2.left,Tr2.right]
  | node v l r =>
    simp only[Tr2.get_node,Tr2.val,Tr2.left,Tr2.right]
    by_cases h:j=0
    · subst h; rfl
    · have:Nat.beq j 0=false:=by cases e:Nat.beq j 0 with | true=>exact absurd (Nat.eq_of_beq_eq_true e) h | false=>rfl
      rw[this,if_neg h]
      simp only
      by_cases h2:j % 2=1
      · have:Nat.beq (j % 2) 1=true:=by rw[h2]; rfl
        rw[this,if_pos h2]
      · have:Nat.beq (j % 2) 1=false:=by cases e:Nat.beq (j % 2) 1 with | true=>exact absurd (Nat.eq_of_beq_eq_true e) h2 | false=>rfl
        rw[this,if_neg h2]
theorem Tr2.get_put {α:Type} (z x:α):∀ (d:Nat) (t:Tr2 α) (i j:Nat),i+1 < 2 ^ d→(Tr2.put z x d t i).get z j=if j=i then x else t.get z j
  | 0,t,i,j,h=>by simp at h
  | d+1,t,i,j,h=>by
    rw[Nat.pow_succ] at h
    simp only[Tr2.put_succ]
    by_cases hi:i=0
    · subst hi
      have:Nat.beq 0 0=true:=rfl
      rw[this]
      simp only
      rw[Tr2.get_parts,Tr2.get_parts z t]
      simp only[Tr2.val,Tr2.left,Tr2.right]
      by_cases hj:j=0
      · rw[if_pos hj,if_pos hj]
      · rw[if_neg hj,if_neg hj,if_neg hj]
    · have:Nat.beq i 0=false:=by cases e:Nat.beq i 0 with | true=>exact absurd (Nat.eq_of_beq_eq_true e) hi | false=>rfl
      rw[this]
      simp only
      by_cases h2:i % 2=1
      · have:Nat.beq (i % 2) 1=true:=by rw[h2]; rfl
        rw[this]
        simp only
        rw[Tr2.get_parts,Tr2.get_parts z t]
        simp only[Tr2.val,Tr2.left,Tr2.right]
        by_cases hj:j=0
        · subst hj; rw[if_pos rfl,if_neg (fun e=>hi e.symm),if_pos rfl]
        · rw[if_neg hj,if_neg hj]
          by_cases hj2:j % 2=1
          · rw[if_pos hj2,if_pos hj2,Tr2.get_put z x d _ _ _ (by omega)]
            by_cases e:j=i
            · subst e; simp
            · rw[if_neg e,if_neg (by omega)]
          · rw[if_neg hj2,if_neg hj2,if_neg (fun e=>hj2 (by rw[e]; exact h2))]
      · have:Nat.beq (i % 2) 1=false:=by cases e:Nat.beq (i % 2) 1 with | true=>exact absurd (Nat.eq_of_beq_eq_true e) h2 | false=>rfl
        rw[this]
        simp only
        rw[Tr2.get_parts,Tr2.get_parts z t]
        simp only[Tr2.val,Tr2.left,Tr2.right]
        by_cases hj:j=0
        · subst hj; rw[if_pos rfl,if_neg (fun e=>hi e.symm),if_pos rfl]
        · rw[if_neg hj,if_neg hj]
          by_cases hj2:j % 2=1
          · rw[if_pos hj2,if_pos hj2,if_neg (fun e=>h2 (by rw[← e]; exact hj2))]
          · rw[if_neg hj2,if_neg hj2,Tr2.get_put z x d _ _ _ (by omega)]
            by_cases e:j=i
            · subst e; simp
            · rw[if_neg e,if_neg (by omega)]
abbrev deep:Nat:=13
structure ES where
  L:Tr2 V
  H:Tr2 AObj
  n:Nat
  w:List Nat
noncomputable def ES.T (s:ES):Env:=s.L.get .any
noncomputable def ES.V (s:ES):View:=s.H.get .dead
noncomputable def ES.put (s:ES) (d:Option Nat) (v:Gv.V):ES:=match d with
  | some t=>⟨s.L.put .any v deep t,s.H,s.n,s.w⟩
  | none=>s
theorem ES.put_T {s:ES} {d:Option Nat} {v:Gv.V} (h:∀ t,d=some t→t < 8000):(s.put d v).T=s.T.put d v:=by
  cases d with
  | none=>rfl
  | some t =>
    funext k
    have:=h t rfl
    simp only[ES.put,ES.T,Env.put]
    rw[Tr2.get_put _ _ _ _ _ _ (by simp[deep]; omega)]
noncomputable def eEff (v:V) (eff:Eff) (rd:List Nat) (s:ES):Option (V × ES × Rec):=match eff with
  | .none=>some (v,s,⟨rd,[],false,s.n,s.n⟩)
  | .new o=>match Nat.ble s.n 8000 with
    | true=>some (v,⟨s.L,s.H.put .dead o deep s.n,s.n+1,s.w⟩,⟨rd,[],false,s.n,s.n+1⟩)
    | false=>none
  | .upd id o=>match Nat.ble id 8000 with
    | true=>some (v,⟨s.L,s.H.put .dead o deep id,s.n,id :: s.w⟩,⟨rd,[id],false,s.n,s.n⟩)
    | false=>none
  | .mov id o=>match Nat.ble s.n 8000,Nat.ble id 8000 with
    | true,true=>some (v,⟨s.L,(s.H.put .dead .dead deep id).put .dead o deep s.n,s.n+1,id :: s.w⟩,⟨rd,[id],false,s.n,s.n+1⟩)
    | _,_=>none
noncomputable def iMov (x:SX) (_:Program) (T:Env) (_:View) (_:Nat):Out:=some (x.at T,.none,[])
noncomputable def iPick (c a b:SX) (_:Program) (T:Env) (_:View) (_:Nat):Out:=match c.at T with
  | .val (.bool t)=>some (if t then a.at T else b.at T,.none,[])
  | _=>none
noncomputable def iLoad (sz:Option Nat) (a:SX) (_:Program) (T:Env) (H:View) (_:Nat):Out:=sLoad sz (a.at T) H
noncomputable def iStore (sz:Nat) (a x:SX) (_:Program) (T:Env) (H:View) (_:Nat):Out:=sStore sz (a.at T) (x.at T) H
noncomputable def iAddr (off:Nat) (x:SX) (_:Program) (T:Env) (_:View) (_:Nat):Out:=sAddr off (x.at T)
noncomputable def iIdx (sz:Nat) (x i:SX) (_:Program) (T:Env) (_:View) (_:Nat):Out:=sIdx sz (x.at T) (i.at T)
noncomputable def iLen (x:SX) (_:Program) (T:Env) (_:View) (_:Nat):Out:=(lenV (x.at T)).map fun n=>(goI n,.none,[])
noncomputable def iArith (op:BinOp) (x y:SX) (_:Program) (T:Env) (_:View) (_:Nat):Out:=sArith op (x.at T) (y.at T)
noncomputable def iSop (op:BinOp) (x y:SX) (_:Program) (T:Env) (_:View) (_:Nat):Out:=sSop op (x.at T) (y.at T)
noncomputable def iNot (x:SX) (_:Program) (T:Env) (_:View) (_:Nat):Out:=match x.at T with
  | .val (.bool t)=>some (.val (.bool (!t)),.none,[])
  | _=>none
noncomputable def iExt (i:Nat) (x:SX) (_:Program) (T:Env) (_:View) (_:Nat):Out:=match x.at T with
  | .tup vs=>if i < vs.length then some (vs.getD i .any,.none,[]) else none
  | _=>none
noncomputable def iNilc (x:SX) (_:Program) (T:Env) (_:View) (_:Nat):Out:=match x.at T with
  | .ptr id i j=>some (.ptr id i j,.none,[])
  | .fptr e j=>some (.fptr e j,.none,[])
  | .fn f a b=>some (.fn f a b,.none,[])
  | _=>none
noncomputable def eI (s:SI):Program→Env→View→Nat→Out:=match s with
  | .mov x=>iMov x
  | .pick c a b=>iPick c a b
  | .load sz a=>iLoad sz a
  | .store sz a x=>iStore sz a x
  | .addr o x=>iAddr o x
  | .idx sz x i=>iIdx sz x i
  | .len x=>iLen x
  | .arith op x y=>iArith op x y
  | .sop op x y=>iSop op x y
  | .not x=>iNot x
  | .ext i x=>iExt i x
  | .nilc x=>iNilc x
  | s=>fun P T H n=>sI P s T H n
theorem eI_eq (s:SI) (P:Program) (T:Env) (H:View) (n:Nat):eI s P T H n=sI P s T H n:=by
  cases s <;> rfl
abbrev Caller:=FuncId→List V→ES→Option (V × ES)
noncomputable def eOp (P:Program) (s:SI) (e:ES):Option (V × ES × Rec):=match eI s P e.T e.V e.n with
  | some (v,eff,rd)=>eEff v eff rd e
  | none=>none
noncomputable def eCallB (call:Caller) (f:SX) (args:List SX) (e:ES):Option (V × ES × Rec):=match f.at e.T with
  | .fn g first cap=>match call g (first ++ args.map (SX.at e.T) ++ cap) e with
    | some (v,e')=>some (v,⟨e.L,e'.H,e'.n,e'.w ++ e.w⟩,⟨[],e'.w,true,e.n,e'.n⟩)
    | none=>none
  | _=>none
noncomputable def eB (P:Program) (call:Caller) (b:SB):ES→Option (V × ES × Rec):=match b with
  | .op s=>eOp P s
  | .call f args=>eCallB call f args
noncomputable def eBs (P:Program) (call:Caller):List (Option Nat × SB)→List Rec→ES→Option (ES × List Rec)
  | [],a,e=>some (e,a)
  | (d,b) :: r,a,e=>match eB P call b e with
    | some (v,e',c)=>eBs P call r (a ++ [c]) (e'.put d v)
    | none=>none
noncomputable def noRec (e:ES):Rec:=⟨[],[],false,e.n,e.n⟩
noncomputable def eSkip:List (Option Nat × SB)→List Rec→ES→ES × List Rec
  | [],a,e=>(e,a)
  | (d,_) :: r,a,e=>eSkip r (a ++ [noRec e]) (e.put d (.tup []))
noncomputable def eGuard (P:Program) (call:Caller) (ops:List (Option Nat × SB)) (want:Bool) (v:V) (a:List Rec) (e:ES):Option (ES × List Rec):=match v with
  | .val (.bool b)=>match xor b want with
    | true=>some (eSkip ops a e)
    | false=>eBs P call ops a e
  | .tup []=>some (eSkip ops a e)
  | _=>none
noncomputable def eG (P:Program) (call:Caller) (g:SG) (a:List Rec) (e:ES):Option (ES × List Rec):=match g.guard with
  | none=>eBs P call g.ops a e
  | some (d,want)=>eGuard P call g.ops want (e.T d) a e
noncomputable def eGs (P:Program) (call:Caller):List SG→List Rec→ES→Option (ES × List Rec)
  | [],a,e=>some (e,a)
  | g :: r,a,e=>match eG P call g a e with
    | some (e',a')=>eGs P call r a' e'
    | none=>none
inductive DC where
  | skip
  | region (ps:List (Nat × Nat)) (gs:List SG)
  | seq (x y:DC)
  | cond (c:SX) (x y:DC)
  | block (id:Nat) (c:DC)
  | loop (c:DC)
  | exit (id:Nat)
  | ret
  deriving Inhabited
def checkP (recs:List Rec) (ps:List (Nat × Nat)):Bool:=ps.all fun (i,k)=>match recs[i]?,recs[k]? with
  | some a,some b=>noConfB a b
  | _,_=>false
abbrev ER:=Option (Exit × ES)
abbrev Run:=DC→ES→ER
noncomputable def eSkipC:ES→ER:=fun e=>some (.normal,e)
noncomputable def eRegion (P:Program) (call:Caller) (ps:List (Nat × Nat)) (gs:List SG) (e:ES):ER:=match eGs P call gs [] e with
  | some (e',recs)=>match checkP recs ps with
    | true=>some (.normal,e')
    | false=>none
  | none=>none
noncomputable def eSeq (run:Run) (x y:DC) (e:ES):ER:=match run x e with
  | some (.normal,e')=>run y e'
  | r=>r
noncomputable def eCond (run:Run) (c:SX) (x y:DC) (e:ES):ER:=match c.at e.T with
  | .val (.bool true)=>run x e
  | .val (.bool false)=>run y e
  | _=>none
noncomputable def eBlock (run:Run) (id:Nat) (c:DC) (e:ES):ER:=match run c e with
  | some (r,e')=>some (outOf id r,e')
  | none=>none
noncomputable def eLoop (run:Run) (c:DC) (e:ES):ER:=match run c e with
  | some (.normal,e')=>run (.loop c) e'
  | r=>r
noncomputable def eStep (P:Program) (call:Caller) (run:Run) (c:DC):ES→ER:=match c with
  | .skip=>eSkipC
  | .region ps gs=>eRegion P call ps gs
  | .seq x y=>eSeq run x y
  | .cond c x y=>eCond run c x y
  | .block id c=>eBlock run id c
  | .loop c=>eLoop run c
  | .exit id=>fun e=>some (.exit id,e)
  | .ret=>fun e=>some (.ret,e)
noncomputable def eRes (r:SR) (e:ES):Option V:=match r with
  | .tmp t=>some (e.T t)
  | .cell t sz=>match e.T t with
    | .ptr id i j=>match e.V id with
      | .arr _ es=>if i < es.length then partS sz (es.getD i []) j else none
      | _=>none
    | .fptr e j=>partS sz e j
    | _=>none
noncomputable def eRess:List SR→ES→Option (List V)
  | [],_=>some []
  | r :: l,e=>match eRes r e,eRess l e with
    | some v,some vs=>some (v :: vs)
    | _,_=>none
noncomputable def argTree:List V→Nat→Tr2 V→Tr2 V
  | [],_,t=>t
  | v :: vs,i,t=>argTree vs (i+1) (t.put .any v deep i)
structure DF where
  code:DC
  res:List SR
  n:Nat
noncomputable def eEnd (l:List SR) (r:ER):Option (V × ES):=match r with
  | some (.ret,e)=>(eRess l e).map fun vs=>(oneV vs,e)
  | some (.normal,e)=>(eRess l e).map fun vs=>(oneV vs,e)
  | _=>none
noncomputable def eOld (m:Nat) (r:Option (V × ES)):Option (V × ES):=match r with
  | some (v,e)=>some (v,⟨e.L,e.H,e.n,e.w.filter fun id=>Nat.blt id m⟩)
  | none=>none
noncomputable def eFun (run:Run) (F:DF) (vs:List V) (e:ES):Option (V × ES):=match Nat.ble vs.length F.n,Nat.ble F.n 8000 with
  | true,true=>eOld e.n (eEnd F.res (run F.code ⟨argTree vs 0 .nil,e.H,e.n,[]⟩))
  | _,_=>none
abbrev ExtT:=FuncId→List V→View→Option V
noncomputable def eCall (P:Program) (tab:List (FuncId × DF)) (ext:ExtT) (run:Run) (g:FuncId) (vs:List V) (e:ES):Option (V × ES):=match ext g vs e.V with
  | some t=>some (t,⟨e.L,e.H,e.n,[]⟩)
  | none=>match tab.find? (fun p=>Nat.beq p.1 g) with
    | some (_,F)=>eFun run F vs e
    | none=>none
noncomputable def eRun (P:Program) (tab:List (FuncId × DF)) (ext:ExtT):Nat→Run
  | 0=>fun _ _=>none
  | k+1=>eStep P (eCall P tab ext (eRun P tab ext k)) (eRun P tab ext k)
def unord (all:List Oper) (ls:List Nat):List (Nat × Nat) :=
  let b:=befs all []
  (ls.zipIdx.map fun (x,i)=>(ls.zipIdx.filter fun (y,k)=>decide (i < k) && !(ordered b i k || x == 0 || y == 0 || (decide (x≤1) && decide (y≤1)))).map fun (_,k)=>(i,k)).flatten
def compDR (P:Program) (n:Nat) (fz:List Nat) (ops:List Oper) (draw:Bool):Option DC:=match compOs P n ops ⟨fz,false⟩ ops with
  | none=>none
  | some l=>if !(group l).all okG then none else
    if draw then (if tmpsOk ops then some (.region (unord ops (l.map fun s=>loudB P false s.b)) (group l)) else none) else some (.region [] (group l))
def compD (P:Program) (n:Nat) (fz:List Nat):Code→Option DC
  | .skip=>some .skip
  | .region _ ops draw=>compDR P n fz ops.toList draw
  | .seq x y=>match compD P n fz x,compD P n fz y with
    | some a,some b=>some (.seq a b)
    | _,_=>none
  | .cond c x y=>match compD P n fz x,compD P n fz y with
    | some a,some b=>some (.cond (SX.of c) a b)
    | _,_=>none
  | .block id c=>(compD P n fz c).map (.block id)
  | .loop c=>(compD P n fz c).map .loop
  | .exit id=>some (.exit id)
  | .ret=>some .ret
  | _=>none
abbrev ag (l:List (Option Nat × SB)):DC:=.region [] [⟨none,l⟩]
def compDF (P:Program) (f:FuncId) (fz:List Nat):Option DF:=match P.funcs[f]? with
  | some fn=>match fn.body with
    | some c=>match compD P fn.ntmps fz c,compRes P fn.results.toList,calleeOk P f with
      | some sc,some rs,true=>some ⟨sc,rs,fn.ntmps⟩
      | _,_,_=>none
    | none=>none
  | none=>none
end Gv
