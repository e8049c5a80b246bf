/-
  Part 6 of the proof: what the machine does and what the functions answer.
  Conditions: those that each lemma names.
-/
import Derived.Test.YtomcjampldmjoaaGreatSGzXE
set_option linter.unusedSimpArgs false
set_option linter.unusedVariables false
set_option maxRecDepth 100000
namespace Gv
open Go Go.Proofs
structure Term where
  name:ByteArray
  level:Int
  assoc:Int
structure bc where
  left:Int
  right:List Int
  prec:Int
structure ay where
  av:List Term
  aw:List ByteArray
  rules:List bc
  start:Int
instance:Inhabited Term:=⟨⟨.empty,0,0⟩⟩
instance:Inhabited bc:=⟨⟨0,[],0⟩⟩
def df (t:Term):List V:=[gs t.name,gi t.level,gi t.assoc]
def bD (r:bc):List V:=[gi r.left,encI r.right,gi r.prec]
def encS (l:List ByteArray):V:=.aL (l.map fun s=>[gs s])
def ax (g:ay):List V:=[.aL (g.av.map df),encS g.aw,.aL (g.rules.map bD),gi g.start]
theorem dg {α:Type} (l:List α) (f:α→List V) (h:∀ x∈l,∀ v∈f x,Tree v):Tree (.aL (l.map f)):=by
  refine .aL _ fun i j hi hj=>?_
  simp only[List.length_map] at hi
  have e:(l.map f).getD i []=f l[i]:=by simp[List.getD_eq_getElem?_getD,hi]
  rw[e] at hj ⊢
  have e2:(f l[i]).getD j .any=(f l[i])[j]:=by simp[List.getD_eq_getElem?_getD,hj]
  rw[e2]
  exact h _ (List.getElem_mem _) _ (List.getElem_mem _)
theorem b9 (cs:List V) (h:∀ v∈cs,Tree v):Tree (.agg cs):=by
  refine .agg _ fun i hi=>?_
  have e2:cs.getD i .any=cs[i]:=by simp[List.getD_eq_getElem?_getD,hi]
  rw[e2]; exact h _ (List.getElem_mem _)
theorem Dd (l:List ByteArray):Tree (encS l):=dg _ _ fun x _ v hv=>by simp at hv; subst hv; exact .val _
theorem Ds (t:Term):∀ v∈df t,Tree v:=by intro v hv; simp[df] at hv; rcases hv with rfl | rfl | rfl <;> exact .val _
theorem rZ (r:bc):∀ v∈bD r,Tree v:=by
  intro v hv; simp[bD] at hv; rcases hv with rfl | rfl | rfl
  · exact .val _
  · exact c6 _
  · exact .val _
theorem cP (g:ay):∀ v∈ax g,Tree v:=by
  intro v hv; simp[ax] at hv; rcases hv with rfl | rfl | rfl | rfl
  · exact dg _ _ fun x _=>Ds x
  · exact Dd _
  · exact dg _ _ fun x _=>rZ x
  · exact .val _
def bJ (x:Int):Prop:=-9223372036854775808≤x∧x≤9223372036854775807
structure ay.Ok (g:ay):Prop where
  av:aR g.av
  aw:aR g.aw
  rules:aR g.rules
  start:bJ g.start
  term:∀ t∈g.av,bJ t.level∧bJ t.assoc
  bQ:∀ r∈g.rules,bJ r.left∧bJ r.prec∧aR r.right∧∀ x∈r.right,bJ x
def l5 (g:ay) (s:Int):Bool:=if 0≤s then decide (s < g.av.length) else decide (-1 - s < g.aw.length)
def pr:SF:=⟨.seq (aq [bz 2 0,aM 4 false]) <|
  .seq (.seq (aq [aa 5 1,au 6 .geq 5 0]) <|
  .cond (.tmp 6) (.seq (aq [aa 7 1,ao 8 0 2,an 9 8,aA 10 9,aC 11 .lss 7 10,aa 4 11]) <|
  .ret) (.skip)) <|
  .seq (aq [aa 12 1,((some 13),.op (.arith .sub (.val (.val (.int .i64 (-1)))) (.tmp 12))),ao 14 1 2,an 15 14,aA 16 15,aC 17 .lss 13 16,aa 4 17]) <|
  .ret,
  [.tmp 4],18⟩
theorem wi:ba Tryz.prog 143 [2]=some pr:=by kernel_rfl
theorem O8 (g:ay) (s:Int) (hs:bJ s) (H:View):aG Tryz.prog 143 [.agg (ax g),gi s] H fun r H'=>r=gb (l5 g s)∧H'=H:=by
  refine aG.of mixed wi ?_
  obtain ⟨h1,h2⟩:=hs
  simp (disch:=omega) only [↓wr,↓reduceIte,wq,ah,ag,ak,ab,ae,af,ai,isNil,Nat.reduceEqDiff,Nat.reduceAdd,Nat.reduceLT,Nat.reduceLeDiff,Int.reduceNeg,Int.reduceToNat,reduceCtorEq,pr,ax,encS]
  refine ar.dec (fun h=>?_) (fun h=>?_)
  · simp (disch:=omega) only [↓wr,↓reduceIte,wq,ah,ag,ak,ab,ae,af,ai,isNil,Nat.reduceEqDiff,Nat.reduceAdd,Nat.reduceLT,Nat.reduceLeDiff,Int.reduceNeg,Int.reduceToNat,reduceCtorEq]
    simp[l5,show (0:Int)≤s from h]
  · simp (disch:=omega) only [↓wr,↓reduceIte,wq,ah,ag,ak,ab,ae,af,ai,isNil,Nat.reduceEqDiff,Nat.reduceAdd,Nat.reduceLT,Nat.reduceLeDiff,Int.reduceNeg,Int.reduceToNat,reduceCtorEq]
    simp[l5,show ¬ (0:Int)≤s from h]
theorem Pn (g:ay) (s:Int) (hs:bJ s):aI Tryz.prog 143 [.agg (ax g),gi s] (gb (l5 g s)) :=
  aI.of (by
    intro v hv; simp at hv
    rcases hv with rfl | rfl
    · exact b9 _ (cP g)
    · exact .val _) ((O8 g s hs _).mono fun r H' h h' _=>by rw[h.1]; exact .tree _ (.val _))
def ll (g:ay):Bool:=decide (40 < g.av.length) || decide (40 < g.aw.length) || decide (60 < g.rules.length) || g.rules.any fun r=>decide (20 < r.right.length)
def kQ:SC :=
  .seq (.seq (aq [aa 20 3,ao 21 2 1,an 22 21,aA 23 22,aC 24 .lss 20 23]) <|
  .cond (.tmp 24) (.skip) (.exit 0)) <|
  .seq (.block 1 (.seq (aq [ao 27 2 1,an 28 27,aa 29 3,aD 30 3 28 29,ao 31 1 30,an 32 31,aA 33 32,au 34 .gtr 33 20]) <|
  .cond (.tmp 34) (.seq (aq [aM 2 true]) <|
  .ret) (.skip))) <|
  aq [aa 25 3,au 26 .add 25 1,aa 3 26]
def mD:SF:=⟨.seq (aq [bz 1 0,aM 2 false]) <|
  .seq (.seq (.region false [⟨none,[ao 4 0 1,an 5 4,aA 6 5,au 7 .gtr 6 40,aa 8 7]⟩,⟨(some (8,false)),[ao 9 1 1,an 10 9,aA 11 10,au 12 .gtr 11 40]⟩,⟨none,[aS 13 8 12,aa 14 13]⟩,⟨(some (14,false)),[ao 15 2 1,an 16 15,aA 17 16,au 18 .gtr 17 60]⟩,⟨none,[aS 19 14 18]⟩]) <|
  .cond (.tmp 19) (.seq (aq [aM 2 true]) <|
  .ret) (.skip)) <|
  .seq (.seq (aq [az 3 0]) <|
  .block 0 (.loop kQ)) <|
  .seq (aq [aM 2 false]) <|
  .ret,
  [.tmp 2],35⟩
theorem tc:ba Tryz.prog 12 [1]=some mD:=by kernel_rfl
theorem MU (g:ay) (H:View):aG Tryz.prog 12 [.agg (ax g)] H fun r H'=>r=gb (ll g)∧H'=H:=by
  refine aG.of mixed tc ?_
  simp (disch:=omega) only [↓wr,↓reduceIte,wq,ah,ag,ak,ab,ae,af,ai,isNil,Nat.reduceEqDiff,Nat.reduceAdd,Nat.reduceLT,Nat.reduceLeDiff,Int.reduceNeg,Int.reduceToNat,reduceCtorEq,mD,ax,encS]
  refine ar.dec (fun h1=>?_) (fun h1=>?_)
  · simp (disch:=omega) only [↓wr,↓reduceIte,wq,ah,ag,ak,ab,ae,af,ai,isNil,Nat.reduceEqDiff,Nat.reduceAdd,Nat.reduceLT,Nat.reduceLeDiff,Int.reduceNeg,Int.reduceToNat,reduceCtorEq]
    simp[ll,show 40 < g.av.length by omega]
  · simp (disch:=omega) only [↓wr,↓reduceIte,wq,ah,ag,ak,ab,ae,af,ai,isNil,Nat.reduceEqDiff,Nat.reduceAdd,Nat.reduceLT,Nat.reduceLeDiff,Int.reduceNeg,Int.reduceToNat,reduceCtorEq]
    refine ar.dec (fun h2=>?_) (fun h2=>?_)
    · simp (disch:=omega) only [↓wr,↓reduceIte,wq,ah,ag,ak,ab,ae,af,ai,isNil,Nat.reduceEqDiff,Nat.reduceAdd,Nat.reduceLT,Nat.reduceLeDiff,Int.reduceNeg,Int.reduceToNat,reduceCtorEq]
      simp[ll,show 40 < g.aw.length by omega]
    · simp (disch:=omega) only [↓wr,↓reduceIte,wq,ah,ag,ak,ab,ae,af,ai,isNil,Nat.reduceEqDiff,Nat.reduceAdd,Nat.reduceLT,Nat.reduceLeDiff,Int.reduceNeg,Int.reduceToNat,reduceCtorEq]
      refine ar.dec (fun h3=>?_) (fun h3=>?_)
      · simp (disch:=omega) only [↓wr,↓reduceIte,wq,ah,ag,ak,ab,ae,af,ai,isNil,Nat.reduceEqDiff,Nat.reduceAdd,Nat.reduceLT,Nat.reduceLeDiff,Int.reduceNeg,Int.reduceToNat,reduceCtorEq]
        simp[ll,show 60 < g.rules.length by omega]
      · simp (disch:=omega) only [↓wr,↓reduceIte,wq,ah,ag,ak,ab,ae,af,ai,isNil,Nat.reduceEqDiff,Nat.reduceAdd,Nat.reduceLT,Nat.reduceLeDiff,Int.reduceNeg,Int.reduceToNat,reduceCtorEq]
        refine bp.intro (fun k T H'=>∃ i:Nat,i+k=g.rules.length∧(∀ r∈g.rules.take i,¬ 20 < r.right.length)∧T 1=.aQ (ax g) 0∧T 3=gi i∧H'=H) g.rules.length ?_ ?_
        · exact ⟨0,by omega,by simp,rfl,rfl,rfl⟩
        · rintro k T H' ⟨i,hk,hi,e1,e3,rfl⟩
          simp (disch:=omega) only [↓wr,↓reduceIte,wq,ah,ag,ak,ab,ae,af,ai,isNil,Nat.reduceEqDiff,Nat.reduceAdd,Nat.reduceLT,Nat.reduceLeDiff,Int.reduceNeg,Int.reduceToNat,reduceCtorEq,kQ,e1,e3,ax]
          refine ar.dec (fun hc=>?_) (fun hc=>?_)
          · have hg:g.rules[i]?=some (g.rules[i]'(by omega)):=List.getElem?_eq_getElem (by omega)
            simp (disch:=omega) only [↓wr,↓reduceIte,wq,ah,ag,ak,ab,ae,af,ai,isNil,Nat.reduceEqDiff,Nat.reduceAdd,Nat.reduceLT,Nat.reduceLeDiff,Int.reduceNeg,Int.reduceToNat,reduceCtorEq,e1,e3,ax,bD,encI,List.getElem?_map,hg,Option.map_some]
            refine ar.dec (fun hd=>?_) (fun hd=>?_)
            · simp (disch:=omega) only [↓wr,↓reduceIte,wq,ah,ag,ak,ab,ae,af,ai,isNil,Nat.reduceEqDiff,Nat.reduceAdd,Nat.reduceLT,Nat.reduceLeDiff,Int.reduceNeg,Int.reduceToNat,reduceCtorEq]
              have:g.rules.any (fun r=>decide (20 < r.right.length))=true:=by
                simp only[List.any_eq_true,decide_eq_true_eq]
                exact ⟨g.rules[i]'(by omega),List.getElem_mem _,by omega⟩
              simp[ll,this]
            · simp (disch:=omega) only [↓wr,↓reduceIte,wq,ah,ag,ak,ab,ae,af,ai,isNil,Nat.reduceEqDiff,Nat.reduceAdd,Nat.reduceLT,Nat.reduceLeDiff,Int.reduceNeg,Int.reduceToNat,reduceCtorEq,e1,e3]
              refine ⟨k - 1,by omega,i+1,by omega,?_,rfl,rfl⟩
              intro r hr
              rw[List.take_add_one,hg] at hr
              simp only[Option.toList_some,List.mem_append,List.mem_singleton] at hr
              rcases hr with hr | rfl
              · exact hi r hr
              · omega
          · simp (disch:=omega) only [↓wr,↓reduceIte,wq,ah,ag,ak,ab,ae,af,ai,isNil,Nat.reduceEqDiff,Nat.reduceAdd,Nat.reduceLT,Nat.reduceLeDiff,Int.reduceNeg,Int.reduceToNat,reduceCtorEq,e1,e3]
            have e:i=g.rules.length:=by omega
            rw[List.take_of_length_le (by omega)] at hi
            have:g.rules.any (fun r=>decide (20 < r.right.length))=false:=by
              simp only[List.any_eq_false,decide_eq_true_eq]; exact hi
            simp only[ll,this]
            simp; omega
def dP (l:List Int) (is:List Bool) (av:Bool):Bool:=l.all fun s=>if 0≤s then av else is.getD (-1 - s).toNat false
def mI:SC :=
  .seq (.seq (aq [aa 8 7,aa 9 0,aA 10 9,aC 11 .lss 8 10]) <|
  .cond (.tmp 11) (.skip) (.exit 0)) <|
  .seq (.block 1 (.seq (.region false [⟨none,[aa 14 0,aa 15 7,aD 16 1 14 15,an 17 16,au 18 .geq 17 0,aa 19 18]⟩,⟨(some (19,true)),[aa 20 2,bC 21 20]⟩,⟨none,[bq 22 19 21,aa 23 22]⟩,⟨(some (23,false)),[aa 24 0,aa 25 7,aD 26 1 24 25,an 27 26,au 28 .lss 27 0,aa 29 28]⟩,⟨(some (29,true)),[aa 30 1,aa 31 0,aa 32 7,aD 33 1 31 32,an 34 33,((some 35),.op (.arith .sub (.val (.val (.int .i64 (-1)))) (.tmp 34))),aD 36 1 30 35,an 37 36,bC 38 37]⟩,⟨(some (23,false)),[bq 39 29 38]⟩,⟨none,[aS 40 23 39]⟩]) <|
  .cond (.tmp 40) (.seq (aq [aM 6 false]) <|
  .ret) (.skip))) <|
  aq [aa 12 7,au 13 .add 12 1,aa 7 13]
def pt:SF:=⟨.seq (aq [aM 6 false]) <|
  .seq (.seq (aq [az 7 0]) <|
  .block 0 (.loop mI)) <|
  .seq (aq [aM 6 true]) <|
  .ret,
  [.tmp 6],41⟩
theorem vB:ba Tryz.prog 117 []=some pt:=by kernel_rfl
theorem PL (l:List Int) (is:List Bool) (t:Bool) (hl:aR l) (hs:∀ s∈l,bJ s∧(s < 0→-1 - s < is.length)) (H:View) :
    aG Tryz.prog 117 [encI l,cY is,gb t] H fun r H'=>r=gb (dP l is t)∧H'=H:=by
  refine aG.of mixed vB ?_
  unfold aR at hl
  simp (disch:=omega) only [↓wr,↓reduceIte,wq,ah,ag,ak,ab,ae,af,ai,isNil,Nat.reduceEqDiff,Nat.reduceAdd,Nat.reduceLT,Nat.reduceLeDiff,Int.reduceNeg,Int.reduceToNat,reduceCtorEq,pt]
  refine bp.intro (fun k T H'=>∃ i:Nat,i+k=l.length∧dP (l.take i) is t=true∧T 0=encI l∧T 1=cY is∧T 2=gb t∧T 7=gi i∧H'=H) l.length ?_ ?_
  · exact ⟨0,by omega,by simp[dP],rfl,rfl,rfl,rfl,rfl⟩
  · rintro k T H' ⟨i,hk,hi,h0,h1,h2,h7,rfl⟩
    simp (disch:=omega) only [↓wr,↓reduceIte,wq,ah,ag,ak,ab,ae,af,ai,isNil,Nat.reduceEqDiff,Nat.reduceAdd,Nat.reduceLT,Nat.reduceLeDiff,Int.reduceNeg,Int.reduceToNat,reduceCtorEq,mI,h0,h1,h2,h7,encI]
    refine ar.dec (fun hc=>?_) (fun hc=>?_)
    · have hg:l[i]?=some (l[i]'(by omega)):=List.getElem?_eq_getElem (by omega)
      have hm:l[i]'(by omega)∈l:=List.getElem_mem _
      generalize l[i]'(by omega)=s at hg hm
      obtain ⟨⟨hs1,hs2⟩,hs3⟩:=hs s hm
      have hstep:dP (l.take (i+1)) is t=(if 0≤s then t else is.getD (-1 - s).toNat false):=by
        rw[List.take_add_one,hg]
        simp only[dP,Option.toList_some,List.all_append,List.all_cons,List.all_nil,Bool.and_true] at hi ⊢
        rw[hi,Bool.true_and]
      have hfail:(if 0≤s then t else is.getD (-1 - s).toNat false)=false→dP l is t=false:=by
        intro hb
        simp only[dP,List.all_eq_false]
        exact ⟨s,hm,by simpa using hb⟩
      simp (disch:=omega) only [↓wr,↓reduceIte,wq,ah,ag,ak,ab,ae,af,ai,isNil,Nat.reduceEqDiff,Nat.reduceAdd,Nat.reduceLT,Nat.reduceLeDiff,Int.reduceNeg,Int.reduceToNat,reduceCtorEq,h0,h1,h2,h7,encI,List.getElem?_map,hg,Option.map_some]
      refine ar.dec (fun hd=>?_) (fun hd=>?_)
      · rw[if_pos (show 0≤s from hd)] at hstep hfail
        cases t with
        | true =>
          simp (disch:=omega) only [↓wr,↓reduceIte,wq,ah,ag,ak,ab,ae,af,ai,isNil,Nat.reduceEqDiff,Nat.reduceAdd,Nat.reduceLT,Nat.reduceLeDiff,Int.reduceNeg,Int.reduceToNat,reduceCtorEq,h0,h1,h2,h7,encI,List.getElem?_map,hg,Option.map_some]
          refine ar.dec (fun hn=>absurd hn (by omega)) (fun _=>?_)
          simp (disch:=omega) only [↓wr,↓reduceIte,wq,ah,ag,ak,ab,ae,af,ai,isNil,Nat.reduceEqDiff,Nat.reduceAdd,Nat.reduceLT,Nat.reduceLeDiff,Int.reduceNeg,Int.reduceToNat,reduceCtorEq,h0,h1,h2,h7,encI,cY,List.getElem?_map,hg,Option.map_some]
          exact ⟨k - 1,by omega,i+1,by omega,hstep,rfl⟩
        | false =>
          simp (disch:=omega) only [↓wr,↓reduceIte,wq,ah,ag,ak,ab,ae,af,ai,isNil,Nat.reduceEqDiff,Nat.reduceAdd,Nat.reduceLT,Nat.reduceLeDiff,Int.reduceNeg,Int.reduceToNat,reduceCtorEq,h0,h1,h2,h7,encI,List.getElem?_map,hg,Option.map_some]
          rw[hfail rfl]
      · rw[if_neg (show ¬ 0≤s from hd)] at hstep hfail
        simp (disch:=omega) only [↓wr,↓reduceIte,wq,ah,ag,ak,ab,ae,af,ai,isNil,Nat.reduceEqDiff,Nat.reduceAdd,Nat.reduceLT,Nat.reduceLeDiff,Int.reduceNeg,Int.reduceToNat,reduceCtorEq,h0,h1,h2,h7,encI,List.getElem?_map,hg,Option.map_some]
        refine ar.dec (fun hn=>?_) (fun hn=>absurd hn (by omega))
        have hb:is[(-1 - s).toNat]?=some (is[(-1 - s).toNat]'(by omega)):=List.getElem?_eq_getElem (by omega)
        have hbd:is.getD (-1 - s).toNat false=is[(-1 - s).toNat]'(by omega):=by simp[List.getD_eq_getElem?_getD,hb]
        rw[hbd] at hstep hfail
        generalize is[(-1 - s).toNat]'(by omega)=b at hb hstep hfail
        simp (disch:=omega) only [↓wr,↓reduceIte,wq,ah,ag,ak,ab,ae,af,ai,isNil,Nat.reduceEqDiff,Nat.reduceAdd,Nat.reduceLT,Nat.reduceLeDiff,Int.reduceNeg,Int.reduceToNat,reduceCtorEq,h0,h1,h2,h7,encI,cY,List.getElem?_map,hg,hb,Option.map_some]
        cases b with
        | true =>
          simp (disch:=omega) only [↓wr,↓reduceIte,wq,ah,ag,ak,ab,ae,af,ai,isNil,Nat.reduceEqDiff,Nat.reduceAdd,Nat.reduceLT,Nat.reduceLeDiff,Int.reduceNeg,Int.reduceToNat,reduceCtorEq,h0,h1,h2,h7,encI,cY,List.getElem?_map,hg,hb,Option.map_some]
          exact ⟨k - 1,by omega,i+1,by omega,hstep,rfl⟩
        | false =>
          simp (disch:=omega) only [↓wr,↓reduceIte,wq,ah,ag,ak,ab,ae,af,ai,isNil,Nat.reduceEqDiff,Nat.reduceAdd,Nat.reduceLT,Nat.reduceLeDiff,Int.reduceNeg,Int.reduceToNat,reduceCtorEq,h0,h1,h2,h7,encI,cY,List.getElem?_map,hg,hb,Option.map_some]
          rw[hfail rfl]
    · simp (disch:=omega) only [↓wr,↓reduceIte,wq,ah,ag,ak,ab,ae,af,ai,isNil,Nat.reduceEqDiff,Nat.reduceAdd,Nat.reduceLT,Nat.reduceLeDiff,Int.reduceNeg,Int.reduceToNat,reduceCtorEq,h0,h1,h2,h7]
      have e:i=l.length:=by omega
      rw[List.take_of_length_le (by omega)] at hi
      rw[hi]
abbrev gy (x:Int):V:=.val (.int .u8 x)
def uF (c:Int):Bool:=(decide (97≤c) && decide (c≤122)) || (decide (65≤c) && decide (c≤90)) || c == 95
def lu (c:Int):Bool:=uF c || (decide (48≤c) && decide (c≤57)) || c == 46
def mJ:SF:=⟨.seq (aq [aM 2 false]) <|
  .seq (.region false [⟨none,[aa 3 0,((some 4),.op (.arith .geq (.tmp 3) (.val (.val (.int .u8 97))))),aa 5 4]⟩,⟨(some (5,true)),[aa 6 0,((some 7),.op (.arith .leq (.tmp 6) (.val (.val (.int .u8 122)))))]⟩,⟨none,[bq 8 5 7,aa 9 8]⟩,⟨(some (9,false)),[aa 10 0,((some 11),.op (.arith .geq (.tmp 10) (.val (.val (.int .u8 65))))),aa 12 11]⟩,⟨(some (12,true)),[aa 13 0,((some 14),.op (.arith .leq (.tmp 13) (.val (.val (.int .u8 90)))))]⟩,⟨(some (9,false)),[bq 15 12 14]⟩,⟨none,[aS 16 9 15,aa 17 16]⟩,⟨(some (17,false)),[aa 18 0,((some 19),.op (.arith .eql (.tmp 18) (.val (.val (.int .u8 95)))))]⟩,⟨none,[aS 20 17 19,aa 2 20]⟩]) <|
  .ret,
  [.tmp 2],21⟩
theorem s7:ba Tryz.prog 192 []=some mJ:=by kernel_rfl
def mA:SF:=⟨.seq (aq [aM 2 false]) <|
  .seq (.region false [⟨none,[aa 3 0,aJ 4 192 [3],aa 5 4]⟩,⟨(some (5,false)),[aa 6 0,((some 7),.op (.arith .geq (.tmp 6) (.val (.val (.int .u8 48))))),aa 8 7]⟩,⟨(some (8,true)),[aa 9 0,((some 10),.op (.arith .leq (.tmp 9) (.val (.val (.int .u8 57)))))]⟩,⟨(some (5,false)),[bq 11 8 10]⟩,⟨none,[aS 12 5 11,aa 13 12]⟩,⟨(some (13,false)),[aa 14 0,((some 15),.op (.arith .eql (.tmp 14) (.val (.val (.int .u8 46)))))]⟩,⟨none,[aS 16 13 15,aa 2 16]⟩]) <|
  .ret,
  [.tmp 2],17⟩
theorem tg:ba Tryz.prog 193 []=some mA:=by kernel_rfl
theorem MX (c:Int) (H:View):aG Tryz.prog 192 [gy c] H fun r H'=>r=gb (uF c)∧H'=H:=by
  refine aG.of mixed s7 ?_
  repeat' (first | (refine ar.dec (fun _=>?_) (fun _=>?_)) | (refine ar.eq (fun _=>?_) (fun _=>?_)) | (refine ar.ne (fun _=>?_) (fun _=>?_)) | (refine ar.split (fun _=>?_) (fun _=>?_)) | (simp (disch:=omega) only [↓wr,↓reduceIte,wq,ah,ag,ak,ab,ae,af,ai,isNil,Nat.reduceEqDiff,Nat.reduceAdd,Nat.reduceLT,Nat.reduceLeDiff,Int.reduceNeg,Int.reduceToNat,reduceCtorEq,mJ]))
  all_goals (congr 2; simp only[uF]; grind)
theorem Gj (c:Int):aI Tryz.prog 192 [gy c] (gb (uF c)) :=
  aI.of (by intro v hv; simp at hv; subst hv; exact .val _) ((MX c _).mono fun r H' h h' _=>by rw[h.1]; exact .tree _ (.val _))
theorem MA (c:Int) (H:View):aG Tryz.prog 193 [gy c] H fun r H'=>r=gb (lu c)∧H'=H:=by
  refine aG.of mixed tg ?_
  repeat' (first | (refine ar.dec (fun _=>?_) (fun _=>?_)) | (refine ar.eq (fun _=>?_) (fun _=>?_)) | (refine ar.ne (fun _=>?_) (fun _=>?_)) | (refine ar.split (fun _=>?_) (fun _=>?_)) | (simp (disch:=omega) only [↓wr,↓reduceIte,wq,ah,ag,ak,ab,ae,af,ai,isNil,Nat.reduceEqDiff,Nat.reduceAdd,Nat.reduceLT,Nat.reduceLeDiff,Int.reduceNeg,Int.reduceToNat,reduceCtorEq,mA]))
  refine aN.pure (Gj c) (by kernel_rfl) ?_
  repeat' (first | (refine ar.dec (fun _=>?_) (fun _=>?_)) | (refine ar.eq (fun _=>?_) (fun _=>?_)) | (refine ar.ne (fun _=>?_) (fun _=>?_)) | (refine ar.split (fun _=>?_) (fun _=>?_)) | (simp (disch:=omega) only [↓wr,↓reduceIte,wq,ah,ag,ak,ab,ae,af,ai,isNil,Nat.reduceEqDiff,Nat.reduceAdd,Nat.reduceLT,Nat.reduceLeDiff,Int.reduceNeg,Int.reduceToNat,reduceCtorEq]))
  all_goals (congr 2; simp only[lu]; grind)
theorem M5 (c:Int):aI Tryz.prog 193 [gy c] (gb (lu c)) :=
  aI.of (by intro v hv; simp at hv; subst hv; exact .val _) ((MA c _).mono fun r H' h h' _=>by rw[h.1]; exact .tree _ (.val _))
def eO (l:List Int):Bool:=decide (0 < l.length) && decide (l.length≤20) && (match l with | c :: _=>uF c | []=>false) && l.all lu
def lj:SC :=
  .seq (.seq (aq [aa 18 3,aa 19 0,((some 20),.op (.fY (.tmp 19))),aC 21 .lss 18 20]) <|
  .cond (.tmp 21) (.skip) (.exit 0)) <|
  .seq (.block 1 (.seq (aq [aa 24 0,aa 25 3,((some 26),.op (.cM (.tmp 24) (.tmp 25))),aJ 27 193 [26],bC 28 27]) <|
  .cond (.tmp 28) (.seq (aq [aM 2 false]) <|
  .ret) (.skip))) <|
  aq [aa 22 3,au 23 .add 22 1,aa 3 23]
def nY:SF:=⟨.seq (aq [aM 2 false]) <|
  .seq (.seq (.region false [⟨none,[aa 4 0,((some 5),.op (.fY (.tmp 4))),au 6 .eql 5 0,aa 7 6]⟩,⟨(some (7,false)),[aa 8 0,((some 9),.op (.fY (.tmp 8))),au 10 .gtr 9 20]⟩,⟨none,[aS 11 7 10,aa 12 11]⟩,⟨(some (12,false)),[aa 13 0,((some 14),.op (.cM (.tmp 13) (.val (.val (.int .i64 0))))),aJ 15 192 [14],bC 16 15]⟩,⟨none,[aS 17 12 16]⟩]) <|
  .cond (.tmp 17) (.seq (aq [aM 2 false]) <|
  .ret) (.skip)) <|
  .seq (.seq (aq [az 3 0]) <|
  .block 0 (.loop lj)) <|
  .seq (aq [aM 2 true]) <|
  .ret,
  [.tmp 2],29⟩
theorem tw:ba Tryz.prog 142 []=some nY:=by kernel_rfl
theorem Kb (s:ByteArray) (H:View):aG Tryz.prog 142 [gs s] H fun r H'=>r=gb (eO (dR s))∧H'=H:=by
  refine aG.of mixed tw ?_
  repeat' (first | (refine ar.dec (fun _=>?_) (fun _=>?_)) | (refine ar.eq (fun _=>?_) (fun _=>?_)) | (refine ar.ne (fun _=>?_) (fun _=>?_)) | (refine ar.split (fun _=>?_) (fun _=>?_)) | (simp (disch:=omega) only [↓wr,↓reduceIte,wq,ah,ag,ak,ab,ae,af,ai,isNil,Nat.reduceEqDiff,Nat.reduceAdd,Nat.reduceLT,Nat.reduceLeDiff,Int.reduceNeg,Int.reduceToNat,reduceCtorEq,nY,de]))
  · rename_i h
    congr 2; simp[eO,show (dR s).length=0 by omega]
  · rename_i h
    congr 2; simp[eO,show ¬ (dR s).length≤20 by omega]
  · rename_i h1 h2
    cases hb:dR s with
    | nil=>simp[hb] at h1
    | cons c l =>
      repeat' (first | (refine ar.dec (fun _=>?_) (fun _=>?_)) | (refine ar.eq (fun _=>?_) (fun _=>?_)) | (refine ar.ne (fun _=>?_) (fun _=>?_)) | (refine ar.split (fun _=>?_) (fun _=>?_)) | (simp (disch:=omega) only [↓wr,↓reduceIte,wq,ah,ag,ak,ab,ae,af,ai,isNil,Nat.reduceEqDiff,Nat.reduceAdd,Nat.reduceLT,Nat.reduceLeDiff,Int.reduceNeg,Int.reduceToNat,reduceCtorEq,hb,List.getElem?_cons_zero,de]))
      refine aN.pure (Gj c) (by kernel_rfl) ?_
      repeat' (first | (refine ar.dec (fun _=>?_) (fun _=>?_)) | (refine ar.eq (fun _=>?_) (fun _=>?_)) | (refine ar.ne (fun _=>?_) (fun _=>?_)) | (refine ar.split (fun _=>?_) (fun _=>?_)) | (simp (disch:=omega) only [↓wr,↓reduceIte,wq,ah,ag,ak,ab,ae,af,ai,isNil,Nat.reduceEqDiff,Nat.reduceAdd,Nat.reduceLT,Nat.reduceLeDiff,Int.reduceNeg,Int.reduceToNat,reduceCtorEq,hb,List.getElem?_cons_zero,de]))
      · rename_i hf
        refine bp.intro (fun k T H'=>∃ i:Nat,i+k=(c :: l).length∧((c :: l).take i).all lu=true∧T 0=gs s∧T 3=gi i∧H'=H) (c :: l).length ?_ ?_
        · exact ⟨0,by omega,by simp,rfl,rfl,rfl⟩
        · rintro k T H' ⟨i,hk,hi,h0,h3,rfl⟩
          rw[hb] at h1 h2
          simp (disch:=omega) only [↓wr,↓reduceIte,wq,ah,ag,ak,ab,ae,af,ai,isNil,Nat.reduceEqDiff,Nat.reduceAdd,Nat.reduceLT,Nat.reduceLeDiff,Int.reduceNeg,Int.reduceToNat,reduceCtorEq,lj,h0,h3,de,hb]
          refine ar.dec (fun hc=>?_) (fun hc=>?_)
          · simp only[List.length_cons] at hc hk h2
            have hg:(c :: l)[i]?=some ((c :: l)[i]'(by simp; omega)):=List.getElem?_eq_getElem (by simp; omega)
            have hm:(c :: l)[i]'(by simp; omega)∈c :: l:=List.getElem_mem _
            generalize (c :: l)[i]'(by simp; omega)=d at hg hm
            simp (disch:=omega) only [↓wr,↓reduceIte,wq,ah,ag,ak,ab,ae,af,ai,isNil,Nat.reduceEqDiff,Nat.reduceAdd,Nat.reduceLT,Nat.reduceLeDiff,Int.reduceNeg,Int.reduceToNat,reduceCtorEq,h0,h3,de,hb,hg]
            refine aN.pure (M5 d) (by kernel_rfl) ?_
            repeat' (first | (refine ar.dec (fun _=>?_) (fun _=>?_)) | (refine ar.eq (fun _=>?_) (fun _=>?_)) | (refine ar.ne (fun _=>?_) (fun _=>?_)) | (refine ar.split (fun _=>?_) (fun _=>?_)) | (simp (disch:=omega) only [↓wr,↓reduceIte,wq,ah,ag,ak,ab,ae,af,ai,isNil,Nat.reduceEqDiff,Nat.reduceAdd,Nat.reduceLT,Nat.reduceLeDiff,Int.reduceNeg,Int.reduceToNat,reduceCtorEq,h0,h3,de,hb,hg]))
            · rename_i hd
              refine ⟨k - 1,by omega,i+1,by omega,?_,rfl⟩
              rw[List.take_add_one,hg]
              simp only[Option.toList_some,List.all_append,hi,List.all_cons,hd,List.all_nil,Bool.and_self]
            · rename_i hd
              congr 2
              have:(c :: l).all lu=false:=by
                rw[List.all_eq_false]; exact ⟨d,hm,by simp[hd]⟩
              simp only[eO,this,Bool.and_false]
          · simp (disch:=omega) only [↓wr,↓reduceIte,wq,ah,ag,ak,ab,ae,af,ai,isNil,Nat.reduceEqDiff,Nat.reduceAdd,Nat.reduceLT,Nat.reduceLeDiff,Int.reduceNeg,Int.reduceToNat,reduceCtorEq,h0,h3]
            simp only[List.length_cons] at hc hk h2
            rw[List.take_of_length_le (by simp; omega)] at hi
            congr 2
            simp only[eO,hi,List.length_cons]
            simp[hf]; omega
      · rename_i hf
        congr 2; simp[eO,hf]
def kc:List Int→Bool
  | [a,b,c]=>a == 39 && c == 39 && decide (32≤b) && decide (b≤126) && b != 39 && b != 92
  | [a,b,c,d]=>a == 39 && d == 39 && b == 92 && (c == 110 || c == 116 || c == 92 || c == 39)
  | _=>false
theorem Na {l:List Int} (h3:l.length≠3) (h4:l.length≠4):kc l=false:=by
  match l,h3,h4 with
  | [],_,_=>rfl
  | [_],_,_=>rfl
  | [_,_],_,_=>rfl
  | [_,_,_],h3,_=>exact absurd rfl h3
  | [_,_,_,_],_,h4=>exact absurd rfl h4
  | _ :: _ :: _ :: _ :: _ :: _,_,_=>rfl
theorem QR {α:Type} {l:List α} (h:l.length=3):∃ a b c,l=[a,b,c]:=by
  match l,h with
  | [a,b,c],_=>exact ⟨a,b,c,rfl⟩
theorem QJ {α:Type} {l:List α} (h:l.length=4):∃ a b c d,l=[a,b,c,d]:=by
  match l,h with
  | [a,b,c,d],_=>exact ⟨a,b,c,d,rfl⟩
def ky:SF:=⟨.seq (aq [aM 2 false]) <|
  .seq (.seq (aq [aa 3 0,((some 4),.op (.fY (.tmp 3))),au 5 .eql 4 3]) <|
  .cond (.tmp 5) (.seq (.region false [⟨none,[aa 6 0,((some 7),.op (.cM (.tmp 6) (.val (.val (.int .i64 0))))),((some 8),.op (.arith .eql (.tmp 7) (.val (.val (.int .u8 39))))),aa 9 8]⟩,⟨(some (9,true)),[aa 10 0,((some 11),.op (.cM (.tmp 10) (.val (.val (.int .i64 2))))),((some 12),.op (.arith .eql (.tmp 11) (.val (.val (.int .u8 39)))))]⟩,⟨none,[bq 13 9 12,aa 14 13]⟩,⟨(some (14,true)),[aa 15 0,((some 16),.op (.cM (.tmp 15) (.val (.val (.int .i64 1))))),((some 17),.op (.arith .geq (.tmp 16) (.val (.val (.int .u8 32)))))]⟩,⟨none,[bq 18 14 17,aa 19 18]⟩,⟨(some (19,true)),[aa 20 0,((some 21),.op (.cM (.tmp 20) (.val (.val (.int .i64 1))))),((some 22),.op (.arith .leq (.tmp 21) (.val (.val (.int .u8 126)))))]⟩,⟨none,[bq 23 19 22,aa 24 23]⟩,⟨(some (24,true)),[aa 25 0,((some 26),.op (.cM (.tmp 25) (.val (.val (.int .i64 1))))),((some 27),.op (.arith .neq (.tmp 26) (.val (.val (.int .u8 39)))))]⟩,⟨none,[bq 28 24 27,aa 29 28]⟩,⟨(some (29,true)),[aa 30 0,((some 31),.op (.cM (.tmp 30) (.val (.val (.int .i64 1))))),((some 32),.op (.arith .neq (.tmp 31) (.val (.val (.int .u8 92)))))]⟩,⟨none,[bq 33 29 32,aa 2 33]⟩]) <|
  .ret) (.skip)) <|
  .seq (.region false [⟨none,[aa 34 0,((some 35),.op (.fY (.tmp 34))),au 36 .eql 35 4,aa 37 36]⟩,⟨(some (37,true)),[aa 38 0,((some 39),.op (.cM (.tmp 38) (.val (.val (.int .i64 0))))),((some 40),.op (.arith .eql (.tmp 39) (.val (.val (.int .u8 39)))))]⟩,⟨none,[bq 41 37 40,aa 42 41]⟩,⟨(some (42,true)),[aa 43 0,((some 44),.op (.cM (.tmp 43) (.val (.val (.int .i64 3))))),((some 45),.op (.arith .eql (.tmp 44) (.val (.val (.int .u8 39)))))]⟩,⟨none,[bq 46 42 45,aa 47 46]⟩,⟨(some (47,true)),[aa 48 0,((some 49),.op (.cM (.tmp 48) (.val (.val (.int .i64 1))))),((some 50),.op (.arith .eql (.tmp 49) (.val (.val (.int .u8 92)))))]⟩,⟨none,[bq 51 47 50,aa 52 51]⟩,⟨(some (52,true)),[aa 53 0,((some 54),.op (.cM (.tmp 53) (.val (.val (.int .i64 2))))),((some 55),.op (.arith .eql (.tmp 54) (.val (.val (.int .u8 110))))),aa 56 55]⟩,⟨(some (56,false)),[aa 57 0,((some 58),.op (.cM (.tmp 57) (.val (.val (.int .i64 2))))),((some 59),.op (.arith .eql (.tmp 58) (.val (.val (.int .u8 116)))))]⟩,⟨(some (52,true)),[aS 60 56 59,aa 61 60]⟩,⟨(some (61,false)),[aa 62 0,((some 63),.op (.cM (.tmp 62) (.val (.val (.int .i64 2))))),((some 64),.op (.arith .eql (.tmp 63) (.val (.val (.int .u8 92)))))]⟩,⟨(some (52,true)),[aS 65 61 64,aa 66 65]⟩,⟨(some (66,false)),[aa 67 0,((some 68),.op (.cM (.tmp 67) (.val (.val (.int .i64 2))))),((some 69),.op (.arith .eql (.tmp 68) (.val (.val (.int .u8 39)))))]⟩,⟨(some (52,true)),[aS 70 66 69]⟩,⟨none,[bq 71 52 70,aa 2 71]⟩]) <|
  .ret,
  [.tmp 2],72⟩
theorem qo:ba Tryz.prog 191 []=some ky:=by kernel_rfl
def mn:SF:=⟨.seq (aq [aM 2 false]) <|
  .seq (.region false [⟨none,[aa 3 0,aJ 4 142 [3],aa 5 4]⟩,⟨(some (5,false)),[aa 6 0,aJ 7 191 [6]]⟩,⟨none,[aS 8 5 7,aa 2 8]⟩]) <|
  .ret,
  [.tmp 2],9⟩
theorem sN:ba Tryz.prog 139 []=some mn:=by kernel_rfl
set_option maxHeartbeats 1000000 in
theorem MR (s:ByteArray) (H:View):aG Tryz.prog 191 [gs s] H fun r H'=>r=gb (kc (dR s))∧H'=H:=by
  refine aG.of mixed qo ?_
  simp (disch:=omega) only [↓wr,↓reduceIte,wq,ah,ag,ak,ab,ae,af,ai,isNil,Nat.reduceEqDiff,Nat.reduceAdd,Nat.reduceLT,Nat.reduceLeDiff,Int.reduceNeg,Int.reduceToNat,reduceCtorEq,ky,de]
  refine ar.eq (fun h=>?_) (fun h=>?_)
  · obtain ⟨a,b,c,hb⟩:=QR (l:=dR s) (by omega)
    repeat' (first | (refine ar.dec (fun _=>?_) (fun _=>?_)) | (refine ar.eq (fun _=>?_) (fun _=>?_)) | (refine ar.ne (fun _=>?_) (fun _=>?_)) | (refine ar.split (fun _=>?_) (fun _=>?_)) | (simp (disch:=omega) only [↓wr,↓reduceIte,wq,ah,ag,ak,ab,ae,af,ai,isNil,Nat.reduceEqDiff,Nat.reduceAdd,Nat.reduceLT,Nat.reduceLeDiff,Int.reduceNeg,Int.reduceToNat,reduceCtorEq,hb,List.getElem?_cons_zero,List.getElem?_cons_succ]))
    all_goals (congr 2; simp only[kc]; grind)
  · simp (disch:=omega) only [↓wr,↓reduceIte,wq,ah,ag,ak,ab,ae,af,ai,isNil,Nat.reduceEqDiff,Nat.reduceAdd,Nat.reduceLT,Nat.reduceLeDiff,Int.reduceNeg,Int.reduceToNat,reduceCtorEq,de]
    refine ar.eq (fun h4=>?_) (fun h4=>?_)
    · obtain ⟨a,b,c,d,hb⟩:=QJ (l:=dR s) (by omega)
      repeat' (first | (refine ar.dec (fun _=>?_) (fun _=>?_)) | (refine ar.eq (fun _=>?_) (fun _=>?_)) | (refine ar.ne (fun _=>?_) (fun _=>?_)) | (refine ar.split (fun _=>?_) (fun _=>?_)) | (simp (disch:=omega) only [↓wr,↓reduceIte,wq,ah,ag,ak,ab,ae,af,ai,isNil,Nat.reduceEqDiff,Nat.reduceAdd,Nat.reduceLT,Nat.reduceLeDiff,Int.reduceNeg,Int.reduceToNat,reduceCtorEq,hb,List.getElem?_cons_zero,List.getElem?_cons_succ]))
      all_goals (congr 2; simp only[kc]; grind)
    · repeat' (first | (refine ar.dec (fun _=>?_) (fun _=>?_)) | (refine ar.eq (fun _=>?_) (fun _=>?_)) | (refine ar.ne (fun _=>?_) (fun _=>?_)) | (refine ar.split (fun _=>?_) (fun _=>?_)) | (simp (disch:=omega) only [↓wr,↓reduceIte,wq,ah,ag,ak,ab,ae,af,ai,isNil,Nat.reduceEqDiff,Nat.reduceAdd,Nat.reduceLT,Nat.reduceLeDiff,Int.reduceNeg,Int.reduceToNat,reduceCtorEq,de]))
      rw[Na (by omega) (by omega)]
theorem m8 (s:ByteArray):∀ v∈[gs s],Tree v:=by intro v hv; simp at hv; subst hv; exact .val _
theorem DD (s:ByteArray):aI Tryz.prog 142 [gs s] (gb (eO (dR s))) :=
  aI.of (m8 s) ((Kb s _).mono fun r H' h h' _=>by rw[h.1]; exact .tree _ (.val _))
theorem Mk (s:ByteArray):aI Tryz.prog 191 [gs s] (gb (kc (dR s))) :=
  aI.of (m8 s) ((MR s _).mono fun r H' h h' _=>by rw[h.1]; exact .tree _ (.val _))
def nM (l:List Int):Bool:=eO l || kc l
theorem Jl (s:ByteArray) (H:View):aG Tryz.prog 139 [gs s] H fun r H'=>r=gb (nM (dR s))∧H'=H:=by
  refine aG.of mixed sN ?_
  simp (disch:=omega) only [↓wr,↓reduceIte,wq,ah,ag,ak,ab,ae,af,ai,isNil,Nat.reduceEqDiff,Nat.reduceAdd,Nat.reduceLT,Nat.reduceLeDiff,Int.reduceNeg,Int.reduceToNat,reduceCtorEq,mn]
  refine aN.pure (DD s) (by kernel_rfl) ?_
  repeat' (first | (refine ar.dec (fun _=>?_) (fun _=>?_)) | (refine ar.eq (fun _=>?_) (fun _=>?_)) | (refine ar.ne (fun _=>?_) (fun _=>?_)) | (refine ar.split (fun _=>?_) (fun _=>?_)) | (simp (disch:=omega) only [↓wr,↓reduceIte,wq,ah,ag,ak,ab,ae,af,ai,isNil,Nat.reduceEqDiff,Nat.reduceAdd,Nat.reduceLT,Nat.reduceLeDiff,Int.reduceNeg,Int.reduceToNat,reduceCtorEq]))
  · rename_i h; simp[nM,h]
  · rename_i h
    refine aN.pure (Mk s) (by kernel_rfl) ?_
    repeat' (first | (refine ar.dec (fun _=>?_) (fun _=>?_)) | (refine ar.eq (fun _=>?_) (fun _=>?_)) | (refine ar.ne (fun _=>?_) (fun _=>?_)) | (refine ar.split (fun _=>?_) (fun _=>?_)) | (simp (disch:=omega) only [↓wr,↓reduceIte,wq,ah,ag,ak,ab,ae,af,ai,isNil,Nat.reduceEqDiff,Nat.reduceAdd,Nat.reduceLT,Nat.reduceLeDiff,Int.reduceNeg,Int.reduceToNat,reduceCtorEq]))
    simp[nM,h]
theorem IY (s:ByteArray):aI Tryz.prog 139 [gs s] (gb (nM (dR s))) :=
  aI.of (m8 s) ((Jl s _).mono fun r H' h h' _=>by rw[h.1]; exact .tree _ (.val _))
def l6 (s:ByteArray):List ByteArray→Int→Int
  | [],_=>-1
  | x :: l,i=>if fN x s=true then i else l6 s l (i+1)
def j5 (g:ay) (s:ByteArray):Int:=l6 s (g.av.map Term.name) 0
def x7 (g:ay) (s:ByteArray):Int:=l6 s g.aw 0
theorem c9 {α:Type} {l:List α} {i:Nat} (h:i < l.length):l.drop i=l[i] :: l.drop (i+1):=List.drop_eq_getElem_cons h
theorem Fg (g:ay) (s:ByteArray):∀ v∈[V.agg (ax g),gs s],Tree v:=by
  intro v hv; simp at hv
  rcases hv with rfl | rfl
  · exact b9 _ (cP g)
  · exact .val _
theorem hQ (g:ay):∀ v∈[V.agg (ax g)],Tree v:=by intro v hv; simp at hv; subst hv; exact b9 _ (cP g)
theorem FH (g:ay) (x:Int):∀ v∈[V.agg (ax g),gi x],Tree v:=by
  intro v hv; simp at hv
  rcases hv with rfl | rfl
  · exact b9 _ (cP g)
  · exact .val _
theorem aI.val {P:Program} {f:FuncId} {vs:List V} {x:Value} (ht:∀ v∈vs,Tree v) (h:∀ H,aG P f vs H fun r _=>r=.val x):aI P f vs (.val x) :=
  aI.of ht ((h _).mono fun r H' e h' _=>by rw[e]; exact .tree _ (.val _))
def lF:SC :=
  .seq (.seq (aq [aa 6 5,ao 7 0 2,an 8 7,aA 9 8,aC 10 .lss 6 9]) <|
  .cond (.tmp 10) (.skip) (.exit 0)) <|
  .seq (.block 1 (.seq (aq [ao 13 0 2,an 14 13,aa 15 5,aD 16 3 14 15,ao 17 0 16,an 18 17,aa 19 1,((some 20),.op (.iq .eql (.tmp 18) (.tmp 19)))]) <|
  .cond (.tmp 20) (.seq (aq [aa 21 5,aa 4 21]) <|
  .ret) (.skip))) <|
  aq [aa 11 5,au 12 .add 11 1,aa 5 12]
def nS:SF:=⟨.seq (aq [bz 2 0,az 4 0]) <|
  .seq (.seq (aq [az 5 0]) <|
  .block 0 (.loop lF)) <|
  .seq (aq [az 4 (-1)]) <|
  .ret,
  [.tmp 4],22⟩
theorem uU:ba Tryz.prog 140 [2]=some nS:=by kernel_rfl
def mP:SC :=
  .seq (.seq (aq [aa 6 5,ao 7 1 2,an 8 7,aA 9 8,aC 10 .lss 6 9]) <|
  .cond (.tmp 10) (.skip) (.exit 0)) <|
  .seq (.block 1 (.seq (aq [ao 13 1 2,an 14 13,aa 15 5,aD 16 1 14 15,an 17 16,aa 18 1,((some 19),.op (.iq .eql (.tmp 17) (.tmp 18)))]) <|
  .cond (.tmp 19) (.seq (aq [aa 20 5,aa 4 20]) <|
  .ret) (.skip))) <|
  aq [aa 11 5,au 12 .add 11 1,aa 5 12]
def pz:SF:=⟨.seq (aq [bz 2 0,az 4 0]) <|
  .seq (.seq (aq [az 5 0]) <|
  .block 0 (.loop mP)) <|
  .seq (aq [az 4 (-1)]) <|
  .ret,
  [.tmp 4],21⟩
theorem wm:ba Tryz.prog 125 [2]=some pz:=by kernel_rfl
def k9:SC :=
  .seq (.seq (aq [aa 8 6,ao 9 0 2,an 10 9,aA 11 10,aC 12 .lss 8 11]) <|
  .cond (.tmp 12) (.skip) (.exit 0)) <|
  .seq (.block 1 (.seq (.region false [⟨none,[ao 15 0 2,an 16 15,aa 17 6,aD 18 3 16 17,aF 19 3 18,((some 7),.op (.alloc [(.val (.string ⟨#[]⟩)),(.val (.int .i64 0)),(.val (.int .i64 0))])),(none,.op (.store 3 (.tmp 7) (.tmp 19)))]⟩]) <|
  .seq (.seq (aq [ao 20 1 7,an 21 20,aa 22 1,aC 23 .neq 21 22]) <|
  .cond (.tmp 23) (.exit 1) (.skip)) <|
  .seq (.seq (.region false [⟨none,[aa 24 5,au 25 .neq 24 0,aa 26 25]⟩,⟨(some (26,true)),[aa 27 5,ao 28 2 7,an 29 28,aC 30 .neq 27 29]⟩,⟨none,[bq 31 26 30]⟩]) <|
  .cond (.tmp 31) (.seq (aq [aM 4 false]) <|
  .ret) (.skip)) <|
  aq [ao 32 2 7,an 33 32,aa 5 33])) <|
  aq [aa 13 6,au 14 .add 13 1,aa 6 14]
def mG:SF:=⟨.seq (aq [bz 2 0,aM 4 false]) <|
  .seq (aq [az 5 0]) <|
  .seq (.seq (aq [az 6 0]) <|
  .block 0 (.loop k9)) <|
  .seq (aq [aa 34 5,au 35 .neq 34 0,aa 4 35]) <|
  .ret,
  [.tmp 4],36⟩
theorem sP:ba Tryz.prog 141 [2]=some mG:=by kernel_rfl
theorem LX (g:ay) (hg:g.Ok) (s:ByteArray) (H:View):aG Tryz.prog 140 [.agg (ax g),gs s] H fun r _=>r=gi (j5 g s):=by
  refine aG.of mixed uU ?_
  have hs:g.av.length < 4611686018427387904:=hg.av
  simp (disch:=omega) only [↓wr,↓reduceIte,wq,ah,ag,ak,ab,ae,af,ai,isNil,Nat.reduceEqDiff,Nat.reduceAdd,Nat.reduceLT,Nat.reduceLeDiff,Int.reduceNeg,Int.reduceToNat,reduceCtorEq,nS,ax,encS]
  refine bp.intro (fun k T _=>∃ i:Nat,i+k=g.av.length∧l6 s ((g.av.drop i).map Term.name) i=j5 g s∧T 1=gs s∧T 2=.aQ (ax g) 0∧T 5=gi i) g.av.length ?_ ?_
  · exact ⟨0,by omega,rfl,rfl,rfl,rfl⟩
  · rintro k T H' ⟨i,hk,hi,h1,h2,h5⟩
    simp (disch:=omega) only [↓wr,↓reduceIte,wq,ah,ag,ak,ab,ae,af,ai,isNil,Nat.reduceEqDiff,Nat.reduceAdd,Nat.reduceLT,Nat.reduceLeDiff,Int.reduceNeg,Int.reduceToNat,reduceCtorEq,lF,h1,h2,h5,ax]
    refine ar.dec (fun hc=>?_) (fun hc=>?_)
    · have hg2:g.av[i]?=some (g.av[i]'(by omega)):=List.getElem?_eq_getElem (by omega)
      rw[c9 (show i < g.av.length by omega)] at hi
      generalize g.av[i]'(by omega)=t at hg2 hi
      simp only[List.map_cons,l6] at hi
      simp (disch:=omega) only [↓wr,↓reduceIte,wq,ah,ag,ak,ab,ae,af,ai,isNil,Nat.reduceEqDiff,Nat.reduceAdd,Nat.reduceLT,Nat.reduceLeDiff,Int.reduceNeg,Int.reduceToNat,reduceCtorEq,h1,h2,h5,ax,df,List.getElem?_map,hg2,Option.map_some]
      refine ar.split (fun hd=>?_) (fun hd=>?_)
      · rw[if_pos hd] at hi
        simp (disch:=omega) only [↓wr,↓reduceIte,wq,ah,ag,ak,ab,ae,af,ai,isNil,Nat.reduceEqDiff,Nat.reduceAdd,Nat.reduceLT,Nat.reduceLeDiff,Int.reduceNeg,Int.reduceToNat,reduceCtorEq,h1,h2,h5]
        rw[hi]
      · rw[hd,if_neg (by simp)] at hi
        simp (disch:=omega) only [↓wr,↓reduceIte,wq,ah,ag,ak,ab,ae,af,ai,isNil,Nat.reduceEqDiff,Nat.reduceAdd,Nat.reduceLT,Nat.reduceLeDiff,Int.reduceNeg,Int.reduceToNat,reduceCtorEq,h1,h2,h5]
        exact ⟨k - 1,by omega,i+1,by omega,by push_cast; exact hi,rfl,rfl⟩
    · rw[List.drop_eq_nil_of_le (by omega)] at hi
      simp only[List.map_nil,l6] at hi
      simp (disch:=omega) only [↓wr,↓reduceIte,wq,ah,ag,ak,ab,ae,af,ai,isNil,Nat.reduceEqDiff,Nat.reduceAdd,Nat.reduceLT,Nat.reduceLeDiff,Int.reduceNeg,Int.reduceToNat,reduceCtorEq,h1,h2,h5]
      rw[hi]
theorem Dt (g:ay) (hg:g.Ok) (s:ByteArray):aI Tryz.prog 140 [.agg (ax g),gs s] (gi (j5 g s)):=aI.val (Fg g s) (LX g hg s)
theorem My (g:ay) (hg:g.Ok) (s:ByteArray) (H:View):aG Tryz.prog 125 [.agg (ax g),gs s] H fun r _=>r=gi (x7 g s):=by
  refine aG.of mixed wm ?_
  have hs:g.aw.length < 4611686018427387904:=hg.aw
  simp (disch:=omega) only [↓wr,↓reduceIte,wq,ah,ag,ak,ab,ae,af,ai,isNil,Nat.reduceEqDiff,Nat.reduceAdd,Nat.reduceLT,Nat.reduceLeDiff,Int.reduceNeg,Int.reduceToNat,reduceCtorEq,pz,ax,encS]
  refine bp.intro (fun k T _=>∃ i:Nat,i+k=g.aw.length∧l6 s (g.aw.drop i) i=x7 g s∧T 1=gs s∧T 2=.aQ (ax g) 0∧T 5=gi i) g.aw.length ?_ ?_
  · exact ⟨0,by omega,rfl,rfl,rfl,rfl⟩
  · rintro k T H' ⟨i,hk,hi,h1,h2,h5⟩
    simp (disch:=omega) only [↓wr,↓reduceIte,wq,ah,ag,ak,ab,ae,af,ai,isNil,Nat.reduceEqDiff,Nat.reduceAdd,Nat.reduceLT,Nat.reduceLeDiff,Int.reduceNeg,Int.reduceToNat,reduceCtorEq,mP,h1,h2,h5,ax,encS]
    refine ar.dec (fun hc=>?_) (fun hc=>?_)
    · have hg2:g.aw[i]?=some (g.aw[i]'(by omega)):=List.getElem?_eq_getElem (by omega)
      rw[c9 (show i < g.aw.length by omega)] at hi
      generalize g.aw[i]'(by omega)=t at hg2 hi
      simp only[List.map_cons,l6] at hi
      simp (disch:=omega) only [↓wr,↓reduceIte,wq,ah,ag,ak,ab,ae,af,ai,isNil,Nat.reduceEqDiff,Nat.reduceAdd,Nat.reduceLT,Nat.reduceLeDiff,Int.reduceNeg,Int.reduceToNat,reduceCtorEq,h1,h2,h5,ax,encS,List.getElem?_map,hg2,Option.map_some]
      refine ar.split (fun hd=>?_) (fun hd=>?_)
      · rw[if_pos hd] at hi
        simp (disch:=omega) only [↓wr,↓reduceIte,wq,ah,ag,ak,ab,ae,af,ai,isNil,Nat.reduceEqDiff,Nat.reduceAdd,Nat.reduceLT,Nat.reduceLeDiff,Int.reduceNeg,Int.reduceToNat,reduceCtorEq,h1,h2,h5]
        rw[hi]
      · rw[hd,if_neg (by simp)] at hi
        simp (disch:=omega) only [↓wr,↓reduceIte,wq,ah,ag,ak,ab,ae,af,ai,isNil,Nat.reduceEqDiff,Nat.reduceAdd,Nat.reduceLT,Nat.reduceLeDiff,Int.reduceNeg,Int.reduceToNat,reduceCtorEq,h1,h2,h5]
        exact ⟨k - 1,by omega,i+1,by omega,by push_cast; exact hi,rfl,rfl⟩
    · rw[List.drop_eq_nil_of_le (by omega)] at hi
      simp only[List.map_nil,l6] at hi
      simp (disch:=omega) only [↓wr,↓reduceIte,wq,ah,ag,ak,ab,ae,af,ai,isNil,Nat.reduceEqDiff,Nat.reduceAdd,Nat.reduceLT,Nat.reduceLeDiff,Int.reduceNeg,Int.reduceToNat,reduceCtorEq,h1,h2,h5]
      rw[hi]
theorem Ml (g:ay) (hg:g.Ok) (s:ByteArray):aI Tryz.prog 125 [.agg (ax g),gs s] (gi (x7 g s)):=aI.val (Fg g s) (My g hg s)
def gK (n:Int):List Term→Int→Option Int
  | [],way=>some way
  | t :: r,way=>if t.level=n then (if way≠0∧way≠t.assoc then none else gK n r t.assoc) else gK n r way
def fj (l:List Term) (n:Int):Bool:=match gK n l 0 with
  | some w=>w != 0
  | none=>false
theorem JD (g:ay) (hg:g.Ok) (n:Int) (H:View):aG Tryz.prog 141 [.agg (ax g),gi n] H fun r _=>r=gb (fj g.av n):=by
  refine aG.of mixed sP ?_
  have hs:g.av.length < 4611686018427387904:=hg.av
  simp (disch:=omega) only [↓wr,↓reduceIte,wq,ah,ag,ak,ab,ae,af,ai,isNil,Nat.reduceEqDiff,Nat.reduceAdd,Nat.reduceLT,Nat.reduceLeDiff,Int.reduceNeg,Int.reduceToNat,reduceCtorEq,mG,ax,encS]
  refine bp.intro (fun k T _=>∃ (i:Nat) (w:Int),i+k=g.av.length∧gK n (g.av.drop i) w=gK n g.av 0∧T 1=gi n∧T 2=.aQ (ax g) 0∧T 5=gi w∧T 6=gi i) g.av.length ?_ ?_
  · exact ⟨0,0,by omega,rfl,rfl,rfl,rfl,rfl⟩
  · rintro k T H' ⟨i,w,hk,hi,h1,h2,h5,h6⟩
    simp (disch:=omega) only [↓wr,↓reduceIte,wq,ah,ag,ak,ab,ae,af,ai,isNil,Nat.reduceEqDiff,Nat.reduceAdd,Nat.reduceLT,Nat.reduceLeDiff,Int.reduceNeg,Int.reduceToNat,reduceCtorEq,k9,h1,h2,h5,h6,ax]
    refine ar.dec (fun hc=>?_) (fun hc=>?_)
    · have hg2:g.av[i]?=some (g.av[i]'(by omega)):=List.getElem?_eq_getElem (by omega)
      rw[c9 (show i < g.av.length by omega)] at hi
      generalize g.av[i]'(by omega)=t at hg2 hi
      simp only[gK] at hi
      simp (disch:=omega) only [↓wr,↓reduceIte,wq,ah,ag,ak,ab,ae,af,ai,isNil,Nat.reduceEqDiff,Nat.reduceAdd,Nat.reduceLT,Nat.reduceLeDiff,Int.reduceNeg,Int.reduceToNat,reduceCtorEq,h1,h2,h5,h6,ax,df,List.getElem?_map,hg2,Option.map_some]
      intro m hm
      try simp (disch:=omega) only [↓wr,↓reduceIte,wq,ah,ag,ak,ab,ae,af,ai,isNil,Nat.reduceEqDiff,Nat.reduceAdd,Nat.reduceLT,Nat.reduceLeDiff,Int.reduceNeg,Int.reduceToNat,reduceCtorEq,h1,h2,h5,h6]
      refine ar.ne (fun hd=>?_) (fun hd=>?_)
      · rw[if_neg hd] at hi
        simp (disch:=omega) only [↓wr,↓reduceIte,wq,ah,ag,ak,ab,ae,af,ai,isNil,Nat.reduceEqDiff,Nat.reduceAdd,Nat.reduceLT,Nat.reduceLeDiff,Int.reduceNeg,Int.reduceToNat,reduceCtorEq,h1,h2,h5,h6]
        exact ⟨k - 1,by omega,i+1,w,by omega,hi,by first | rfl | exact ⟨rfl,rfl⟩ | exact ⟨rfl,rfl,rfl⟩⟩
      · rw[if_pos hd] at hi
        repeat' (first | (refine ar.dec (fun _=>?_) (fun _=>?_)) | (refine ar.eq (fun _=>?_) (fun _=>?_)) | (refine ar.ne (fun _=>?_) (fun _=>?_)) | (refine ar.split (fun _=>?_) (fun _=>?_)) | (simp (disch:=omega) only [↓wr,↓reduceIte,wq,ah,ag,ak,ab,ae,af,ai,isNil,Nat.reduceEqDiff,Nat.reduceAdd,Nat.reduceLT,Nat.reduceLeDiff,Int.reduceNeg,Int.reduceToNat,reduceCtorEq,h1,h2,h5,h6]))
        · rename_i a b
          rw[if_pos ⟨a,b⟩] at hi
          simp only[fj,← hi]
        · rename_i a b
          rw[if_neg (fun e=>e.2 b)] at hi
          exact ⟨k - 1,by omega,i+1,_,by omega,hi,by first | rfl | exact ⟨rfl,rfl⟩ | exact ⟨rfl,rfl,rfl⟩⟩
        · rename_i a
          rw[if_neg (fun e=>e.1 a)] at hi
          exact ⟨k - 1,by omega,i+1,_,by omega,hi,by first | rfl | exact ⟨rfl,rfl⟩ | exact ⟨rfl,rfl,rfl⟩⟩
    · rw[List.drop_eq_nil_of_le (by omega)] at hi
      simp only[gK] at hi
      simp (disch:=omega) only [↓wr,↓reduceIte,wq,ah,ag,ak,ab,ae,af,ai,isNil,Nat.reduceEqDiff,Nat.reduceAdd,Nat.reduceLT,Nat.reduceLeDiff,Int.reduceNeg,Int.reduceToNat,reduceCtorEq,h1,h2,h5,h6]
      simp only[fj,← hi]
theorem Jg (g:ay) (hg:g.Ok) (n:Int):aI Tryz.prog 141 [.agg (ax g),gi n] (gb (fj g.av n)):=aI.val (FH g n) (JD g hg n)
def pR (g:ay) (t:Term):Bool:=(List.range t.level.toNat).all fun k=>fj g.av ((k:Int)+1)
def iA (g:ay) (i:Int) (t:Term):Bool :=
  nM (dR t.name) && (j5 g t.name == i) && decide (0≤t.level) && decide (t.level≤24) && decide (0≤t.assoc) && decide (t.assoc≤3) && ((t.level == 0) == (t.assoc == 0)) && pR g t
def hE (g:ay):List Term→Int→Bool
  | [],_=>true
  | t :: r,i=>iA g i t && hE g r (i+1)
def hO (g:ay):Bool:=decide (g.av.length≤24) && hE g g.av 0
def kI:SC :=
  .seq (.seq (aq [aa 63 5,ao 64 1 4,an 65 64,aC 66 .leq 63 65]) <|
  .cond (.tmp 66) (.skip) (.exit 2)) <|
  .seq (.block 3 (.seq (aq [aF 69 4 1,aa 70 5,aJ 71 141 [69,70],bC 72 71]) <|
  .cond (.tmp 72) (.seq (aq [aM 2 false]) <|
  .ret) (.skip))) <|
  aq [aa 67 5,au 68 .add 67 1,aa 5 68]
def kN:SC :=
  .seq (.seq (aq [aa 10 3,ao 11 0 1,an 12 11,aA 13 12,aC 14 .lss 10 13]) <|
  .cond (.tmp 14) (.skip) (.exit 0)) <|
  .seq (.block 1 (.seq (.region false [⟨none,[ao 17 0 1,an 18 17,aa 19 3,aD 20 3 18 19,aF 21 3 20,((some 4),.op (.alloc [(.val (.string ⟨#[]⟩)),(.val (.int .i64 0)),(.val (.int .i64 0))])),(none,.op (.store 3 (.tmp 4) (.tmp 21)))]⟩]) <|
  .seq (.seq (.region false [⟨none,[ao 22 0 4,an 23 22,aJ 24 139 [23],bC 25 24,aa 26 25]⟩,⟨(some (26,false)),[aF 27 4 1,ao 28 0 4,an 29 28,aJ 30 140 [27,29],aa 31 3,aC 32 .neq 30 31]⟩,⟨none,[aS 33 26 32,aa 34 33]⟩,⟨(some (34,false)),[ao 35 1 4,an 36 35,au 37 .lss 36 0]⟩,⟨none,[aS 38 34 37,aa 39 38]⟩,⟨(some (39,false)),[ao 40 1 4,an 41 40,au 42 .gtr 41 24]⟩,⟨none,[aS 43 39 42,aa 44 43]⟩,⟨(some (44,false)),[ao 45 2 4,an 46 45,au 47 .lss 46 0]⟩,⟨none,[aS 48 44 47,aa 49 48]⟩,⟨(some (49,false)),[ao 50 2 4,an 51 50,au 52 .gtr 51 3]⟩,⟨none,[aS 53 49 52,aa 54 53]⟩,⟨(some (54,false)),[ao 55 1 4,an 56 55,au 57 .eql 56 0,ao 58 2 4,an 59 58,au 60 .eql 59 0,((some 61),.op (.beq false (.tmp 57) (.tmp 60)))]⟩,⟨none,[aS 62 54 61]⟩]) <|
  .cond (.tmp 62) (.seq (aq [aM 2 false]) <|
  .ret) (.skip)) <|
  .seq (aq [az 5 1]) <|
  .block 2 (.loop kI))) <|
  aq [aa 15 3,au 16 .add 15 1,aa 3 16]
def my:SF:=⟨.seq (aq [bz 1 0,aM 2 false]) <|
  .seq (.seq (aq [ao 6 0 1,an 7 6,aA 8 7,au 9 .gtr 8 24]) <|
  .cond (.tmp 9) (.seq (aq [aM 2 false]) <|
  .ret) (.skip)) <|
  .seq (.seq (aq [az 3 0]) <|
  .block 0 (.loop kN)) <|
  .seq (aq [aM 2 true]) <|
  .ret,
  [.tmp 2],73⟩
theorem td:ba Tryz.prog 89 [1]=some my:=by kernel_rfl
def lM:SC :=
  .seq (.seq (aq [aa 14 3,ao 15 1 1,an 16 15,aA 17 16,aC 18 .lss 14 17]) <|
  .cond (.tmp 18) (.skip) (.exit 0)) <|
  .seq (.block 1 (.seq (.region false [⟨none,[ao 21 1 1,an 22 21,aa 23 3,aD 24 1 22 23,an 25 24,aJ 26 142 [25],bC 27 26,aa 28 27]⟩,⟨(some (28,false)),[aF 29 4 1,ao 30 1 1,an 31 30,aa 32 3,aD 33 1 31 32,an 34 33,aJ 35 125 [29,34],aa 36 3,aC 37 .neq 35 36]⟩,⟨none,[aS 38 28 37,aa 39 38]⟩,⟨(some (39,false)),[aF 40 4 1,ao 41 1 1,an 42 41,aa 43 3,aD 44 1 42 43,an 45 44,aJ 46 140 [40,45],au 47 .geq 46 0]⟩,⟨none,[aS 48 39 47]⟩]) <|
  .cond (.tmp 48) (.seq (aq [aM 2 false]) <|
  .ret) (.skip))) <|
  aq [aa 19 3,au 20 .add 19 1,aa 3 20]
def oI:SF:=⟨.seq (aq [bz 1 0,aM 2 false]) <|
  .seq (.seq (.region false [⟨none,[ao 4 1 1,an 5 4,aA 6 5,au 7 .lss 6 1,aa 8 7]⟩,⟨(some (8,false)),[ao 9 1 1,an 10 9,aA 11 10,au 12 .gtr 11 16]⟩,⟨none,[aS 13 8 12]⟩]) <|
  .cond (.tmp 13) (.seq (aq [aM 2 false]) <|
  .ret) (.skip)) <|
  .seq (.seq (aq [az 3 0]) <|
  .block 0 (.loop lM)) <|
  .seq (aq [aM 2 true]) <|
  .ret,
  [.tmp 2],49⟩
theorem uq:ba Tryz.prog 90 [1]=some oI:=by kernel_rfl
def lX:SC :=
  .seq (.seq (aq [aa 23 5,ao 24 1 3,an 25 24,aA 26 25,aC 27 .lss 23 26]) <|
  .cond (.tmp 27) (.skip) (.exit 0)) <|
  .seq (.block 1 (.seq (.region false [⟨none,[aF 30 4 2,ao 31 1 3,an 32 31,aa 33 5,aD 34 1 32 33,an 35 34,aJ 36 143 [30,35],bC 37 36,aa 38 37]⟩,⟨(some (38,false)),[ao 39 1 3,an 40 39,aa 41 5,aD 42 1 40 41,an 43 42,au 44 .geq 43 0,aa 45 44]⟩,⟨(some (45,true)),[ao 46 2 3,an 47 46,au 48 .eql 47 (-1)]⟩,⟨(some (38,false)),[bq 49 45 48]⟩,⟨none,[aS 50 38 49]⟩]) <|
  .cond (.tmp 50) (.seq (aq [aM 4 false]) <|
  .ret) (.skip))) <|
  aq [aa 28 5,au 29 .add 28 1,aa 5 29]
def n4:SF:=⟨.seq (aq [bz 2 0,bz 3 1,aM 4 false]) <|
  .seq (.seq (.region false [⟨none,[ao 6 1 3,an 7 6,aA 8 7,au 9 .gtr 8 6,aa 10 9]⟩,⟨(some (10,false)),[ao 11 2 3,an 12 11,au 13 .lss 12 (-1)]⟩,⟨none,[aS 14 10 13,aa 15 14]⟩,⟨(some (15,false)),[ao 16 2 3,an 17 16,ao 18 0 2,an 19 18,aA 20 19,aC 21 .geq 17 20]⟩,⟨none,[aS 22 15 21]⟩]) <|
  .cond (.tmp 22) (.seq (aq [aM 4 false]) <|
  .ret) (.skip)) <|
  .seq (.seq (aq [az 5 0]) <|
  .block 0 (.loop lX)) <|
  .seq (aq [aM 4 true]) <|
  .ret,
  [.tmp 4],51⟩
theorem uv:ba Tryz.prog 91 [2,3]=some n4:=by kernel_rfl
def kC:SC :=
  .seq (.seq (aq [aa 39 4,ao 40 2 1,an 41 40,aA 42 41,aC 43 .lss 39 42]) <|
  .cond (.tmp 43) (.skip) (.exit 0)) <|
  .seq (.block 1 (.seq (aq [ao 46 2 1,an 47 46,aa 48 4,aD 49 3 47 48,aF 50 3 49,((some 5),.op (.alloc [(.val (.int .i64 0)),(.emp 1),(.val (.int .i64 0))])),(none,.op (.store 3 (.tmp 5) (.tmp 50)))]) <|
  .seq (.seq (.region false [⟨none,[ao 51 0 5,an 52 51,au 53 .lss 52 0,aa 54 53]⟩,⟨(some (54,false)),[ao 55 0 5,an 56 55,aa 57 3,au 58 .add 57 1,aC 59 .gtr 56 58]⟩,⟨none,[aS 60 54 59,aa 61 60]⟩,⟨(some (61,false)),[aF 62 4 1,aF 63 3 5,aJ 64 91 [62,63],bC 65 64]⟩,⟨none,[aS 66 61 65]⟩]) <|
  .cond (.tmp 66) (.seq (aq [aM 2 false]) <|
  .ret) (.skip)) <|
  .seq (aq [ao 67 0 5,an 68 67,aa 69 3,aC 70 .gtr 68 69]) <|
  .cond (.tmp 70) (aq [ao 71 0 5,an 72 71,aa 3 72]) (.skip))) <|
  aq [aa 44 4,au 45 .add 44 1,aa 4 45]
def mU:SF:=⟨.seq (aq [bz 1 0,aM 2 false]) <|
  .seq (.seq (.region false [⟨none,[aF 6 4 1,aJ 7 89 [6],bC 8 7,aa 9 8]⟩,⟨(some (9,false)),[aF 10 4 1,aJ 11 90 [10],bC 12 11]⟩,⟨none,[aS 13 9 12,aa 14 13]⟩,⟨(some (14,false)),[ao 15 2 1,an 16 15,aA 17 16,au 18 .lss 17 1]⟩,⟨none,[aS 19 14 18,aa 20 19]⟩,⟨(some (20,false)),[ao 21 2 1,an 22 21,aA 23 22,au 24 .gtr 23 40]⟩,⟨none,[aS 25 20 24,aa 26 25]⟩,⟨(some (26,false)),[ao 27 3 1,an 28 27,au 29 .lss 28 0]⟩,⟨none,[aS 30 26 29,aa 31 30]⟩,⟨(some (31,false)),[ao 32 3 1,an 33 32,ao 34 1 1,an 35 34,aA 36 35,aC 37 .geq 33 36]⟩,⟨none,[aS 38 31 37]⟩]) <|
  .cond (.tmp 38) (.seq (aq [aM 2 false]) <|
  .ret) (.skip)) <|
  .seq (aq [az 3 (-1)]) <|
  .seq (.seq (aq [az 4 0]) <|
  .block 0 (.loop kC)) <|
  .seq (aq [aa 73 3,ao 74 1 1,an 75 74,aA 76 75,au 77 .sub 76 1,aC 78 .eql 73 77,aa 2 78]) <|
  .ret,
  [.tmp 2],79⟩
theorem sn:ba Tryz.prog 48 [1]=some mU:=by kernel_rfl
set_option maxHeartbeats 2000000 in
theorem JK (g:ay) (hg:g.Ok) (H:View):aG Tryz.prog 89 [.agg (ax g)] H fun r _=>r=gb (hO g):=by
  refine aG.of mixed td ?_
  simp (disch:=omega) only [↓wr,↓reduceIte,wq,ah,ag,ak,ab,ae,af,ai,isNil,Nat.reduceEqDiff,Nat.reduceAdd,Nat.reduceLT,Nat.reduceLeDiff,Int.reduceNeg,Int.reduceToNat,reduceCtorEq,my,ax,encS]
  refine ar.dec (fun h=>?_) (fun h=>?_)
  · simp (disch:=omega) only [↓wr,↓reduceIte,wq,ah,ag,ak,ab,ae,af,ai,isNil,Nat.reduceEqDiff,Nat.reduceAdd,Nat.reduceLT,Nat.reduceLeDiff,Int.reduceNeg,Int.reduceToNat,reduceCtorEq]
    simp[hO,show ¬ g.av.length≤24 by omega]
  · have hle:g.av.length≤24:=by omega
    simp (disch:=omega) only [↓wr,↓reduceIte,wq,ah,ag,ak,ab,ae,af,ai,isNil,Nat.reduceEqDiff,Nat.reduceAdd,Nat.reduceLT,Nat.reduceLeDiff,Int.reduceNeg,Int.reduceToNat,reduceCtorEq]
    refine bp.intro (fun k T _=>∃ i:Nat,i+k=g.av.length∧hE g (g.av.drop i) i=hE g g.av 0∧T 1=.aQ (ax g) 0∧T 3=gi i) g.av.length ?_ ?_
    · exact ⟨0,by omega,rfl,rfl,rfl⟩
    · rintro k T H' ⟨i,hk,hi,h1,h3⟩
      simp (disch:=omega) only [↓wr,↓reduceIte,wq,ah,ag,ak,ab,ae,af,ai,isNil,Nat.reduceEqDiff,Nat.reduceAdd,Nat.reduceLT,Nat.reduceLeDiff,Int.reduceNeg,Int.reduceToNat,reduceCtorEq,kN,h1,h3,ax]
      refine ar.dec (fun hc=>?_) (fun hc=>?_)
      · have hg2:g.av[i]?=some (g.av[i]'(by omega)):=List.getElem?_eq_getElem (by omega)
        rw[c9 (show i < g.av.length by omega)] at hi
        have hmem:g.av[i]'(by omega)∈g.av:=List.getElem_mem _
        generalize g.av[i]'(by omega)=t at hg2 hi hmem
        obtain ⟨⟨hl1,hl2⟩,⟨ha1,ha2⟩⟩:=hg.term t hmem
        simp only[hE] at hi
        have hbad:iA g i t=false→gb false=gb (hO g):=fun e=>by rw[e,Bool.false_and] at hi; simp[hO,← hi]
        simp (disch:=omega) only [↓wr,↓reduceIte,wq,ah,ag,ak,ab,ae,af,ai,isNil,Nat.reduceEqDiff,Nat.reduceAdd,Nat.reduceLT,Nat.reduceLeDiff,Int.reduceNeg,Int.reduceToNat,reduceCtorEq,h1,h3,ax,df,List.getElem?_map,hg2,Option.map_some]
        intro m hm
        try simp (disch:=omega) only [↓wr,↓reduceIte,wq,ah,ag,ak,ab,ae,af,ai,isNil,Nat.reduceEqDiff,Nat.reduceAdd,Nat.reduceLT,Nat.reduceLeDiff,Int.reduceNeg,Int.reduceToNat,reduceCtorEq,h1,h3]
        refine aN.pure (IY t.name) (by kernel_rfl) ?_
        repeat' (first | (refine ar.dec (fun _=>?_) (fun _=>?_)) | (refine ar.eq (fun _=>?_) (fun _=>?_)) | (refine ar.ne (fun _=>?_) (fun _=>?_)) | (refine ar.split (fun _=>?_) (fun _=>?_)) | (simp (disch:=omega) only [↓wr,↓reduceIte,wq,ah,ag,ak,ab,ae,af,ai,isNil,Nat.reduceEqDiff,Nat.reduceAdd,Nat.reduceLT,Nat.reduceLeDiff,Int.reduceNeg,Int.reduceToNat,reduceCtorEq,h1,h3,ax]))
        all_goals try (refine hbad ?_; simp[iA, *]; done)
        rename_i hnm
        refine aN.pure (Dt g hg t.name) (by kernel_rfl) ?_
        repeat' (first | (refine ar.dec (fun _=>?_) (fun _=>?_)) | (refine ar.eq (fun _=>?_) (fun _=>?_)) | (refine ar.ne (fun _=>?_) (fun _=>?_)) | (refine ar.split (fun _=>?_) (fun _=>?_)) | (simp (disch:=omega) only [↓wr,↓reduceIte,wq,ah,ag,ak,ab,ae,af,ai,isNil,Nat.reduceEqDiff,Nat.reduceAdd,Nat.reduceLT,Nat.reduceLeDiff,Int.reduceNeg,Int.reduceToNat,reduceCtorEq,h1,h3,ax]))
        all_goals try (refine hbad ?_; simp[iA, *]; done)
        all_goals try (refine hbad ?_; simp[iA]; grind)
        rename_i e1 e2 e3 e4 e5 e6
        have hpre:iA g i t=pR g t:=by
          have e6':((t.level == 0) == (t.assoc == 0))=true:=by simpa using e6
          simp[iA,hnm,e1,e6',show (0:Int)≤t.level by omega,show t.level≤24 by omega,show (0:Int)≤t.assoc by omega,show t.assoc≤3 by omega]
        refine bp.intro (fun k' T H''=>∃ j:Nat,1≤j∧j+k'=t.level.toNat+1∧(∀ q:Nat,q+1 < j→fj g.av ((q:Int)+1)=true)∧T 1=.aQ (ax g) 0∧T 3=gi i∧T 4=.ptr m 0 0∧H'' m=.arr 3 [[gs t.name,gi t.level,gi t.assoc]]∧T 5=gi j) t.level.toNat ?_ ?_
        · refine ⟨1,by omega,by omega,fun q hq=>by omega,?_⟩
          simp (disch:=omega) only [↓wr,↓reduceIte,wq,ah,ag,ak,ab,ae,af,ai,isNil,Nat.reduceEqDiff,Nat.reduceAdd,Nat.reduceLT,Nat.reduceLeDiff,Int.reduceNeg,Int.reduceToNat,reduceCtorEq,h1,h3,ax]
          rfl
        · rintro k' T' H'' ⟨j,hj1,hj2,hj3,f1,f3,f4,fm,f5⟩
          simp (disch:=omega) only [↓wr,↓reduceIte,wq,ah,ag,ak,ab,ae,af,ai,isNil,Nat.reduceEqDiff,Nat.reduceAdd,Nat.reduceLT,Nat.reduceLeDiff,Int.reduceNeg,Int.reduceToNat,reduceCtorEq,kI,f1,f3,f4,f5,fm]
          refine ar.dec (fun hd=>?_) (fun hd=>?_)
          · simp (disch:=omega) only [↓wr,↓reduceIte,wq,ah,ag,ak,ab,ae,af,ai,isNil,Nat.reduceEqDiff,Nat.reduceAdd,Nat.reduceLT,Nat.reduceLeDiff,Int.reduceNeg,Int.reduceToNat,reduceCtorEq,f1,f3,f4,f5,fm,ax]
            refine aN.pure (Jg g hg j) (by kernel_rfl) ?_
            repeat' (first | (refine ar.dec (fun _=>?_) (fun _=>?_)) | (refine ar.eq (fun _=>?_) (fun _=>?_)) | (refine ar.ne (fun _=>?_) (fun _=>?_)) | (refine ar.split (fun _=>?_) (fun _=>?_)) | (simp (disch:=omega) only [↓wr,↓reduceIte,wq,ah,ag,ak,ab,ae,af,ai,isNil,Nat.reduceEqDiff,Nat.reduceAdd,Nat.reduceLT,Nat.reduceLeDiff,Int.reduceNeg,Int.reduceToNat,reduceCtorEq,f1,f3,f4,f5,fm,ax]))
            · rename_i hb
              refine ⟨k' - 1,by omega,j+1,by omega,by omega,fun q hq=>?_,by first | rfl | exact ⟨rfl,rfl⟩ | exact ⟨rfl,rfl,rfl⟩⟩
              by_cases e:q+1=j
              · have:(q:Int)+1=j:=by omega
                rw[this]; exact hb
              · exact hj3 q (by omega)
            · rename_i hb
              refine hbad ?_
              rw[hpre,pR,List.all_eq_false]
              refine ⟨j - 1,by simp; omega,?_⟩
              have:((j - 1:Nat):Int)+1=j:=by omega
              rw[this,hb]; simp
          · simp (disch:=omega) only [↓wr,↓reduceIte,wq,ah,ag,ak,ab,ae,af,ai,isNil,Nat.reduceEqDiff,Nat.reduceAdd,Nat.reduceLT,Nat.reduceLeDiff,Int.reduceNeg,Int.reduceToNat,reduceCtorEq,f1,f3,f4,f5,fm]
            refine ⟨k - 1,by omega,i+1,by omega,?_,by first | rfl | exact ⟨rfl,rfl⟩ | exact ⟨rfl,rfl,rfl⟩⟩
            have hlv:pR g t=true:=by
              rw[pR,List.all_eq_true]
              intro q hq
              exact hj3 q (by simp at hq; omega)
            rw[hpre,hlv,Bool.true_and] at hi
            push_cast; exact hi
      · rw[List.drop_eq_nil_of_le (by omega)] at hi
        simp only[hE] at hi
        simp (disch:=omega) only [↓wr,↓reduceIte,wq,ah,ag,ak,ab,ae,af,ai,isNil,Nat.reduceEqDiff,Nat.reduceAdd,Nat.reduceLT,Nat.reduceLeDiff,Int.reduceNeg,Int.reduceToNat,reduceCtorEq,h1,h3]
        simp[hO,hle,← hi]
theorem Jp (g:ay) (hg:g.Ok):aI Tryz.prog 89 [.agg (ax g)] (gb (hO g)):=aI.val (hQ g) (JK g hg)
def jE (g:ay) (i:Int) (s:ByteArray):Bool:=eO (dR s) && (x7 g s == i) && decide (j5 g s < 0)
def qa (g:ay):List ByteArray→Int→Bool
  | [],_=>true
  | s :: r,i=>jE g i s && qa g r (i+1)
def iN (g:ay):Bool:=decide (1≤g.aw.length) && decide (g.aw.length≤16) && qa g g.aw 0
set_option maxHeartbeats 1000000 in
theorem J1 (g:ay) (hg:g.Ok) (H:View):aG Tryz.prog 90 [.agg (ax g)] H fun r _=>r=gb (iN g):=by
  refine aG.of mixed uq ?_
  repeat' (first | (refine ar.dec (fun _=>?_) (fun _=>?_)) | (refine ar.eq (fun _=>?_) (fun _=>?_)) | (refine ar.ne (fun _=>?_) (fun _=>?_)) | (refine ar.split (fun _=>?_) (fun _=>?_)) | (simp (disch:=omega) only [↓wr,↓reduceIte,wq,ah,ag,ak,ab,ae,af,ai,isNil,Nat.reduceEqDiff,Nat.reduceAdd,Nat.reduceLT,Nat.reduceLeDiff,Int.reduceNeg,Int.reduceToNat,reduceCtorEq,oI,ax,encS]))
  · simp[iN,show ¬ 1≤g.aw.length by omega]
  · simp[iN,show ¬ g.aw.length≤16 by omega]
  · have hle:g.aw.length≤16:=by omega
    refine bp.intro (fun k T _=>∃ i:Nat,i+k=g.aw.length∧qa g (g.aw.drop i) i=qa g g.aw 0∧T 1=.aQ (ax g) 0∧T 3=gi i) g.aw.length ?_ ?_
    · exact ⟨0,by omega,rfl,rfl,rfl⟩
    · rintro k T H' ⟨i,hk,hi,h1,h3⟩
      simp (disch:=omega) only [↓wr,↓reduceIte,wq,ah,ag,ak,ab,ae,af,ai,isNil,Nat.reduceEqDiff,Nat.reduceAdd,Nat.reduceLT,Nat.reduceLeDiff,Int.reduceNeg,Int.reduceToNat,reduceCtorEq,lM,h1,h3,ax,encS]
      refine ar.dec (fun hc=>?_) (fun hc=>?_)
      · have hg2:g.aw[i]?=some (g.aw[i]'(by omega)):=List.getElem?_eq_getElem (by omega)
        rw[c9 (show i < g.aw.length by omega)] at hi
        generalize g.aw[i]'(by omega)=t at hg2 hi
        simp only[qa] at hi
        have hbad:jE g i t=false→gb false=gb (iN g):=fun e=>by rw[e,Bool.false_and] at hi; simp[iN,← hi]
        simp (disch:=omega) only [↓wr,↓reduceIte,wq,ah,ag,ak,ab,ae,af,ai,isNil,Nat.reduceEqDiff,Nat.reduceAdd,Nat.reduceLT,Nat.reduceLeDiff,Int.reduceNeg,Int.reduceToNat,reduceCtorEq,h1,h3,ax,encS,List.getElem?_map,hg2,Option.map_some]
        refine aN.pure (DD t) (by kernel_rfl) ?_
        repeat' (first | (refine ar.dec (fun _=>?_) (fun _=>?_)) | (refine ar.eq (fun _=>?_) (fun _=>?_)) | (refine ar.ne (fun _=>?_) (fun _=>?_)) | (refine ar.split (fun _=>?_) (fun _=>?_)) | (simp (disch:=omega) only [↓wr,↓reduceIte,wq,ah,ag,ak,ab,ae,af,ai,isNil,Nat.reduceEqDiff,Nat.reduceAdd,Nat.reduceLT,Nat.reduceLeDiff,Int.reduceNeg,Int.reduceToNat,reduceCtorEq,h1,h3,ax,encS,List.getElem?_map,hg2,Option.map_some]))
        all_goals try (refine hbad ?_; simp[jE, *]; done)
        rename_i hnm
        refine aN.pure (Ml g hg t) (by kernel_rfl) ?_
        repeat' (first | (refine ar.dec (fun _=>?_) (fun _=>?_)) | (refine ar.eq (fun _=>?_) (fun _=>?_)) | (refine ar.ne (fun _=>?_) (fun _=>?_)) | (refine ar.split (fun _=>?_) (fun _=>?_)) | (simp (disch:=omega) only [↓wr,↓reduceIte,wq,ah,ag,ak,ab,ae,af,ai,isNil,Nat.reduceEqDiff,Nat.reduceAdd,Nat.reduceLT,Nat.reduceLeDiff,Int.reduceNeg,Int.reduceToNat,reduceCtorEq,h1,h3,ax,encS,List.getElem?_map,hg2,Option.map_some]))
        all_goals try (refine hbad ?_; simp[jE, *]; done)
        rename_i hno
        refine aN.pure (Dt g hg t) (by kernel_rfl) ?_
        repeat' (first | (refine ar.dec (fun _=>?_) (fun _=>?_)) | (refine ar.eq (fun _=>?_) (fun _=>?_)) | (refine ar.ne (fun _=>?_) (fun _=>?_)) | (refine ar.split (fun _=>?_) (fun _=>?_)) | (simp (disch:=omega) only [↓wr,↓reduceIte,wq,ah,ag,ak,ab,ae,af,ai,isNil,Nat.reduceEqDiff,Nat.reduceAdd,Nat.reduceLT,Nat.reduceLeDiff,Int.reduceNeg,Int.reduceToNat,reduceCtorEq,h1,h3,ax,encS]))
        all_goals try (refine hbad ?_; simp[jE, *]; done)
        rename_i hte
        refine ⟨k - 1,by omega,i+1,by omega,?_,by first | rfl | exact ⟨rfl,rfl⟩ | exact ⟨rfl,rfl,rfl⟩⟩
        have:jE g i t=true:=by simp[jE,hnm,hno,show j5 g t < 0 by omega]
        rw[this,Bool.true_and] at hi
        push_cast; exact hi
      · rw[List.drop_eq_nil_of_le (by omega)] at hi
        simp only[qa] at hi
        simp (disch:=omega) only [↓wr,↓reduceIte,wq,ah,ag,ak,ab,ae,af,ai,isNil,Nat.reduceEqDiff,Nat.reduceAdd,Nat.reduceLT,Nat.reduceLeDiff,Int.reduceNeg,Int.reduceToNat,reduceCtorEq,h1,h3]
        simp[iN,hle,show 1≤g.aw.length by omega,← hi]
theorem Ls (g:ay) (hg:g.Ok):aI Tryz.prog 90 [.agg (ax g)] (gb (iN g)):=aI.val (hQ g) (J1 g hg)
def ki (g:ay) (prec s:Int):Bool:=l5 g s && !(decide (0≤s) && prec == -1)
def fG (g:ay) (r:bc):Bool:=decide (r.right.length≤6) && decide (-1≤r.prec) && decide (r.prec < g.av.length) && r.right.all (ki g r.prec)
theorem E0 (g:ay) (r:bc):∀ v∈[V.agg (ax g),V.agg (bD r)],Tree v:=by
  intro v hv; simp at hv
  rcases hv with rfl | rfl
  · exact b9 _ (cP g)
  · exact b9 _ (rZ r)
set_option maxHeartbeats 1000000 in
theorem Kz (g:ay) (r:bc) (hr:aR r.right∧∀ x∈r.right,bJ x) (H:View):aG Tryz.prog 91 [.agg (ax g),.agg (bD r)] H fun v _=>v=gb (fG g r):=by
  refine aG.of mixed uv ?_
  repeat' (first | (refine ar.dec (fun _=>?_) (fun _=>?_)) | (refine ar.eq (fun _=>?_) (fun _=>?_)) | (refine ar.ne (fun _=>?_) (fun _=>?_)) | (refine ar.split (fun _=>?_) (fun _=>?_)) | (simp (disch:=omega) only [↓wr,↓reduceIte,wq,ah,ag,ak,ab,ae,af,ai,isNil,Nat.reduceEqDiff,Nat.reduceAdd,Nat.reduceLT,Nat.reduceLeDiff,Int.reduceNeg,Int.reduceToNat,reduceCtorEq,n4,ax,encS,bD,encI]))
  · simp[fG,show ¬ r.right.length≤6 by omega]
  · simp[fG,show ¬ -1≤r.prec by omega]
  · simp[fG,show ¬ r.prec < g.av.length by omega]
  · have hle:r.right.length≤6:=by omega
    have hp1 : -1≤r.prec:=by omega
    have hp2:r.prec < g.av.length:=by omega
    refine bp.intro (fun k T _=>∃ i:Nat,i+k=r.right.length∧(r.right.drop i).all (ki g r.prec)=r.right.all (ki g r.prec)∧T 2=.aQ (ax g) 0∧T 3=.aQ (bD r) 0∧T 5=gi i) r.right.length ?_ ?_
    · exact ⟨0,by omega,rfl,rfl,rfl,rfl⟩
    · rintro k T H' ⟨i,hk,hi,h2,h3,h5⟩
      simp (disch:=omega) only [↓wr,↓reduceIte,wq,ah,ag,ak,ab,ae,af,ai,isNil,Nat.reduceEqDiff,Nat.reduceAdd,Nat.reduceLT,Nat.reduceLeDiff,Int.reduceNeg,Int.reduceToNat,reduceCtorEq,lX,h2,h3,h5,bD,encI]
      refine ar.dec (fun hc=>?_) (fun hc=>?_)
      · have hg2:r.right[i]?=some (r.right[i]'(by omega)):=List.getElem?_eq_getElem (by omega)
        rw[c9 (show i < r.right.length by omega)] at hi
        have hmem:r.right[i]'(by omega)∈r.right:=List.getElem_mem _
        generalize r.right[i]'(by omega)=t at hg2 hi hmem
        have hin:=hr.2 t hmem
        simp only[List.all_cons] at hi
        have hbad:ki g r.prec t=false→gb false=gb (fG g r):=fun e=>by rw[e,Bool.false_and] at hi; simp only[fG,← hi,Bool.and_false]
        have hok:ki g r.prec t=true→(r.right.drop (i+1)).all (ki g r.prec)=r.right.all (ki g r.prec):=fun e=>by rw[e,Bool.true_and] at hi; exact hi
        simp (disch:=omega) only [↓wr,↓reduceIte,wq,ah,ag,ak,ab,ae,af,ai,isNil,Nat.reduceEqDiff,Nat.reduceAdd,Nat.reduceLT,Nat.reduceLeDiff,Int.reduceNeg,Int.reduceToNat,reduceCtorEq,h2,h3,h5,ax,encS,bD,encI,List.getElem?_map,hg2,Option.map_some]
        refine aN.pure (Pn g t hin) (by kernel_rfl) ?_
        repeat' (first | (refine ar.dec (fun _=>?_) (fun _=>?_)) | (refine ar.eq (fun _=>?_) (fun _=>?_)) | (refine ar.ne (fun _=>?_) (fun _=>?_)) | (refine ar.split (fun _=>?_) (fun _=>?_)) | (simp (disch:=omega) only [↓wr,↓reduceIte,wq,ah,ag,ak,ab,ae,af,ai,isNil,Nat.reduceEqDiff,Nat.reduceAdd,Nat.reduceLT,Nat.reduceLeDiff,Int.reduceNeg,Int.reduceToNat,reduceCtorEq,h2,h3,h5,ax,encS,bD,encI,List.getElem?_map,hg2,Option.map_some]))
        all_goals first
          | (refine hbad ?_; simp[ki, *]; done)
          | (refine ⟨k - 1,by omega,i+1,by omega,hok (by simp[ki, *]; done),by first | rfl | exact ⟨rfl,rfl⟩ | exact ⟨rfl,rfl,rfl⟩⟩)
          | skip
      · rw[List.drop_eq_nil_of_le (by omega)] at hi
        simp only[List.all_nil] at hi
        simp (disch:=omega) only [↓wr,↓reduceIte,wq,ah,ag,ak,ab,ae,af,ai,isNil,Nat.reduceEqDiff,Nat.reduceAdd,Nat.reduceLT,Nat.reduceLeDiff,Int.reduceNeg,Int.reduceToNat,reduceCtorEq,h2,h3,h5]
        simp only[fG,hle,hp1,hp2,decide_true,Bool.true_and,← hi]
theorem JX (g:ay) (r:bc) (hr:aR r.right∧∀ x∈r.right,bJ x):aI Tryz.prog 91 [.agg (ax g),.agg (bD r)] (gb (fG g r)):=aI.val (E0 g r) (Kz g r hr)
def fi (g:ay):List bc→Int→Bool
  | [],top=>top == (g.aw.length:Int) - 1
  | r :: l,top=>decide (0≤r.left) && decide (r.left≤top+1) && fG g r && fi g l (if r.left > top then r.left else top)
def bB (g:ay):Bool :=
  hO g && iN g && decide (1≤g.rules.length) && decide (g.rules.length≤40) && decide (0≤g.start) && decide (g.start < g.aw.length) && fi g g.rules (-1)
set_option maxHeartbeats 1000000 in
theorem IW (g:ay) (hg:g.Ok) (H:View):aG Tryz.prog 48 [.agg (ax g)] H fun r _=>r=gb (bB g):=by
  refine aG.of mixed sn ?_
  have hn:=hg.aw
  unfold aR at hn
  simp (disch:=omega) only [↓wr,↓reduceIte,wq,ah,ag,ak,ab,ae,af,ai,isNil,Nat.reduceEqDiff,Nat.reduceAdd,Nat.reduceLT,Nat.reduceLeDiff,Int.reduceNeg,Int.reduceToNat,reduceCtorEq,mU,ax,encS]
  refine aN.pure (Jp g hg) (by kernel_rfl) ?_
  repeat' (first | (refine ar.dec (fun _=>?_) (fun _=>?_)) | (refine ar.eq (fun _=>?_) (fun _=>?_)) | (refine ar.ne (fun _=>?_) (fun _=>?_)) | (refine ar.split (fun _=>?_) (fun _=>?_)) | (simp (disch:=omega) only [↓wr,↓reduceIte,wq,ah,ag,ak,ab,ae,af,ai,isNil,Nat.reduceEqDiff,Nat.reduceAdd,Nat.reduceLT,Nat.reduceLeDiff,Int.reduceNeg,Int.reduceToNat,reduceCtorEq,ax,encS]))
  · rename_i h1
    refine aN.pure (Ls g hg) (by kernel_rfl) ?_
    repeat' (first | (refine ar.dec (fun _=>?_) (fun _=>?_)) | (refine ar.eq (fun _=>?_) (fun _=>?_)) | (refine ar.ne (fun _=>?_) (fun _=>?_)) | (refine ar.split (fun _=>?_) (fun _=>?_)) | (simp (disch:=omega) only [↓wr,↓reduceIte,wq,ah,ag,ak,ab,ae,af,ai,isNil,Nat.reduceEqDiff,Nat.reduceAdd,Nat.reduceLT,Nat.reduceLeDiff,Int.reduceNeg,Int.reduceToNat,reduceCtorEq,ax,encS]))
    all_goals try (simp[bB, *]; done)
    all_goals try (simp[bB]; omega)
    rename_i h2 h3 h4 h5 h6
    have hle:g.rules.length≤40:=by omega
    have hpre:∀ b,fi g g.rules (-1)=b→gb b=gb (bB g):=fun b e=>by
      simp[bB,h1,h2,show 1≤g.rules.length by omega,hle,show 0≤g.start by omega,show g.start < g.aw.length by omega,e]
    refine bp.intro (fun k T _=>∃ (i:Nat) (w:Int),i+k=g.rules.length∧-1≤w∧w < i∧fi g (g.rules.drop i) w=fi g g.rules (-1)∧T 1=.aQ (ax g) 0∧T 3=gi w∧T 4=gi i) g.rules.length ?_ ?_
    · exact ⟨0,-1,by omega,by omega,by omega,rfl,rfl,rfl,rfl⟩
    · rintro k T H' ⟨i,w,hk,hw1,hw2,hi,f1,f3,f4⟩
      simp (disch:=omega) only [↓wr,↓reduceIte,wq,ah,ag,ak,ab,ae,af,ai,isNil,Nat.reduceEqDiff,Nat.reduceAdd,Nat.reduceLT,Nat.reduceLeDiff,Int.reduceNeg,Int.reduceToNat,reduceCtorEq,kC,f1,f3,f4,ax]
      refine ar.dec (fun hc=>?_) (fun hc=>?_)
      · have hg2:g.rules[i]?=some (g.rules[i]'(by omega)):=List.getElem?_eq_getElem (by omega)
        rw[c9 (show i < g.rules.length by omega)] at hi
        have hmem:g.rules[i]'(by omega)∈g.rules:=List.getElem_mem _
        generalize g.rules[i]'(by omega)=t at hg2 hi hmem
        obtain ⟨⟨hl1,hl2⟩,hp,hr1,hr2⟩:=hg.bQ t hmem
        simp only[fi] at hi
        simp (disch:=omega) only [↓wr,↓reduceIte,wq,ah,ag,ak,ab,ae,af,ai,isNil,Nat.reduceEqDiff,Nat.reduceAdd,Nat.reduceLT,Nat.reduceLeDiff,Int.reduceNeg,Int.reduceToNat,reduceCtorEq,f1,f3,f4,ax,encS,bD,encI,List.getElem?_map,hg2,Option.map_some]
        intro m hm
        try simp (disch:=omega) only [↓wr,↓reduceIte,wq,ah,ag,ak,ab,ae,af,ai,isNil,Nat.reduceEqDiff,Nat.reduceAdd,Nat.reduceLT,Nat.reduceLeDiff,Int.reduceNeg,Int.reduceToNat,reduceCtorEq,f1,f3,f4]
        repeat' (first | (refine ar.dec (fun _=>?_) (fun _=>?_)) | (refine ar.eq (fun _=>?_) (fun _=>?_)) | (refine ar.ne (fun _=>?_) (fun _=>?_)) | (refine ar.split (fun _=>?_) (fun _=>?_)) | (simp (disch:=omega) only [↓wr,↓reduceIte,wq,ah,ag,ak,ab,ae,af,ai,isNil,Nat.reduceEqDiff,Nat.reduceAdd,Nat.reduceLT,Nat.reduceLeDiff,Int.reduceNeg,Int.reduceToNat,reduceCtorEq,f1,f3,f4,ax,encS,bD,encI]))
        all_goals try (refine hpre _ ?_; simp only[← hi]; simp; omega)
        rename_i e1 e2
        refine aN.pure (JX g t ⟨hr1,hr2⟩) (by kernel_rfl) ?_
        repeat' (first | (refine ar.dec (fun _=>?_) (fun _=>?_)) | (refine ar.eq (fun _=>?_) (fun _=>?_)) | (refine ar.ne (fun _=>?_) (fun _=>?_)) | (refine ar.split (fun _=>?_) (fun _=>?_)) | (simp (disch:=omega) only [↓wr,↓reduceIte,wq,ah,ag,ak,ab,ae,af,ai,isNil,Nat.reduceEqDiff,Nat.reduceAdd,Nat.reduceLT,Nat.reduceLeDiff,Int.reduceNeg,Int.reduceToNat,reduceCtorEq,f1,f3,f4,ax,encS,bD,encI]))
        all_goals simp only[show 0≤t.left by omega,show t.left≤w+1 by omega,decide_true,Bool.true_and] at hi
        · rename_i e3 e4
          rw[e3,Bool.true_and,if_pos e4] at hi
          exact ⟨k - 1,by omega,i+1,_,by omega,by omega,by push_cast; omega,hi,by first | rfl | exact ⟨rfl,rfl⟩ | exact ⟨rfl,rfl,rfl⟩⟩
        · rename_i e3 e4
          rw[e3,Bool.true_and,if_neg e4] at hi
          exact ⟨k - 1,by omega,i+1,_,by omega,by omega,by push_cast; omega,hi,by first | rfl | exact ⟨rfl,rfl⟩ | exact ⟨rfl,rfl,rfl⟩⟩
        · rename_i e3
          rw[e3,Bool.false_and] at hi
          exact hpre _ hi.symm
      · rw[List.drop_eq_nil_of_le (by omega)] at hi
        simp only[fi] at hi
        simp (disch:=omega) only [↓wr,↓reduceIte,wq,ah,ag,ak,ab,ae,af,ai,isNil,Nat.reduceEqDiff,Nat.reduceAdd,Nat.reduceLT,Nat.reduceLeDiff,Int.reduceNeg,Int.reduceToNat,reduceCtorEq,f1,f3,f4,ax,encS]
        exact hpre _ hi.symm
  · rename_i h1; simp[bB,h1]
theorem jm (g:ay) (hg:g.Ok):aI Tryz.prog 48 [.agg (ax g)] (gb (bB g)):=aI.val (hQ g) (IW g hg)
inductive bP (α:Type) where
  | nil
  | node (v:α) (l r:bP α)
noncomputable def bP.get {α:Type} (z:α) (t:bP α):Nat→α :=
  bP.rec (motive:=fun _=>Nat→α) (fun _=>z) (fun v _ _ gl gr i=>Bool.rec (Bool.rec (gr (i / 2 - 1)) (gl (i / 2)) (Nat.beq (i % 2) 1)) v (Nat.beq i 0)) t
theorem bP.get_nil {α:Type} (z:α) (i:Nat):bP.get z .nil i=z:=rfl
theorem bP.LZ {α:Type} (z v:α) (l r:bP α) (i:Nat):bP.get z (.node v l r) i=match Nat.beq i 0 with
    | true=>v
    | false=>match Nat.beq (i % 2) 1 with
      | true=>bP.get z l (i / 2)
      | false=>bP.get z r (i / 2 - 1):=by
  change (Bool.rec (motive:=fun _=>α) _ _ _:α)=_
  cases Nat.beq i 0 with
  | true=>rfl
  | false=>cases Nat.beq (i % 2) 1 <;> rfl
def bP.val {α:Type} (z:α):bP α→α
  | .nil=>z
  | .node v _ _=>v
def bP.left {α:Type} : bP α→bP α
  | .nil=>.nil
  | .node _ l _=>l
def bP.right {α:Type} : bP α→bP α
  | .nil=>.nil
  | .node _ _ r=>r
noncomputable def bP.put {α:Type} (z:α) (x:α) (d:Nat):bP α→Nat→bP α :=
  Nat.rec (motive:=fun _=>bP α→Nat→bP α) (fun t _=>t) (fun _ pd t i =>
    Bool.rec (Bool.rec (.node (t.val z) t.left (pd t.right (i / 2 - 1))) (.node (t.val z) (pd t.left (i / 2)) t.right) (Nat.beq (i % 2) 1)) (.node x t.left t.right) (Nat.beq i 0)) d
theorem bP.MN {α:Type} (z x:α) (d:Nat) (t:bP α) (i:Nat):bP.put z x (d+1) t i=match Nat.beq i 0 with
    | true=>.node x t.left t.right
    | false=>match Nat.beq (i % 2) 1 with
      | true=>.node (t.val z) (bP.put z x d t.left (i / 2)) t.right
      | false=>.node (t.val z) t.left (bP.put z x d t.right (i / 2 - 1)):=by
  change (Bool.rec (motive:=fun _=>bP α) _ _ _:bP α)=_
  cases Nat.beq i 0 with
  | true=>rfl
  | false=>cases Nat.beq (i % 2) 1 <;> rfl
theorem bP.kK {α:Type} (z:α) (t:bP α) (j:Nat):t.get z j=if j=0 then t.val z else if j % 2=1 then t.left.get z (j / 2) else t.right.get z (j / 2 - 1):=by
  cases t with
  | nil=>simp[bP.get_nil,bP.val,bP.left,bP.right]
  | node v l r =>
    simp only[bP.LZ,bP.val,bP.left,bP.right]
    by_cases h:j=0
    · subst h; rfl
    · have:Nat.beq j 0=false:=by cases e:Nat.beq j 0 with | true=>exact absurd (Nat.eq_of_beq_eq_true e) h | false=>rfl
      rw[this,if_neg h]
      simp only
      by_cases h2:j % 2=1
      · have:Nat.beq (j % 2) 1=true:=by rw[h2]; rfl
        rw[this,if_pos h2]
      · have:Nat.beq (j % 2) 1=false:=by cases e:Nat.beq (j % 2) 1 with | true=>exact absurd (Nat.eq_of_beq_eq_true e) h2 | false=>rfl
        rw[this,if_neg h2]
theorem bP.kG {α:Type} (z x:α):∀ (d:Nat) (t:bP α) (i j:Nat),i+1 < 2 ^ d→(bP.put z x d t i).get z j=if j=i then x else t.get z j
  | 0,t,i,j,h=>by simp at h
  | d+1,t,i,j,h=>by
    rw[Nat.pow_succ] at h
    simp only[bP.MN]
    by_cases hi:i=0
    · subst hi
      have:Nat.beq 0 0=true:=rfl
      rw[this]
      simp only
      rw[bP.kK,bP.kK z t]
      simp only[bP.val,bP.left,bP.right]
      by_cases hj:j=0
      · rw[if_pos hj,if_pos hj]
      · rw[if_neg hj,if_neg hj,if_neg hj]
    · have:Nat.beq i 0=false:=by cases e:Nat.beq i 0 with | true=>exact absurd (Nat.eq_of_beq_eq_true e) hi | false=>rfl
      rw[this]
      simp only
      by_cases h2:i % 2=1
      · have:Nat.beq (i % 2) 1=true:=by rw[h2]; rfl
        rw[this]
        simp only
        rw[bP.kK,bP.kK z t]
        simp only[bP.val,bP.left,bP.right]
        by_cases hj:j=0
        · subst hj; rw[if_pos rfl,if_neg (fun e=>hi e.symm),if_pos rfl]
        · rw[if_neg hj,if_neg hj]
          by_cases hj2:j % 2=1
          · rw[if_pos hj2,if_pos hj2,bP.kG z x d _ _ _ (by omega)]
            by_cases e:j=i
            · subst e; simp
            · rw[if_neg e,if_neg (by omega)]
          · rw[if_neg hj2,if_neg hj2,if_neg (fun e=>hj2 (by rw[e]; exact h2))]
      · have:Nat.beq (i % 2) 1=false:=by cases e:Nat.beq (i % 2) 1 with | true=>exact absurd (Nat.eq_of_beq_eq_true e) h2 | false=>rfl
        rw[this]
        simp only
        rw[bP.kK,bP.kK z t]
        simp only[bP.val,bP.left,bP.right]
        by_cases hj:j=0
        · subst hj; rw[if_pos rfl,if_neg (fun e=>hi e.symm),if_pos rfl]
        · rw[if_neg hj,if_neg hj]
          by_cases hj2:j % 2=1
          · rw[if_pos hj2,if_pos hj2,if_neg (fun e=>h2 (by rw[← e]; exact hj2))]
          · rw[if_neg hj2,if_neg hj2,bP.kG z x d _ _ _ (by omega)]
            by_cases e:j=i
            · subst e; simp
            · rw[if_neg e,if_neg (by omega)]
abbrev deep:Nat:=13
structure ES where
  L:bP V
  H:bP bM
  n:Nat
  w:List Nat
noncomputable def ES.T (s:ES):Env:=s.L.get .any
noncomputable def ES.V (s:ES):View:=s.H.get .dead
noncomputable def ES.put (s:ES) (d:Option Nat) (v:Gv.V):ES:=match d with
  | some t=>⟨s.L.put .any v deep t,s.H,s.n,s.w⟩
  | none=>s
theorem ES.NO {s:ES} {d:Option Nat} {v:Gv.V} (h:∀ t,d=some t→t < 8000):(s.put d v).T=s.T.put d v:=by
  cases d with
  | none=>rfl
  | some t =>
    funext k
    have:=h t rfl
    simp only[ES.put,ES.T,Env.put]
    rw[bP.kG _ _ _ _ _ _ (by simp[deep]; omega)]
noncomputable def Fe (v:V) (aE:bd) (rd:List Nat) (s:ES):Option (V × ES × Rec):=match aE with
  | .none=>some (v,s,⟨rd,[],false,s.n,s.n⟩)
  | .new o=>match Nat.ble s.n 8000 with
    | true=>some (v,⟨s.L,s.H.put .dead o deep s.n,s.n+1,s.w⟩,⟨rd,[],false,s.n,s.n+1⟩)
    | false=>none
  | .eW id o=>match Nat.ble id 8000 with
    | true=>some (v,⟨s.L,s.H.put .dead o deep id,s.n,id :: s.w⟩,⟨rd,[id],false,s.n,s.n⟩)
    | false=>none
  | .aX id o=>match Nat.ble s.n 8000,Nat.ble id 8000 with
    | true,true=>some (v,⟨s.L,(s.H.put .dead .dead deep id).put .dead o deep s.n,s.n+1,id :: s.w⟩,⟨rd,[id],false,s.n,s.n+1⟩)
    | _,_=>none
noncomputable def QH (x:SX) (_:Program) (T:Env) (_:View) (_:Nat):Out:=some (x.at T,.none,[])
noncomputable def Qb (c a b:SX) (_:Program) (T:Env) (_:View) (_:Nat):Out:=match c.at T with
  | .val (.bool t)=>some (if t then a.at T else b.at T,.none,[])
  | _=>none
noncomputable def Qj (sz:Option Nat) (a:SX) (_:Program) (T:Env) (H:View) (_:Nat):Out:=vE sz (a.at T) H
noncomputable def PH (sz:Nat) (a x:SX) (_:Program) (T:Env) (H:View) (_:Nat):Out:=AT sz (a.at T) (x.at T) H
noncomputable def Qd (off:Nat) (x:SX) (_:Program) (T:Env) (_:View) (_:Nat):Out:=y0 off (x.at T)
noncomputable def Qz (sz:Nat) (x i:SX) (_:Program) (T:Env) (_:View) (_:Nat):Out:=CB sz (x.at T) (i.at T)
noncomputable def QE (x:SX) (_:Program) (T:Env) (_:View) (_:Nat):Out:=(dh (x.at T)).map fun n=>(ak n,.none,[])
noncomputable def PI (op:BinOp) (x y:SX) (_:Program) (T:Env) (_:View) (_:Nat):Out:=yG op (x.at T) (y.at T)
noncomputable def QB (op:BinOp) (x y:SX) (_:Program) (T:Env) (_:View) (_:Nat):Out:=Aa op (x.at T) (y.at T)
noncomputable def Qy (x:SX) (_:Program) (T:Env) (_:View) (_:Nat):Out:=match x.at T with
  | .val (.bool t)=>some (.val (.bool (!t)),.none,[])
  | _=>none
noncomputable def QN (i:Nat) (x:SX) (_:Program) (T:Env) (_:View) (_:Nat):Out:=match x.at T with
  | .bf vs=>if i < vs.length then some (vs.getD i .any,.none,[]) else none
  | _=>none
noncomputable def Qm (x:SX) (_:Program) (T:Env) (_:View) (_:Nat):Out:=match x.at T with
  | .ptr id i j=>some (.ptr id i j,.none,[])
  | .aQ e j=>some (.aQ e j,.none,[])
  | .fn f a b=>some (.fn f a b,.none,[])
  | _=>none
noncomputable def eI (s:SI):Program→Env→View→Nat→Out:=match s with
  | .aX x=>QH x
  | .pick c a b=>Qb c a b
  | .load sz a=>Qj sz a
  | .store sz a x=>PH sz a x
  | .addr o x=>Qd o x
  | .idx sz x i=>Qz sz x i
  | .len x=>QE x
  | .arith op x y=>PI op x y
  | .iq op x y=>QB op x y
  | .not x=>Qy x
  | .ext i x=>QN i x
  | .AB x=>Qm x
  | s=>fun P T H n=>sI P s T H n
theorem It (s:SI) (P:Program) (T:Env) (H:View) (n:Nat):eI s P T H n=sI P s T H n:=by
  cases s <;> rfl
abbrev fE:=FuncId→List V→ES→Option (V × ES)
noncomputable def J2 (P:Program) (s:SI) (e:ES):Option (V × ES × Rec):=match eI s P e.T e.V e.n with
  | some (v,aE,rd)=>Fe v aE rd e
  | none=>none
noncomputable def Kx (call:fE) (f:SX) (args:List SX) (e:ES):Option (V × ES × Rec):=match f.at e.T with
  | .fn g first cap=>match call g (first ++ args.map (SX.at e.T) ++ cap) e with
    | some (v,e')=>some (v,⟨e.L,e'.H,e'.n,e'.w ++ e.w⟩,⟨[],e'.w,true,e.n,e'.n⟩)
    | none=>none
  | _=>none
noncomputable def eB (P:Program) (call:fE) (b:SB):ES→Option (V × ES × Rec):=match b with
  | .op s=>J2 P s
  | .call f args=>Kx call f args
noncomputable def G2 (P:Program) (call:fE):List (Option Nat × SB)→List Rec→ES→Option (ES × List Rec)
  | [],a,e=>some (e,a)
  | (d,b) :: r,a,e=>match eB P call b e with
    | some (v,e',c)=>G2 P call r (a ++ [c]) (e'.put d v)
    | none=>none
noncomputable def NM (e:ES):Rec:=⟨[],[],false,e.n,e.n⟩
noncomputable def wa:List (Option Nat × SB)→List Rec→ES→ES × List Rec
  | [],a,e=>(e,a)
  | (d,_) :: r,a,e=>wa r (a ++ [NM e]) (e.put d (.bf []))
noncomputable def LA (P:Program) (call:fE) (ops:List (Option Nat × SB)) (want:Bool) (v:V) (a:List Rec) (e:ES):Option (ES × List Rec):=match v with
  | .val (.bool b)=>match xor b want with
    | true=>some (wa ops a e)
    | false=>G2 P call ops a e
  | .bf []=>some (wa ops a e)
  | _=>none
noncomputable def eG (P:Program) (call:fE) (g:SG) (a:List Rec) (e:ES):Option (ES × List Rec):=match g.guard with
  | none=>G2 P call g.ops a e
  | some (d,want)=>LA P call g.ops want (e.T d) a e
noncomputable def LV (P:Program) (call:fE):List SG→List Rec→ES→Option (ES × List Rec)
  | [],a,e=>some (e,a)
  | g :: r,a,e=>match eG P call g a e with
    | some (e',a')=>LV P call r a' e'
    | none=>none
inductive DC where
  | skip
  | region (ps:List (Nat × Nat)) (gs:List SG)
  | seq (x y:DC)
  | cond (c:SX) (x y:DC)
  | block (id:Nat) (c:DC)
  | loop (c:DC)
  | exit (id:Nat)
  | ret
  deriving Inhabited
def Ki (recs:List Rec) (ps:List (Nat × Nat)):Bool:=ps.all fun (i,k)=>match recs[i]?,recs[k]? with
  | some a,some b=>B4 a b
  | _,_=>false
abbrev ER:=Option (Exit × ES)
abbrev w5:=DC→ES→ER
noncomputable def Ks:ES→ER:=fun e=>some (.normal,e)
noncomputable def Iq (P:Program) (call:fE) (ps:List (Nat × Nat)) (gs:List SG) (e:ES):ER:=match LV P call gs [] e with
  | some (e',recs)=>match Ki recs ps with
    | true=>some (.normal,e')
    | false=>none
  | none=>none
noncomputable def PE (run:w5) (x y:DC) (e:ES):ER:=match run x e with
  | some (.normal,e')=>run y e'
  | r=>r
noncomputable def Nr (run:w5) (c:SX) (x y:DC) (e:ES):ER:=match c.at e.T with
  | .val (.bool true)=>run x e
  | .val (.bool false)=>run y e
  | _=>none
noncomputable def KV (run:w5) (id:Nat) (c:DC) (e:ES):ER:=match run c e with
  | some (r,e')=>some (nI id r,e')
  | none=>none
noncomputable def Nq (run:w5) (c:DC) (e:ES):ER:=match run c e with
  | some (.normal,e')=>run (.loop c) e'
  | r=>r
noncomputable def j0 (P:Program) (call:fE) (run:w5) (c:DC):ES→ER:=match c with
  | .skip=>Ks
  | .region ps gs=>Iq P call ps gs
  | .seq x y=>PE run x y
  | .cond c x y=>Nr run c x y
  | .block id c=>KV run id c
  | .loop c=>Nq run c
  | .exit id=>fun e=>some (.exit id,e)
  | .ret=>fun e=>some (.ret,e)
noncomputable def Mp (r:SR) (e:ES):Option V:=match r with
  | .tmp t=>some (e.T t)
  | .cell t sz=>match e.T t with
    | .ptr id i j=>match e.V id with
      | .arr _ es=>if i < es.length then kb sz (es.getD i []) j else none
      | _=>none
    | .aQ e j=>kb sz e j
    | _=>none
noncomputable def vT:List SR→ES→Option (List V)
  | [],_=>some []
  | r :: l,e=>match Mp r e,vT l e with
    | some v,some vs=>some (v :: vs)
    | _,_=>none
noncomputable def kW:List V→Nat→bP V→bP V
  | [],_,t=>t
  | v :: vs,i,t=>kW vs (i+1) (t.put .any v deep i)
structure DF where
  code:DC
  res:List SR
  n:Nat
noncomputable def PT (l:List SR) (r:ER):Option (V × ES):=match r with
  | some (.ret,e)=>(vT l e).map fun vs=>(ah vs,e)
  | some (.normal,e)=>(vT l e).map fun vs=>(ah vs,e)
  | _=>none
noncomputable def Pf (m:Nat) (r:Option (V × ES)):Option (V × ES):=match r with
  | some (v,e)=>some (v,⟨e.L,e.H,e.n,e.w.filter fun id=>Nat.blt id m⟩)
  | none=>none
noncomputable def PR (run:w5) (F:DF) (vs:List V) (e:ES):Option (V × ES):=match Nat.ble vs.length F.n,Nat.ble F.n 8000 with
  | true,true=>Pf e.n (PT F.res (run F.code ⟨kW vs 0 .nil,e.H,e.n,[]⟩))
  | _,_=>none
abbrev x5:=FuncId→List V→View→Option V
noncomputable def Ee (P:Program) (tab:List (FuncId × DF)) (ext:x5) (run:w5) (g:FuncId) (vs:List V) (e:ES):Option (V × ES):=match ext g vs e.V with
  | some t=>some (t,⟨e.L,e.H,e.n,[]⟩)
  | none=>match tab.find? (fun p=>Nat.beq p.1 g) with
    | some (_,F)=>PR run F vs e
    | none=>none
noncomputable def FV (P:Program) (tab:List (FuncId × DF)) (ext:x5):Nat→w5
  | 0=>fun _ _=>none
  | k+1=>j0 P (Ee P tab ext (FV P tab ext k)) (FV P tab ext k)
def BC (all:List Oper) (ls:List Nat):List (Nat × Nat) :=
  let b:=dW all []
  (ls.zipIdx.map fun (x,i)=>(ls.zipIdx.filter fun (y,k)=>decide (i < k) && !(ordered b i k || x == 0 || y == 0 || (decide (x≤1) && decide (y≤1)))).map fun (_,k)=>(i,k)).flatten
def EO (P:Program) (n:Nat) (fz:List Nat) (ops:List Oper) (draw:Bool):Option DC:=match cD P n ops ⟨fz,false⟩ ops with
  | none=>none
  | some l=>if !(group l).all r6 then none else
    if draw then (if jT ops then some (.region (BC ops (l.map fun s=>gp P false s.b)) (group l)) else none) else some (.region [] (group l))
def gw (P:Program) (n:Nat) (fz:List Nat):Code→Option DC
  | .skip=>some .skip
  | .region _ ops draw=>EO P n fz ops.toList draw
  | .seq x y=>match gw P n fz x,gw P n fz y with
    | some a,some b=>some (.seq a b)
    | _,_=>none
  | .cond c x y=>match gw P n fz x,gw P n fz y with
    | some a,some b=>some (.cond (SX.of c) a b)
    | _,_=>none
  | .block id c=>(gw P n fz c).map (.block id)
  | .loop c=>(gw P n fz c).map .loop
  | .exit id=>some (.exit id)
  | .ret=>some .ret
  | _=>none
abbrev aj (l:List (Option Nat × SB)):DC:=.region [] [⟨none,l⟩]
def aO (P:Program) (f:FuncId) (fz:List Nat):Option DF:=match P.funcs[f]? with
  | some fn=>match fn.body with
    | some c=>match gw P fn.ntmps fz c,dX P fn.results.toList,cA P f with
      | some sc,some rs,true=>some ⟨sc,rs,fn.ntmps⟩
      | _,_,_=>none
    | none=>none
  | none=>none
end Gv
