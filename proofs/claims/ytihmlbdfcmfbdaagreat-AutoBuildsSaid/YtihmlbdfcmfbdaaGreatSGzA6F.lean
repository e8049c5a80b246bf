/-
  Part 6 of the proof: what the machine does and what the functions answer.
  Conditions: those that each lemma names.
-/
import Derived.Test.YtihmlbdfcmfbdaaGreatSGzA6E
set_option linter.unusedSimpArgs false
set_option linter.unusedVariables false
set_option maxRecDepth 100000
namespace Gv
open Go Go.Proofs
structure Term where
  name:ByteArray
  level:Int
  assoc:Int
structure aT where
  left:Int
  right:List Int
  prec:Int
structure ao where
  az:List Term
  ay:List ByteArray
  rules:List aT
  start:Int
instance:Inhabited Term:=⟨⟨.empty,0,0⟩⟩
instance:Inhabited aT:=⟨⟨0,[],0⟩⟩
def cE (t:Term):List V:=[gs t.name,gi t.level,gi t.assoc]
def ba (r:aT):List V:=[gi r.left,encI r.right,gi r.prec]
def encS (l:List ByteArray):V:=.aZ (l.map fun s=>[gs s])
def aw (g:ao):List V:=[.aZ (g.az.map cE),encS g.ay,.aZ (g.rules.map ba),gi g.start]
theorem eF {α:Type} (l:List α) (f:α→List V) (h:∀ x∈l,∀ v∈f x,Tree v):Tree (.aZ (l.map f)):=by
  refine .aZ _ fun i j hi hj=>?_
  simp only[List.length_map] at hi
  have e:(l.map f).getD i []=f l[i]:=by simp[List.getD_eq_getElem?_getD,hi]
  rw[e] at hj ⊢
  have e2:(f l[i]).getD j .any=(f l[i])[j]:=by simp[List.getD_eq_getElem?_getD,hj]
  rw[e2]
  exact h _ (List.getElem_mem _) _ (List.getElem_mem _)
theorem dd (cs:List V) (h:∀ v∈cs,Tree v):Tree (.agg cs):=by
  refine .agg _ fun i hi=>?_
  have e2:cs.getD i .any=cs[i]:=by simp[List.getD_eq_getElem?_getD,hi]
  rw[e2]; exact h _ (List.getElem_mem _)
theorem xj (l:List ByteArray):Tree (encS l):=eF _ _ fun x _ v hv=>by simp at hv; subst hv; exact .val _
theorem rJ (t:Term):∀ v∈cE t,Tree v:=by intro v hv; simp[cE] at hv; rcases hv with rfl | rfl | rfl <;> exact .val _
theorem gg (r:aT):∀ v∈ba r,Tree v:=by
  intro v hv; simp[ba] at hv; rcases hv with rfl | rfl | rfl
  · exact .val _
  · exact gp _
  · exact .val _
theorem dT (g:ao):∀ v∈aw g,Tree v:=by
  intro v hv; simp[aw] at hv; rcases hv with rfl | rfl | rfl | rfl
  · exact eF _ _ fun x _=>rJ x
  · exact xj _
  · exact eF _ _ fun x _=>gg x
  · exact .val _
def cz (x:Int):Prop:=-9223372036854775808≤x∧x≤9223372036854775807
structure ao.Ok (g:ao):Prop where
  az:aW g.az
  ay:aW g.ay
  rules:aW g.rules
  start:cz g.start
  term:∀ t∈g.az,cz t.level∧cz t.assoc
  aH:∀ r∈g.rules,cz r.left∧cz r.prec∧aW r.right∧∀ x∈r.right,cz x
def hU (g:ao) (s:Int):Bool:=if 0≤s then decide (s < g.az.length) else decide (-1 - s < g.ay.length)
def pL:SF:=⟨.seq (ak [bZ 2 0,aX 4 false]) <|
  .seq (.seq (ak [aa 5 1,aA 6 .geq 5 0]) <|
  .cond (.tmp 6) (.seq (ak [aa 7 1,av 8 0 2,au 9 8,aJ 10 9,aN 11 .lss 7 10,aa 4 11]) <|
  .ret) (.skip)) <|
  .seq (ak [aa 12 1,((some 13),.op (.arith .sub (.val (.val (.int .i64 (-1)))) (.tmp 12))),av 14 1 2,au 15 14,aJ 16 15,aN 17 .lss 13 16,aa 4 17]) <|
  .ret,
  [.tmp 4],18⟩
theorem u6:bf Tryz.prog 155 [2]=some pL:=by kernel_rfl
theorem O5 (g:ao) (s:Int) (hs:cz s) (H:View):aC Tryz.prog 155 [.agg (aw g),gi s] H fun r H'=>r=gb (hU g s)∧H'=H:=by
  refine aC.of mixed u6 ?_
  obtain ⟨h1,h2⟩:=hs
  simp (disch:=omega) only [↓wr,↓reduceIte,wq,ah,ag,aj,ab,ae,af,ai,isNil,Nat.reduceEqDiff,Nat.reduceAdd,Nat.reduceLT,Nat.reduceLeDiff,Int.reduceNeg,Int.reduceToNat,reduceCtorEq,pL,aw,encS]
  refine ax.dec (fun h=>?_) (fun h=>?_)
  · simp (disch:=omega) only [↓wr,↓reduceIte,wq,ah,ag,aj,ab,ae,af,ai,isNil,Nat.reduceEqDiff,Nat.reduceAdd,Nat.reduceLT,Nat.reduceLeDiff,Int.reduceNeg,Int.reduceToNat,reduceCtorEq]
    simp[hU,show (0:Int)≤s from h]
  · simp (disch:=omega) only [↓wr,↓reduceIte,wq,ah,ag,aj,ab,ae,af,ai,isNil,Nat.reduceEqDiff,Nat.reduceAdd,Nat.reduceLT,Nat.reduceLeDiff,Int.reduceNeg,Int.reduceToNat,reduceCtorEq]
    simp[hU,show ¬ (0:Int)≤s from h]
theorem OH (g:ao) (s:Int) (hs:cz s):aD Tryz.prog 155 [.agg (aw g),gi s] (gb (hU g s)) :=
  aD.of (by
    intro v hv; simp at hv
    rcases hv with rfl | rfl
    · exact dd _ (dT g)
    · exact .val _) ((O5 g s hs _).mono fun r H' h h' _=>by rw[h.1]; exact .tree _ (.val _))
def mc (g:ao):Bool:=decide (40 < g.az.length) || decide (40 < g.ay.length) || decide (60 < g.rules.length) || g.rules.any fun r=>decide (20 < r.right.length)
def lE:SC :=
  .seq (.seq (ak [aa 20 3,av 21 2 1,au 22 21,aJ 23 22,aN 24 .lss 20 23]) <|
  .cond (.tmp 24) (.skip) (.exit 0)) <|
  .seq (.block 1 (.seq (ak [av 27 2 1,au 28 27,aa 29 3,aP 30 3 28 29,av 31 1 30,au 32 31,aJ 33 32,aA 34 .gtr 33 20]) <|
  .cond (.tmp 34) (.seq (ak [aX 2 true]) <|
  .ret) (.skip))) <|
  ak [aa 25 3,aA 26 .add 25 1,aa 3 26]
def m5:SF:=⟨.seq (ak [bZ 1 0,aX 2 false]) <|
  .seq (.seq (.region false [⟨none,[av 4 0 1,au 5 4,aJ 6 5,aA 7 .gtr 6 40,aa 8 7]⟩,⟨(some (8,false)),[av 9 1 1,au 10 9,aJ 11 10,aA 12 .gtr 11 40]⟩,⟨none,[bJ 13 8 12,aa 14 13]⟩,⟨(some (14,false)),[av 15 2 1,au 16 15,aJ 17 16,aA 18 .gtr 17 60]⟩,⟨none,[bJ 19 14 18]⟩]) <|
  .cond (.tmp 19) (.seq (ak [aX 2 true]) <|
  .ret) (.skip)) <|
  .seq (.seq (ak [aF 3 0]) <|
  .block 0 (.loop lE)) <|
  .seq (ak [aX 2 false]) <|
  .ret,
  [.tmp 2],35⟩
theorem sE:bf Tryz.prog 16 [1]=some m5:=by kernel_rfl
theorem Nb (g:ao) (H:View):aC Tryz.prog 16 [.agg (aw g)] H fun r H'=>r=gb (mc g)∧H'=H:=by
  refine aC.of mixed sE ?_
  simp (disch:=omega) only [↓wr,↓reduceIte,wq,ah,ag,aj,ab,ae,af,ai,isNil,Nat.reduceEqDiff,Nat.reduceAdd,Nat.reduceLT,Nat.reduceLeDiff,Int.reduceNeg,Int.reduceToNat,reduceCtorEq,m5,aw,encS]
  refine ax.dec (fun h1=>?_) (fun h1=>?_)
  · simp (disch:=omega) only [↓wr,↓reduceIte,wq,ah,ag,aj,ab,ae,af,ai,isNil,Nat.reduceEqDiff,Nat.reduceAdd,Nat.reduceLT,Nat.reduceLeDiff,Int.reduceNeg,Int.reduceToNat,reduceCtorEq]
    simp[mc,show 40 < g.az.length by omega]
  · simp (disch:=omega) only [↓wr,↓reduceIte,wq,ah,ag,aj,ab,ae,af,ai,isNil,Nat.reduceEqDiff,Nat.reduceAdd,Nat.reduceLT,Nat.reduceLeDiff,Int.reduceNeg,Int.reduceToNat,reduceCtorEq]
    refine ax.dec (fun h2=>?_) (fun h2=>?_)
    · simp (disch:=omega) only [↓wr,↓reduceIte,wq,ah,ag,aj,ab,ae,af,ai,isNil,Nat.reduceEqDiff,Nat.reduceAdd,Nat.reduceLT,Nat.reduceLeDiff,Int.reduceNeg,Int.reduceToNat,reduceCtorEq]
      simp[mc,show 40 < g.ay.length by omega]
    · simp (disch:=omega) only [↓wr,↓reduceIte,wq,ah,ag,aj,ab,ae,af,ai,isNil,Nat.reduceEqDiff,Nat.reduceAdd,Nat.reduceLT,Nat.reduceLeDiff,Int.reduceNeg,Int.reduceToNat,reduceCtorEq]
      refine ax.dec (fun h3=>?_) (fun h3=>?_)
      · simp (disch:=omega) only [↓wr,↓reduceIte,wq,ah,ag,aj,ab,ae,af,ai,isNil,Nat.reduceEqDiff,Nat.reduceAdd,Nat.reduceLT,Nat.reduceLeDiff,Int.reduceNeg,Int.reduceToNat,reduceCtorEq]
        simp[mc,show 60 < g.rules.length by omega]
      · simp (disch:=omega) only [↓wr,↓reduceIte,wq,ah,ag,aj,ab,ae,af,ai,isNil,Nat.reduceEqDiff,Nat.reduceAdd,Nat.reduceLT,Nat.reduceLeDiff,Int.reduceNeg,Int.reduceToNat,reduceCtorEq]
        refine bz.intro (fun k T H'=>∃ i:Nat,i+k=g.rules.length∧(∀ r∈g.rules.take i,¬ 20 < r.right.length)∧T 1=.aR (aw g) 0∧T 3=gi i∧H'=H) g.rules.length ?_ ?_
        · exact ⟨0,by omega,by simp,rfl,rfl,rfl⟩
        · rintro k T H' ⟨i,hk,hi,e1,e3,rfl⟩
          simp (disch:=omega) only [↓wr,↓reduceIte,wq,ah,ag,aj,ab,ae,af,ai,isNil,Nat.reduceEqDiff,Nat.reduceAdd,Nat.reduceLT,Nat.reduceLeDiff,Int.reduceNeg,Int.reduceToNat,reduceCtorEq,lE,e1,e3,aw]
          refine ax.dec (fun hc=>?_) (fun hc=>?_)
          · have hg:g.rules[i]?=some (g.rules[i]'(by omega)):=List.getElem?_eq_getElem (by omega)
            simp (disch:=omega) only [↓wr,↓reduceIte,wq,ah,ag,aj,ab,ae,af,ai,isNil,Nat.reduceEqDiff,Nat.reduceAdd,Nat.reduceLT,Nat.reduceLeDiff,Int.reduceNeg,Int.reduceToNat,reduceCtorEq,e1,e3,aw,ba,encI,List.getElem?_map,hg,Option.map_some]
            refine ax.dec (fun hd=>?_) (fun hd=>?_)
            · simp (disch:=omega) only [↓wr,↓reduceIte,wq,ah,ag,aj,ab,ae,af,ai,isNil,Nat.reduceEqDiff,Nat.reduceAdd,Nat.reduceLT,Nat.reduceLeDiff,Int.reduceNeg,Int.reduceToNat,reduceCtorEq]
              have:g.rules.any (fun r=>decide (20 < r.right.length))=true:=by
                simp only[List.any_eq_true,decide_eq_true_eq]
                exact ⟨g.rules[i]'(by omega),List.getElem_mem _,by omega⟩
              simp[mc,this]
            · simp (disch:=omega) only [↓wr,↓reduceIte,wq,ah,ag,aj,ab,ae,af,ai,isNil,Nat.reduceEqDiff,Nat.reduceAdd,Nat.reduceLT,Nat.reduceLeDiff,Int.reduceNeg,Int.reduceToNat,reduceCtorEq,e1,e3]
              refine ⟨k - 1,by omega,i+1,by omega,?_,rfl,rfl⟩
              intro r hr
              rw[List.take_add_one,hg] at hr
              simp only[Option.toList_some,List.mem_append,List.mem_singleton] at hr
              rcases hr with hr | rfl
              · exact hi r hr
              · omega
          · simp (disch:=omega) only [↓wr,↓reduceIte,wq,ah,ag,aj,ab,ae,af,ai,isNil,Nat.reduceEqDiff,Nat.reduceAdd,Nat.reduceLT,Nat.reduceLeDiff,Int.reduceNeg,Int.reduceToNat,reduceCtorEq,e1,e3]
            have e:i=g.rules.length:=by omega
            rw[List.take_of_length_le (by omega)] at hi
            have:g.rules.any (fun r=>decide (20 < r.right.length))=false:=by
              simp only[List.any_eq_false,decide_eq_true_eq]; exact hi
            simp only[mc,this]
            simp; omega
def dP (l:List Int) (is:List Bool) (az:Bool):Bool:=l.all fun s=>if 0≤s then az else is.getD (-1 - s).toNat false
def m6:SC :=
  .seq (.seq (ak [aa 8 7,aa 9 0,aJ 10 9,aN 11 .lss 8 10]) <|
  .cond (.tmp 11) (.skip) (.exit 0)) <|
  .seq (.block 1 (.seq (.region false [⟨none,[aa 14 0,aa 15 7,aP 16 1 14 15,au 17 16,aA 18 .geq 17 0,aa 19 18]⟩,⟨(some (19,true)),[aa 20 2,b6 21 20]⟩,⟨none,[bG 22 19 21,aa 23 22]⟩,⟨(some (23,false)),[aa 24 0,aa 25 7,aP 26 1 24 25,au 27 26,aA 28 .lss 27 0,aa 29 28]⟩,⟨(some (29,true)),[aa 30 1,aa 31 0,aa 32 7,aP 33 1 31 32,au 34 33,((some 35),.op (.arith .sub (.val (.val (.int .i64 (-1)))) (.tmp 34))),aP 36 1 30 35,au 37 36,b6 38 37]⟩,⟨(some (23,false)),[bG 39 29 38]⟩,⟨none,[bJ 40 23 39]⟩]) <|
  .cond (.tmp 40) (.seq (ak [aX 6 false]) <|
  .ret) (.skip))) <|
  ak [aa 12 7,aA 13 .add 12 1,aa 7 13]
def pI:SF:=⟨.seq (ak [aX 6 false]) <|
  .seq (.seq (ak [aF 7 0]) <|
  .block 0 (.loop m6)) <|
  .seq (ak [aX 6 true]) <|
  .ret,
  [.tmp 6],41⟩
theorem u9:bf Tryz.prog 117 []=some pI:=by kernel_rfl
theorem Pa (l:List Int) (is:List Bool) (t:Bool) (hl:aW l) (hs:∀ s∈l,cz s∧(s < 0→-1 - s < is.length)) (H:View) :
    aC Tryz.prog 117 [encI l,bO is,gb t] H fun r H'=>r=gb (dP l is t)∧H'=H:=by
  refine aC.of mixed u9 ?_
  unfold aW at hl
  simp (disch:=omega) only [↓wr,↓reduceIte,wq,ah,ag,aj,ab,ae,af,ai,isNil,Nat.reduceEqDiff,Nat.reduceAdd,Nat.reduceLT,Nat.reduceLeDiff,Int.reduceNeg,Int.reduceToNat,reduceCtorEq,pI]
  refine bz.intro (fun k T H'=>∃ i:Nat,i+k=l.length∧dP (l.take i) is t=true∧T 0=encI l∧T 1=bO is∧T 2=gb t∧T 7=gi i∧H'=H) l.length ?_ ?_
  · exact ⟨0,by omega,by simp[dP],rfl,rfl,rfl,rfl,rfl⟩
  · rintro k T H' ⟨i,hk,hi,h0,h1,h2,h7,rfl⟩
    simp (disch:=omega) only [↓wr,↓reduceIte,wq,ah,ag,aj,ab,ae,af,ai,isNil,Nat.reduceEqDiff,Nat.reduceAdd,Nat.reduceLT,Nat.reduceLeDiff,Int.reduceNeg,Int.reduceToNat,reduceCtorEq,m6,h0,h1,h2,h7,encI]
    refine ax.dec (fun hc=>?_) (fun hc=>?_)
    · have hg:l[i]?=some (l[i]'(by omega)):=List.getElem?_eq_getElem (by omega)
      have hm:l[i]'(by omega)∈l:=List.getElem_mem _
      generalize l[i]'(by omega)=s at hg hm
      obtain ⟨⟨hs1,hs2⟩,hs3⟩:=hs s hm
      have hstep:dP (l.take (i+1)) is t=(if 0≤s then t else is.getD (-1 - s).toNat false):=by
        rw[List.take_add_one,hg]
        simp only[dP,Option.toList_some,List.all_append,List.all_cons,List.all_nil,Bool.and_true] at hi ⊢
        rw[hi,Bool.true_and]
      have hfail:(if 0≤s then t else is.getD (-1 - s).toNat false)=false→dP l is t=false:=by
        intro hb
        simp only[dP,List.all_eq_false]
        exact ⟨s,hm,by simpa using hb⟩
      simp (disch:=omega) only [↓wr,↓reduceIte,wq,ah,ag,aj,ab,ae,af,ai,isNil,Nat.reduceEqDiff,Nat.reduceAdd,Nat.reduceLT,Nat.reduceLeDiff,Int.reduceNeg,Int.reduceToNat,reduceCtorEq,h0,h1,h2,h7,encI,List.getElem?_map,hg,Option.map_some]
      refine ax.dec (fun hd=>?_) (fun hd=>?_)
      · rw[if_pos (show 0≤s from hd)] at hstep hfail
        cases t with
        | true =>
          simp (disch:=omega) only [↓wr,↓reduceIte,wq,ah,ag,aj,ab,ae,af,ai,isNil,Nat.reduceEqDiff,Nat.reduceAdd,Nat.reduceLT,Nat.reduceLeDiff,Int.reduceNeg,Int.reduceToNat,reduceCtorEq,h0,h1,h2,h7,encI,List.getElem?_map,hg,Option.map_some]
          refine ax.dec (fun hn=>absurd hn (by omega)) (fun _=>?_)
          simp (disch:=omega) only [↓wr,↓reduceIte,wq,ah,ag,aj,ab,ae,af,ai,isNil,Nat.reduceEqDiff,Nat.reduceAdd,Nat.reduceLT,Nat.reduceLeDiff,Int.reduceNeg,Int.reduceToNat,reduceCtorEq,h0,h1,h2,h7,encI,bO,List.getElem?_map,hg,Option.map_some]
          exact ⟨k - 1,by omega,i+1,by omega,hstep,rfl⟩
        | false =>
          simp (disch:=omega) only [↓wr,↓reduceIte,wq,ah,ag,aj,ab,ae,af,ai,isNil,Nat.reduceEqDiff,Nat.reduceAdd,Nat.reduceLT,Nat.reduceLeDiff,Int.reduceNeg,Int.reduceToNat,reduceCtorEq,h0,h1,h2,h7,encI,List.getElem?_map,hg,Option.map_some]
          rw[hfail rfl]
      · rw[if_neg (show ¬ 0≤s from hd)] at hstep hfail
        simp (disch:=omega) only [↓wr,↓reduceIte,wq,ah,ag,aj,ab,ae,af,ai,isNil,Nat.reduceEqDiff,Nat.reduceAdd,Nat.reduceLT,Nat.reduceLeDiff,Int.reduceNeg,Int.reduceToNat,reduceCtorEq,h0,h1,h2,h7,encI,List.getElem?_map,hg,Option.map_some]
        refine ax.dec (fun hn=>?_) (fun hn=>absurd hn (by omega))
        have hb:is[(-1 - s).toNat]?=some (is[(-1 - s).toNat]'(by omega)):=List.getElem?_eq_getElem (by omega)
        have hbd:is.getD (-1 - s).toNat false=is[(-1 - s).toNat]'(by omega):=by simp[List.getD_eq_getElem?_getD,hb]
        rw[hbd] at hstep hfail
        generalize is[(-1 - s).toNat]'(by omega)=b at hb hstep hfail
        simp (disch:=omega) only [↓wr,↓reduceIte,wq,ah,ag,aj,ab,ae,af,ai,isNil,Nat.reduceEqDiff,Nat.reduceAdd,Nat.reduceLT,Nat.reduceLeDiff,Int.reduceNeg,Int.reduceToNat,reduceCtorEq,h0,h1,h2,h7,encI,bO,List.getElem?_map,hg,hb,Option.map_some]
        cases b with
        | true =>
          simp (disch:=omega) only [↓wr,↓reduceIte,wq,ah,ag,aj,ab,ae,af,ai,isNil,Nat.reduceEqDiff,Nat.reduceAdd,Nat.reduceLT,Nat.reduceLeDiff,Int.reduceNeg,Int.reduceToNat,reduceCtorEq,h0,h1,h2,h7,encI,bO,List.getElem?_map,hg,hb,Option.map_some]
          exact ⟨k - 1,by omega,i+1,by omega,hstep,rfl⟩
        | false =>
          simp (disch:=omega) only [↓wr,↓reduceIte,wq,ah,ag,aj,ab,ae,af,ai,isNil,Nat.reduceEqDiff,Nat.reduceAdd,Nat.reduceLT,Nat.reduceLeDiff,Int.reduceNeg,Int.reduceToNat,reduceCtorEq,h0,h1,h2,h7,encI,bO,List.getElem?_map,hg,hb,Option.map_some]
          rw[hfail rfl]
    · simp (disch:=omega) only [↓wr,↓reduceIte,wq,ah,ag,aj,ab,ae,af,ai,isNil,Nat.reduceEqDiff,Nat.reduceAdd,Nat.reduceLT,Nat.reduceLeDiff,Int.reduceNeg,Int.reduceToNat,reduceCtorEq,h0,h1,h2,h7]
      have e:i=l.length:=by omega
      rw[List.take_of_length_le (by omega)] at hi
      rw[hi]
abbrev gy (x:Int):V:=.val (.int .u8 x)
def tG (c:Int):Bool:=(decide (97≤c) && decide (c≤122)) || (decide (65≤c) && decide (c≤90)) || c == 95
def mo (c:Int):Bool:=tG c || (decide (48≤c) && decide (c≤57)) || c == 46
def nh:SF:=⟨.seq (ak [aX 2 false]) <|
  .seq (.region false [⟨none,[aa 3 0,((some 4),.op (.arith .geq (.tmp 3) (.val (.val (.int .u8 97))))),aa 5 4]⟩,⟨(some (5,true)),[aa 6 0,((some 7),.op (.arith .leq (.tmp 6) (.val (.val (.int .u8 122)))))]⟩,⟨none,[bG 8 5 7,aa 9 8]⟩,⟨(some (9,false)),[aa 10 0,((some 11),.op (.arith .geq (.tmp 10) (.val (.val (.int .u8 65))))),aa 12 11]⟩,⟨(some (12,true)),[aa 13 0,((some 14),.op (.arith .leq (.tmp 13) (.val (.val (.int .u8 90)))))]⟩,⟨(some (9,false)),[bG 15 12 14]⟩,⟨none,[bJ 16 9 15,aa 17 16]⟩,⟨(some (17,false)),[aa 18 0,((some 19),.op (.arith .eql (.tmp 18) (.val (.val (.int .u8 95)))))]⟩,⟨none,[bJ 20 17 19,aa 2 20]⟩]) <|
  .ret,
  [.tmp 2],21⟩
theorem sj:bf Tryz.prog 193 []=some nh:=by kernel_rfl
def nk:SF:=⟨.seq (ak [aX 2 false]) <|
  .seq (.region false [⟨none,[aa 3 0,aI 4 193 [3],aa 5 4]⟩,⟨(some (5,false)),[aa 6 0,((some 7),.op (.arith .geq (.tmp 6) (.val (.val (.int .u8 48))))),aa 8 7]⟩,⟨(some (8,true)),[aa 9 0,((some 10),.op (.arith .leq (.tmp 9) (.val (.val (.int .u8 57)))))]⟩,⟨(some (5,false)),[bG 11 8 10]⟩,⟨none,[bJ 12 5 11,aa 13 12]⟩,⟨(some (13,false)),[aa 14 0,((some 15),.op (.arith .eql (.tmp 14) (.val (.val (.int .u8 46)))))]⟩,⟨none,[bJ 16 13 15,aa 2 16]⟩]) <|
  .ret,
  [.tmp 2],17⟩
theorem sH:bf Tryz.prog 194 []=some nk:=by kernel_rfl
theorem LY (c:Int) (H:View):aC Tryz.prog 193 [gy c] H fun r H'=>r=gb (tG c)∧H'=H:=by
  refine aC.of mixed sj ?_
  repeat' (first | (refine ax.dec (fun _=>?_) (fun _=>?_)) | (refine ax.eq (fun _=>?_) (fun _=>?_)) | (refine ax.ne (fun _=>?_) (fun _=>?_)) | (refine ax.split (fun _=>?_) (fun _=>?_)) | (simp (disch:=omega) only [↓wr,↓reduceIte,wq,ah,ag,aj,ab,ae,af,ai,isNil,Nat.reduceEqDiff,Nat.reduceAdd,Nat.reduceLT,Nat.reduceLeDiff,Int.reduceNeg,Int.reduceToNat,reduceCtorEq,nh]))
  all_goals (congr 2; simp only[tG]; grind)
theorem FX (c:Int):aD Tryz.prog 193 [gy c] (gb (tG c)) :=
  aD.of (by intro v hv; simp at hv; subst hv; exact .val _) ((LY c _).mono fun r H' h h' _=>by rw[h.1]; exact .tree _ (.val _))
theorem M5 (c:Int) (H:View):aC Tryz.prog 194 [gy c] H fun r H'=>r=gb (mo c)∧H'=H:=by
  refine aC.of mixed sH ?_
  repeat' (first | (refine ax.dec (fun _=>?_) (fun _=>?_)) | (refine ax.eq (fun _=>?_) (fun _=>?_)) | (refine ax.ne (fun _=>?_) (fun _=>?_)) | (refine ax.split (fun _=>?_) (fun _=>?_)) | (simp (disch:=omega) only [↓wr,↓reduceIte,wq,ah,ag,aj,ab,ae,af,ai,isNil,Nat.reduceEqDiff,Nat.reduceAdd,Nat.reduceLT,Nat.reduceLeDiff,Int.reduceNeg,Int.reduceToNat,reduceCtorEq,nk]))
  refine aG.pure (FX c) (by kernel_rfl) ?_
  repeat' (first | (refine ax.dec (fun _=>?_) (fun _=>?_)) | (refine ax.eq (fun _=>?_) (fun _=>?_)) | (refine ax.ne (fun _=>?_) (fun _=>?_)) | (refine ax.split (fun _=>?_) (fun _=>?_)) | (simp (disch:=omega) only [↓wr,↓reduceIte,wq,ah,ag,aj,ab,ae,af,ai,isNil,Nat.reduceEqDiff,Nat.reduceAdd,Nat.reduceLT,Nat.reduceLeDiff,Int.reduceNeg,Int.reduceToNat,reduceCtorEq]))
  all_goals (congr 2; simp only[mo]; grind)
theorem L1 (c:Int):aD Tryz.prog 194 [gy c] (gb (mo c)) :=
  aD.of (by intro v hv; simp at hv; subst hv; exact .val _) ((M5 c _).mono fun r H' h h' _=>by rw[h.1]; exact .tree _ (.val _))
def fB (l:List Int):Bool:=decide (0 < l.length) && decide (l.length≤20) && (match l with | c :: _=>tG c | []=>false) && l.all mo
def ml:SC :=
  .seq (.seq (ak [aa 18 3,aa 19 0,((some 20),.op (.gW (.tmp 19))),aN 21 .lss 18 20]) <|
  .cond (.tmp 21) (.skip) (.exit 0)) <|
  .seq (.block 1 (.seq (ak [aa 24 0,aa 25 3,((some 26),.op (.dp (.tmp 24) (.tmp 25))),aI 27 194 [26],b6 28 27]) <|
  .cond (.tmp 28) (.seq (ak [aX 2 false]) <|
  .ret) (.skip))) <|
  ak [aa 22 3,aA 23 .add 22 1,aa 3 23]
def oC:SF:=⟨.seq (ak [aX 2 false]) <|
  .seq (.seq (.region false [⟨none,[aa 4 0,((some 5),.op (.gW (.tmp 4))),aA 6 .eql 5 0,aa 7 6]⟩,⟨(some (7,false)),[aa 8 0,((some 9),.op (.gW (.tmp 8))),aA 10 .gtr 9 20]⟩,⟨none,[bJ 11 7 10,aa 12 11]⟩,⟨(some (12,false)),[aa 13 0,((some 14),.op (.dp (.tmp 13) (.val (.val (.int .i64 0))))),aI 15 193 [14],b6 16 15]⟩,⟨none,[bJ 17 12 16]⟩]) <|
  .cond (.tmp 17) (.seq (ak [aX 2 false]) <|
  .ret) (.skip)) <|
  .seq (.seq (ak [aF 3 0]) <|
  .block 0 (.loop ml)) <|
  .seq (ak [aX 2 true]) <|
  .ret,
  [.tmp 2],29⟩
theorem tH:bf Tryz.prog 154 []=some oC:=by kernel_rfl
theorem KK (s:ByteArray) (H:View):aC Tryz.prog 154 [gs s] H fun r H'=>r=gb (fB (eE s))∧H'=H:=by
  refine aC.of mixed tH ?_
  repeat' (first | (refine ax.dec (fun _=>?_) (fun _=>?_)) | (refine ax.eq (fun _=>?_) (fun _=>?_)) | (refine ax.ne (fun _=>?_) (fun _=>?_)) | (refine ax.split (fun _=>?_) (fun _=>?_)) | (simp (disch:=omega) only [↓wr,↓reduceIte,wq,ah,ag,aj,ab,ae,af,ai,isNil,Nat.reduceEqDiff,Nat.reduceAdd,Nat.reduceLT,Nat.reduceLeDiff,Int.reduceNeg,Int.reduceToNat,reduceCtorEq,oC,dY]))
  · rename_i h
    congr 2; simp[fB,show (eE s).length=0 by omega]
  · rename_i h
    congr 2; simp[fB,show ¬ (eE s).length≤20 by omega]
  · rename_i h1 h2
    cases hb:eE s with
    | nil=>simp[hb] at h1
    | cons c l =>
      repeat' (first | (refine ax.dec (fun _=>?_) (fun _=>?_)) | (refine ax.eq (fun _=>?_) (fun _=>?_)) | (refine ax.ne (fun _=>?_) (fun _=>?_)) | (refine ax.split (fun _=>?_) (fun _=>?_)) | (simp (disch:=omega) only [↓wr,↓reduceIte,wq,ah,ag,aj,ab,ae,af,ai,isNil,Nat.reduceEqDiff,Nat.reduceAdd,Nat.reduceLT,Nat.reduceLeDiff,Int.reduceNeg,Int.reduceToNat,reduceCtorEq,hb,List.getElem?_cons_zero,dY]))
      refine aG.pure (FX c) (by kernel_rfl) ?_
      repeat' (first | (refine ax.dec (fun _=>?_) (fun _=>?_)) | (refine ax.eq (fun _=>?_) (fun _=>?_)) | (refine ax.ne (fun _=>?_) (fun _=>?_)) | (refine ax.split (fun _=>?_) (fun _=>?_)) | (simp (disch:=omega) only [↓wr,↓reduceIte,wq,ah,ag,aj,ab,ae,af,ai,isNil,Nat.reduceEqDiff,Nat.reduceAdd,Nat.reduceLT,Nat.reduceLeDiff,Int.reduceNeg,Int.reduceToNat,reduceCtorEq,hb,List.getElem?_cons_zero,dY]))
      · rename_i hf
        refine bz.intro (fun k T H'=>∃ i:Nat,i+k=(c :: l).length∧((c :: l).take i).all mo=true∧T 0=gs s∧T 3=gi i∧H'=H) (c :: l).length ?_ ?_
        · exact ⟨0,by omega,by simp,rfl,rfl,rfl⟩
        · rintro k T H' ⟨i,hk,hi,h0,h3,rfl⟩
          rw[hb] at h1 h2
          simp (disch:=omega) only [↓wr,↓reduceIte,wq,ah,ag,aj,ab,ae,af,ai,isNil,Nat.reduceEqDiff,Nat.reduceAdd,Nat.reduceLT,Nat.reduceLeDiff,Int.reduceNeg,Int.reduceToNat,reduceCtorEq,ml,h0,h3,dY,hb]
          refine ax.dec (fun hc=>?_) (fun hc=>?_)
          · simp only[List.length_cons] at hc hk h2
            have hg:(c :: l)[i]?=some ((c :: l)[i]'(by simp; omega)):=List.getElem?_eq_getElem (by simp; omega)
            have hm:(c :: l)[i]'(by simp; omega)∈c :: l:=List.getElem_mem _
            generalize (c :: l)[i]'(by simp; omega)=d at hg hm
            simp (disch:=omega) only [↓wr,↓reduceIte,wq,ah,ag,aj,ab,ae,af,ai,isNil,Nat.reduceEqDiff,Nat.reduceAdd,Nat.reduceLT,Nat.reduceLeDiff,Int.reduceNeg,Int.reduceToNat,reduceCtorEq,h0,h3,dY,hb,hg]
            refine aG.pure (L1 d) (by kernel_rfl) ?_
            repeat' (first | (refine ax.dec (fun _=>?_) (fun _=>?_)) | (refine ax.eq (fun _=>?_) (fun _=>?_)) | (refine ax.ne (fun _=>?_) (fun _=>?_)) | (refine ax.split (fun _=>?_) (fun _=>?_)) | (simp (disch:=omega) only [↓wr,↓reduceIte,wq,ah,ag,aj,ab,ae,af,ai,isNil,Nat.reduceEqDiff,Nat.reduceAdd,Nat.reduceLT,Nat.reduceLeDiff,Int.reduceNeg,Int.reduceToNat,reduceCtorEq,h0,h3,dY,hb,hg]))
            · rename_i hd
              refine ⟨k - 1,by omega,i+1,by omega,?_,rfl⟩
              rw[List.take_add_one,hg]
              simp only[Option.toList_some,List.all_append,hi,List.all_cons,hd,List.all_nil,Bool.and_self]
            · rename_i hd
              congr 2
              have:(c :: l).all mo=false:=by
                rw[List.all_eq_false]; exact ⟨d,hm,by simp[hd]⟩
              simp only[fB,this,Bool.and_false]
          · simp (disch:=omega) only [↓wr,↓reduceIte,wq,ah,ag,aj,ab,ae,af,ai,isNil,Nat.reduceEqDiff,Nat.reduceAdd,Nat.reduceLT,Nat.reduceLeDiff,Int.reduceNeg,Int.reduceToNat,reduceCtorEq,h0,h3]
            simp only[List.length_cons] at hc hk h2
            rw[List.take_of_length_le (by simp; omega)] at hi
            congr 2
            simp only[fB,hi,List.length_cons]
            simp[hf]; omega
      · rename_i hf
        congr 2; simp[fB,hf]
def kW:List Int→Bool
  | [a,b,c]=>a == 39 && c == 39 && decide (32≤b) && decide (b≤126) && b != 39 && b != 92
  | [a,b,c,d]=>a == 39 && d == 39 && b == 92 && (c == 110 || c == 116 || c == 92 || c == 39)
  | _=>false
theorem Mg {l:List Int} (h3:l.length≠3) (h4:l.length≠4):kW l=false:=by
  match l,h3,h4 with
  | [],_,_=>rfl
  | [_],_,_=>rfl
  | [_,_],_,_=>rfl
  | [_,_,_],h3,_=>exact absurd rfl h3
  | [_,_,_,_],_,h4=>exact absurd rfl h4
  | _ :: _ :: _ :: _ :: _ :: _,_,_=>rfl
theorem Qf {α:Type} {l:List α} (h:l.length=3):∃ a b c,l=[a,b,c]:=by
  match l,h with
  | [a,b,c],_=>exact ⟨a,b,c,rfl⟩
theorem QE {α:Type} {l:List α} (h:l.length=4):∃ a b c d,l=[a,b,c,d]:=by
  match l,h with
  | [a,b,c,d],_=>exact ⟨a,b,c,d,rfl⟩
def ly:SF:=⟨.seq (ak [aX 2 false]) <|
  .seq (.seq (ak [aa 3 0,((some 4),.op (.gW (.tmp 3))),aA 5 .eql 4 3]) <|
  .cond (.tmp 5) (.seq (.region false [⟨none,[aa 6 0,((some 7),.op (.dp (.tmp 6) (.val (.val (.int .i64 0))))),((some 8),.op (.arith .eql (.tmp 7) (.val (.val (.int .u8 39))))),aa 9 8]⟩,⟨(some (9,true)),[aa 10 0,((some 11),.op (.dp (.tmp 10) (.val (.val (.int .i64 2))))),((some 12),.op (.arith .eql (.tmp 11) (.val (.val (.int .u8 39)))))]⟩,⟨none,[bG 13 9 12,aa 14 13]⟩,⟨(some (14,true)),[aa 15 0,((some 16),.op (.dp (.tmp 15) (.val (.val (.int .i64 1))))),((some 17),.op (.arith .geq (.tmp 16) (.val (.val (.int .u8 32)))))]⟩,⟨none,[bG 18 14 17,aa 19 18]⟩,⟨(some (19,true)),[aa 20 0,((some 21),.op (.dp (.tmp 20) (.val (.val (.int .i64 1))))),((some 22),.op (.arith .leq (.tmp 21) (.val (.val (.int .u8 126)))))]⟩,⟨none,[bG 23 19 22,aa 24 23]⟩,⟨(some (24,true)),[aa 25 0,((some 26),.op (.dp (.tmp 25) (.val (.val (.int .i64 1))))),((some 27),.op (.arith .neq (.tmp 26) (.val (.val (.int .u8 39)))))]⟩,⟨none,[bG 28 24 27,aa 29 28]⟩,⟨(some (29,true)),[aa 30 0,((some 31),.op (.dp (.tmp 30) (.val (.val (.int .i64 1))))),((some 32),.op (.arith .neq (.tmp 31) (.val (.val (.int .u8 92)))))]⟩,⟨none,[bG 33 29 32,aa 2 33]⟩]) <|
  .ret) (.skip)) <|
  .seq (.region false [⟨none,[aa 34 0,((some 35),.op (.gW (.tmp 34))),aA 36 .eql 35 4,aa 37 36]⟩,⟨(some (37,true)),[aa 38 0,((some 39),.op (.dp (.tmp 38) (.val (.val (.int .i64 0))))),((some 40),.op (.arith .eql (.tmp 39) (.val (.val (.int .u8 39)))))]⟩,⟨none,[bG 41 37 40,aa 42 41]⟩,⟨(some (42,true)),[aa 43 0,((some 44),.op (.dp (.tmp 43) (.val (.val (.int .i64 3))))),((some 45),.op (.arith .eql (.tmp 44) (.val (.val (.int .u8 39)))))]⟩,⟨none,[bG 46 42 45,aa 47 46]⟩,⟨(some (47,true)),[aa 48 0,((some 49),.op (.dp (.tmp 48) (.val (.val (.int .i64 1))))),((some 50),.op (.arith .eql (.tmp 49) (.val (.val (.int .u8 92)))))]⟩,⟨none,[bG 51 47 50,aa 52 51]⟩,⟨(some (52,true)),[aa 53 0,((some 54),.op (.dp (.tmp 53) (.val (.val (.int .i64 2))))),((some 55),.op (.arith .eql (.tmp 54) (.val (.val (.int .u8 110))))),aa 56 55]⟩,⟨(some (56,false)),[aa 57 0,((some 58),.op (.dp (.tmp 57) (.val (.val (.int .i64 2))))),((some 59),.op (.arith .eql (.tmp 58) (.val (.val (.int .u8 116)))))]⟩,⟨(some (52,true)),[bJ 60 56 59,aa 61 60]⟩,⟨(some (61,false)),[aa 62 0,((some 63),.op (.dp (.tmp 62) (.val (.val (.int .i64 2))))),((some 64),.op (.arith .eql (.tmp 63) (.val (.val (.int .u8 92)))))]⟩,⟨(some (52,true)),[bJ 65 61 64,aa 66 65]⟩,⟨(some (66,false)),[aa 67 0,((some 68),.op (.dp (.tmp 67) (.val (.val (.int .i64 2))))),((some 69),.op (.arith .eql (.tmp 68) (.val (.val (.int .u8 39)))))]⟩,⟨(some (52,true)),[bJ 70 66 69]⟩,⟨none,[bG 71 52 70,aa 2 71]⟩]) <|
  .ret,
  [.tmp 2],72⟩
theorem qY:bf Tryz.prog 192 []=some ly:=by kernel_rfl
def m4:SF:=⟨.seq (ak [aX 2 false]) <|
  .seq (.region false [⟨none,[aa 3 0,aI 4 154 [3],aa 5 4]⟩,⟨(some (5,false)),[aa 6 0,aI 7 192 [6]]⟩,⟨none,[bJ 8 5 7,aa 2 8]⟩]) <|
  .ret,
  [.tmp 2],9⟩
theorem sx:bf Tryz.prog 151 []=some m4:=by kernel_rfl
set_option maxHeartbeats 1000000 in
theorem M1 (s:ByteArray) (H:View):aC Tryz.prog 192 [gs s] H fun r H'=>r=gb (kW (eE s))∧H'=H:=by
  refine aC.of mixed qY ?_
  simp (disch:=omega) only [↓wr,↓reduceIte,wq,ah,ag,aj,ab,ae,af,ai,isNil,Nat.reduceEqDiff,Nat.reduceAdd,Nat.reduceLT,Nat.reduceLeDiff,Int.reduceNeg,Int.reduceToNat,reduceCtorEq,ly,dY]
  refine ax.eq (fun h=>?_) (fun h=>?_)
  · obtain ⟨a,b,c,hb⟩:=Qf (l:=eE s) (by omega)
    repeat' (first | (refine ax.dec (fun _=>?_) (fun _=>?_)) | (refine ax.eq (fun _=>?_) (fun _=>?_)) | (refine ax.ne (fun _=>?_) (fun _=>?_)) | (refine ax.split (fun _=>?_) (fun _=>?_)) | (simp (disch:=omega) only [↓wr,↓reduceIte,wq,ah,ag,aj,ab,ae,af,ai,isNil,Nat.reduceEqDiff,Nat.reduceAdd,Nat.reduceLT,Nat.reduceLeDiff,Int.reduceNeg,Int.reduceToNat,reduceCtorEq,hb,List.getElem?_cons_zero,List.getElem?_cons_succ]))
    all_goals (congr 2; simp only[kW]; grind)
  · simp (disch:=omega) only [↓wr,↓reduceIte,wq,ah,ag,aj,ab,ae,af,ai,isNil,Nat.reduceEqDiff,Nat.reduceAdd,Nat.reduceLT,Nat.reduceLeDiff,Int.reduceNeg,Int.reduceToNat,reduceCtorEq,dY]
    refine ax.eq (fun h4=>?_) (fun h4=>?_)
    · obtain ⟨a,b,c,d,hb⟩:=QE (l:=eE s) (by omega)
      repeat' (first | (refine ax.dec (fun _=>?_) (fun _=>?_)) | (refine ax.eq (fun _=>?_) (fun _=>?_)) | (refine ax.ne (fun _=>?_) (fun _=>?_)) | (refine ax.split (fun _=>?_) (fun _=>?_)) | (simp (disch:=omega) only [↓wr,↓reduceIte,wq,ah,ag,aj,ab,ae,af,ai,isNil,Nat.reduceEqDiff,Nat.reduceAdd,Nat.reduceLT,Nat.reduceLeDiff,Int.reduceNeg,Int.reduceToNat,reduceCtorEq,hb,List.getElem?_cons_zero,List.getElem?_cons_succ]))
      all_goals (congr 2; simp only[kW]; grind)
    · repeat' (first | (refine ax.dec (fun _=>?_) (fun _=>?_)) | (refine ax.eq (fun _=>?_) (fun _=>?_)) | (refine ax.ne (fun _=>?_) (fun _=>?_)) | (refine ax.split (fun _=>?_) (fun _=>?_)) | (simp (disch:=omega) only [↓wr,↓reduceIte,wq,ah,ag,aj,ab,ae,af,ai,isNil,Nat.reduceEqDiff,Nat.reduceAdd,Nat.reduceLT,Nat.reduceLeDiff,Int.reduceNeg,Int.reduceToNat,reduceCtorEq,dY]))
      rw[Mg (by omega) (by omega)]
theorem nC (s:ByteArray):∀ v∈[gs s],Tree v:=by intro v hv; simp at hv; subst hv; exact .val _
theorem Df (s:ByteArray):aD Tryz.prog 154 [gs s] (gb (fB (eE s))) :=
  aD.of (nC s) ((KK s _).mono fun r H' h h' _=>by rw[h.1]; exact .tree _ (.val _))
theorem L0 (s:ByteArray):aD Tryz.prog 192 [gs s] (gb (kW (eE s))) :=
  aD.of (nC s) ((M1 s _).mono fun r H' h h' _=>by rw[h.1]; exact .tree _ (.val _))
def pb (l:List Int):Bool:=fB l || kW l
theorem I8 (s:ByteArray) (H:View):aC Tryz.prog 151 [gs s] H fun r H'=>r=gb (pb (eE s))∧H'=H:=by
  refine aC.of mixed sx ?_
  simp (disch:=omega) only [↓wr,↓reduceIte,wq,ah,ag,aj,ab,ae,af,ai,isNil,Nat.reduceEqDiff,Nat.reduceAdd,Nat.reduceLT,Nat.reduceLeDiff,Int.reduceNeg,Int.reduceToNat,reduceCtorEq,m4]
  refine aG.pure (Df s) (by kernel_rfl) ?_
  repeat' (first | (refine ax.dec (fun _=>?_) (fun _=>?_)) | (refine ax.eq (fun _=>?_) (fun _=>?_)) | (refine ax.ne (fun _=>?_) (fun _=>?_)) | (refine ax.split (fun _=>?_) (fun _=>?_)) | (simp (disch:=omega) only [↓wr,↓reduceIte,wq,ah,ag,aj,ab,ae,af,ai,isNil,Nat.reduceEqDiff,Nat.reduceAdd,Nat.reduceLT,Nat.reduceLeDiff,Int.reduceNeg,Int.reduceToNat,reduceCtorEq]))
  · rename_i h; simp[pb,h]
  · rename_i h
    refine aG.pure (L0 s) (by kernel_rfl) ?_
    repeat' (first | (refine ax.dec (fun _=>?_) (fun _=>?_)) | (refine ax.eq (fun _=>?_) (fun _=>?_)) | (refine ax.ne (fun _=>?_) (fun _=>?_)) | (refine ax.split (fun _=>?_) (fun _=>?_)) | (simp (disch:=omega) only [↓wr,↓reduceIte,wq,ah,ag,aj,ab,ae,af,ai,isNil,Nat.reduceEqDiff,Nat.reduceAdd,Nat.reduceLT,Nat.reduceLeDiff,Int.reduceNeg,Int.reduceToNat,reduceCtorEq]))
    simp[pb,h]
theorem Jb (s:ByteArray):aD Tryz.prog 151 [gs s] (gb (pb (eE s))) :=
  aD.of (nC s) ((I8 s _).mono fun r H' h h' _=>by rw[h.1]; exact .tree _ (.val _))
def lQ (s:ByteArray):List ByteArray→Int→Int
  | [],_=>-1
  | x :: l,i=>if gP x s=true then i else lQ s l (i+1)
def kL (g:ao) (s:ByteArray):Int:=lQ s (g.az.map Term.name) 0
def wP (g:ao) (s:ByteArray):Int:=lQ s g.ay 0
theorem eP {α:Type} {l:List α} {i:Nat} (h:i < l.length):l.drop i=l[i] :: l.drop (i+1):=List.drop_eq_getElem_cons h
theorem El (g:ao) (s:ByteArray):∀ v∈[V.agg (aw g),gs s],Tree v:=by
  intro v hv; simp at hv
  rcases hv with rfl | rfl
  · exact dd _ (dT g)
  · exact .val _
theorem eN (g:ao):∀ v∈[V.agg (aw g)],Tree v:=by intro v hv; simp at hv; subst hv; exact dd _ (dT g)
theorem DY (g:ao) (x:Int):∀ v∈[V.agg (aw g),gi x],Tree v:=by
  intro v hv; simp at hv
  rcases hv with rfl | rfl
  · exact dd _ (dT g)
  · exact .val _
theorem aD.val {P:Program} {f:FuncId} {vs:List V} {x:Value} (ht:∀ v∈vs,Tree v) (h:∀ H,aC P f vs H fun r _=>r=.val x):aD P f vs (.val x) :=
  aD.of ht ((h _).mono fun r H' e h' _=>by rw[e]; exact .tree _ (.val _))
def ma:SC :=
  .seq (.seq (ak [aa 6 5,av 7 0 2,au 8 7,aJ 9 8,aN 10 .lss 6 9]) <|
  .cond (.tmp 10) (.skip) (.exit 0)) <|
  .seq (.block 1 (.seq (ak [av 13 0 2,au 14 13,aa 15 5,aP 16 3 14 15,av 17 0 16,au 18 17,aa 19 1,((some 20),.op (.iR .eql (.tmp 18) (.tmp 19)))]) <|
  .cond (.tmp 20) (.seq (ak [aa 21 5,aa 4 21]) <|
  .ret) (.skip))) <|
  ak [aa 11 5,aA 12 .add 11 1,aa 5 12]
def oB:SF:=⟨.seq (ak [bZ 2 0,aF 4 0]) <|
  .seq (.seq (ak [aF 5 0]) <|
  .block 0 (.loop ma)) <|
  .seq (ak [aF 4 (-1)]) <|
  .ret,
  [.tmp 4],22⟩
theorem tA:bf Tryz.prog 152 [2]=some oB:=by kernel_rfl
def nb:SC :=
  .seq (.seq (ak [aa 6 5,av 7 1 2,au 8 7,aJ 9 8,aN 10 .lss 6 9]) <|
  .cond (.tmp 10) (.skip) (.exit 0)) <|
  .seq (.block 1 (.seq (ak [av 13 1 2,au 14 13,aa 15 5,aP 16 1 14 15,au 17 16,aa 18 1,((some 19),.op (.iR .eql (.tmp 17) (.tmp 18)))]) <|
  .cond (.tmp 19) (.seq (ak [aa 20 5,aa 4 20]) <|
  .ret) (.skip))) <|
  ak [aa 11 5,aA 12 .add 11 1,aa 5 12]
def pM:SF:=⟨.seq (ak [bZ 2 0,aF 4 0]) <|
  .seq (.seq (ak [aF 5 0]) <|
  .block 0 (.loop nb)) <|
  .seq (ak [aF 4 (-1)]) <|
  .ret,
  [.tmp 4],21⟩
theorem uY:bf Tryz.prog 139 [2]=some pM:=by kernel_rfl
def k6:SC :=
  .seq (.seq (ak [aa 8 6,av 9 0 2,au 10 9,aJ 11 10,aN 12 .lss 8 11]) <|
  .cond (.tmp 12) (.skip) (.exit 0)) <|
  .seq (.block 1 (.seq (.region false [⟨none,[av 15 0 2,au 16 15,aa 17 6,aP 18 3 16 17,aK 19 3 18,((some 7),.op (.alloc [(.val (.string ⟨#[]⟩)),(.val (.int .i64 0)),(.val (.int .i64 0))])),(none,.op (.store 3 (.tmp 7) (.tmp 19)))]⟩]) <|
  .seq (.seq (ak [av 20 1 7,au 21 20,aa 22 1,aN 23 .neq 21 22]) <|
  .cond (.tmp 23) (.exit 1) (.skip)) <|
  .seq (.seq (.region false [⟨none,[aa 24 5,aA 25 .neq 24 0,aa 26 25]⟩,⟨(some (26,true)),[aa 27 5,av 28 2 7,au 29 28,aN 30 .neq 27 29]⟩,⟨none,[bG 31 26 30]⟩]) <|
  .cond (.tmp 31) (.seq (ak [aX 4 false]) <|
  .ret) (.skip)) <|
  ak [av 32 2 7,au 33 32,aa 5 33])) <|
  ak [aa 13 6,aA 14 .add 13 1,aa 6 14]
def mW:SF:=⟨.seq (ak [bZ 2 0,aX 4 false]) <|
  .seq (ak [aF 5 0]) <|
  .seq (.seq (ak [aF 6 0]) <|
  .block 0 (.loop k6)) <|
  .seq (ak [aa 34 5,aA 35 .neq 34 0,aa 4 35]) <|
  .ret,
  [.tmp 4],36⟩
theorem sq:bf Tryz.prog 153 [2]=some mW:=by kernel_rfl
theorem K4 (g:ao) (hg:g.Ok) (s:ByteArray) (H:View):aC Tryz.prog 152 [.agg (aw g),gs s] H fun r _=>r=gi (kL g s):=by
  refine aC.of mixed tA ?_
  have hs:g.az.length < 4611686018427387904:=hg.az
  simp (disch:=omega) only [↓wr,↓reduceIte,wq,ah,ag,aj,ab,ae,af,ai,isNil,Nat.reduceEqDiff,Nat.reduceAdd,Nat.reduceLT,Nat.reduceLeDiff,Int.reduceNeg,Int.reduceToNat,reduceCtorEq,oB,aw,encS]
  refine bz.intro (fun k T _=>∃ i:Nat,i+k=g.az.length∧lQ s ((g.az.drop i).map Term.name) i=kL g s∧T 1=gs s∧T 2=.aR (aw g) 0∧T 5=gi i) g.az.length ?_ ?_
  · exact ⟨0,by omega,rfl,rfl,rfl,rfl⟩
  · rintro k T H' ⟨i,hk,hi,h1,h2,h5⟩
    simp (disch:=omega) only [↓wr,↓reduceIte,wq,ah,ag,aj,ab,ae,af,ai,isNil,Nat.reduceEqDiff,Nat.reduceAdd,Nat.reduceLT,Nat.reduceLeDiff,Int.reduceNeg,Int.reduceToNat,reduceCtorEq,ma,h1,h2,h5,aw]
    refine ax.dec (fun hc=>?_) (fun hc=>?_)
    · have hg2:g.az[i]?=some (g.az[i]'(by omega)):=List.getElem?_eq_getElem (by omega)
      rw[eP (show i < g.az.length by omega)] at hi
      generalize g.az[i]'(by omega)=t at hg2 hi
      simp only[List.map_cons,lQ] at hi
      simp (disch:=omega) only [↓wr,↓reduceIte,wq,ah,ag,aj,ab,ae,af,ai,isNil,Nat.reduceEqDiff,Nat.reduceAdd,Nat.reduceLT,Nat.reduceLeDiff,Int.reduceNeg,Int.reduceToNat,reduceCtorEq,h1,h2,h5,aw,cE,List.getElem?_map,hg2,Option.map_some]
      refine ax.split (fun hd=>?_) (fun hd=>?_)
      · rw[if_pos hd] at hi
        simp (disch:=omega) only [↓wr,↓reduceIte,wq,ah,ag,aj,ab,ae,af,ai,isNil,Nat.reduceEqDiff,Nat.reduceAdd,Nat.reduceLT,Nat.reduceLeDiff,Int.reduceNeg,Int.reduceToNat,reduceCtorEq,h1,h2,h5]
        rw[hi]
      · rw[hd,if_neg (by simp)] at hi
        simp (disch:=omega) only [↓wr,↓reduceIte,wq,ah,ag,aj,ab,ae,af,ai,isNil,Nat.reduceEqDiff,Nat.reduceAdd,Nat.reduceLT,Nat.reduceLeDiff,Int.reduceNeg,Int.reduceToNat,reduceCtorEq,h1,h2,h5]
        exact ⟨k - 1,by omega,i+1,by omega,by push_cast; exact hi,rfl,rfl⟩
    · rw[List.drop_eq_nil_of_le (by omega)] at hi
      simp only[List.map_nil,lQ] at hi
      simp (disch:=omega) only [↓wr,↓reduceIte,wq,ah,ag,aj,ab,ae,af,ai,isNil,Nat.reduceEqDiff,Nat.reduceAdd,Nat.reduceLT,Nat.reduceLeDiff,Int.reduceNeg,Int.reduceToNat,reduceCtorEq,h1,h2,h5]
      rw[hi]
theorem CZ (g:ao) (hg:g.Ok) (s:ByteArray):aD Tryz.prog 152 [.agg (aw g),gs s] (gi (kL g s)):=aD.val (El g s) (K4 g hg s)
theorem LS (g:ao) (hg:g.Ok) (s:ByteArray) (H:View):aC Tryz.prog 139 [.agg (aw g),gs s] H fun r _=>r=gi (wP g s):=by
  refine aC.of mixed uY ?_
  have hs:g.ay.length < 4611686018427387904:=hg.ay
  simp (disch:=omega) only [↓wr,↓reduceIte,wq,ah,ag,aj,ab,ae,af,ai,isNil,Nat.reduceEqDiff,Nat.reduceAdd,Nat.reduceLT,Nat.reduceLeDiff,Int.reduceNeg,Int.reduceToNat,reduceCtorEq,pM,aw,encS]
  refine bz.intro (fun k T _=>∃ i:Nat,i+k=g.ay.length∧lQ s (g.ay.drop i) i=wP g s∧T 1=gs s∧T 2=.aR (aw g) 0∧T 5=gi i) g.ay.length ?_ ?_
  · exact ⟨0,by omega,rfl,rfl,rfl,rfl⟩
  · rintro k T H' ⟨i,hk,hi,h1,h2,h5⟩
    simp (disch:=omega) only [↓wr,↓reduceIte,wq,ah,ag,aj,ab,ae,af,ai,isNil,Nat.reduceEqDiff,Nat.reduceAdd,Nat.reduceLT,Nat.reduceLeDiff,Int.reduceNeg,Int.reduceToNat,reduceCtorEq,nb,h1,h2,h5,aw,encS]
    refine ax.dec (fun hc=>?_) (fun hc=>?_)
    · have hg2:g.ay[i]?=some (g.ay[i]'(by omega)):=List.getElem?_eq_getElem (by omega)
      rw[eP (show i < g.ay.length by omega)] at hi
      generalize g.ay[i]'(by omega)=t at hg2 hi
      simp only[List.map_cons,lQ] at hi
      simp (disch:=omega) only [↓wr,↓reduceIte,wq,ah,ag,aj,ab,ae,af,ai,isNil,Nat.reduceEqDiff,Nat.reduceAdd,Nat.reduceLT,Nat.reduceLeDiff,Int.reduceNeg,Int.reduceToNat,reduceCtorEq,h1,h2,h5,aw,encS,List.getElem?_map,hg2,Option.map_some]
      refine ax.split (fun hd=>?_) (fun hd=>?_)
      · rw[if_pos hd] at hi
        simp (disch:=omega) only [↓wr,↓reduceIte,wq,ah,ag,aj,ab,ae,af,ai,isNil,Nat.reduceEqDiff,Nat.reduceAdd,Nat.reduceLT,Nat.reduceLeDiff,Int.reduceNeg,Int.reduceToNat,reduceCtorEq,h1,h2,h5]
        rw[hi]
      · rw[hd,if_neg (by simp)] at hi
        simp (disch:=omega) only [↓wr,↓reduceIte,wq,ah,ag,aj,ab,ae,af,ai,isNil,Nat.reduceEqDiff,Nat.reduceAdd,Nat.reduceLT,Nat.reduceLeDiff,Int.reduceNeg,Int.reduceToNat,reduceCtorEq,h1,h2,h5]
        exact ⟨k - 1,by omega,i+1,by omega,by push_cast; exact hi,rfl,rfl⟩
    · rw[List.drop_eq_nil_of_le (by omega)] at hi
      simp only[List.map_nil,lQ] at hi
      simp (disch:=omega) only [↓wr,↓reduceIte,wq,ah,ag,aj,ab,ae,af,ai,isNil,Nat.reduceEqDiff,Nat.reduceAdd,Nat.reduceLT,Nat.reduceLeDiff,Int.reduceNeg,Int.reduceToNat,reduceCtorEq,h1,h2,h5]
      rw[hi]
theorem Mc (g:ao) (hg:g.Ok) (s:ByteArray):aD Tryz.prog 139 [.agg (aw g),gs s] (gi (wP g s)):=aD.val (El g s) (LS g hg s)
def ij (n:Int):List Term→Int→Option Int
  | [],way=>some way
  | t :: r,way=>if t.level=n then (if way≠0∧way≠t.assoc then none else ij n r t.assoc) else ij n r way
def fW (l:List Term) (n:Int):Bool:=match ij n l 0 with
  | some w=>w != 0
  | none=>false
theorem Ie (g:ao) (hg:g.Ok) (n:Int) (H:View):aC Tryz.prog 153 [.agg (aw g),gi n] H fun r _=>r=gb (fW g.az n):=by
  refine aC.of mixed sq ?_
  have hs:g.az.length < 4611686018427387904:=hg.az
  simp (disch:=omega) only [↓wr,↓reduceIte,wq,ah,ag,aj,ab,ae,af,ai,isNil,Nat.reduceEqDiff,Nat.reduceAdd,Nat.reduceLT,Nat.reduceLeDiff,Int.reduceNeg,Int.reduceToNat,reduceCtorEq,mW,aw,encS]
  refine bz.intro (fun k T _=>∃ (i:Nat) (w:Int),i+k=g.az.length∧ij n (g.az.drop i) w=ij n g.az 0∧T 1=gi n∧T 2=.aR (aw g) 0∧T 5=gi w∧T 6=gi i) g.az.length ?_ ?_
  · exact ⟨0,0,by omega,rfl,rfl,rfl,rfl,rfl⟩
  · rintro k T H' ⟨i,w,hk,hi,h1,h2,h5,h6⟩
    simp (disch:=omega) only [↓wr,↓reduceIte,wq,ah,ag,aj,ab,ae,af,ai,isNil,Nat.reduceEqDiff,Nat.reduceAdd,Nat.reduceLT,Nat.reduceLeDiff,Int.reduceNeg,Int.reduceToNat,reduceCtorEq,k6,h1,h2,h5,h6,aw]
    refine ax.dec (fun hc=>?_) (fun hc=>?_)
    · have hg2:g.az[i]?=some (g.az[i]'(by omega)):=List.getElem?_eq_getElem (by omega)
      rw[eP (show i < g.az.length by omega)] at hi
      generalize g.az[i]'(by omega)=t at hg2 hi
      simp only[ij] at hi
      simp (disch:=omega) only [↓wr,↓reduceIte,wq,ah,ag,aj,ab,ae,af,ai,isNil,Nat.reduceEqDiff,Nat.reduceAdd,Nat.reduceLT,Nat.reduceLeDiff,Int.reduceNeg,Int.reduceToNat,reduceCtorEq,h1,h2,h5,h6,aw,cE,List.getElem?_map,hg2,Option.map_some]
      intro m hm
      try simp (disch:=omega) only [↓wr,↓reduceIte,wq,ah,ag,aj,ab,ae,af,ai,isNil,Nat.reduceEqDiff,Nat.reduceAdd,Nat.reduceLT,Nat.reduceLeDiff,Int.reduceNeg,Int.reduceToNat,reduceCtorEq,h1,h2,h5,h6]
      refine ax.ne (fun hd=>?_) (fun hd=>?_)
      · rw[if_neg hd] at hi
        simp (disch:=omega) only [↓wr,↓reduceIte,wq,ah,ag,aj,ab,ae,af,ai,isNil,Nat.reduceEqDiff,Nat.reduceAdd,Nat.reduceLT,Nat.reduceLeDiff,Int.reduceNeg,Int.reduceToNat,reduceCtorEq,h1,h2,h5,h6]
        exact ⟨k - 1,by omega,i+1,w,by omega,hi,by first | rfl | exact ⟨rfl,rfl⟩ | exact ⟨rfl,rfl,rfl⟩⟩
      · rw[if_pos hd] at hi
        repeat' (first | (refine ax.dec (fun _=>?_) (fun _=>?_)) | (refine ax.eq (fun _=>?_) (fun _=>?_)) | (refine ax.ne (fun _=>?_) (fun _=>?_)) | (refine ax.split (fun _=>?_) (fun _=>?_)) | (simp (disch:=omega) only [↓wr,↓reduceIte,wq,ah,ag,aj,ab,ae,af,ai,isNil,Nat.reduceEqDiff,Nat.reduceAdd,Nat.reduceLT,Nat.reduceLeDiff,Int.reduceNeg,Int.reduceToNat,reduceCtorEq,h1,h2,h5,h6]))
        · rename_i a b
          rw[if_pos ⟨a,b⟩] at hi
          simp only[fW,← hi]
        · rename_i a b
          rw[if_neg (fun e=>e.2 b)] at hi
          exact ⟨k - 1,by omega,i+1,_,by omega,hi,by first | rfl | exact ⟨rfl,rfl⟩ | exact ⟨rfl,rfl,rfl⟩⟩
        · rename_i a
          rw[if_neg (fun e=>e.1 a)] at hi
          exact ⟨k - 1,by omega,i+1,_,by omega,hi,by first | rfl | exact ⟨rfl,rfl⟩ | exact ⟨rfl,rfl,rfl⟩⟩
    · rw[List.drop_eq_nil_of_le (by omega)] at hi
      simp only[ij] at hi
      simp (disch:=omega) only [↓wr,↓reduceIte,wq,ah,ag,aj,ab,ae,af,ai,isNil,Nat.reduceEqDiff,Nat.reduceAdd,Nat.reduceLT,Nat.reduceLeDiff,Int.reduceNeg,Int.reduceToNat,reduceCtorEq,h1,h2,h5,h6]
      simp only[fW,← hi]
theorem HW (g:ao) (hg:g.Ok) (n:Int):aD Tryz.prog 153 [.agg (aw g),gi n] (gb (fW g.az n)):=aD.val (DY g n) (Ie g hg n)
def pX (g:ao) (t:Term):Bool:=(List.range t.level.toNat).all fun k=>fW g.az ((k:Int)+1)
def jm (g:ao) (i:Int) (t:Term):Bool :=
  pb (eE t.name) && (kL g t.name == i) && decide (0≤t.level) && decide (t.level≤24) && decide (0≤t.assoc) && decide (t.assoc≤3) && ((t.level == 0) == (t.assoc == 0)) && pX g t
def iP (g:ao):List Term→Int→Bool
  | [],_=>true
  | t :: r,i=>jm g i t && iP g r (i+1)
def iU (g:ao):Bool:=decide (g.az.length≤24) && iP g g.az 0
def ll:SC :=
  .seq (.seq (ak [aa 63 5,av 64 1 4,au 65 64,aN 66 .leq 63 65]) <|
  .cond (.tmp 66) (.skip) (.exit 2)) <|
  .seq (.block 3 (.seq (ak [aK 69 4 1,aa 70 5,aI 71 153 [69,70],b6 72 71]) <|
  .cond (.tmp 72) (.seq (ak [aX 2 false]) <|
  .ret) (.skip))) <|
  ak [aa 67 5,aA 68 .add 67 1,aa 5 68]
def lB:SC :=
  .seq (.seq (ak [aa 10 3,av 11 0 1,au 12 11,aJ 13 12,aN 14 .lss 10 13]) <|
  .cond (.tmp 14) (.skip) (.exit 0)) <|
  .seq (.block 1 (.seq (.region false [⟨none,[av 17 0 1,au 18 17,aa 19 3,aP 20 3 18 19,aK 21 3 20,((some 4),.op (.alloc [(.val (.string ⟨#[]⟩)),(.val (.int .i64 0)),(.val (.int .i64 0))])),(none,.op (.store 3 (.tmp 4) (.tmp 21)))]⟩]) <|
  .seq (.seq (.region false [⟨none,[av 22 0 4,au 23 22,aI 24 151 [23],b6 25 24,aa 26 25]⟩,⟨(some (26,false)),[aK 27 4 1,av 28 0 4,au 29 28,aI 30 152 [27,29],aa 31 3,aN 32 .neq 30 31]⟩,⟨none,[bJ 33 26 32,aa 34 33]⟩,⟨(some (34,false)),[av 35 1 4,au 36 35,aA 37 .lss 36 0]⟩,⟨none,[bJ 38 34 37,aa 39 38]⟩,⟨(some (39,false)),[av 40 1 4,au 41 40,aA 42 .gtr 41 24]⟩,⟨none,[bJ 43 39 42,aa 44 43]⟩,⟨(some (44,false)),[av 45 2 4,au 46 45,aA 47 .lss 46 0]⟩,⟨none,[bJ 48 44 47,aa 49 48]⟩,⟨(some (49,false)),[av 50 2 4,au 51 50,aA 52 .gtr 51 3]⟩,⟨none,[bJ 53 49 52,aa 54 53]⟩,⟨(some (54,false)),[av 55 1 4,au 56 55,aA 57 .eql 56 0,av 58 2 4,au 59 58,aA 60 .eql 59 0,((some 61),.op (.beq false (.tmp 57) (.tmp 60)))]⟩,⟨none,[bJ 62 54 61]⟩]) <|
  .cond (.tmp 62) (.seq (ak [aX 2 false]) <|
  .ret) (.skip)) <|
  .seq (ak [aF 5 1]) <|
  .block 2 (.loop ll))) <|
  ak [aa 15 3,aA 16 .add 15 1,aa 3 16]
def mS:SF:=⟨.seq (ak [bZ 1 0,aX 2 false]) <|
  .seq (.seq (ak [av 6 0 1,au 7 6,aJ 8 7,aA 9 .gtr 8 24]) <|
  .cond (.tmp 9) (.seq (ak [aX 2 false]) <|
  .ret) (.skip)) <|
  .seq (.seq (ak [aF 3 0]) <|
  .block 0 (.loop lB)) <|
  .seq (ak [aX 2 true]) <|
  .ret,
  [.tmp 2],73⟩
theorem so:bf Tryz.prog 104 [1]=some mS:=by kernel_rfl
def lP:SC :=
  .seq (.seq (ak [aa 14 3,av 15 1 1,au 16 15,aJ 17 16,aN 18 .lss 14 17]) <|
  .cond (.tmp 18) (.skip) (.exit 0)) <|
  .seq (.block 1 (.seq (.region false [⟨none,[av 21 1 1,au 22 21,aa 23 3,aP 24 1 22 23,au 25 24,aI 26 154 [25],b6 27 26,aa 28 27]⟩,⟨(some (28,false)),[aK 29 4 1,av 30 1 1,au 31 30,aa 32 3,aP 33 1 31 32,au 34 33,aI 35 139 [29,34],aa 36 3,aN 37 .neq 35 36]⟩,⟨none,[bJ 38 28 37,aa 39 38]⟩,⟨(some (39,false)),[aK 40 4 1,av 41 1 1,au 42 41,aa 43 3,aP 44 1 42 43,au 45 44,aI 46 152 [40,45],aA 47 .geq 46 0]⟩,⟨none,[bJ 48 39 47]⟩]) <|
  .cond (.tmp 48) (.seq (ak [aX 2 false]) <|
  .ret) (.skip))) <|
  ak [aa 19 3,aA 20 .add 19 1,aa 3 20]
def oy:SF:=⟨.seq (ak [bZ 1 0,aX 2 false]) <|
  .seq (.seq (.region false [⟨none,[av 4 1 1,au 5 4,aJ 6 5,aA 7 .lss 6 1,aa 8 7]⟩,⟨(some (8,false)),[av 9 1 1,au 10 9,aJ 11 10,aA 12 .gtr 11 16]⟩,⟨none,[bJ 13 8 12]⟩]) <|
  .cond (.tmp 13) (.seq (ak [aX 2 false]) <|
  .ret) (.skip)) <|
  .seq (.seq (ak [aF 3 0]) <|
  .block 0 (.loop lP)) <|
  .seq (ak [aX 2 true]) <|
  .ret,
  [.tmp 2],49⟩
theorem tS:bf Tryz.prog 105 [1]=some oy:=by kernel_rfl
def l0:SC :=
  .seq (.seq (ak [aa 23 5,av 24 1 3,au 25 24,aJ 26 25,aN 27 .lss 23 26]) <|
  .cond (.tmp 27) (.skip) (.exit 0)) <|
  .seq (.block 1 (.seq (.region false [⟨none,[aK 30 4 2,av 31 1 3,au 32 31,aa 33 5,aP 34 1 32 33,au 35 34,aI 36 155 [30,35],b6 37 36,aa 38 37]⟩,⟨(some (38,false)),[av 39 1 3,au 40 39,aa 41 5,aP 42 1 40 41,au 43 42,aA 44 .geq 43 0,aa 45 44]⟩,⟨(some (45,true)),[av 46 2 3,au 47 46,aA 48 .eql 47 (-1)]⟩,⟨(some (38,false)),[bG 49 45 48]⟩,⟨none,[bJ 50 38 49]⟩]) <|
  .cond (.tmp 50) (.seq (ak [aX 4 false]) <|
  .ret) (.skip))) <|
  ak [aa 28 5,aA 29 .add 28 1,aa 5 29]
def pf:SF:=⟨.seq (ak [bZ 2 0,bZ 3 1,aX 4 false]) <|
  .seq (.seq (.region false [⟨none,[av 6 1 3,au 7 6,aJ 8 7,aA 9 .gtr 8 6,aa 10 9]⟩,⟨(some (10,false)),[av 11 2 3,au 12 11,aA 13 .lss 12 (-1)]⟩,⟨none,[bJ 14 10 13,aa 15 14]⟩,⟨(some (15,false)),[av 16 2 3,au 17 16,av 18 0 2,au 19 18,aJ 20 19,aN 21 .geq 17 20]⟩,⟨none,[bJ 22 15 21]⟩]) <|
  .cond (.tmp 22) (.seq (ak [aX 4 false]) <|
  .ret) (.skip)) <|
  .seq (.seq (ak [aF 5 0]) <|
  .block 0 (.loop l0)) <|
  .seq (ak [aX 4 true]) <|
  .ret,
  [.tmp 4],51⟩
theorem sZ:bf Tryz.prog 106 [2,3]=some pf:=by kernel_rfl
def lu:SC :=
  .seq (.seq (ak [aa 39 4,av 40 2 1,au 41 40,aJ 42 41,aN 43 .lss 39 42]) <|
  .cond (.tmp 43) (.skip) (.exit 0)) <|
  .seq (.block 1 (.seq (ak [av 46 2 1,au 47 46,aa 48 4,aP 49 3 47 48,aK 50 3 49,((some 5),.op (.alloc [(.val (.int .i64 0)),(.emp 1),(.val (.int .i64 0))])),(none,.op (.store 3 (.tmp 5) (.tmp 50)))]) <|
  .seq (.seq (.region false [⟨none,[av 51 0 5,au 52 51,aA 53 .lss 52 0,aa 54 53]⟩,⟨(some (54,false)),[av 55 0 5,au 56 55,aa 57 3,aA 58 .add 57 1,aN 59 .gtr 56 58]⟩,⟨none,[bJ 60 54 59,aa 61 60]⟩,⟨(some (61,false)),[aK 62 4 1,aK 63 3 5,aI 64 106 [62,63],b6 65 64]⟩,⟨none,[bJ 66 61 65]⟩]) <|
  .cond (.tmp 66) (.seq (ak [aX 2 false]) <|
  .ret) (.skip)) <|
  .seq (ak [av 67 0 5,au 68 67,aa 69 3,aN 70 .gtr 68 69]) <|
  .cond (.tmp 70) (ak [av 71 0 5,au 72 71,aa 3 72]) (.skip))) <|
  ak [aa 44 4,aA 45 .add 44 1,aa 4 45]
def mU:SF:=⟨.seq (ak [bZ 1 0,aX 2 false]) <|
  .seq (.seq (.region false [⟨none,[aK 6 4 1,aI 7 104 [6],b6 8 7,aa 9 8]⟩,⟨(some (9,false)),[aK 10 4 1,aI 11 105 [10],b6 12 11]⟩,⟨none,[bJ 13 9 12,aa 14 13]⟩,⟨(some (14,false)),[av 15 2 1,au 16 15,aJ 17 16,aA 18 .lss 17 1]⟩,⟨none,[bJ 19 14 18,aa 20 19]⟩,⟨(some (20,false)),[av 21 2 1,au 22 21,aJ 23 22,aA 24 .gtr 23 40]⟩,⟨none,[bJ 25 20 24,aa 26 25]⟩,⟨(some (26,false)),[av 27 3 1,au 28 27,aA 29 .lss 28 0]⟩,⟨none,[bJ 30 26 29,aa 31 30]⟩,⟨(some (31,false)),[av 32 3 1,au 33 32,av 34 1 1,au 35 34,aJ 36 35,aN 37 .geq 33 36]⟩,⟨none,[bJ 38 31 37]⟩]) <|
  .cond (.tmp 38) (.seq (ak [aX 2 false]) <|
  .ret) (.skip)) <|
  .seq (ak [aF 3 (-1)]) <|
  .seq (.seq (ak [aF 4 0]) <|
  .block 0 (.loop lu)) <|
  .seq (ak [aa 73 3,av 74 1 1,au 75 74,aJ 76 75,aA 77 .sub 76 1,aN 78 .eql 73 77,aa 2 78]) <|
  .ret,
  [.tmp 2],79⟩
theorem r8:bf Tryz.prog 54 [1]=some mU:=by kernel_rfl
set_option maxHeartbeats 2000000 in
theorem Je (g:ao) (hg:g.Ok) (H:View):aC Tryz.prog 104 [.agg (aw g)] H fun r _=>r=gb (iU g):=by
  refine aC.of mixed so ?_
  simp (disch:=omega) only [↓wr,↓reduceIte,wq,ah,ag,aj,ab,ae,af,ai,isNil,Nat.reduceEqDiff,Nat.reduceAdd,Nat.reduceLT,Nat.reduceLeDiff,Int.reduceNeg,Int.reduceToNat,reduceCtorEq,mS,aw,encS]
  refine ax.dec (fun h=>?_) (fun h=>?_)
  · simp (disch:=omega) only [↓wr,↓reduceIte,wq,ah,ag,aj,ab,ae,af,ai,isNil,Nat.reduceEqDiff,Nat.reduceAdd,Nat.reduceLT,Nat.reduceLeDiff,Int.reduceNeg,Int.reduceToNat,reduceCtorEq]
    simp[iU,show ¬ g.az.length≤24 by omega]
  · have hle:g.az.length≤24:=by omega
    simp (disch:=omega) only [↓wr,↓reduceIte,wq,ah,ag,aj,ab,ae,af,ai,isNil,Nat.reduceEqDiff,Nat.reduceAdd,Nat.reduceLT,Nat.reduceLeDiff,Int.reduceNeg,Int.reduceToNat,reduceCtorEq]
    refine bz.intro (fun k T _=>∃ i:Nat,i+k=g.az.length∧iP g (g.az.drop i) i=iP g g.az 0∧T 1=.aR (aw g) 0∧T 3=gi i) g.az.length ?_ ?_
    · exact ⟨0,by omega,rfl,rfl,rfl⟩
    · rintro k T H' ⟨i,hk,hi,h1,h3⟩
      simp (disch:=omega) only [↓wr,↓reduceIte,wq,ah,ag,aj,ab,ae,af,ai,isNil,Nat.reduceEqDiff,Nat.reduceAdd,Nat.reduceLT,Nat.reduceLeDiff,Int.reduceNeg,Int.reduceToNat,reduceCtorEq,lB,h1,h3,aw]
      refine ax.dec (fun hc=>?_) (fun hc=>?_)
      · have hg2:g.az[i]?=some (g.az[i]'(by omega)):=List.getElem?_eq_getElem (by omega)
        rw[eP (show i < g.az.length by omega)] at hi
        have hmem:g.az[i]'(by omega)∈g.az:=List.getElem_mem _
        generalize g.az[i]'(by omega)=t at hg2 hi hmem
        obtain ⟨⟨hl1,hl2⟩,⟨ha1,ha2⟩⟩:=hg.term t hmem
        simp only[iP] at hi
        have hbad:jm g i t=false→gb false=gb (iU g):=fun e=>by rw[e,Bool.false_and] at hi; simp[iU,← hi]
        simp (disch:=omega) only [↓wr,↓reduceIte,wq,ah,ag,aj,ab,ae,af,ai,isNil,Nat.reduceEqDiff,Nat.reduceAdd,Nat.reduceLT,Nat.reduceLeDiff,Int.reduceNeg,Int.reduceToNat,reduceCtorEq,h1,h3,aw,cE,List.getElem?_map,hg2,Option.map_some]
        intro m hm
        try simp (disch:=omega) only [↓wr,↓reduceIte,wq,ah,ag,aj,ab,ae,af,ai,isNil,Nat.reduceEqDiff,Nat.reduceAdd,Nat.reduceLT,Nat.reduceLeDiff,Int.reduceNeg,Int.reduceToNat,reduceCtorEq,h1,h3]
        refine aG.pure (Jb t.name) (by kernel_rfl) ?_
        repeat' (first | (refine ax.dec (fun _=>?_) (fun _=>?_)) | (refine ax.eq (fun _=>?_) (fun _=>?_)) | (refine ax.ne (fun _=>?_) (fun _=>?_)) | (refine ax.split (fun _=>?_) (fun _=>?_)) | (simp (disch:=omega) only [↓wr,↓reduceIte,wq,ah,ag,aj,ab,ae,af,ai,isNil,Nat.reduceEqDiff,Nat.reduceAdd,Nat.reduceLT,Nat.reduceLeDiff,Int.reduceNeg,Int.reduceToNat,reduceCtorEq,h1,h3,aw]))
        all_goals try (refine hbad ?_; simp[jm, *]; done)
        rename_i hnm
        refine aG.pure (CZ g hg t.name) (by kernel_rfl) ?_
        repeat' (first | (refine ax.dec (fun _=>?_) (fun _=>?_)) | (refine ax.eq (fun _=>?_) (fun _=>?_)) | (refine ax.ne (fun _=>?_) (fun _=>?_)) | (refine ax.split (fun _=>?_) (fun _=>?_)) | (simp (disch:=omega) only [↓wr,↓reduceIte,wq,ah,ag,aj,ab,ae,af,ai,isNil,Nat.reduceEqDiff,Nat.reduceAdd,Nat.reduceLT,Nat.reduceLeDiff,Int.reduceNeg,Int.reduceToNat,reduceCtorEq,h1,h3,aw]))
        all_goals try (refine hbad ?_; simp[jm, *]; done)
        all_goals try (refine hbad ?_; simp[jm]; grind)
        rename_i e1 e2 e3 e4 e5 e6
        have hpre:jm g i t=pX g t:=by
          have e6':((t.level == 0) == (t.assoc == 0))=true:=by simpa using e6
          simp[jm,hnm,e1,e6',show (0:Int)≤t.level by omega,show t.level≤24 by omega,show (0:Int)≤t.assoc by omega,show t.assoc≤3 by omega]
        refine bz.intro (fun k' T H''=>∃ j:Nat,1≤j∧j+k'=t.level.toNat+1∧(∀ q:Nat,q+1 < j→fW g.az ((q:Int)+1)=true)∧T 1=.aR (aw g) 0∧T 3=gi i∧T 4=.ptr m 0 0∧H'' m=.arr 3 [[gs t.name,gi t.level,gi t.assoc]]∧T 5=gi j) t.level.toNat ?_ ?_
        · refine ⟨1,by omega,by omega,fun q hq=>by omega,?_⟩
          simp (disch:=omega) only [↓wr,↓reduceIte,wq,ah,ag,aj,ab,ae,af,ai,isNil,Nat.reduceEqDiff,Nat.reduceAdd,Nat.reduceLT,Nat.reduceLeDiff,Int.reduceNeg,Int.reduceToNat,reduceCtorEq,h1,h3,aw]
          rfl
        · rintro k' T' H'' ⟨j,hj1,hj2,hj3,f1,f3,f4,fm,f5⟩
          simp (disch:=omega) only [↓wr,↓reduceIte,wq,ah,ag,aj,ab,ae,af,ai,isNil,Nat.reduceEqDiff,Nat.reduceAdd,Nat.reduceLT,Nat.reduceLeDiff,Int.reduceNeg,Int.reduceToNat,reduceCtorEq,ll,f1,f3,f4,f5,fm]
          refine ax.dec (fun hd=>?_) (fun hd=>?_)
          · simp (disch:=omega) only [↓wr,↓reduceIte,wq,ah,ag,aj,ab,ae,af,ai,isNil,Nat.reduceEqDiff,Nat.reduceAdd,Nat.reduceLT,Nat.reduceLeDiff,Int.reduceNeg,Int.reduceToNat,reduceCtorEq,f1,f3,f4,f5,fm,aw]
            refine aG.pure (HW g hg j) (by kernel_rfl) ?_
            repeat' (first | (refine ax.dec (fun _=>?_) (fun _=>?_)) | (refine ax.eq (fun _=>?_) (fun _=>?_)) | (refine ax.ne (fun _=>?_) (fun _=>?_)) | (refine ax.split (fun _=>?_) (fun _=>?_)) | (simp (disch:=omega) only [↓wr,↓reduceIte,wq,ah,ag,aj,ab,ae,af,ai,isNil,Nat.reduceEqDiff,Nat.reduceAdd,Nat.reduceLT,Nat.reduceLeDiff,Int.reduceNeg,Int.reduceToNat,reduceCtorEq,f1,f3,f4,f5,fm,aw]))
            · rename_i hb
              refine ⟨k' - 1,by omega,j+1,by omega,by omega,fun q hq=>?_,by first | rfl | exact ⟨rfl,rfl⟩ | exact ⟨rfl,rfl,rfl⟩⟩
              by_cases e:q+1=j
              · have:(q:Int)+1=j:=by omega
                rw[this]; exact hb
              · exact hj3 q (by omega)
            · rename_i hb
              refine hbad ?_
              rw[hpre,pX,List.all_eq_false]
              refine ⟨j - 1,by simp; omega,?_⟩
              have:((j - 1:Nat):Int)+1=j:=by omega
              rw[this,hb]; simp
          · simp (disch:=omega) only [↓wr,↓reduceIte,wq,ah,ag,aj,ab,ae,af,ai,isNil,Nat.reduceEqDiff,Nat.reduceAdd,Nat.reduceLT,Nat.reduceLeDiff,Int.reduceNeg,Int.reduceToNat,reduceCtorEq,f1,f3,f4,f5,fm]
            refine ⟨k - 1,by omega,i+1,by omega,?_,by first | rfl | exact ⟨rfl,rfl⟩ | exact ⟨rfl,rfl,rfl⟩⟩
            have hlv:pX g t=true:=by
              rw[pX,List.all_eq_true]
              intro q hq
              exact hj3 q (by simp at hq; omega)
            rw[hpre,hlv,Bool.true_and] at hi
            push_cast; exact hi
      · rw[List.drop_eq_nil_of_le (by omega)] at hi
        simp only[iP] at hi
        simp (disch:=omega) only [↓wr,↓reduceIte,wq,ah,ag,aj,ab,ae,af,ai,isNil,Nat.reduceEqDiff,Nat.reduceAdd,Nat.reduceLT,Nat.reduceLeDiff,Int.reduceNeg,Int.reduceToNat,reduceCtorEq,h1,h3]
        simp[iU,hle,← hi]
theorem I3 (g:ao) (hg:g.Ok):aD Tryz.prog 104 [.agg (aw g)] (gb (iU g)):=aD.val (eN g) (Je g hg)
def kx (g:ao) (i:Int) (s:ByteArray):Bool:=fB (eE s) && (wP g s == i) && decide (kL g s < 0)
def pU (g:ao):List ByteArray→Int→Bool
  | [],_=>true
  | s :: r,i=>kx g i s && pU g r (i+1)
def jq (g:ao):Bool:=decide (1≤g.ay.length) && decide (g.ay.length≤16) && pU g g.ay 0
set_option maxHeartbeats 1000000 in
theorem JG (g:ao) (hg:g.Ok) (H:View):aC Tryz.prog 105 [.agg (aw g)] H fun r _=>r=gb (jq g):=by
  refine aC.of mixed tS ?_
  repeat' (first | (refine ax.dec (fun _=>?_) (fun _=>?_)) | (refine ax.eq (fun _=>?_) (fun _=>?_)) | (refine ax.ne (fun _=>?_) (fun _=>?_)) | (refine ax.split (fun _=>?_) (fun _=>?_)) | (simp (disch:=omega) only [↓wr,↓reduceIte,wq,ah,ag,aj,ab,ae,af,ai,isNil,Nat.reduceEqDiff,Nat.reduceAdd,Nat.reduceLT,Nat.reduceLeDiff,Int.reduceNeg,Int.reduceToNat,reduceCtorEq,oy,aw,encS]))
  · simp[jq,show ¬ 1≤g.ay.length by omega]
  · simp[jq,show ¬ g.ay.length≤16 by omega]
  · have hle:g.ay.length≤16:=by omega
    refine bz.intro (fun k T _=>∃ i:Nat,i+k=g.ay.length∧pU g (g.ay.drop i) i=pU g g.ay 0∧T 1=.aR (aw g) 0∧T 3=gi i) g.ay.length ?_ ?_
    · exact ⟨0,by omega,rfl,rfl,rfl⟩
    · rintro k T H' ⟨i,hk,hi,h1,h3⟩
      simp (disch:=omega) only [↓wr,↓reduceIte,wq,ah,ag,aj,ab,ae,af,ai,isNil,Nat.reduceEqDiff,Nat.reduceAdd,Nat.reduceLT,Nat.reduceLeDiff,Int.reduceNeg,Int.reduceToNat,reduceCtorEq,lP,h1,h3,aw,encS]
      refine ax.dec (fun hc=>?_) (fun hc=>?_)
      · have hg2:g.ay[i]?=some (g.ay[i]'(by omega)):=List.getElem?_eq_getElem (by omega)
        rw[eP (show i < g.ay.length by omega)] at hi
        generalize g.ay[i]'(by omega)=t at hg2 hi
        simp only[pU] at hi
        have hbad:kx g i t=false→gb false=gb (jq g):=fun e=>by rw[e,Bool.false_and] at hi; simp[jq,← hi]
        simp (disch:=omega) only [↓wr,↓reduceIte,wq,ah,ag,aj,ab,ae,af,ai,isNil,Nat.reduceEqDiff,Nat.reduceAdd,Nat.reduceLT,Nat.reduceLeDiff,Int.reduceNeg,Int.reduceToNat,reduceCtorEq,h1,h3,aw,encS,List.getElem?_map,hg2,Option.map_some]
        refine aG.pure (Df t) (by kernel_rfl) ?_
        repeat' (first | (refine ax.dec (fun _=>?_) (fun _=>?_)) | (refine ax.eq (fun _=>?_) (fun _=>?_)) | (refine ax.ne (fun _=>?_) (fun _=>?_)) | (refine ax.split (fun _=>?_) (fun _=>?_)) | (simp (disch:=omega) only [↓wr,↓reduceIte,wq,ah,ag,aj,ab,ae,af,ai,isNil,Nat.reduceEqDiff,Nat.reduceAdd,Nat.reduceLT,Nat.reduceLeDiff,Int.reduceNeg,Int.reduceToNat,reduceCtorEq,h1,h3,aw,encS,List.getElem?_map,hg2,Option.map_some]))
        all_goals try (refine hbad ?_; simp[kx, *]; done)
        rename_i hnm
        refine aG.pure (Mc g hg t) (by kernel_rfl) ?_
        repeat' (first | (refine ax.dec (fun _=>?_) (fun _=>?_)) | (refine ax.eq (fun _=>?_) (fun _=>?_)) | (refine ax.ne (fun _=>?_) (fun _=>?_)) | (refine ax.split (fun _=>?_) (fun _=>?_)) | (simp (disch:=omega) only [↓wr,↓reduceIte,wq,ah,ag,aj,ab,ae,af,ai,isNil,Nat.reduceEqDiff,Nat.reduceAdd,Nat.reduceLT,Nat.reduceLeDiff,Int.reduceNeg,Int.reduceToNat,reduceCtorEq,h1,h3,aw,encS,List.getElem?_map,hg2,Option.map_some]))
        all_goals try (refine hbad ?_; simp[kx, *]; done)
        rename_i hno
        refine aG.pure (CZ g hg t) (by kernel_rfl) ?_
        repeat' (first | (refine ax.dec (fun _=>?_) (fun _=>?_)) | (refine ax.eq (fun _=>?_) (fun _=>?_)) | (refine ax.ne (fun _=>?_) (fun _=>?_)) | (refine ax.split (fun _=>?_) (fun _=>?_)) | (simp (disch:=omega) only [↓wr,↓reduceIte,wq,ah,ag,aj,ab,ae,af,ai,isNil,Nat.reduceEqDiff,Nat.reduceAdd,Nat.reduceLT,Nat.reduceLeDiff,Int.reduceNeg,Int.reduceToNat,reduceCtorEq,h1,h3,aw,encS]))
        all_goals try (refine hbad ?_; simp[kx, *]; done)
        rename_i hte
        refine ⟨k - 1,by omega,i+1,by omega,?_,by first | rfl | exact ⟨rfl,rfl⟩ | exact ⟨rfl,rfl,rfl⟩⟩
        have:kx g i t=true:=by simp[kx,hnm,hno,show kL g t < 0 by omega]
        rw[this,Bool.true_and] at hi
        push_cast; exact hi
      · rw[List.drop_eq_nil_of_le (by omega)] at hi
        simp only[pU] at hi
        simp (disch:=omega) only [↓wr,↓reduceIte,wq,ah,ag,aj,ab,ae,af,ai,isNil,Nat.reduceEqDiff,Nat.reduceAdd,Nat.reduceLT,Nat.reduceLeDiff,Int.reduceNeg,Int.reduceToNat,reduceCtorEq,h1,h3]
        simp[jq,hle,show 1≤g.ay.length by omega,← hi]
theorem Lv (g:ao) (hg:g.Ok):aD Tryz.prog 105 [.agg (aw g)] (gb (jq g)):=aD.val (eN g) (JG g hg)
def kY (g:ao) (prec s:Int):Bool:=hU g s && !(decide (0≤s) && prec == -1)
def gA (g:ao) (r:aT):Bool:=decide (r.right.length≤6) && decide (-1≤r.prec) && decide (r.prec < g.az.length) && r.right.all (kY g r.prec)
theorem Ff (g:ao) (r:aT):∀ v∈[V.agg (aw g),V.agg (ba r)],Tree v:=by
  intro v hv; simp at hv
  rcases hv with rfl | rfl
  · exact dd _ (dT g)
  · exact dd _ (gg r)
set_option maxHeartbeats 1000000 in
theorem Ln (g:ao) (r:aT) (hr:aW r.right∧∀ x∈r.right,cz x) (H:View):aC Tryz.prog 106 [.agg (aw g),.agg (ba r)] H fun v _=>v=gb (gA g r):=by
  refine aC.of mixed sZ ?_
  repeat' (first | (refine ax.dec (fun _=>?_) (fun _=>?_)) | (refine ax.eq (fun _=>?_) (fun _=>?_)) | (refine ax.ne (fun _=>?_) (fun _=>?_)) | (refine ax.split (fun _=>?_) (fun _=>?_)) | (simp (disch:=omega) only [↓wr,↓reduceIte,wq,ah,ag,aj,ab,ae,af,ai,isNil,Nat.reduceEqDiff,Nat.reduceAdd,Nat.reduceLT,Nat.reduceLeDiff,Int.reduceNeg,Int.reduceToNat,reduceCtorEq,pf,aw,encS,ba,encI]))
  · simp[gA,show ¬ r.right.length≤6 by omega]
  · simp[gA,show ¬ -1≤r.prec by omega]
  · simp[gA,show ¬ r.prec < g.az.length by omega]
  · have hle:r.right.length≤6:=by omega
    have hp1 : -1≤r.prec:=by omega
    have hp2:r.prec < g.az.length:=by omega
    refine bz.intro (fun k T _=>∃ i:Nat,i+k=r.right.length∧(r.right.drop i).all (kY g r.prec)=r.right.all (kY g r.prec)∧T 2=.aR (aw g) 0∧T 3=.aR (ba r) 0∧T 5=gi i) r.right.length ?_ ?_
    · exact ⟨0,by omega,rfl,rfl,rfl,rfl⟩
    · rintro k T H' ⟨i,hk,hi,h2,h3,h5⟩
      simp (disch:=omega) only [↓wr,↓reduceIte,wq,ah,ag,aj,ab,ae,af,ai,isNil,Nat.reduceEqDiff,Nat.reduceAdd,Nat.reduceLT,Nat.reduceLeDiff,Int.reduceNeg,Int.reduceToNat,reduceCtorEq,l0,h2,h3,h5,ba,encI]
      refine ax.dec (fun hc=>?_) (fun hc=>?_)
      · have hg2:r.right[i]?=some (r.right[i]'(by omega)):=List.getElem?_eq_getElem (by omega)
        rw[eP (show i < r.right.length by omega)] at hi
        have hmem:r.right[i]'(by omega)∈r.right:=List.getElem_mem _
        generalize r.right[i]'(by omega)=t at hg2 hi hmem
        have hin:=hr.2 t hmem
        simp only[List.all_cons] at hi
        have hbad:kY g r.prec t=false→gb false=gb (gA g r):=fun e=>by rw[e,Bool.false_and] at hi; simp only[gA,← hi,Bool.and_false]
        have hok:kY g r.prec t=true→(r.right.drop (i+1)).all (kY g r.prec)=r.right.all (kY g r.prec):=fun e=>by rw[e,Bool.true_and] at hi; exact hi
        simp (disch:=omega) only [↓wr,↓reduceIte,wq,ah,ag,aj,ab,ae,af,ai,isNil,Nat.reduceEqDiff,Nat.reduceAdd,Nat.reduceLT,Nat.reduceLeDiff,Int.reduceNeg,Int.reduceToNat,reduceCtorEq,h2,h3,h5,aw,encS,ba,encI,List.getElem?_map,hg2,Option.map_some]
        refine aG.pure (OH g t hin) (by kernel_rfl) ?_
        repeat' (first | (refine ax.dec (fun _=>?_) (fun _=>?_)) | (refine ax.eq (fun _=>?_) (fun _=>?_)) | (refine ax.ne (fun _=>?_) (fun _=>?_)) | (refine ax.split (fun _=>?_) (fun _=>?_)) | (simp (disch:=omega) only [↓wr,↓reduceIte,wq,ah,ag,aj,ab,ae,af,ai,isNil,Nat.reduceEqDiff,Nat.reduceAdd,Nat.reduceLT,Nat.reduceLeDiff,Int.reduceNeg,Int.reduceToNat,reduceCtorEq,h2,h3,h5,aw,encS,ba,encI,List.getElem?_map,hg2,Option.map_some]))
        all_goals first
          | (refine hbad ?_; simp[kY, *]; done)
          | (refine ⟨k - 1,by omega,i+1,by omega,hok (by simp[kY, *]; done),by first | rfl | exact ⟨rfl,rfl⟩ | exact ⟨rfl,rfl,rfl⟩⟩)
          | skip
      · rw[List.drop_eq_nil_of_le (by omega)] at hi
        simp only[List.all_nil] at hi
        simp (disch:=omega) only [↓wr,↓reduceIte,wq,ah,ag,aj,ab,ae,af,ai,isNil,Nat.reduceEqDiff,Nat.reduceAdd,Nat.reduceLT,Nat.reduceLeDiff,Int.reduceNeg,Int.reduceToNat,reduceCtorEq,h2,h3,h5]
        simp only[gA,hle,hp1,hp2,decide_true,Bool.true_and,← hi]
theorem Kk (g:ao) (r:aT) (hr:aW r.right∧∀ x∈r.right,cz x):aD Tryz.prog 106 [.agg (aw g),.agg (ba r)] (gb (gA g r)):=aD.val (Ff g r) (Ln g r hr)
def fU (g:ao):List aT→Int→Bool
  | [],top=>top == (g.ay.length:Int) - 1
  | r :: l,top=>decide (0≤r.left) && decide (r.left≤top+1) && gA g r && fU g l (if r.left > top then r.left else top)
def bK (g:ao):Bool :=
  iU g && jq g && decide (1≤g.rules.length) && decide (g.rules.length≤40) && decide (0≤g.start) && decide (g.start < g.ay.length) && fU g g.rules (-1)
set_option maxHeartbeats 1000000 in
theorem Iz (g:ao) (hg:g.Ok) (H:View):aC Tryz.prog 54 [.agg (aw g)] H fun r _=>r=gb (bK g):=by
  refine aC.of mixed r8 ?_
  have hn:=hg.ay
  unfold aW at hn
  simp (disch:=omega) only [↓wr,↓reduceIte,wq,ah,ag,aj,ab,ae,af,ai,isNil,Nat.reduceEqDiff,Nat.reduceAdd,Nat.reduceLT,Nat.reduceLeDiff,Int.reduceNeg,Int.reduceToNat,reduceCtorEq,mU,aw,encS]
  refine aG.pure (I3 g hg) (by kernel_rfl) ?_
  repeat' (first | (refine ax.dec (fun _=>?_) (fun _=>?_)) | (refine ax.eq (fun _=>?_) (fun _=>?_)) | (refine ax.ne (fun _=>?_) (fun _=>?_)) | (refine ax.split (fun _=>?_) (fun _=>?_)) | (simp (disch:=omega) only [↓wr,↓reduceIte,wq,ah,ag,aj,ab,ae,af,ai,isNil,Nat.reduceEqDiff,Nat.reduceAdd,Nat.reduceLT,Nat.reduceLeDiff,Int.reduceNeg,Int.reduceToNat,reduceCtorEq,aw,encS]))
  · rename_i h1
    refine aG.pure (Lv g hg) (by kernel_rfl) ?_
    repeat' (first | (refine ax.dec (fun _=>?_) (fun _=>?_)) | (refine ax.eq (fun _=>?_) (fun _=>?_)) | (refine ax.ne (fun _=>?_) (fun _=>?_)) | (refine ax.split (fun _=>?_) (fun _=>?_)) | (simp (disch:=omega) only [↓wr,↓reduceIte,wq,ah,ag,aj,ab,ae,af,ai,isNil,Nat.reduceEqDiff,Nat.reduceAdd,Nat.reduceLT,Nat.reduceLeDiff,Int.reduceNeg,Int.reduceToNat,reduceCtorEq,aw,encS]))
    all_goals try (simp[bK, *]; done)
    all_goals try (simp[bK]; omega)
    rename_i h2 h3 h4 h5 h6
    have hle:g.rules.length≤40:=by omega
    have hpre:∀ b,fU g g.rules (-1)=b→gb b=gb (bK g):=fun b e=>by
      simp[bK,h1,h2,show 1≤g.rules.length by omega,hle,show 0≤g.start by omega,show g.start < g.ay.length by omega,e]
    refine bz.intro (fun k T _=>∃ (i:Nat) (w:Int),i+k=g.rules.length∧-1≤w∧w < i∧fU g (g.rules.drop i) w=fU g g.rules (-1)∧T 1=.aR (aw g) 0∧T 3=gi w∧T 4=gi i) g.rules.length ?_ ?_
    · exact ⟨0,-1,by omega,by omega,by omega,rfl,rfl,rfl,rfl⟩
    · rintro k T H' ⟨i,w,hk,hw1,hw2,hi,f1,f3,f4⟩
      simp (disch:=omega) only [↓wr,↓reduceIte,wq,ah,ag,aj,ab,ae,af,ai,isNil,Nat.reduceEqDiff,Nat.reduceAdd,Nat.reduceLT,Nat.reduceLeDiff,Int.reduceNeg,Int.reduceToNat,reduceCtorEq,lu,f1,f3,f4,aw]
      refine ax.dec (fun hc=>?_) (fun hc=>?_)
      · have hg2:g.rules[i]?=some (g.rules[i]'(by omega)):=List.getElem?_eq_getElem (by omega)
        rw[eP (show i < g.rules.length by omega)] at hi
        have hmem:g.rules[i]'(by omega)∈g.rules:=List.getElem_mem _
        generalize g.rules[i]'(by omega)=t at hg2 hi hmem
        obtain ⟨⟨hl1,hl2⟩,hp,hr1,hr2⟩:=hg.aH t hmem
        simp only[fU] at hi
        simp (disch:=omega) only [↓wr,↓reduceIte,wq,ah,ag,aj,ab,ae,af,ai,isNil,Nat.reduceEqDiff,Nat.reduceAdd,Nat.reduceLT,Nat.reduceLeDiff,Int.reduceNeg,Int.reduceToNat,reduceCtorEq,f1,f3,f4,aw,encS,ba,encI,List.getElem?_map,hg2,Option.map_some]
        intro m hm
        try simp (disch:=omega) only [↓wr,↓reduceIte,wq,ah,ag,aj,ab,ae,af,ai,isNil,Nat.reduceEqDiff,Nat.reduceAdd,Nat.reduceLT,Nat.reduceLeDiff,Int.reduceNeg,Int.reduceToNat,reduceCtorEq,f1,f3,f4]
        repeat' (first | (refine ax.dec (fun _=>?_) (fun _=>?_)) | (refine ax.eq (fun _=>?_) (fun _=>?_)) | (refine ax.ne (fun _=>?_) (fun _=>?_)) | (refine ax.split (fun _=>?_) (fun _=>?_)) | (simp (disch:=omega) only [↓wr,↓reduceIte,wq,ah,ag,aj,ab,ae,af,ai,isNil,Nat.reduceEqDiff,Nat.reduceAdd,Nat.reduceLT,Nat.reduceLeDiff,Int.reduceNeg,Int.reduceToNat,reduceCtorEq,f1,f3,f4,aw,encS,ba,encI]))
        all_goals try (refine hpre _ ?_; simp only[← hi]; simp; omega)
        rename_i e1 e2
        refine aG.pure (Kk g t ⟨hr1,hr2⟩) (by kernel_rfl) ?_
        repeat' (first | (refine ax.dec (fun _=>?_) (fun _=>?_)) | (refine ax.eq (fun _=>?_) (fun _=>?_)) | (refine ax.ne (fun _=>?_) (fun _=>?_)) | (refine ax.split (fun _=>?_) (fun _=>?_)) | (simp (disch:=omega) only [↓wr,↓reduceIte,wq,ah,ag,aj,ab,ae,af,ai,isNil,Nat.reduceEqDiff,Nat.reduceAdd,Nat.reduceLT,Nat.reduceLeDiff,Int.reduceNeg,Int.reduceToNat,reduceCtorEq,f1,f3,f4,aw,encS,ba,encI]))
        all_goals simp only[show 0≤t.left by omega,show t.left≤w+1 by omega,decide_true,Bool.true_and] at hi
        · rename_i e3 e4
          rw[e3,Bool.true_and,if_pos e4] at hi
          exact ⟨k - 1,by omega,i+1,_,by omega,by omega,by push_cast; omega,hi,by first | rfl | exact ⟨rfl,rfl⟩ | exact ⟨rfl,rfl,rfl⟩⟩
        · rename_i e3 e4
          rw[e3,Bool.true_and,if_neg e4] at hi
          exact ⟨k - 1,by omega,i+1,_,by omega,by omega,by push_cast; omega,hi,by first | rfl | exact ⟨rfl,rfl⟩ | exact ⟨rfl,rfl,rfl⟩⟩
        · rename_i e3
          rw[e3,Bool.false_and] at hi
          exact hpre _ hi.symm
      · rw[List.drop_eq_nil_of_le (by omega)] at hi
        simp only[fU] at hi
        simp (disch:=omega) only [↓wr,↓reduceIte,wq,ah,ag,aj,ab,ae,af,ai,isNil,Nat.reduceEqDiff,Nat.reduceAdd,Nat.reduceLT,Nat.reduceLeDiff,Int.reduceNeg,Int.reduceToNat,reduceCtorEq,f1,f3,f4,aw,encS]
        exact hpre _ hi.symm
  · rename_i h1; simp[bK,h1]
theorem ue (g:ao) (hg:g.Ok):aD Tryz.prog 54 [.agg (aw g)] (gb (bK g)):=aD.val (eN g) (Iz g hg)
inductive ca (α:Type) where
  | nil
  | node (v:α) (l r:ca α)
noncomputable def ca.get {α:Type} (z:α) (t:ca α):Nat→α :=
  ca.rec (motive:=fun _=>Nat→α) (fun _=>z) (fun v _ _ gl gr i=>Bool.rec (Bool.rec (gr (i / 2 - 1)) (gl (i / 2)) (Nat.beq (i % 2) 1)) v (Nat.beq i 0)) t
theorem ca.get_nil {α:Type} (z:α) (i:Nat):ca.get z .nil i=z:=rfl
theorem ca.Mm {α:Type} (z v:α) (l r:ca α) (i:Nat):ca.get z (.node v l r) i=match Nat.beq i 0 with
    | true=>v
    | false=>match Nat.beq (i % 2) 1 with
      | true=>ca.get z l (i / 2)
      | false=>ca.get z r (i / 2 - 1):=by
  change (Bool.rec (motive:=fun _=>α) _ _ _:α)=_
  cases Nat.beq i 0 with
  | true=>rfl
  | false=>cases Nat.beq (i % 2) 1 <;> rfl
def ca.val {α:Type} (z:α):ca α→α
  | .nil=>z
  | .node v _ _=>v
def ca.left {α:Type} : ca α→ca α
  | .nil=>.nil
  | .node _ l _=>l
def ca.right {α:Type} : ca α→ca α
  | .nil=>.nil
  | .node _ _ r=>r
noncomputable def ca.put {α:Type} (z:α) (x:α) (d:Nat):ca α→Nat→ca α :=
  Nat.rec (motive:=fun _=>ca α→Nat→ca α) (fun t _=>t) (fun _ pd t i =>
    Bool.rec (Bool.rec (.node (t.val z) t.left (pd t.right (i / 2 - 1))) (.node (t.val z) (pd t.left (i / 2)) t.right) (Nat.beq (i % 2) 1)) (.node x t.left t.right) (Nat.beq i 0)) d
theorem ca.Mi {α:Type} (z x:α) (d:Nat) (t:ca α) (i:Nat):ca.put z x (d+1) t i=match Nat.beq i 0 with
    | true=>.node x t.left t.right
    | false=>match Nat.beq (i % 2) 1 with
      | true=>.node (t.val z) (ca.put z x d t.left (i / 2)) t.right
      | false=>.node (t.val z) t.left (ca.put z x d t.right (i / 2 - 1)):=by
  change (Bool.rec (motive:=fun _=>ca α) _ _ _:ca α)=_
  cases Nat.beq i 0 with
  | true=>rfl
  | false=>cases Nat.beq (i % 2) 1 <;> rfl
theorem ca.lh {α:Type} (z:α) (t:ca α) (j:Nat):t.get z j=if j=0 then t.val z else if j % 2=1 then t.left.get z (j / 2) else t.right.get z (j / 2 - 1):=by
  cases t with
  | nil=>simp[ca.get_nil,ca.val,ca.left,ca.right]
  | node v l r =>
    simp only[ca.Mm,ca.val,ca.left,ca.right]
    by_cases h:j=0
    · subst h; rfl
    · have:Nat.beq j 0=false:=by cases e:Nat.beq j 0 with | true=>exact absurd (Nat.eq_of_beq_eq_true e) h | false=>rfl
      rw[this,if_neg h]
      simp only
      by_cases h2:j % 2=1
      · have:Nat.beq (j % 2) 1=true:=by rw[h2]; rfl
        rw[this,if_pos h2]
      · have:Nat.beq (j % 2) 1=false:=by cases e:Nat.beq (j % 2) 1 with | true=>exact absurd (Nat.eq_of_beq_eq_true e) h2 | false=>rfl
        rw[this,if_neg h2]
theorem ca.k8 {α:Type} (z x:α):∀ (d:Nat) (t:ca α) (i j:Nat),i+1 < 2 ^ d→(ca.put z x d t i).get z j=if j=i then x else t.get z j
  | 0,t,i,j,h=>by simp at h
  | d+1,t,i,j,h=>by
    rw[Nat.pow_succ] at h
    simp only[ca.Mi]
    by_cases hi:i=0
    · subst hi
      have:Nat.beq 0 0=true:=rfl
      rw[this]
      simp only
      rw[ca.lh,ca.lh z t]
      simp only[ca.val,ca.left,ca.right]
      by_cases hj:j=0
      · rw[if_pos hj,if_pos hj]
      · rw[if_neg hj,if_neg hj,if_neg hj]
    · have:Nat.beq i 0=false:=by cases e:Nat.beq i 0 with | true=>exact absurd (Nat.eq_of_beq_eq_true e) hi | false=>rfl
      rw[this]
      simp only
      by_cases h2:i % 2=1
      · have:Nat.beq (i % 2) 1=true:=by rw[h2]; rfl
        rw[this]
        simp only
        rw[ca.lh,ca.lh z t]
        simp only[ca.val,ca.left,ca.right]
        by_cases hj:j=0
        · subst hj; rw[if_pos rfl,if_neg (fun e=>hi e.symm),if_pos rfl]
        · rw[if_neg hj,if_neg hj]
          by_cases hj2:j % 2=1
          · rw[if_pos hj2,if_pos hj2,ca.k8 z x d _ _ _ (by omega)]
            by_cases e:j=i
            · subst e; simp
            · rw[if_neg e,if_neg (by omega)]
          · rw[if_neg hj2,if_neg hj2,if_neg (fun e=>hj2 (by rw[e]; exact h2))]
      · have:Nat.beq (i % 2) 1=false:=by cases e:Nat.beq (i % 2) 1 with | true=>exact absurd (Nat.eq_of_beq_eq_true e) h2 | false=>rfl
        rw[this]
        simp only
        rw[ca.lh,ca.lh z t]
        simp only[ca.val,ca.left,ca.right]
        by_cases hj:j=0
        · subst hj; rw[if_pos rfl,if_neg (fun e=>hi e.symm),if_pos rfl]
        · rw[if_neg hj,if_neg hj]
          by_cases hj2:j % 2=1
          · rw[if_pos hj2,if_pos hj2,if_neg (fun e=>h2 (by rw[← e]; exact hj2))]
          · rw[if_neg hj2,if_neg hj2,ca.k8 z x d _ _ _ (by omega)]
            by_cases e:j=i
            · subst e; simp
            · rw[if_neg e,if_neg (by omega)]
abbrev deep:Nat:=13
structure ES where
  L:ca V
  H:ca bM
  n:Nat
  w:List Nat
noncomputable def ES.T (s:ES):Env:=s.L.get .any
noncomputable def ES.V (s:ES):View:=s.H.get .dead
noncomputable def ES.put (s:ES) (d:Option Nat) (v:Gv.V):ES:=match d with
  | some t=>⟨s.L.put .any v deep t,s.H,s.n,s.w⟩
  | none=>s
theorem ES.Nn {s:ES} {d:Option Nat} {v:Gv.V} (h:∀ t,d=some t→t < 8000):(s.put d v).T=s.T.put d v:=by
  cases d with
  | none=>rfl
  | some t =>
    funext k
    have:=h t rfl
    simp only[ES.put,ES.T,Env.put]
    rw[ca.k8 _ _ _ _ _ _ (by simp[deep]; omega)]
noncomputable def FF (v:V) (eff:bj) (rd:List Nat) (s:ES):Option (V × ES × Rec):=match eff with
  | .none=>some (v,s,⟨rd,[],false,s.n,s.n⟩)
  | .new o=>match Nat.ble s.n 8000 with
    | true=>some (v,⟨s.L,s.H.put .dead o deep s.n,s.n+1,s.w⟩,⟨rd,[],false,s.n,s.n+1⟩)
    | false=>none
  | .eQ id o=>match Nat.ble id 8000 with
    | true=>some (v,⟨s.L,s.H.put .dead o deep id,s.n,id :: s.w⟩,⟨rd,[id],false,s.n,s.n⟩)
    | false=>none
  | .bm id o=>match Nat.ble s.n 8000,Nat.ble id 8000 with
    | true,true=>some (v,⟨s.L,(s.H.put .dead .dead deep id).put .dead o deep s.n,s.n+1,id :: s.w⟩,⟨rd,[id],false,s.n,s.n+1⟩)
    | _,_=>none
noncomputable def QI (x:SX) (_:Program) (T:Env) (_:View) (_:Nat):Out:=some (x.at T,.none,[])
noncomputable def PI (c a b:SX) (_:Program) (T:Env) (_:View) (_:Nat):Out:=match c.at T with
  | .val (.bool t)=>some (if t then a.at T else b.at T,.none,[])
  | _=>none
noncomputable def PN (sz:Option Nat) (a:SX) (_:Program) (T:Env) (H:View) (_:Nat):Out:=uB sz (a.at T) H
noncomputable def OI (sz:Nat) (a x:SX) (_:Program) (T:Env) (H:View) (_:Nat):Out:=Au sz (a.at T) (x.at T) H
noncomputable def PO (off:Nat) (x:SX) (_:Program) (T:Env) (_:View) (_:Nat):Out:=xS off (x.at T)
noncomputable def Qb (sz:Nat) (x i:SX) (_:Program) (T:Env) (_:View) (_:Nat):Out:=BU sz (x.at T) (i.at T)
noncomputable def P1 (x:SX) (_:Program) (T:Env) (_:View) (_:Nat):Out:=(cq (x.at T)).map fun n=>(aj n,.none,[])
noncomputable def O7 (op:BinOp) (x y:SX) (_:Program) (T:Env) (_:View) (_:Nat):Out:=wV op (x.at T) (y.at T)
noncomputable def Qu (op:BinOp) (x y:SX) (_:Program) (T:Env) (_:View) (_:Nat):Out:=yV op (x.at T) (y.at T)
noncomputable def Qv (x:SX) (_:Program) (T:Env) (_:View) (_:Nat):Out:=match x.at T with
  | .val (.bool t)=>some (.val (.bool (!t)),.none,[])
  | _=>none
noncomputable def Qm (i:Nat) (x:SX) (_:Program) (T:Env) (_:View) (_:Nat):Out:=match x.at T with
  | .bu vs=>if i < vs.length then some (vs.getD i .any,.none,[]) else none
  | _=>none
noncomputable def Pw (x:SX) (_:Program) (T:Env) (_:View) (_:Nat):Out:=match x.at T with
  | .ptr id i j=>some (.ptr id i j,.none,[])
  | .aR e j=>some (.aR e j,.none,[])
  | .fn f a b=>some (.fn f a b,.none,[])
  | _=>none
noncomputable def eI (s:SI):Program→Env→View→Nat→Out:=match s with
  | .bm x=>QI x
  | .pick c a b=>PI c a b
  | .load sz a=>PN sz a
  | .store sz a x=>OI sz a x
  | .addr o x=>PO o x
  | .idx sz x i=>Qb sz x i
  | .len x=>P1 x
  | .arith op x y=>O7 op x y
  | .iR op x y=>Qu op x y
  | .not x=>Qv x
  | .ext i x=>Qm i x
  | .zd x=>Pw x
  | s=>fun P T H n=>sI P s T H n
theorem Jn (s:SI) (P:Program) (T:Env) (H:View) (n:Nat):eI s P T H n=sI P s T H n:=by
  cases s <;> rfl
abbrev gw:=FuncId→List V→ES→Option (V × ES)
noncomputable def J5 (P:Program) (s:SI) (e:ES):Option (V × ES × Rec):=match eI s P e.T e.V e.n with
  | some (v,eff,rd)=>FF v eff rd e
  | none=>none
noncomputable def LA (call:gw) (f:SX) (args:List SX) (e:ES):Option (V × ES × Rec):=match f.at e.T with
  | .fn g first cap=>match call g (first ++ args.map (SX.at e.T) ++ cap) e with
    | some (v,e')=>some (v,⟨e.L,e'.H,e'.n,e'.w ++ e.w⟩,⟨[],e'.w,true,e.n,e'.n⟩)
    | none=>none
  | _=>none
noncomputable def eB (P:Program) (call:gw) (b:SB):ES→Option (V × ES × Rec):=match b with
  | .op s=>J5 P s
  | .call f args=>LA call f args
noncomputable def GX (P:Program) (call:gw):List (Option Nat × SB)→List Rec→ES→Option (ES × List Rec)
  | [],a,e=>some (e,a)
  | (d,b) :: r,a,e=>match eB P call b e with
    | some (v,e',c)=>GX P call r (a ++ [c]) (e'.put d v)
    | none=>none
noncomputable def Nv (e:ES):Rec:=⟨[],[],false,e.n,e.n⟩
noncomputable def uv:List (Option Nat × SB)→List Rec→ES→ES × List Rec
  | [],a,e=>(e,a)
  | (d,_) :: r,a,e=>uv r (a ++ [Nv e]) (e.put d (.bu []))
noncomputable def Ls (P:Program) (call:gw) (ops:List (Option Nat × SB)) (want:Bool) (v:V) (a:List Rec) (e:ES):Option (ES × List Rec):=match v with
  | .val (.bool b)=>match xor b want with
    | true=>some (uv ops a e)
    | false=>GX P call ops a e
  | .bu []=>some (uv ops a e)
  | _=>none
noncomputable def eG (P:Program) (call:gw) (g:SG) (a:List Rec) (e:ES):Option (ES × List Rec):=match g.guard with
  | none=>GX P call g.ops a e
  | some (d,want)=>Ls P call g.ops want (e.T d) a e
noncomputable def Kp (P:Program) (call:gw):List SG→List Rec→ES→Option (ES × List Rec)
  | [],a,e=>some (e,a)
  | g :: r,a,e=>match eG P call g a e with
    | some (e',a')=>Kp P call r a' e'
    | none=>none
inductive DC where
  | skip
  | region (ps:List (Nat × Nat)) (gs:List SG)
  | seq (x y:DC)
  | cond (c:SX) (x y:DC)
  | block (id:Nat) (c:DC)
  | loop (c:DC)
  | exit (id:Nat)
  | ret
  deriving Inhabited
def LM (recs:List Rec) (ps:List (Nat × Nat)):Bool:=ps.all fun (i,k)=>match recs[i]?,recs[k]? with
  | some a,some b=>Bt a b
  | _,_=>false
abbrev ER:=Option (Exit × ES)
abbrev vu:=DC→ES→ER
noncomputable def Lu:ES→ER:=fun e=>some (.normal,e)
noncomputable def G5 (P:Program) (call:gw) (ps:List (Nat × Nat)) (gs:List SG) (e:ES):ER:=match Kp P call gs [] e with
  | some (e',recs)=>match LM recs ps with
    | true=>some (.normal,e')
    | false=>none
  | none=>none
noncomputable def OJ (run:vu) (x y:DC) (e:ES):ER:=match run x e with
  | some (.normal,e')=>run y e'
  | r=>r
noncomputable def No (run:vu) (c:SX) (x y:DC) (e:ES):ER:=match c.at e.T with
  | .val (.bool true)=>run x e
  | .val (.bool false)=>run y e
  | _=>none
noncomputable def JE (run:vu) (id:Nat) (c:DC) (e:ES):ER:=match run c e with
  | some (r,e')=>some (n0 id r,e')
  | none=>none
noncomputable def Ny (run:vu) (c:DC) (e:ES):ER:=match run c e with
  | some (.normal,e')=>run (.loop c) e'
  | r=>r
noncomputable def kQ (P:Program) (call:gw) (run:vu) (c:DC):ES→ER:=match c with
  | .skip=>Lu
  | .region ps gs=>G5 P call ps gs
  | .seq x y=>OJ run x y
  | .cond c x y=>No run c x y
  | .block id c=>JE run id c
  | .loop c=>Ny run c
  | .exit id=>fun e=>some (.exit id,e)
  | .ret=>fun e=>some (.ret,e)
noncomputable def LW (r:SR) (e:ES):Option V:=match r with
  | .tmp t=>some (e.T t)
  | .cell t sz=>match e.T t with
    | .ptr id i j=>match e.V id with
      | .arr _ es=>if i < es.length then kP sz (es.getD i []) j else none
      | _=>none
    | .aR e j=>kP sz e j
    | _=>none
noncomputable def uN:List SR→ES→Option (List V)
  | [],_=>some []
  | r :: l,e=>match LW r e,uN l e with
    | some v,some vs=>some (v :: vs)
    | _,_=>none
noncomputable def ld:List V→Nat→ca V→ca V
  | [],_,t=>t
  | v :: vs,i,t=>ld vs (i+1) (t.put .any v deep i)
structure DF where
  code:DC
  res:List SR
  n:Nat
noncomputable def Pf (l:List SR) (r:ER):Option (V × ES):=match r with
  | some (.ret,e)=>(uN l e).map fun vs=>(ah vs,e)
  | some (.normal,e)=>(uN l e).map fun vs=>(ah vs,e)
  | _=>none
noncomputable def Pb (m:Nat) (r:Option (V × ES)):Option (V × ES):=match r with
  | some (v,e)=>some (v,⟨e.L,e.H,e.n,e.w.filter fun id=>Nat.blt id m⟩)
  | none=>none
noncomputable def OS (run:vu) (F:DF) (vs:List V) (e:ES):Option (V × ES):=match Nat.ble vs.length F.n,Nat.ble F.n 8000 with
  | true,true=>Pb e.n (Pf F.res (run F.code ⟨ld vs 0 .nil,e.H,e.n,[]⟩))
  | _,_=>none
abbrev wa:=FuncId→List V→View→Option V
noncomputable def DG (P:Program) (tab:List (FuncId × DF)) (ext:wa) (run:vu) (g:FuncId) (vs:List V) (e:ES):Option (V × ES):=match ext g vs e.V with
  | some t=>some (t,⟨e.L,e.H,e.n,[]⟩)
  | none=>match tab.find? (fun p=>Nat.beq p.1 g) with
    | some (_,F)=>OS run F vs e
    | none=>none
noncomputable def FN (P:Program) (tab:List (FuncId × DF)) (ext:wa):Nat→vu
  | 0=>fun _ _=>none
  | k+1=>kQ P (DG P tab ext (FN P tab ext k)) (FN P tab ext k)
def A8 (all:List Oper) (ls:List Nat):List (Nat × Nat) :=
  let b:=eK all []
  (ls.zipIdx.map fun (x,i)=>(ls.zipIdx.filter fun (y,k)=>decide (i < k) && !(ordered b i k || x == 0 || y == 0 || (decide (x≤1) && decide (y≤1)))).map fun (_,k)=>(i,k)).flatten
def Ea (P:Program) (n:Nat) (fz:List Nat) (ops:List Oper) (draw:Bool):Option DC:=match df P n ops ⟨fz,false⟩ ops with
  | none=>none
  | some l=>if !(group l).all rS then none else
    if draw then (if kD ops then some (.region (A8 ops (l.map fun s=>hD P false s.b)) (group l)) else none) else some (.region [] (group l))
def g9 (P:Program) (n:Nat) (fz:List Nat):Code→Option DC
  | .skip=>some .skip
  | .region _ ops draw=>Ea P n fz ops.toList draw
  | .seq x y=>match g9 P n fz x,g9 P n fz y with
    | some a,some b=>some (.seq a b)
    | _,_=>none
  | .cond c x y=>match g9 P n fz x,g9 P n fz y with
    | some a,some b=>some (.cond (SX.of c) a b)
    | _,_=>none
  | .block id c=>(g9 P n fz c).map (.block id)
  | .loop c=>(g9 P n fz c).map .loop
  | .exit id=>some (.exit id)
  | .ret=>some .ret
  | _=>none
abbrev al (l:List (Option Nat × SB)):DC:=.region [] [⟨none,l⟩]
def aY (P:Program) (f:FuncId) (fz:List Nat):Option DF:=match P.funcs[f]? with
  | some fn=>match fn.body with
    | some c=>match g9 P fn.ntmps fz c,eO P fn.results.toList,dc P f with
      | some sc,some rs,true=>some ⟨sc,rs,fn.ntmps⟩
      | _,_,_=>none
    | none=>none
  | none=>none
end Gv
