/-
  Part 6 of the proof: what the machine does and what the functions answer.
  Conditions: those that each lemma names.
-/
import Derived.Test.YtihmlbdfcmfbdaaGreatSGzA7E
set_option linter.unusedSimpArgs false
set_option linter.unusedVariables false
set_option maxRecDepth 100000
namespace Gv
open Go Go.Proofs
structure Term where
  name:ByteArray
  level:Int
  assoc:Int
structure aM where
  left:Int
  right:List Int
  prec:Int
structure an where
  ax:List Term
  au:List ByteArray
  rules:List aM
  start:Int
instance:Inhabited Term:=⟨⟨.empty,0,0⟩⟩
instance:Inhabited aM:=⟨⟨0,[],0⟩⟩
def cp (t:Term):List V:=[gs t.name,gi t.level,gi t.assoc]
def aU (r:aM):List V:=[gi r.left,encI r.right,gi r.prec]
def encS (l:List ByteArray):V:=.aV (l.map fun s=>[gs s])
def aw (g:an):List V:=[.aV (g.ax.map cp),encS g.au,.aV (g.rules.map aU),gi g.start]
theorem ez {α:Type} (l:List α) (f:α→List V) (h:∀ x∈l,∀ v∈f x,Tree v):Tree (.aV (l.map f)):=by
  refine .aV _ fun i j hi hj=>?_
  simp only[List.length_map] at hi
  have e:(l.map f).getD i []=f l[i]:=by simp[List.getD_eq_getElem?_getD,hi]
  rw[e] at hj ⊢
  have e2:(f l[i]).getD j .any=(f l[i])[j]:=by simp[List.getD_eq_getElem?_getD,hj]
  rw[e2]
  exact h _ (List.getElem_mem _) _ (List.getElem_mem _)
theorem dL (cs:List V) (h:∀ v∈cs,Tree v):Tree (.agg cs):=by
  refine .agg _ fun i hi=>?_
  have e2:cs.getD i .any=cs[i]:=by simp[List.getD_eq_getElem?_getD,hi]
  rw[e2]; exact h _ (List.getElem_mem _)
theorem wv (l:List ByteArray):Tree (encS l):=ez _ _ fun x _ v hv=>by simp at hv; subst hv; exact .val _
theorem qL (t:Term):∀ v∈cp t,Tree v:=by intro v hv; simp[cp] at hv; rcases hv with rfl | rfl | rfl <;> exact .val _
theorem fU (r:aM):∀ v∈aU r,Tree v:=by
  intro v hv; simp[aU] at hv; rcases hv with rfl | rfl | rfl
  · exact .val _
  · exact gz _
  · exact .val _
theorem eM (g:an):∀ v∈aw g,Tree v:=by
  intro v hv; simp[aw] at hv; rcases hv with rfl | rfl | rfl | rfl
  · exact ez _ _ fun x _=>qL x
  · exact wv _
  · exact ez _ _ fun x _=>fU x
  · exact .val _
def cm (x:Int):Prop:=-9223372036854775808≤x∧x≤9223372036854775807
structure an.Ok (g:an):Prop where
  ax:aX g.ax
  au:aX g.au
  rules:aX g.rules
  start:cm g.start
  term:∀ t∈g.ax,cm t.level∧cm t.assoc
  aG:∀ r∈g.rules,cm r.left∧cm r.prec∧aX r.right∧∀ x∈r.right,cm x
def gX (g:an) (s:Int):Bool:=if 0≤s then decide (s < g.ax.length) else decide (-1 - s < g.au.length)
def oZ:SF:=⟨.seq (ak [cr 2 0,aQ 4 false]) <|
  .seq (.seq (ak [aa 5 1,ay 6 .geq 5 0]) <|
  .cond (.tmp 6) (.seq (ak [aa 7 1,aq 8 0 2,ao 9 8,aI 10 9,aK 11 .lss 7 10,aa 4 11]) <|
  .ret) (.skip)) <|
  .seq (ak [aa 12 1,((some 13),.op (.arith .sub (.val (.val (.int .i64 (-1)))) (.tmp 12))),aq 14 1 2,ao 15 14,aI 16 15,aK 17 .lss 13 16,aa 4 17]) <|
  .ret,
  [.tmp 4],18⟩
theorem tu:bh Tryz.prog 155 [2]=some oZ:=by kernel_rfl
theorem NW (g:an) (s:Int) (hs:cm s) (H:View):aA Tryz.prog 155 [.agg (aw g),gi s] H fun r H'=>r=gb (gX g s)∧H'=H:=by
  refine aA.of mixed tu ?_
  obtain ⟨h1,h2⟩:=hs
  simp (disch:=omega) only [↓wr,↓reduceIte,wq,ah,ag,aj,ab,ae,af,ai,isNil,Nat.reduceEqDiff,Nat.reduceAdd,Nat.reduceLT,Nat.reduceLeDiff,Int.reduceNeg,Int.reduceToNat,reduceCtorEq,oZ,aw,encS]
  refine av.dec (fun h=>?_) (fun h=>?_)
  · simp (disch:=omega) only [↓wr,↓reduceIte,wq,ah,ag,aj,ab,ae,af,ai,isNil,Nat.reduceEqDiff,Nat.reduceAdd,Nat.reduceLT,Nat.reduceLeDiff,Int.reduceNeg,Int.reduceToNat,reduceCtorEq]
    simp[gX,show (0:Int)≤s from h]
  · simp (disch:=omega) only [↓wr,↓reduceIte,wq,ah,ag,aj,ab,ae,af,ai,isNil,Nat.reduceEqDiff,Nat.reduceAdd,Nat.reduceLT,Nat.reduceLeDiff,Int.reduceNeg,Int.reduceToNat,reduceCtorEq]
    simp[gX,show ¬ (0:Int)≤s from h]
theorem Og (g:an) (s:Int) (hs:cm s):aC Tryz.prog 155 [.agg (aw g),gi s] (gb (gX g s)) :=
  aC.of (by
    intro v hv; simp at hv
    rcases hv with rfl | rfl
    · exact dL _ (eM g)
    · exact .val _) ((NW g s hs _).mono fun r H' h h' _=>by rw[h.1]; exact .tree _ (.val _))
def ln (g:an):Bool:=decide (40 < g.ax.length) || decide (40 < g.au.length) || decide (60 < g.rules.length) || g.rules.any fun r=>decide (20 < r.right.length)
def kY:SC :=
  .seq (.seq (ak [aa 20 3,aq 21 2 1,ao 22 21,aI 23 22,aK 24 .lss 20 23]) <|
  .cond (.tmp 24) (.skip) (.exit 0)) <|
  .seq (.block 1 (.seq (ak [aq 27 2 1,ao 28 27,aa 29 3,aL 30 3 28 29,aq 31 1 30,ao 32 31,aI 33 32,ay 34 .gtr 33 20]) <|
  .cond (.tmp 34) (.seq (ak [aQ 2 true]) <|
  .ret) (.skip))) <|
  ak [aa 25 3,ay 26 .add 25 1,aa 3 26]
def my:SF:=⟨.seq (ak [cr 1 0,aQ 2 false]) <|
  .seq (.seq (.region false [⟨none,[aq 4 0 1,ao 5 4,aI 6 5,ay 7 .gtr 6 40,aa 8 7]⟩,⟨(some (8,false)),[aq 9 1 1,ao 10 9,aI 11 10,ay 12 .gtr 11 40]⟩,⟨none,[bF 13 8 12,aa 14 13]⟩,⟨(some (14,false)),[aq 15 2 1,ao 16 15,aI 17 16,ay 18 .gtr 17 60]⟩,⟨none,[bF 19 14 18]⟩]) <|
  .cond (.tmp 19) (.seq (ak [aQ 2 true]) <|
  .ret) (.skip)) <|
  .seq (.seq (ak [aD 3 0]) <|
  .block 0 (.loop kY)) <|
  .seq (ak [aQ 2 false]) <|
  .ret,
  [.tmp 2],35⟩
theorem rp:bh Tryz.prog 16 [1]=some my:=by kernel_rfl
theorem Lm (g:an) (H:View):aA Tryz.prog 16 [.agg (aw g)] H fun r H'=>r=gb (ln g)∧H'=H:=by
  refine aA.of mixed rp ?_
  simp (disch:=omega) only [↓wr,↓reduceIte,wq,ah,ag,aj,ab,ae,af,ai,isNil,Nat.reduceEqDiff,Nat.reduceAdd,Nat.reduceLT,Nat.reduceLeDiff,Int.reduceNeg,Int.reduceToNat,reduceCtorEq,my,aw,encS]
  refine av.dec (fun h1=>?_) (fun h1=>?_)
  · simp (disch:=omega) only [↓wr,↓reduceIte,wq,ah,ag,aj,ab,ae,af,ai,isNil,Nat.reduceEqDiff,Nat.reduceAdd,Nat.reduceLT,Nat.reduceLeDiff,Int.reduceNeg,Int.reduceToNat,reduceCtorEq]
    simp[ln,show 40 < g.ax.length by omega]
  · simp (disch:=omega) only [↓wr,↓reduceIte,wq,ah,ag,aj,ab,ae,af,ai,isNil,Nat.reduceEqDiff,Nat.reduceAdd,Nat.reduceLT,Nat.reduceLeDiff,Int.reduceNeg,Int.reduceToNat,reduceCtorEq]
    refine av.dec (fun h2=>?_) (fun h2=>?_)
    · simp (disch:=omega) only [↓wr,↓reduceIte,wq,ah,ag,aj,ab,ae,af,ai,isNil,Nat.reduceEqDiff,Nat.reduceAdd,Nat.reduceLT,Nat.reduceLeDiff,Int.reduceNeg,Int.reduceToNat,reduceCtorEq]
      simp[ln,show 40 < g.au.length by omega]
    · simp (disch:=omega) only [↓wr,↓reduceIte,wq,ah,ag,aj,ab,ae,af,ai,isNil,Nat.reduceEqDiff,Nat.reduceAdd,Nat.reduceLT,Nat.reduceLeDiff,Int.reduceNeg,Int.reduceToNat,reduceCtorEq]
      refine av.dec (fun h3=>?_) (fun h3=>?_)
      · simp (disch:=omega) only [↓wr,↓reduceIte,wq,ah,ag,aj,ab,ae,af,ai,isNil,Nat.reduceEqDiff,Nat.reduceAdd,Nat.reduceLT,Nat.reduceLeDiff,Int.reduceNeg,Int.reduceToNat,reduceCtorEq]
        simp[ln,show 60 < g.rules.length by omega]
      · simp (disch:=omega) only [↓wr,↓reduceIte,wq,ah,ag,aj,ab,ae,af,ai,isNil,Nat.reduceEqDiff,Nat.reduceAdd,Nat.reduceLT,Nat.reduceLeDiff,Int.reduceNeg,Int.reduceToNat,reduceCtorEq]
        refine bw.intro (fun k T H'=>∃ i:Nat,i+k=g.rules.length∧(∀ r∈g.rules.take i,¬ 20 < r.right.length)∧T 1=.aO (aw g) 0∧T 3=gi i∧H'=H) g.rules.length ?_ ?_
        · exact ⟨0,by omega,by simp,rfl,rfl,rfl⟩
        · rintro k T H' ⟨i,hk,hi,e1,e3,rfl⟩
          simp (disch:=omega) only [↓wr,↓reduceIte,wq,ah,ag,aj,ab,ae,af,ai,isNil,Nat.reduceEqDiff,Nat.reduceAdd,Nat.reduceLT,Nat.reduceLeDiff,Int.reduceNeg,Int.reduceToNat,reduceCtorEq,kY,e1,e3,aw]
          refine av.dec (fun hc=>?_) (fun hc=>?_)
          · have hg:g.rules[i]?=some (g.rules[i]'(by omega)):=List.getElem?_eq_getElem (by omega)
            simp (disch:=omega) only [↓wr,↓reduceIte,wq,ah,ag,aj,ab,ae,af,ai,isNil,Nat.reduceEqDiff,Nat.reduceAdd,Nat.reduceLT,Nat.reduceLeDiff,Int.reduceNeg,Int.reduceToNat,reduceCtorEq,e1,e3,aw,aU,encI,List.getElem?_map,hg,Option.map_some]
            refine av.dec (fun hd=>?_) (fun hd=>?_)
            · simp (disch:=omega) only [↓wr,↓reduceIte,wq,ah,ag,aj,ab,ae,af,ai,isNil,Nat.reduceEqDiff,Nat.reduceAdd,Nat.reduceLT,Nat.reduceLeDiff,Int.reduceNeg,Int.reduceToNat,reduceCtorEq]
              have:g.rules.any (fun r=>decide (20 < r.right.length))=true:=by
                simp only[List.any_eq_true,decide_eq_true_eq]
                exact ⟨g.rules[i]'(by omega),List.getElem_mem _,by omega⟩
              simp[ln,this]
            · simp (disch:=omega) only [↓wr,↓reduceIte,wq,ah,ag,aj,ab,ae,af,ai,isNil,Nat.reduceEqDiff,Nat.reduceAdd,Nat.reduceLT,Nat.reduceLeDiff,Int.reduceNeg,Int.reduceToNat,reduceCtorEq,e1,e3]
              refine ⟨k - 1,by omega,i+1,by omega,?_,rfl,rfl⟩
              intro r hr
              rw[List.take_add_one,hg] at hr
              simp only[Option.toList_some,List.mem_append,List.mem_singleton] at hr
              rcases hr with hr | rfl
              · exact hi r hr
              · omega
          · simp (disch:=omega) only [↓wr,↓reduceIte,wq,ah,ag,aj,ab,ae,af,ai,isNil,Nat.reduceEqDiff,Nat.reduceAdd,Nat.reduceLT,Nat.reduceLeDiff,Int.reduceNeg,Int.reduceToNat,reduceCtorEq,e1,e3]
            have e:i=g.rules.length:=by omega
            rw[List.take_of_length_le (by omega)] at hi
            have:g.rules.any (fun r=>decide (20 < r.right.length))=false:=by
              simp only[List.any_eq_false,decide_eq_true_eq]; exact hi
            simp only[ln,this]
            simp; omega
def dy (l:List Int) (is:List Bool) (ax:Bool):Bool:=l.all fun s=>if 0≤s then ax else is.getD (-1 - s).toNat false
def mG:SC :=
  .seq (.seq (ak [aa 8 7,aa 9 0,aI 10 9,aK 11 .lss 8 10]) <|
  .cond (.tmp 11) (.skip) (.exit 0)) <|
  .seq (.block 1 (.seq (.region false [⟨none,[aa 14 0,aa 15 7,aL 16 1 14 15,ao 17 16,ay 18 .geq 17 0,aa 19 18]⟩,⟨(some (19,true)),[aa 20 2,bW 21 20]⟩,⟨none,[bG 22 19 21,aa 23 22]⟩,⟨(some (23,false)),[aa 24 0,aa 25 7,aL 26 1 24 25,ao 27 26,ay 28 .lss 27 0,aa 29 28]⟩,⟨(some (29,true)),[aa 30 1,aa 31 0,aa 32 7,aL 33 1 31 32,ao 34 33,((some 35),.op (.arith .sub (.val (.val (.int .i64 (-1)))) (.tmp 34))),aL 36 1 30 35,ao 37 36,bW 38 37]⟩,⟨(some (23,false)),[bG 39 29 38]⟩,⟨none,[bF 40 23 39]⟩]) <|
  .cond (.tmp 40) (.seq (ak [aQ 6 false]) <|
  .ret) (.skip))) <|
  ak [aa 12 7,ay 13 .add 12 1,aa 7 13]
def o8:SF:=⟨.seq (ak [aQ 6 false]) <|
  .seq (.seq (ak [aD 7 0]) <|
  .block 0 (.loop mG)) <|
  .seq (ak [aQ 6 true]) <|
  .ret,
  [.tmp 6],41⟩
theorem tO:bh Tryz.prog 117 []=some o8:=by kernel_rfl
theorem Ny (l:List Int) (is:List Bool) (t:Bool) (hl:aX l) (hs:∀ s∈l,cm s∧(s < 0→-1 - s < is.length)) (H:View) :
    aA Tryz.prog 117 [encI l,bM is,gb t] H fun r H'=>r=gb (dy l is t)∧H'=H:=by
  refine aA.of mixed tO ?_
  unfold aX at hl
  simp (disch:=omega) only [↓wr,↓reduceIte,wq,ah,ag,aj,ab,ae,af,ai,isNil,Nat.reduceEqDiff,Nat.reduceAdd,Nat.reduceLT,Nat.reduceLeDiff,Int.reduceNeg,Int.reduceToNat,reduceCtorEq,o8]
  refine bw.intro (fun k T H'=>∃ i:Nat,i+k=l.length∧dy (l.take i) is t=true∧T 0=encI l∧T 1=bM is∧T 2=gb t∧T 7=gi i∧H'=H) l.length ?_ ?_
  · exact ⟨0,by omega,by simp[dy],rfl,rfl,rfl,rfl,rfl⟩
  · rintro k T H' ⟨i,hk,hi,h0,h1,h2,h7,rfl⟩
    simp (disch:=omega) only [↓wr,↓reduceIte,wq,ah,ag,aj,ab,ae,af,ai,isNil,Nat.reduceEqDiff,Nat.reduceAdd,Nat.reduceLT,Nat.reduceLeDiff,Int.reduceNeg,Int.reduceToNat,reduceCtorEq,mG,h0,h1,h2,h7,encI]
    refine av.dec (fun hc=>?_) (fun hc=>?_)
    · have hg:l[i]?=some (l[i]'(by omega)):=List.getElem?_eq_getElem (by omega)
      have hm:l[i]'(by omega)∈l:=List.getElem_mem _
      generalize l[i]'(by omega)=s at hg hm
      obtain ⟨⟨hs1,hs2⟩,hs3⟩:=hs s hm
      have hstep:dy (l.take (i+1)) is t=(if 0≤s then t else is.getD (-1 - s).toNat false):=by
        rw[List.take_add_one,hg]
        simp only[dy,Option.toList_some,List.all_append,List.all_cons,List.all_nil,Bool.and_true] at hi ⊢
        rw[hi,Bool.true_and]
      have hfail:(if 0≤s then t else is.getD (-1 - s).toNat false)=false→dy l is t=false:=by
        intro hb
        simp only[dy,List.all_eq_false]
        exact ⟨s,hm,by simpa using hb⟩
      simp (disch:=omega) only [↓wr,↓reduceIte,wq,ah,ag,aj,ab,ae,af,ai,isNil,Nat.reduceEqDiff,Nat.reduceAdd,Nat.reduceLT,Nat.reduceLeDiff,Int.reduceNeg,Int.reduceToNat,reduceCtorEq,h0,h1,h2,h7,encI,List.getElem?_map,hg,Option.map_some]
      refine av.dec (fun hd=>?_) (fun hd=>?_)
      · rw[if_pos (show 0≤s from hd)] at hstep hfail
        cases t with
        | true =>
          simp (disch:=omega) only [↓wr,↓reduceIte,wq,ah,ag,aj,ab,ae,af,ai,isNil,Nat.reduceEqDiff,Nat.reduceAdd,Nat.reduceLT,Nat.reduceLeDiff,Int.reduceNeg,Int.reduceToNat,reduceCtorEq,h0,h1,h2,h7,encI,List.getElem?_map,hg,Option.map_some]
          refine av.dec (fun hn=>absurd hn (by omega)) (fun _=>?_)
          simp (disch:=omega) only [↓wr,↓reduceIte,wq,ah,ag,aj,ab,ae,af,ai,isNil,Nat.reduceEqDiff,Nat.reduceAdd,Nat.reduceLT,Nat.reduceLeDiff,Int.reduceNeg,Int.reduceToNat,reduceCtorEq,h0,h1,h2,h7,encI,bM,List.getElem?_map,hg,Option.map_some]
          exact ⟨k - 1,by omega,i+1,by omega,hstep,rfl⟩
        | false =>
          simp (disch:=omega) only [↓wr,↓reduceIte,wq,ah,ag,aj,ab,ae,af,ai,isNil,Nat.reduceEqDiff,Nat.reduceAdd,Nat.reduceLT,Nat.reduceLeDiff,Int.reduceNeg,Int.reduceToNat,reduceCtorEq,h0,h1,h2,h7,encI,List.getElem?_map,hg,Option.map_some]
          rw[hfail rfl]
      · rw[if_neg (show ¬ 0≤s from hd)] at hstep hfail
        simp (disch:=omega) only [↓wr,↓reduceIte,wq,ah,ag,aj,ab,ae,af,ai,isNil,Nat.reduceEqDiff,Nat.reduceAdd,Nat.reduceLT,Nat.reduceLeDiff,Int.reduceNeg,Int.reduceToNat,reduceCtorEq,h0,h1,h2,h7,encI,List.getElem?_map,hg,Option.map_some]
        refine av.dec (fun hn=>?_) (fun hn=>absurd hn (by omega))
        have hb:is[(-1 - s).toNat]?=some (is[(-1 - s).toNat]'(by omega)):=List.getElem?_eq_getElem (by omega)
        have hbd:is.getD (-1 - s).toNat false=is[(-1 - s).toNat]'(by omega):=by simp[List.getD_eq_getElem?_getD,hb]
        rw[hbd] at hstep hfail
        generalize is[(-1 - s).toNat]'(by omega)=b at hb hstep hfail
        simp (disch:=omega) only [↓wr,↓reduceIte,wq,ah,ag,aj,ab,ae,af,ai,isNil,Nat.reduceEqDiff,Nat.reduceAdd,Nat.reduceLT,Nat.reduceLeDiff,Int.reduceNeg,Int.reduceToNat,reduceCtorEq,h0,h1,h2,h7,encI,bM,List.getElem?_map,hg,hb,Option.map_some]
        cases b with
        | true =>
          simp (disch:=omega) only [↓wr,↓reduceIte,wq,ah,ag,aj,ab,ae,af,ai,isNil,Nat.reduceEqDiff,Nat.reduceAdd,Nat.reduceLT,Nat.reduceLeDiff,Int.reduceNeg,Int.reduceToNat,reduceCtorEq,h0,h1,h2,h7,encI,bM,List.getElem?_map,hg,hb,Option.map_some]
          exact ⟨k - 1,by omega,i+1,by omega,hstep,rfl⟩
        | false =>
          simp (disch:=omega) only [↓wr,↓reduceIte,wq,ah,ag,aj,ab,ae,af,ai,isNil,Nat.reduceEqDiff,Nat.reduceAdd,Nat.reduceLT,Nat.reduceLeDiff,Int.reduceNeg,Int.reduceToNat,reduceCtorEq,h0,h1,h2,h7,encI,bM,List.getElem?_map,hg,hb,Option.map_some]
          rw[hfail rfl]
    · simp (disch:=omega) only [↓wr,↓reduceIte,wq,ah,ag,aj,ab,ae,af,ai,isNil,Nat.reduceEqDiff,Nat.reduceAdd,Nat.reduceLT,Nat.reduceLeDiff,Int.reduceNeg,Int.reduceToNat,reduceCtorEq,h0,h1,h2,h7]
      have e:i=l.length:=by omega
      rw[List.take_of_length_le (by omega)] at hi
      rw[hi]
abbrev gy (x:Int):V:=.val (.int .u8 x)
def rT (c:Int):Bool:=(decide (97≤c) && decide (c≤122)) || (decide (65≤c) && decide (c≤90)) || c == 95
def lJ (c:Int):Bool:=rT c || (decide (48≤c) && decide (c≤57)) || c == 46
def mO:SF:=⟨.seq (ak [aQ 2 false]) <|
  .seq (.region false [⟨none,[aa 3 0,((some 4),.op (.arith .geq (.tmp 3) (.val (.val (.int .u8 97))))),aa 5 4]⟩,⟨(some (5,true)),[aa 6 0,((some 7),.op (.arith .leq (.tmp 6) (.val (.val (.int .u8 122)))))]⟩,⟨none,[bG 8 5 7,aa 9 8]⟩,⟨(some (9,false)),[aa 10 0,((some 11),.op (.arith .geq (.tmp 10) (.val (.val (.int .u8 65))))),aa 12 11]⟩,⟨(some (12,true)),[aa 13 0,((some 14),.op (.arith .leq (.tmp 13) (.val (.val (.int .u8 90)))))]⟩,⟨(some (9,false)),[bG 15 12 14]⟩,⟨none,[bF 16 9 15,aa 17 16]⟩,⟨(some (17,false)),[aa 18 0,((some 19),.op (.arith .eql (.tmp 18) (.val (.val (.int .u8 95)))))]⟩,⟨none,[bF 20 17 19,aa 2 20]⟩]) <|
  .ret,
  [.tmp 2],21⟩
theorem rm:bh Tryz.prog 193 []=some mO:=by kernel_rfl
def mK:SF:=⟨.seq (ak [aQ 2 false]) <|
  .seq (.region false [⟨none,[aa 3 0,aF 4 193 [3],aa 5 4]⟩,⟨(some (5,false)),[aa 6 0,((some 7),.op (.arith .geq (.tmp 6) (.val (.val (.int .u8 48))))),aa 8 7]⟩,⟨(some (8,true)),[aa 9 0,((some 10),.op (.arith .leq (.tmp 9) (.val (.val (.int .u8 57)))))]⟩,⟨(some (5,false)),[bG 11 8 10]⟩,⟨none,[bF 12 5 11,aa 13 12]⟩,⟨(some (13,false)),[aa 14 0,((some 15),.op (.arith .eql (.tmp 14) (.val (.val (.int .u8 46)))))]⟩,⟨none,[bF 16 13 15,aa 2 16]⟩]) <|
  .ret,
  [.tmp 2],17⟩
theorem rN:bh Tryz.prog 194 []=some mK:=by kernel_rfl
theorem LU (c:Int) (H:View):aA Tryz.prog 193 [gy c] H fun r H'=>r=gb (rT c)∧H'=H:=by
  refine aA.of mixed rm ?_
  repeat' (first | (refine av.dec (fun _=>?_) (fun _=>?_)) | (refine av.eq (fun _=>?_) (fun _=>?_)) | (refine av.ne (fun _=>?_) (fun _=>?_)) | (refine av.split (fun _=>?_) (fun _=>?_)) | (simp (disch:=omega) only [↓wr,↓reduceIte,wq,ah,ag,aj,ab,ae,af,ai,isNil,Nat.reduceEqDiff,Nat.reduceAdd,Nat.reduceLT,Nat.reduceLeDiff,Int.reduceNeg,Int.reduceToNat,reduceCtorEq,mO]))
  all_goals (congr 2; simp only[rT]; grind)
theorem EU (c:Int):aC Tryz.prog 193 [gy c] (gb (rT c)) :=
  aC.of (by intro v hv; simp at hv; subst hv; exact .val _) ((LU c _).mono fun r H' h h' _=>by rw[h.1]; exact .tree _ (.val _))
theorem Ma (c:Int) (H:View):aA Tryz.prog 194 [gy c] H fun r H'=>r=gb (lJ c)∧H'=H:=by
  refine aA.of mixed rN ?_
  repeat' (first | (refine av.dec (fun _=>?_) (fun _=>?_)) | (refine av.eq (fun _=>?_) (fun _=>?_)) | (refine av.ne (fun _=>?_) (fun _=>?_)) | (refine av.split (fun _=>?_) (fun _=>?_)) | (simp (disch:=omega) only [↓wr,↓reduceIte,wq,ah,ag,aj,ab,ae,af,ai,isNil,Nat.reduceEqDiff,Nat.reduceAdd,Nat.reduceLT,Nat.reduceLeDiff,Int.reduceNeg,Int.reduceToNat,reduceCtorEq,mK]))
  refine aE.pure (EU c) (by kernel_rfl) ?_
  repeat' (first | (refine av.dec (fun _=>?_) (fun _=>?_)) | (refine av.eq (fun _=>?_) (fun _=>?_)) | (refine av.ne (fun _=>?_) (fun _=>?_)) | (refine av.split (fun _=>?_) (fun _=>?_)) | (simp (disch:=omega) only [↓wr,↓reduceIte,wq,ah,ag,aj,ab,ae,af,ai,isNil,Nat.reduceEqDiff,Nat.reduceAdd,Nat.reduceLT,Nat.reduceLeDiff,Int.reduceNeg,Int.reduceToNat,reduceCtorEq]))
  all_goals (congr 2; simp only[lJ]; grind)
theorem KU (c:Int):aC Tryz.prog 194 [gy c] (gb (lJ c)) :=
  aC.of (by intro v hv; simp at hv; subst hv; exact .val _) ((Ma c _).mono fun r H' h h' _=>by rw[h.1]; exact .tree _ (.val _))
def fk (l:List Int):Bool:=decide (0 < l.length) && decide (l.length≤20) && (match l with | c :: _=>rT c | []=>false) && l.all lJ
def lX:SC :=
  .seq (.seq (ak [aa 18 3,aa 19 0,((some 20),.op (.gL (.tmp 19))),aK 21 .lss 18 20]) <|
  .cond (.tmp 21) (.skip) (.exit 0)) <|
  .seq (.block 1 (.seq (ak [aa 24 0,aa 25 3,((some 26),.op (.c8 (.tmp 24) (.tmp 25))),aF 27 194 [26],bW 28 27]) <|
  .cond (.tmp 28) (.seq (ak [aQ 2 false]) <|
  .ret) (.skip))) <|
  ak [aa 22 3,ay 23 .add 22 1,aa 3 23]
def nI:SF:=⟨.seq (ak [aQ 2 false]) <|
  .seq (.seq (.region false [⟨none,[aa 4 0,((some 5),.op (.gL (.tmp 4))),ay 6 .eql 5 0,aa 7 6]⟩,⟨(some (7,false)),[aa 8 0,((some 9),.op (.gL (.tmp 8))),ay 10 .gtr 9 20]⟩,⟨none,[bF 11 7 10,aa 12 11]⟩,⟨(some (12,false)),[aa 13 0,((some 14),.op (.c8 (.tmp 13) (.val (.val (.int .i64 0))))),aF 15 193 [14],bW 16 15]⟩,⟨none,[bF 17 12 16]⟩]) <|
  .cond (.tmp 17) (.seq (ak [aQ 2 false]) <|
  .ret) (.skip)) <|
  .seq (.seq (ak [aD 3 0]) <|
  .block 0 (.loop lX)) <|
  .seq (ak [aQ 2 true]) <|
  .ret,
  [.tmp 2],29⟩
theorem sx:bh Tryz.prog 154 []=some nI:=by kernel_rfl
theorem JS (s:ByteArray) (H:View):aA Tryz.prog 154 [gs s] H fun r H'=>r=gb (fk (ep s))∧H'=H:=by
  refine aA.of mixed sx ?_
  repeat' (first | (refine av.dec (fun _=>?_) (fun _=>?_)) | (refine av.eq (fun _=>?_) (fun _=>?_)) | (refine av.ne (fun _=>?_) (fun _=>?_)) | (refine av.split (fun _=>?_) (fun _=>?_)) | (simp (disch:=omega) only [↓wr,↓reduceIte,wq,ah,ag,aj,ab,ae,af,ai,isNil,Nat.reduceEqDiff,Nat.reduceAdd,Nat.reduceLT,Nat.reduceLeDiff,Int.reduceNeg,Int.reduceToNat,reduceCtorEq,nI,dI]))
  · rename_i h
    congr 2; simp[fk,show (ep s).length=0 by omega]
  · rename_i h
    congr 2; simp[fk,show ¬ (ep s).length≤20 by omega]
  · rename_i h1 h2
    cases hb:ep s with
    | nil=>simp[hb] at h1
    | cons c l =>
      repeat' (first | (refine av.dec (fun _=>?_) (fun _=>?_)) | (refine av.eq (fun _=>?_) (fun _=>?_)) | (refine av.ne (fun _=>?_) (fun _=>?_)) | (refine av.split (fun _=>?_) (fun _=>?_)) | (simp (disch:=omega) only [↓wr,↓reduceIte,wq,ah,ag,aj,ab,ae,af,ai,isNil,Nat.reduceEqDiff,Nat.reduceAdd,Nat.reduceLT,Nat.reduceLeDiff,Int.reduceNeg,Int.reduceToNat,reduceCtorEq,hb,List.getElem?_cons_zero,dI]))
      refine aE.pure (EU c) (by kernel_rfl) ?_
      repeat' (first | (refine av.dec (fun _=>?_) (fun _=>?_)) | (refine av.eq (fun _=>?_) (fun _=>?_)) | (refine av.ne (fun _=>?_) (fun _=>?_)) | (refine av.split (fun _=>?_) (fun _=>?_)) | (simp (disch:=omega) only [↓wr,↓reduceIte,wq,ah,ag,aj,ab,ae,af,ai,isNil,Nat.reduceEqDiff,Nat.reduceAdd,Nat.reduceLT,Nat.reduceLeDiff,Int.reduceNeg,Int.reduceToNat,reduceCtorEq,hb,List.getElem?_cons_zero,dI]))
      · rename_i hf
        refine bw.intro (fun k T H'=>∃ i:Nat,i+k=(c :: l).length∧((c :: l).take i).all lJ=true∧T 0=gs s∧T 3=gi i∧H'=H) (c :: l).length ?_ ?_
        · exact ⟨0,by omega,by simp,rfl,rfl,rfl⟩
        · rintro k T H' ⟨i,hk,hi,h0,h3,rfl⟩
          rw[hb] at h1 h2
          simp (disch:=omega) only [↓wr,↓reduceIte,wq,ah,ag,aj,ab,ae,af,ai,isNil,Nat.reduceEqDiff,Nat.reduceAdd,Nat.reduceLT,Nat.reduceLeDiff,Int.reduceNeg,Int.reduceToNat,reduceCtorEq,lX,h0,h3,dI,hb]
          refine av.dec (fun hc=>?_) (fun hc=>?_)
          · simp only[List.length_cons] at hc hk h2
            have hg:(c :: l)[i]?=some ((c :: l)[i]'(by simp; omega)):=List.getElem?_eq_getElem (by simp; omega)
            have hm:(c :: l)[i]'(by simp; omega)∈c :: l:=List.getElem_mem _
            generalize (c :: l)[i]'(by simp; omega)=d at hg hm
            simp (disch:=omega) only [↓wr,↓reduceIte,wq,ah,ag,aj,ab,ae,af,ai,isNil,Nat.reduceEqDiff,Nat.reduceAdd,Nat.reduceLT,Nat.reduceLeDiff,Int.reduceNeg,Int.reduceToNat,reduceCtorEq,h0,h3,dI,hb,hg]
            refine aE.pure (KU d) (by kernel_rfl) ?_
            repeat' (first | (refine av.dec (fun _=>?_) (fun _=>?_)) | (refine av.eq (fun _=>?_) (fun _=>?_)) | (refine av.ne (fun _=>?_) (fun _=>?_)) | (refine av.split (fun _=>?_) (fun _=>?_)) | (simp (disch:=omega) only [↓wr,↓reduceIte,wq,ah,ag,aj,ab,ae,af,ai,isNil,Nat.reduceEqDiff,Nat.reduceAdd,Nat.reduceLT,Nat.reduceLeDiff,Int.reduceNeg,Int.reduceToNat,reduceCtorEq,h0,h3,dI,hb,hg]))
            · rename_i hd
              refine ⟨k - 1,by omega,i+1,by omega,?_,rfl⟩
              rw[List.take_add_one,hg]
              simp only[Option.toList_some,List.all_append,hi,List.all_cons,hd,List.all_nil,Bool.and_self]
            · rename_i hd
              congr 2
              have:(c :: l).all lJ=false:=by
                rw[List.all_eq_false]; exact ⟨d,hm,by simp[hd]⟩
              simp only[fk,this,Bool.and_false]
          · simp (disch:=omega) only [↓wr,↓reduceIte,wq,ah,ag,aj,ab,ae,af,ai,isNil,Nat.reduceEqDiff,Nat.reduceAdd,Nat.reduceLT,Nat.reduceLeDiff,Int.reduceNeg,Int.reduceToNat,reduceCtorEq,h0,h3]
            simp only[List.length_cons] at hc hk h2
            rw[List.take_of_length_le (by simp; omega)] at hi
            congr 2
            simp only[fk,hi,List.length_cons]
            simp[hf]; omega
      · rename_i hf
        congr 2; simp[fk,hf]
def kL:List Int→Bool
  | [a,b,c]=>a == 39 && c == 39 && decide (32≤b) && decide (b≤126) && b != 39 && b != 92
  | [a,b,c,d]=>a == 39 && d == 39 && b == 92 && (c == 110 || c == 116 || c == 92 || c == 39)
  | _=>false
theorem K1 {l:List Int} (h3:l.length≠3) (h4:l.length≠4):kL l=false:=by
  match l,h3,h4 with
  | [],_,_=>rfl
  | [_],_,_=>rfl
  | [_,_],_,_=>rfl
  | [_,_,_],h3,_=>exact absurd rfl h3
  | [_,_,_,_],_,h4=>exact absurd rfl h4
  | _ :: _ :: _ :: _ :: _ :: _,_,_=>rfl
theorem OX {α:Type} {l:List α} (h:l.length=3):∃ a b c,l=[a,b,c]:=by
  match l,h with
  | [a,b,c],_=>exact ⟨a,b,c,rfl⟩
theorem PF {α:Type} {l:List α} (h:l.length=4):∃ a b c d,l=[a,b,c,d]:=by
  match l,h with
  | [a,b,c,d],_=>exact ⟨a,b,c,d,rfl⟩
def k7:SF:=⟨.seq (ak [aQ 2 false]) <|
  .seq (.seq (ak [aa 3 0,((some 4),.op (.gL (.tmp 3))),ay 5 .eql 4 3]) <|
  .cond (.tmp 5) (.seq (.region false [⟨none,[aa 6 0,((some 7),.op (.c8 (.tmp 6) (.val (.val (.int .i64 0))))),((some 8),.op (.arith .eql (.tmp 7) (.val (.val (.int .u8 39))))),aa 9 8]⟩,⟨(some (9,true)),[aa 10 0,((some 11),.op (.c8 (.tmp 10) (.val (.val (.int .i64 2))))),((some 12),.op (.arith .eql (.tmp 11) (.val (.val (.int .u8 39)))))]⟩,⟨none,[bG 13 9 12,aa 14 13]⟩,⟨(some (14,true)),[aa 15 0,((some 16),.op (.c8 (.tmp 15) (.val (.val (.int .i64 1))))),((some 17),.op (.arith .geq (.tmp 16) (.val (.val (.int .u8 32)))))]⟩,⟨none,[bG 18 14 17,aa 19 18]⟩,⟨(some (19,true)),[aa 20 0,((some 21),.op (.c8 (.tmp 20) (.val (.val (.int .i64 1))))),((some 22),.op (.arith .leq (.tmp 21) (.val (.val (.int .u8 126)))))]⟩,⟨none,[bG 23 19 22,aa 24 23]⟩,⟨(some (24,true)),[aa 25 0,((some 26),.op (.c8 (.tmp 25) (.val (.val (.int .i64 1))))),((some 27),.op (.arith .neq (.tmp 26) (.val (.val (.int .u8 39)))))]⟩,⟨none,[bG 28 24 27,aa 29 28]⟩,⟨(some (29,true)),[aa 30 0,((some 31),.op (.c8 (.tmp 30) (.val (.val (.int .i64 1))))),((some 32),.op (.arith .neq (.tmp 31) (.val (.val (.int .u8 92)))))]⟩,⟨none,[bG 33 29 32,aa 2 33]⟩]) <|
  .ret) (.skip)) <|
  .seq (.region false [⟨none,[aa 34 0,((some 35),.op (.gL (.tmp 34))),ay 36 .eql 35 4,aa 37 36]⟩,⟨(some (37,true)),[aa 38 0,((some 39),.op (.c8 (.tmp 38) (.val (.val (.int .i64 0))))),((some 40),.op (.arith .eql (.tmp 39) (.val (.val (.int .u8 39)))))]⟩,⟨none,[bG 41 37 40,aa 42 41]⟩,⟨(some (42,true)),[aa 43 0,((some 44),.op (.c8 (.tmp 43) (.val (.val (.int .i64 3))))),((some 45),.op (.arith .eql (.tmp 44) (.val (.val (.int .u8 39)))))]⟩,⟨none,[bG 46 42 45,aa 47 46]⟩,⟨(some (47,true)),[aa 48 0,((some 49),.op (.c8 (.tmp 48) (.val (.val (.int .i64 1))))),((some 50),.op (.arith .eql (.tmp 49) (.val (.val (.int .u8 92)))))]⟩,⟨none,[bG 51 47 50,aa 52 51]⟩,⟨(some (52,true)),[aa 53 0,((some 54),.op (.c8 (.tmp 53) (.val (.val (.int .i64 2))))),((some 55),.op (.arith .eql (.tmp 54) (.val (.val (.int .u8 110))))),aa 56 55]⟩,⟨(some (56,false)),[aa 57 0,((some 58),.op (.c8 (.tmp 57) (.val (.val (.int .i64 2))))),((some 59),.op (.arith .eql (.tmp 58) (.val (.val (.int .u8 116)))))]⟩,⟨(some (52,true)),[bF 60 56 59,aa 61 60]⟩,⟨(some (61,false)),[aa 62 0,((some 63),.op (.c8 (.tmp 62) (.val (.val (.int .i64 2))))),((some 64),.op (.arith .eql (.tmp 63) (.val (.val (.int .u8 92)))))]⟩,⟨(some (52,true)),[bF 65 61 64,aa 66 65]⟩,⟨(some (66,false)),[aa 67 0,((some 68),.op (.c8 (.tmp 67) (.val (.val (.int .i64 2))))),((some 69),.op (.arith .eql (.tmp 68) (.val (.val (.int .u8 39)))))]⟩,⟨(some (52,true)),[bF 70 66 69]⟩,⟨none,[bG 71 52 70,aa 2 71]⟩]) <|
  .ret,
  [.tmp 2],72⟩
theorem p7:bh Tryz.prog 192 []=some k7:=by kernel_rfl
def mE:SF:=⟨.seq (ak [aQ 2 false]) <|
  .seq (.region false [⟨none,[aa 3 0,aF 4 154 [3],aa 5 4]⟩,⟨(some (5,false)),[aa 6 0,aF 7 192 [6]]⟩,⟨none,[bF 8 5 7,aa 2 8]⟩]) <|
  .ret,
  [.tmp 2],9⟩
theorem rz:bh Tryz.prog 151 []=some mE:=by kernel_rfl
set_option maxHeartbeats 1000000 in
theorem KV (s:ByteArray) (H:View):aA Tryz.prog 192 [gs s] H fun r H'=>r=gb (kL (ep s))∧H'=H:=by
  refine aA.of mixed p7 ?_
  simp (disch:=omega) only [↓wr,↓reduceIte,wq,ah,ag,aj,ab,ae,af,ai,isNil,Nat.reduceEqDiff,Nat.reduceAdd,Nat.reduceLT,Nat.reduceLeDiff,Int.reduceNeg,Int.reduceToNat,reduceCtorEq,k7,dI]
  refine av.eq (fun h=>?_) (fun h=>?_)
  · obtain ⟨a,b,c,hb⟩:=OX (l:=ep s) (by omega)
    repeat' (first | (refine av.dec (fun _=>?_) (fun _=>?_)) | (refine av.eq (fun _=>?_) (fun _=>?_)) | (refine av.ne (fun _=>?_) (fun _=>?_)) | (refine av.split (fun _=>?_) (fun _=>?_)) | (simp (disch:=omega) only [↓wr,↓reduceIte,wq,ah,ag,aj,ab,ae,af,ai,isNil,Nat.reduceEqDiff,Nat.reduceAdd,Nat.reduceLT,Nat.reduceLeDiff,Int.reduceNeg,Int.reduceToNat,reduceCtorEq,hb,List.getElem?_cons_zero,List.getElem?_cons_succ]))
    all_goals (congr 2; simp only[kL]; grind)
  · simp (disch:=omega) only [↓wr,↓reduceIte,wq,ah,ag,aj,ab,ae,af,ai,isNil,Nat.reduceEqDiff,Nat.reduceAdd,Nat.reduceLT,Nat.reduceLeDiff,Int.reduceNeg,Int.reduceToNat,reduceCtorEq,dI]
    refine av.eq (fun h4=>?_) (fun h4=>?_)
    · obtain ⟨a,b,c,d,hb⟩:=PF (l:=ep s) (by omega)
      repeat' (first | (refine av.dec (fun _=>?_) (fun _=>?_)) | (refine av.eq (fun _=>?_) (fun _=>?_)) | (refine av.ne (fun _=>?_) (fun _=>?_)) | (refine av.split (fun _=>?_) (fun _=>?_)) | (simp (disch:=omega) only [↓wr,↓reduceIte,wq,ah,ag,aj,ab,ae,af,ai,isNil,Nat.reduceEqDiff,Nat.reduceAdd,Nat.reduceLT,Nat.reduceLeDiff,Int.reduceNeg,Int.reduceToNat,reduceCtorEq,hb,List.getElem?_cons_zero,List.getElem?_cons_succ]))
      all_goals (congr 2; simp only[kL]; grind)
    · repeat' (first | (refine av.dec (fun _=>?_) (fun _=>?_)) | (refine av.eq (fun _=>?_) (fun _=>?_)) | (refine av.ne (fun _=>?_) (fun _=>?_)) | (refine av.split (fun _=>?_) (fun _=>?_)) | (simp (disch:=omega) only [↓wr,↓reduceIte,wq,ah,ag,aj,ab,ae,af,ai,isNil,Nat.reduceEqDiff,Nat.reduceAdd,Nat.reduceLT,Nat.reduceLeDiff,Int.reduceNeg,Int.reduceToNat,reduceCtorEq,dI]))
      rw[K1 (by omega) (by omega)]
theorem mX (s:ByteArray):∀ v∈[gs s],Tree v:=by intro v hv; simp at hv; subst hv; exact .val _
theorem Cl (s:ByteArray):aC Tryz.prog 154 [gs s] (gb (fk (ep s))) :=
  aC.of (mX s) ((JS s _).mono fun r H' h h' _=>by rw[h.1]; exact .tree _ (.val _))
theorem LY (s:ByteArray):aC Tryz.prog 192 [gs s] (gb (kL (ep s))) :=
  aC.of (mX s) ((KV s _).mono fun r H' h h' _=>by rw[h.1]; exact .tree _ (.val _))
def ox (l:List Int):Bool:=fk l || kL l
theorem Iv (s:ByteArray) (H:View):aA Tryz.prog 151 [gs s] H fun r H'=>r=gb (ox (ep s))∧H'=H:=by
  refine aA.of mixed rz ?_
  simp (disch:=omega) only [↓wr,↓reduceIte,wq,ah,ag,aj,ab,ae,af,ai,isNil,Nat.reduceEqDiff,Nat.reduceAdd,Nat.reduceLT,Nat.reduceLeDiff,Int.reduceNeg,Int.reduceToNat,reduceCtorEq,mE]
  refine aE.pure (Cl s) (by kernel_rfl) ?_
  repeat' (first | (refine av.dec (fun _=>?_) (fun _=>?_)) | (refine av.eq (fun _=>?_) (fun _=>?_)) | (refine av.ne (fun _=>?_) (fun _=>?_)) | (refine av.split (fun _=>?_) (fun _=>?_)) | (simp (disch:=omega) only [↓wr,↓reduceIte,wq,ah,ag,aj,ab,ae,af,ai,isNil,Nat.reduceEqDiff,Nat.reduceAdd,Nat.reduceLT,Nat.reduceLeDiff,Int.reduceNeg,Int.reduceToNat,reduceCtorEq]))
  · rename_i h; simp[ox,h]
  · rename_i h
    refine aE.pure (LY s) (by kernel_rfl) ?_
    repeat' (first | (refine av.dec (fun _=>?_) (fun _=>?_)) | (refine av.eq (fun _=>?_) (fun _=>?_)) | (refine av.ne (fun _=>?_) (fun _=>?_)) | (refine av.split (fun _=>?_) (fun _=>?_)) | (simp (disch:=omega) only [↓wr,↓reduceIte,wq,ah,ag,aj,ab,ae,af,ai,isNil,Nat.reduceEqDiff,Nat.reduceAdd,Nat.reduceLT,Nat.reduceLeDiff,Int.reduceNeg,Int.reduceToNat,reduceCtorEq]))
    simp[ox,h]
theorem HC (s:ByteArray):aC Tryz.prog 151 [gs s] (gb (ox (ep s))) :=
  aC.of (mX s) ((Iv s _).mono fun r H' h h' _=>by rw[h.1]; exact .tree _ (.val _))
def mj (s:ByteArray):List ByteArray→Int→Int
  | [],_=>-1
  | x :: l,i=>if gH x s=true then i else mj s l (i+1)
def ky (g:an) (s:ByteArray):Int:=mj s (g.ax.map Term.name) 0
def wk (g:an) (s:ByteArray):Int:=mj s g.au 0
theorem eD {α:Type} {l:List α} {i:Nat} (h:i < l.length):l.drop i=l[i] :: l.drop (i+1):=List.drop_eq_getElem_cons h
theorem Eg (g:an) (s:ByteArray):∀ v∈[V.agg (aw g),gs s],Tree v:=by
  intro v hv; simp at hv
  rcases hv with rfl | rfl
  · exact dL _ (eM g)
  · exact .val _
theorem e9 (g:an):∀ v∈[V.agg (aw g)],Tree v:=by intro v hv; simp at hv; subst hv; exact dL _ (eM g)
theorem Db (g:an) (x:Int):∀ v∈[V.agg (aw g),gi x],Tree v:=by
  intro v hv; simp at hv
  rcases hv with rfl | rfl
  · exact dL _ (eM g)
  · exact .val _
theorem aC.val {P:Program} {f:FuncId} {vs:List V} {x:Value} (ht:∀ v∈vs,Tree v) (h:∀ H,aA P f vs H fun r _=>r=.val x):aC P f vs (.val x) :=
  aC.of ht ((h _).mono fun r H' e h' _=>by rw[e]; exact .tree _ (.val _))
def lD:SC :=
  .seq (.seq (ak [aa 6 5,aq 7 0 2,ao 8 7,aI 9 8,aK 10 .lss 6 9]) <|
  .cond (.tmp 10) (.skip) (.exit 0)) <|
  .seq (.block 1 (.seq (ak [aq 13 0 2,ao 14 13,aa 15 5,aL 16 3 14 15,aq 17 0 16,ao 18 17,aa 19 1,((some 20),.op (.iE .eql (.tmp 18) (.tmp 19)))]) <|
  .cond (.tmp 20) (.seq (ak [aa 21 5,aa 4 21]) <|
  .ret) (.skip))) <|
  ak [aa 11 5,ay 12 .add 11 1,aa 5 12]
def ou:SF:=⟨.seq (ak [cr 2 0,aD 4 0]) <|
  .seq (.seq (ak [aD 5 0]) <|
  .block 0 (.loop lD)) <|
  .seq (ak [aD 4 (-1)]) <|
  .ret,
  [.tmp 4],22⟩
theorem sJ:bh Tryz.prog 152 [2]=some ou:=by kernel_rfl
def mC:SC :=
  .seq (.seq (ak [aa 6 5,aq 7 1 2,ao 8 7,aI 9 8,aK 10 .lss 6 9]) <|
  .cond (.tmp 10) (.skip) (.exit 0)) <|
  .seq (.block 1 (.seq (ak [aq 13 1 2,ao 14 13,aa 15 5,aL 16 1 14 15,ao 17 16,aa 18 1,((some 19),.op (.iE .eql (.tmp 17) (.tmp 18)))]) <|
  .cond (.tmp 19) (.seq (ak [aa 20 5,aa 4 20]) <|
  .ret) (.skip))) <|
  ak [aa 11 5,ay 12 .add 11 1,aa 5 12]
def oY:SF:=⟨.seq (ak [cr 2 0,aD 4 0]) <|
  .seq (.seq (ak [aD 5 0]) <|
  .block 0 (.loop mC)) <|
  .seq (ak [aD 4 (-1)]) <|
  .ret,
  [.tmp 4],21⟩
theorem tg:bh Tryz.prog 139 [2]=some oY:=by kernel_rfl
def lh:SC :=
  .seq (.seq (ak [aa 8 6,aq 9 0 2,ao 10 9,aI 11 10,aK 12 .lss 8 11]) <|
  .cond (.tmp 12) (.skip) (.exit 0)) <|
  .seq (.block 1 (.seq (.region false [⟨none,[aq 15 0 2,ao 16 15,aa 17 6,aL 18 3 16 17,aJ 19 3 18,((some 7),.op (.alloc [(.val (.string ⟨#[]⟩)),(.val (.int .i64 0)),(.val (.int .i64 0))])),(none,.op (.store 3 (.tmp 7) (.tmp 19)))]⟩]) <|
  .seq (.seq (ak [aq 20 1 7,ao 21 20,aa 22 1,aK 23 .neq 21 22]) <|
  .cond (.tmp 23) (.exit 1) (.skip)) <|
  .seq (.seq (.region false [⟨none,[aa 24 5,ay 25 .neq 24 0,aa 26 25]⟩,⟨(some (26,true)),[aa 27 5,aq 28 2 7,ao 29 28,aK 30 .neq 27 29]⟩,⟨none,[bG 31 26 30]⟩]) <|
  .cond (.tmp 31) (.seq (ak [aQ 4 false]) <|
  .ret) (.skip)) <|
  ak [aq 32 2 7,ao 33 32,aa 5 33])) <|
  ak [aa 13 6,ay 14 .add 13 1,aa 6 14]
def mN:SF:=⟨.seq (ak [cr 2 0,aQ 4 false]) <|
  .seq (ak [aD 5 0]) <|
  .seq (.seq (ak [aD 6 0]) <|
  .block 0 (.loop lh)) <|
  .seq (ak [aa 34 5,ay 35 .neq 34 0,aa 4 35]) <|
  .ret,
  [.tmp 4],36⟩
theorem rJ:bh Tryz.prog 153 [2]=some mN:=by kernel_rfl
theorem Kz (g:an) (hg:g.Ok) (s:ByteArray) (H:View):aA Tryz.prog 152 [.agg (aw g),gs s] H fun r _=>r=gi (ky g s):=by
  refine aA.of mixed sJ ?_
  have hs:g.ax.length < 4611686018427387904:=hg.ax
  simp (disch:=omega) only [↓wr,↓reduceIte,wq,ah,ag,aj,ab,ae,af,ai,isNil,Nat.reduceEqDiff,Nat.reduceAdd,Nat.reduceLT,Nat.reduceLeDiff,Int.reduceNeg,Int.reduceToNat,reduceCtorEq,ou,aw,encS]
  refine bw.intro (fun k T _=>∃ i:Nat,i+k=g.ax.length∧mj s ((g.ax.drop i).map Term.name) i=ky g s∧T 1=gs s∧T 2=.aO (aw g) 0∧T 5=gi i) g.ax.length ?_ ?_
  · exact ⟨0,by omega,rfl,rfl,rfl,rfl⟩
  · rintro k T H' ⟨i,hk,hi,h1,h2,h5⟩
    simp (disch:=omega) only [↓wr,↓reduceIte,wq,ah,ag,aj,ab,ae,af,ai,isNil,Nat.reduceEqDiff,Nat.reduceAdd,Nat.reduceLT,Nat.reduceLeDiff,Int.reduceNeg,Int.reduceToNat,reduceCtorEq,lD,h1,h2,h5,aw]
    refine av.dec (fun hc=>?_) (fun hc=>?_)
    · have hg2:g.ax[i]?=some (g.ax[i]'(by omega)):=List.getElem?_eq_getElem (by omega)
      rw[eD (show i < g.ax.length by omega)] at hi
      generalize g.ax[i]'(by omega)=t at hg2 hi
      simp only[List.map_cons,mj] at hi
      simp (disch:=omega) only [↓wr,↓reduceIte,wq,ah,ag,aj,ab,ae,af,ai,isNil,Nat.reduceEqDiff,Nat.reduceAdd,Nat.reduceLT,Nat.reduceLeDiff,Int.reduceNeg,Int.reduceToNat,reduceCtorEq,h1,h2,h5,aw,cp,List.getElem?_map,hg2,Option.map_some]
      refine av.split (fun hd=>?_) (fun hd=>?_)
      · rw[if_pos hd] at hi
        simp (disch:=omega) only [↓wr,↓reduceIte,wq,ah,ag,aj,ab,ae,af,ai,isNil,Nat.reduceEqDiff,Nat.reduceAdd,Nat.reduceLT,Nat.reduceLeDiff,Int.reduceNeg,Int.reduceToNat,reduceCtorEq,h1,h2,h5]
        rw[hi]
      · rw[hd,if_neg (by simp)] at hi
        simp (disch:=omega) only [↓wr,↓reduceIte,wq,ah,ag,aj,ab,ae,af,ai,isNil,Nat.reduceEqDiff,Nat.reduceAdd,Nat.reduceLT,Nat.reduceLeDiff,Int.reduceNeg,Int.reduceToNat,reduceCtorEq,h1,h2,h5]
        exact ⟨k - 1,by omega,i+1,by omega,by push_cast; exact hi,rfl,rfl⟩
    · rw[List.drop_eq_nil_of_le (by omega)] at hi
      simp only[List.map_nil,mj] at hi
      simp (disch:=omega) only [↓wr,↓reduceIte,wq,ah,ag,aj,ab,ae,af,ai,isNil,Nat.reduceEqDiff,Nat.reduceAdd,Nat.reduceLT,Nat.reduceLeDiff,Int.reduceNeg,Int.reduceToNat,reduceCtorEq,h1,h2,h5]
      rw[hi]
theorem BG (g:an) (hg:g.Ok) (s:ByteArray):aC Tryz.prog 152 [.agg (aw g),gs s] (gi (ky g s)):=aC.val (Eg g s) (Kz g hg s)
theorem LD (g:an) (hg:g.Ok) (s:ByteArray) (H:View):aA Tryz.prog 139 [.agg (aw g),gs s] H fun r _=>r=gi (wk g s):=by
  refine aA.of mixed tg ?_
  have hs:g.au.length < 4611686018427387904:=hg.au
  simp (disch:=omega) only [↓wr,↓reduceIte,wq,ah,ag,aj,ab,ae,af,ai,isNil,Nat.reduceEqDiff,Nat.reduceAdd,Nat.reduceLT,Nat.reduceLeDiff,Int.reduceNeg,Int.reduceToNat,reduceCtorEq,oY,aw,encS]
  refine bw.intro (fun k T _=>∃ i:Nat,i+k=g.au.length∧mj s (g.au.drop i) i=wk g s∧T 1=gs s∧T 2=.aO (aw g) 0∧T 5=gi i) g.au.length ?_ ?_
  · exact ⟨0,by omega,rfl,rfl,rfl,rfl⟩
  · rintro k T H' ⟨i,hk,hi,h1,h2,h5⟩
    simp (disch:=omega) only [↓wr,↓reduceIte,wq,ah,ag,aj,ab,ae,af,ai,isNil,Nat.reduceEqDiff,Nat.reduceAdd,Nat.reduceLT,Nat.reduceLeDiff,Int.reduceNeg,Int.reduceToNat,reduceCtorEq,mC,h1,h2,h5,aw,encS]
    refine av.dec (fun hc=>?_) (fun hc=>?_)
    · have hg2:g.au[i]?=some (g.au[i]'(by omega)):=List.getElem?_eq_getElem (by omega)
      rw[eD (show i < g.au.length by omega)] at hi
      generalize g.au[i]'(by omega)=t at hg2 hi
      simp only[List.map_cons,mj] at hi
      simp (disch:=omega) only [↓wr,↓reduceIte,wq,ah,ag,aj,ab,ae,af,ai,isNil,Nat.reduceEqDiff,Nat.reduceAdd,Nat.reduceLT,Nat.reduceLeDiff,Int.reduceNeg,Int.reduceToNat,reduceCtorEq,h1,h2,h5,aw,encS,List.getElem?_map,hg2,Option.map_some]
      refine av.split (fun hd=>?_) (fun hd=>?_)
      · rw[if_pos hd] at hi
        simp (disch:=omega) only [↓wr,↓reduceIte,wq,ah,ag,aj,ab,ae,af,ai,isNil,Nat.reduceEqDiff,Nat.reduceAdd,Nat.reduceLT,Nat.reduceLeDiff,Int.reduceNeg,Int.reduceToNat,reduceCtorEq,h1,h2,h5]
        rw[hi]
      · rw[hd,if_neg (by simp)] at hi
        simp (disch:=omega) only [↓wr,↓reduceIte,wq,ah,ag,aj,ab,ae,af,ai,isNil,Nat.reduceEqDiff,Nat.reduceAdd,Nat.reduceLT,Nat.reduceLeDiff,Int.reduceNeg,Int.reduceToNat,reduceCtorEq,h1,h2,h5]
        exact ⟨k - 1,by omega,i+1,by omega,by push_cast; exact hi,rfl,rfl⟩
    · rw[List.drop_eq_nil_of_le (by omega)] at hi
      simp only[List.map_nil,mj] at hi
      simp (disch:=omega) only [↓wr,↓reduceIte,wq,ah,ag,aj,ab,ae,af,ai,isNil,Nat.reduceEqDiff,Nat.reduceAdd,Nat.reduceLT,Nat.reduceLeDiff,Int.reduceNeg,Int.reduceToNat,reduceCtorEq,h1,h2,h5]
      rw[hi]
theorem LZ (g:an) (hg:g.Ok) (s:ByteArray):aC Tryz.prog 139 [.agg (aw g),gs s] (gi (wk g s)):=aC.val (Eg g s) (LD g hg s)
def gV (n:Int):List Term→Int→Option Int
  | [],way=>some way
  | t :: r,way=>if t.level=n then (if way≠0∧way≠t.assoc then none else gV n r t.assoc) else gV n r way
def fK (l:List Term) (n:Int):Bool:=match gV n l 0 with
  | some w=>w != 0
  | none=>false
theorem It (g:an) (hg:g.Ok) (n:Int) (H:View):aA Tryz.prog 153 [.agg (aw g),gi n] H fun r _=>r=gb (fK g.ax n):=by
  refine aA.of mixed rJ ?_
  have hs:g.ax.length < 4611686018427387904:=hg.ax
  simp (disch:=omega) only [↓wr,↓reduceIte,wq,ah,ag,aj,ab,ae,af,ai,isNil,Nat.reduceEqDiff,Nat.reduceAdd,Nat.reduceLT,Nat.reduceLeDiff,Int.reduceNeg,Int.reduceToNat,reduceCtorEq,mN,aw,encS]
  refine bw.intro (fun k T _=>∃ (i:Nat) (w:Int),i+k=g.ax.length∧gV n (g.ax.drop i) w=gV n g.ax 0∧T 1=gi n∧T 2=.aO (aw g) 0∧T 5=gi w∧T 6=gi i) g.ax.length ?_ ?_
  · exact ⟨0,0,by omega,rfl,rfl,rfl,rfl,rfl⟩
  · rintro k T H' ⟨i,w,hk,hi,h1,h2,h5,h6⟩
    simp (disch:=omega) only [↓wr,↓reduceIte,wq,ah,ag,aj,ab,ae,af,ai,isNil,Nat.reduceEqDiff,Nat.reduceAdd,Nat.reduceLT,Nat.reduceLeDiff,Int.reduceNeg,Int.reduceToNat,reduceCtorEq,lh,h1,h2,h5,h6,aw]
    refine av.dec (fun hc=>?_) (fun hc=>?_)
    · have hg2:g.ax[i]?=some (g.ax[i]'(by omega)):=List.getElem?_eq_getElem (by omega)
      rw[eD (show i < g.ax.length by omega)] at hi
      generalize g.ax[i]'(by omega)=t at hg2 hi
      simp only[gV] at hi
      simp (disch:=omega) only [↓wr,↓reduceIte,wq,ah,ag,aj,ab,ae,af,ai,isNil,Nat.reduceEqDiff,Nat.reduceAdd,Nat.reduceLT,Nat.reduceLeDiff,Int.reduceNeg,Int.reduceToNat,reduceCtorEq,h1,h2,h5,h6,aw,cp,List.getElem?_map,hg2,Option.map_some]
      intro m hm
      try simp (disch:=omega) only [↓wr,↓reduceIte,wq,ah,ag,aj,ab,ae,af,ai,isNil,Nat.reduceEqDiff,Nat.reduceAdd,Nat.reduceLT,Nat.reduceLeDiff,Int.reduceNeg,Int.reduceToNat,reduceCtorEq,h1,h2,h5,h6]
      refine av.ne (fun hd=>?_) (fun hd=>?_)
      · rw[if_neg hd] at hi
        simp (disch:=omega) only [↓wr,↓reduceIte,wq,ah,ag,aj,ab,ae,af,ai,isNil,Nat.reduceEqDiff,Nat.reduceAdd,Nat.reduceLT,Nat.reduceLeDiff,Int.reduceNeg,Int.reduceToNat,reduceCtorEq,h1,h2,h5,h6]
        exact ⟨k - 1,by omega,i+1,w,by omega,hi,by first | rfl | exact ⟨rfl,rfl⟩ | exact ⟨rfl,rfl,rfl⟩⟩
      · rw[if_pos hd] at hi
        repeat' (first | (refine av.dec (fun _=>?_) (fun _=>?_)) | (refine av.eq (fun _=>?_) (fun _=>?_)) | (refine av.ne (fun _=>?_) (fun _=>?_)) | (refine av.split (fun _=>?_) (fun _=>?_)) | (simp (disch:=omega) only [↓wr,↓reduceIte,wq,ah,ag,aj,ab,ae,af,ai,isNil,Nat.reduceEqDiff,Nat.reduceAdd,Nat.reduceLT,Nat.reduceLeDiff,Int.reduceNeg,Int.reduceToNat,reduceCtorEq,h1,h2,h5,h6]))
        · rename_i a b
          rw[if_pos ⟨a,b⟩] at hi
          simp only[fK,← hi]
        · rename_i a b
          rw[if_neg (fun e=>e.2 b)] at hi
          exact ⟨k - 1,by omega,i+1,_,by omega,hi,by first | rfl | exact ⟨rfl,rfl⟩ | exact ⟨rfl,rfl,rfl⟩⟩
        · rename_i a
          rw[if_neg (fun e=>e.1 a)] at hi
          exact ⟨k - 1,by omega,i+1,_,by omega,hi,by first | rfl | exact ⟨rfl,rfl⟩ | exact ⟨rfl,rfl,rfl⟩⟩
    · rw[List.drop_eq_nil_of_le (by omega)] at hi
      simp only[gV] at hi
      simp (disch:=omega) only [↓wr,↓reduceIte,wq,ah,ag,aj,ab,ae,af,ai,isNil,Nat.reduceEqDiff,Nat.reduceAdd,Nat.reduceLT,Nat.reduceLeDiff,Int.reduceNeg,Int.reduceToNat,reduceCtorEq,h1,h2,h5,h6]
      simp only[fK,← hi]
theorem Ie (g:an) (hg:g.Ok) (n:Int):aC Tryz.prog 153 [.agg (aw g),gi n] (gb (fK g.ax n)):=aC.val (Db g n) (It g hg n)
def pv (g:an) (t:Term):Bool:=(List.range t.level.toNat).all fun k=>fK g.ax ((k:Int)+1)
def iU (g:an) (i:Int) (t:Term):Bool :=
  ox (ep t.name) && (ky g t.name == i) && decide (0≤t.level) && decide (t.level≤24) && decide (0≤t.assoc) && decide (t.assoc≤3) && ((t.level == 0) == (t.assoc == 0)) && pv g t
def iD (g:an):List Term→Int→Bool
  | [],_=>true
  | t :: r,i=>iU g i t && iD g r (i+1)
def iK (g:an):Bool:=decide (g.ax.length≤24) && iD g g.ax 0
def kP:SC :=
  .seq (.seq (ak [aa 63 5,aq 64 1 4,ao 65 64,aK 66 .leq 63 65]) <|
  .cond (.tmp 66) (.skip) (.exit 2)) <|
  .seq (.block 3 (.seq (ak [aJ 69 4 1,aa 70 5,aF 71 153 [69,70],bW 72 71]) <|
  .cond (.tmp 72) (.seq (ak [aQ 2 false]) <|
  .ret) (.skip))) <|
  ak [aa 67 5,ay 68 .add 67 1,aa 5 68]
def kR:SC :=
  .seq (.seq (ak [aa 10 3,aq 11 0 1,ao 12 11,aI 13 12,aK 14 .lss 10 13]) <|
  .cond (.tmp 14) (.skip) (.exit 0)) <|
  .seq (.block 1 (.seq (.region false [⟨none,[aq 17 0 1,ao 18 17,aa 19 3,aL 20 3 18 19,aJ 21 3 20,((some 4),.op (.alloc [(.val (.string ⟨#[]⟩)),(.val (.int .i64 0)),(.val (.int .i64 0))])),(none,.op (.store 3 (.tmp 4) (.tmp 21)))]⟩]) <|
  .seq (.seq (.region false [⟨none,[aq 22 0 4,ao 23 22,aF 24 151 [23],bW 25 24,aa 26 25]⟩,⟨(some (26,false)),[aJ 27 4 1,aq 28 0 4,ao 29 28,aF 30 152 [27,29],aa 31 3,aK 32 .neq 30 31]⟩,⟨none,[bF 33 26 32,aa 34 33]⟩,⟨(some (34,false)),[aq 35 1 4,ao 36 35,ay 37 .lss 36 0]⟩,⟨none,[bF 38 34 37,aa 39 38]⟩,⟨(some (39,false)),[aq 40 1 4,ao 41 40,ay 42 .gtr 41 24]⟩,⟨none,[bF 43 39 42,aa 44 43]⟩,⟨(some (44,false)),[aq 45 2 4,ao 46 45,ay 47 .lss 46 0]⟩,⟨none,[bF 48 44 47,aa 49 48]⟩,⟨(some (49,false)),[aq 50 2 4,ao 51 50,ay 52 .gtr 51 3]⟩,⟨none,[bF 53 49 52,aa 54 53]⟩,⟨(some (54,false)),[aq 55 1 4,ao 56 55,ay 57 .eql 56 0,aq 58 2 4,ao 59 58,ay 60 .eql 59 0,((some 61),.op (.beq false (.tmp 57) (.tmp 60)))]⟩,⟨none,[bF 62 54 61]⟩]) <|
  .cond (.tmp 62) (.seq (ak [aQ 2 false]) <|
  .ret) (.skip)) <|
  .seq (ak [aD 5 1]) <|
  .block 2 (.loop kP))) <|
  ak [aa 15 3,ay 16 .add 15 1,aa 3 16]
def mJ:SF:=⟨.seq (ak [cr 1 0,aQ 2 false]) <|
  .seq (.seq (ak [aq 6 0 1,ao 7 6,aI 8 7,ay 9 .gtr 8 24]) <|
  .cond (.tmp 9) (.seq (ak [aQ 2 false]) <|
  .ret) (.skip)) <|
  .seq (.seq (ak [aD 3 0]) <|
  .block 0 (.loop kR)) <|
  .seq (ak [aQ 2 true]) <|
  .ret,
  [.tmp 2],73⟩
theorem rF:bh Tryz.prog 104 [1]=some mJ:=by kernel_rfl
def lr:SC :=
  .seq (.seq (ak [aa 14 3,aq 15 1 1,ao 16 15,aI 17 16,aK 18 .lss 14 17]) <|
  .cond (.tmp 18) (.skip) (.exit 0)) <|
  .seq (.block 1 (.seq (.region false [⟨none,[aq 21 1 1,ao 22 21,aa 23 3,aL 24 1 22 23,ao 25 24,aF 26 154 [25],bW 27 26,aa 28 27]⟩,⟨(some (28,false)),[aJ 29 4 1,aq 30 1 1,ao 31 30,aa 32 3,aL 33 1 31 32,ao 34 33,aF 35 139 [29,34],aa 36 3,aK 37 .neq 35 36]⟩,⟨none,[bF 38 28 37,aa 39 38]⟩,⟨(some (39,false)),[aJ 40 4 1,aq 41 1 1,ao 42 41,aa 43 3,aL 44 1 42 43,ao 45 44,aF 46 152 [40,45],ay 47 .geq 46 0]⟩,⟨none,[bF 48 39 47]⟩]) <|
  .cond (.tmp 48) (.seq (ak [aQ 2 false]) <|
  .ret) (.skip))) <|
  ak [aa 19 3,ay 20 .add 19 1,aa 3 20]
def nV:SF:=⟨.seq (ak [cr 1 0,aQ 2 false]) <|
  .seq (.seq (.region false [⟨none,[aq 4 1 1,ao 5 4,aI 6 5,ay 7 .lss 6 1,aa 8 7]⟩,⟨(some (8,false)),[aq 9 1 1,ao 10 9,aI 11 10,ay 12 .gtr 11 16]⟩,⟨none,[bF 13 8 12]⟩]) <|
  .cond (.tmp 13) (.seq (ak [aQ 2 false]) <|
  .ret) (.skip)) <|
  .seq (.seq (ak [aD 3 0]) <|
  .block 0 (.loop lr)) <|
  .seq (ak [aQ 2 true]) <|
  .ret,
  [.tmp 2],49⟩
theorem sL:bh Tryz.prog 105 [1]=some nV:=by kernel_rfl
def mb:SC :=
  .seq (.seq (ak [aa 23 5,aq 24 1 3,ao 25 24,aI 26 25,aK 27 .lss 23 26]) <|
  .cond (.tmp 27) (.skip) (.exit 0)) <|
  .seq (.block 1 (.seq (.region false [⟨none,[aJ 30 4 2,aq 31 1 3,ao 32 31,aa 33 5,aL 34 1 32 33,ao 35 34,aF 36 155 [30,35],bW 37 36,aa 38 37]⟩,⟨(some (38,false)),[aq 39 1 3,ao 40 39,aa 41 5,aL 42 1 40 41,ao 43 42,ay 44 .geq 43 0,aa 45 44]⟩,⟨(some (45,true)),[aq 46 2 3,ao 47 46,ay 48 .eql 47 (-1)]⟩,⟨(some (38,false)),[bG 49 45 48]⟩,⟨none,[bF 50 38 49]⟩]) <|
  .cond (.tmp 50) (.seq (ak [aQ 4 false]) <|
  .ret) (.skip))) <|
  ak [aa 28 5,ay 29 .add 28 1,aa 5 29]
def nP:SF:=⟨.seq (ak [cr 2 0,cr 3 1,aQ 4 false]) <|
  .seq (.seq (.region false [⟨none,[aq 6 1 3,ao 7 6,aI 8 7,ay 9 .gtr 8 6,aa 10 9]⟩,⟨(some (10,false)),[aq 11 2 3,ao 12 11,ay 13 .lss 12 (-1)]⟩,⟨none,[bF 14 10 13,aa 15 14]⟩,⟨(some (15,false)),[aq 16 2 3,ao 17 16,aq 18 0 2,ao 19 18,aI 20 19,aK 21 .geq 17 20]⟩,⟨none,[bF 22 15 21]⟩]) <|
  .cond (.tmp 22) (.seq (ak [aQ 4 false]) <|
  .ret) (.skip)) <|
  .seq (.seq (ak [aD 5 0]) <|
  .block 0 (.loop mb)) <|
  .seq (ak [aQ 4 true]) <|
  .ret,
  [.tmp 4],51⟩
theorem sK:bh Tryz.prog 106 [2,3]=some nP:=by kernel_rfl
def lk:SC :=
  .seq (.seq (ak [aa 39 4,aq 40 2 1,ao 41 40,aI 42 41,aK 43 .lss 39 42]) <|
  .cond (.tmp 43) (.skip) (.exit 0)) <|
  .seq (.block 1 (.seq (ak [aq 46 2 1,ao 47 46,aa 48 4,aL 49 3 47 48,aJ 50 3 49,((some 5),.op (.alloc [(.val (.int .i64 0)),(.emp 1),(.val (.int .i64 0))])),(none,.op (.store 3 (.tmp 5) (.tmp 50)))]) <|
  .seq (.seq (.region false [⟨none,[aq 51 0 5,ao 52 51,ay 53 .lss 52 0,aa 54 53]⟩,⟨(some (54,false)),[aq 55 0 5,ao 56 55,aa 57 3,ay 58 .add 57 1,aK 59 .gtr 56 58]⟩,⟨none,[bF 60 54 59,aa 61 60]⟩,⟨(some (61,false)),[aJ 62 4 1,aJ 63 3 5,aF 64 106 [62,63],bW 65 64]⟩,⟨none,[bF 66 61 65]⟩]) <|
  .cond (.tmp 66) (.seq (ak [aQ 2 false]) <|
  .ret) (.skip)) <|
  .seq (ak [aq 67 0 5,ao 68 67,aa 69 3,aK 70 .gtr 68 69]) <|
  .cond (.tmp 70) (ak [aq 71 0 5,ao 72 71,aa 3 72]) (.skip))) <|
  ak [aa 44 4,ay 45 .add 44 1,aa 4 45]
def mQ:SF:=⟨.seq (ak [cr 1 0,aQ 2 false]) <|
  .seq (.seq (.region false [⟨none,[aJ 6 4 1,aF 7 104 [6],bW 8 7,aa 9 8]⟩,⟨(some (9,false)),[aJ 10 4 1,aF 11 105 [10],bW 12 11]⟩,⟨none,[bF 13 9 12,aa 14 13]⟩,⟨(some (14,false)),[aq 15 2 1,ao 16 15,aI 17 16,ay 18 .lss 17 1]⟩,⟨none,[bF 19 14 18,aa 20 19]⟩,⟨(some (20,false)),[aq 21 2 1,ao 22 21,aI 23 22,ay 24 .gtr 23 40]⟩,⟨none,[bF 25 20 24,aa 26 25]⟩,⟨(some (26,false)),[aq 27 3 1,ao 28 27,ay 29 .lss 28 0]⟩,⟨none,[bF 30 26 29,aa 31 30]⟩,⟨(some (31,false)),[aq 32 3 1,ao 33 32,aq 34 1 1,ao 35 34,aI 36 35,aK 37 .geq 33 36]⟩,⟨none,[bF 38 31 37]⟩]) <|
  .cond (.tmp 38) (.seq (ak [aQ 2 false]) <|
  .ret) (.skip)) <|
  .seq (ak [aD 3 (-1)]) <|
  .seq (.seq (ak [aD 4 0]) <|
  .block 0 (.loop lk)) <|
  .seq (ak [aa 73 3,aq 74 1 1,ao 75 74,aI 76 75,ay 77 .sub 76 1,aK 78 .eql 73 77,aa 2 78]) <|
  .ret,
  [.tmp 2],79⟩
theorem rA:bh Tryz.prog 54 [1]=some mQ:=by kernel_rfl
set_option maxHeartbeats 2000000 in
theorem Ix (g:an) (hg:g.Ok) (H:View):aA Tryz.prog 104 [.agg (aw g)] H fun r _=>r=gb (iK g):=by
  refine aA.of mixed rF ?_
  simp (disch:=omega) only [↓wr,↓reduceIte,wq,ah,ag,aj,ab,ae,af,ai,isNil,Nat.reduceEqDiff,Nat.reduceAdd,Nat.reduceLT,Nat.reduceLeDiff,Int.reduceNeg,Int.reduceToNat,reduceCtorEq,mJ,aw,encS]
  refine av.dec (fun h=>?_) (fun h=>?_)
  · simp (disch:=omega) only [↓wr,↓reduceIte,wq,ah,ag,aj,ab,ae,af,ai,isNil,Nat.reduceEqDiff,Nat.reduceAdd,Nat.reduceLT,Nat.reduceLeDiff,Int.reduceNeg,Int.reduceToNat,reduceCtorEq]
    simp[iK,show ¬ g.ax.length≤24 by omega]
  · have hle:g.ax.length≤24:=by omega
    simp (disch:=omega) only [↓wr,↓reduceIte,wq,ah,ag,aj,ab,ae,af,ai,isNil,Nat.reduceEqDiff,Nat.reduceAdd,Nat.reduceLT,Nat.reduceLeDiff,Int.reduceNeg,Int.reduceToNat,reduceCtorEq]
    refine bw.intro (fun k T _=>∃ i:Nat,i+k=g.ax.length∧iD g (g.ax.drop i) i=iD g g.ax 0∧T 1=.aO (aw g) 0∧T 3=gi i) g.ax.length ?_ ?_
    · exact ⟨0,by omega,rfl,rfl,rfl⟩
    · rintro k T H' ⟨i,hk,hi,h1,h3⟩
      simp (disch:=omega) only [↓wr,↓reduceIte,wq,ah,ag,aj,ab,ae,af,ai,isNil,Nat.reduceEqDiff,Nat.reduceAdd,Nat.reduceLT,Nat.reduceLeDiff,Int.reduceNeg,Int.reduceToNat,reduceCtorEq,kR,h1,h3,aw]
      refine av.dec (fun hc=>?_) (fun hc=>?_)
      · have hg2:g.ax[i]?=some (g.ax[i]'(by omega)):=List.getElem?_eq_getElem (by omega)
        rw[eD (show i < g.ax.length by omega)] at hi
        have hmem:g.ax[i]'(by omega)∈g.ax:=List.getElem_mem _
        generalize g.ax[i]'(by omega)=t at hg2 hi hmem
        obtain ⟨⟨hl1,hl2⟩,⟨ha1,ha2⟩⟩:=hg.term t hmem
        simp only[iD] at hi
        have hbad:iU g i t=false→gb false=gb (iK g):=fun e=>by rw[e,Bool.false_and] at hi; simp[iK,← hi]
        simp (disch:=omega) only [↓wr,↓reduceIte,wq,ah,ag,aj,ab,ae,af,ai,isNil,Nat.reduceEqDiff,Nat.reduceAdd,Nat.reduceLT,Nat.reduceLeDiff,Int.reduceNeg,Int.reduceToNat,reduceCtorEq,h1,h3,aw,cp,List.getElem?_map,hg2,Option.map_some]
        intro m hm
        try simp (disch:=omega) only [↓wr,↓reduceIte,wq,ah,ag,aj,ab,ae,af,ai,isNil,Nat.reduceEqDiff,Nat.reduceAdd,Nat.reduceLT,Nat.reduceLeDiff,Int.reduceNeg,Int.reduceToNat,reduceCtorEq,h1,h3]
        refine aE.pure (HC t.name) (by kernel_rfl) ?_
        repeat' (first | (refine av.dec (fun _=>?_) (fun _=>?_)) | (refine av.eq (fun _=>?_) (fun _=>?_)) | (refine av.ne (fun _=>?_) (fun _=>?_)) | (refine av.split (fun _=>?_) (fun _=>?_)) | (simp (disch:=omega) only [↓wr,↓reduceIte,wq,ah,ag,aj,ab,ae,af,ai,isNil,Nat.reduceEqDiff,Nat.reduceAdd,Nat.reduceLT,Nat.reduceLeDiff,Int.reduceNeg,Int.reduceToNat,reduceCtorEq,h1,h3,aw]))
        all_goals try (refine hbad ?_; simp[iU, *]; done)
        rename_i hnm
        refine aE.pure (BG g hg t.name) (by kernel_rfl) ?_
        repeat' (first | (refine av.dec (fun _=>?_) (fun _=>?_)) | (refine av.eq (fun _=>?_) (fun _=>?_)) | (refine av.ne (fun _=>?_) (fun _=>?_)) | (refine av.split (fun _=>?_) (fun _=>?_)) | (simp (disch:=omega) only [↓wr,↓reduceIte,wq,ah,ag,aj,ab,ae,af,ai,isNil,Nat.reduceEqDiff,Nat.reduceAdd,Nat.reduceLT,Nat.reduceLeDiff,Int.reduceNeg,Int.reduceToNat,reduceCtorEq,h1,h3,aw]))
        all_goals try (refine hbad ?_; simp[iU, *]; done)
        all_goals try (refine hbad ?_; simp[iU]; grind)
        rename_i e1 e2 e3 e4 e5 e6
        have hpre:iU g i t=pv g t:=by
          have e6':((t.level == 0) == (t.assoc == 0))=true:=by simpa using e6
          simp[iU,hnm,e1,e6',show (0:Int)≤t.level by omega,show t.level≤24 by omega,show (0:Int)≤t.assoc by omega,show t.assoc≤3 by omega]
        refine bw.intro (fun k' T H''=>∃ j:Nat,1≤j∧j+k'=t.level.toNat+1∧(∀ q:Nat,q+1 < j→fK g.ax ((q:Int)+1)=true)∧T 1=.aO (aw g) 0∧T 3=gi i∧T 4=.ptr m 0 0∧H'' m=.arr 3 [[gs t.name,gi t.level,gi t.assoc]]∧T 5=gi j) t.level.toNat ?_ ?_
        · refine ⟨1,by omega,by omega,fun q hq=>by omega,?_⟩
          simp (disch:=omega) only [↓wr,↓reduceIte,wq,ah,ag,aj,ab,ae,af,ai,isNil,Nat.reduceEqDiff,Nat.reduceAdd,Nat.reduceLT,Nat.reduceLeDiff,Int.reduceNeg,Int.reduceToNat,reduceCtorEq,h1,h3,aw]
          rfl
        · rintro k' T' H'' ⟨j,hj1,hj2,hj3,f1,f3,f4,fm,f5⟩
          simp (disch:=omega) only [↓wr,↓reduceIte,wq,ah,ag,aj,ab,ae,af,ai,isNil,Nat.reduceEqDiff,Nat.reduceAdd,Nat.reduceLT,Nat.reduceLeDiff,Int.reduceNeg,Int.reduceToNat,reduceCtorEq,kP,f1,f3,f4,f5,fm]
          refine av.dec (fun hd=>?_) (fun hd=>?_)
          · simp (disch:=omega) only [↓wr,↓reduceIte,wq,ah,ag,aj,ab,ae,af,ai,isNil,Nat.reduceEqDiff,Nat.reduceAdd,Nat.reduceLT,Nat.reduceLeDiff,Int.reduceNeg,Int.reduceToNat,reduceCtorEq,f1,f3,f4,f5,fm,aw]
            refine aE.pure (Ie g hg j) (by kernel_rfl) ?_
            repeat' (first | (refine av.dec (fun _=>?_) (fun _=>?_)) | (refine av.eq (fun _=>?_) (fun _=>?_)) | (refine av.ne (fun _=>?_) (fun _=>?_)) | (refine av.split (fun _=>?_) (fun _=>?_)) | (simp (disch:=omega) only [↓wr,↓reduceIte,wq,ah,ag,aj,ab,ae,af,ai,isNil,Nat.reduceEqDiff,Nat.reduceAdd,Nat.reduceLT,Nat.reduceLeDiff,Int.reduceNeg,Int.reduceToNat,reduceCtorEq,f1,f3,f4,f5,fm,aw]))
            · rename_i hb
              refine ⟨k' - 1,by omega,j+1,by omega,by omega,fun q hq=>?_,by first | rfl | exact ⟨rfl,rfl⟩ | exact ⟨rfl,rfl,rfl⟩⟩
              by_cases e:q+1=j
              · have:(q:Int)+1=j:=by omega
                rw[this]; exact hb
              · exact hj3 q (by omega)
            · rename_i hb
              refine hbad ?_
              rw[hpre,pv,List.all_eq_false]
              refine ⟨j - 1,by simp; omega,?_⟩
              have:((j - 1:Nat):Int)+1=j:=by omega
              rw[this,hb]; simp
          · simp (disch:=omega) only [↓wr,↓reduceIte,wq,ah,ag,aj,ab,ae,af,ai,isNil,Nat.reduceEqDiff,Nat.reduceAdd,Nat.reduceLT,Nat.reduceLeDiff,Int.reduceNeg,Int.reduceToNat,reduceCtorEq,f1,f3,f4,f5,fm]
            refine ⟨k - 1,by omega,i+1,by omega,?_,by first | rfl | exact ⟨rfl,rfl⟩ | exact ⟨rfl,rfl,rfl⟩⟩
            have hlv:pv g t=true:=by
              rw[pv,List.all_eq_true]
              intro q hq
              exact hj3 q (by simp at hq; omega)
            rw[hpre,hlv,Bool.true_and] at hi
            push_cast; exact hi
      · rw[List.drop_eq_nil_of_le (by omega)] at hi
        simp only[iD] at hi
        simp (disch:=omega) only [↓wr,↓reduceIte,wq,ah,ag,aj,ab,ae,af,ai,isNil,Nat.reduceEqDiff,Nat.reduceAdd,Nat.reduceLT,Nat.reduceLeDiff,Int.reduceNeg,Int.reduceToNat,reduceCtorEq,h1,h3]
        simp[iK,hle,← hi]
theorem Ih (g:an) (hg:g.Ok):aC Tryz.prog 104 [.agg (aw g)] (gb (iK g)):=aC.val (e9 g) (Ix g hg)
def j6 (g:an) (i:Int) (s:ByteArray):Bool:=fk (ep s) && (wk g s == i) && decide (ky g s < 0)
def pq (g:an):List ByteArray→Int→Bool
  | [],_=>true
  | s :: r,i=>j6 g i s && pq g r (i+1)
def js (g:an):Bool:=decide (1≤g.au.length) && decide (g.au.length≤16) && pq g g.au 0
set_option maxHeartbeats 1000000 in
theorem KD (g:an) (hg:g.Ok) (H:View):aA Tryz.prog 105 [.agg (aw g)] H fun r _=>r=gb (js g):=by
  refine aA.of mixed sL ?_
  repeat' (first | (refine av.dec (fun _=>?_) (fun _=>?_)) | (refine av.eq (fun _=>?_) (fun _=>?_)) | (refine av.ne (fun _=>?_) (fun _=>?_)) | (refine av.split (fun _=>?_) (fun _=>?_)) | (simp (disch:=omega) only [↓wr,↓reduceIte,wq,ah,ag,aj,ab,ae,af,ai,isNil,Nat.reduceEqDiff,Nat.reduceAdd,Nat.reduceLT,Nat.reduceLeDiff,Int.reduceNeg,Int.reduceToNat,reduceCtorEq,nV,aw,encS]))
  · simp[js,show ¬ 1≤g.au.length by omega]
  · simp[js,show ¬ g.au.length≤16 by omega]
  · have hle:g.au.length≤16:=by omega
    refine bw.intro (fun k T _=>∃ i:Nat,i+k=g.au.length∧pq g (g.au.drop i) i=pq g g.au 0∧T 1=.aO (aw g) 0∧T 3=gi i) g.au.length ?_ ?_
    · exact ⟨0,by omega,rfl,rfl,rfl⟩
    · rintro k T H' ⟨i,hk,hi,h1,h3⟩
      simp (disch:=omega) only [↓wr,↓reduceIte,wq,ah,ag,aj,ab,ae,af,ai,isNil,Nat.reduceEqDiff,Nat.reduceAdd,Nat.reduceLT,Nat.reduceLeDiff,Int.reduceNeg,Int.reduceToNat,reduceCtorEq,lr,h1,h3,aw,encS]
      refine av.dec (fun hc=>?_) (fun hc=>?_)
      · have hg2:g.au[i]?=some (g.au[i]'(by omega)):=List.getElem?_eq_getElem (by omega)
        rw[eD (show i < g.au.length by omega)] at hi
        generalize g.au[i]'(by omega)=t at hg2 hi
        simp only[pq] at hi
        have hbad:j6 g i t=false→gb false=gb (js g):=fun e=>by rw[e,Bool.false_and] at hi; simp[js,← hi]
        simp (disch:=omega) only [↓wr,↓reduceIte,wq,ah,ag,aj,ab,ae,af,ai,isNil,Nat.reduceEqDiff,Nat.reduceAdd,Nat.reduceLT,Nat.reduceLeDiff,Int.reduceNeg,Int.reduceToNat,reduceCtorEq,h1,h3,aw,encS,List.getElem?_map,hg2,Option.map_some]
        refine aE.pure (Cl t) (by kernel_rfl) ?_
        repeat' (first | (refine av.dec (fun _=>?_) (fun _=>?_)) | (refine av.eq (fun _=>?_) (fun _=>?_)) | (refine av.ne (fun _=>?_) (fun _=>?_)) | (refine av.split (fun _=>?_) (fun _=>?_)) | (simp (disch:=omega) only [↓wr,↓reduceIte,wq,ah,ag,aj,ab,ae,af,ai,isNil,Nat.reduceEqDiff,Nat.reduceAdd,Nat.reduceLT,Nat.reduceLeDiff,Int.reduceNeg,Int.reduceToNat,reduceCtorEq,h1,h3,aw,encS,List.getElem?_map,hg2,Option.map_some]))
        all_goals try (refine hbad ?_; simp[j6, *]; done)
        rename_i hnm
        refine aE.pure (LZ g hg t) (by kernel_rfl) ?_
        repeat' (first | (refine av.dec (fun _=>?_) (fun _=>?_)) | (refine av.eq (fun _=>?_) (fun _=>?_)) | (refine av.ne (fun _=>?_) (fun _=>?_)) | (refine av.split (fun _=>?_) (fun _=>?_)) | (simp (disch:=omega) only [↓wr,↓reduceIte,wq,ah,ag,aj,ab,ae,af,ai,isNil,Nat.reduceEqDiff,Nat.reduceAdd,Nat.reduceLT,Nat.reduceLeDiff,Int.reduceNeg,Int.reduceToNat,reduceCtorEq,h1,h3,aw,encS,List.getElem?_map,hg2,Option.map_some]))
        all_goals try (refine hbad ?_; simp[j6, *]; done)
        rename_i hno
        refine aE.pure (BG g hg t) (by kernel_rfl) ?_
        repeat' (first | (refine av.dec (fun _=>?_) (fun _=>?_)) | (refine av.eq (fun _=>?_) (fun _=>?_)) | (refine av.ne (fun _=>?_) (fun _=>?_)) | (refine av.split (fun _=>?_) (fun _=>?_)) | (simp (disch:=omega) only [↓wr,↓reduceIte,wq,ah,ag,aj,ab,ae,af,ai,isNil,Nat.reduceEqDiff,Nat.reduceAdd,Nat.reduceLT,Nat.reduceLeDiff,Int.reduceNeg,Int.reduceToNat,reduceCtorEq,h1,h3,aw,encS]))
        all_goals try (refine hbad ?_; simp[j6, *]; done)
        rename_i hte
        refine ⟨k - 1,by omega,i+1,by omega,?_,by first | rfl | exact ⟨rfl,rfl⟩ | exact ⟨rfl,rfl,rfl⟩⟩
        have:j6 g i t=true:=by simp[j6,hnm,hno,show ky g t < 0 by omega]
        rw[this,Bool.true_and] at hi
        push_cast; exact hi
      · rw[List.drop_eq_nil_of_le (by omega)] at hi
        simp only[pq] at hi
        simp (disch:=omega) only [↓wr,↓reduceIte,wq,ah,ag,aj,ab,ae,af,ai,isNil,Nat.reduceEqDiff,Nat.reduceAdd,Nat.reduceLT,Nat.reduceLeDiff,Int.reduceNeg,Int.reduceToNat,reduceCtorEq,h1,h3]
        simp[js,hle,show 1≤g.au.length by omega,← hi]
theorem JH (g:an) (hg:g.Ok):aC Tryz.prog 105 [.agg (aw g)] (gb (js g)):=aC.val (e9 g) (KD g hg)
def kN (g:an) (prec s:Int):Bool:=gX g s && !(decide (0≤s) && prec == -1)
def gm (g:an) (r:aM):Bool:=decide (r.right.length≤6) && decide (-1≤r.prec) && decide (r.prec < g.ax.length) && r.right.all (kN g r.prec)
theorem E0 (g:an) (r:aM):∀ v∈[V.agg (aw g),V.agg (aU r)],Tree v:=by
  intro v hv; simp at hv
  rcases hv with rfl | rfl
  · exact dL _ (eM g)
  · exact dL _ (fU r)
set_option maxHeartbeats 1000000 in
theorem Kg (g:an) (r:aM) (hr:aX r.right∧∀ x∈r.right,cm x) (H:View):aA Tryz.prog 106 [.agg (aw g),.agg (aU r)] H fun v _=>v=gb (gm g r):=by
  refine aA.of mixed sK ?_
  repeat' (first | (refine av.dec (fun _=>?_) (fun _=>?_)) | (refine av.eq (fun _=>?_) (fun _=>?_)) | (refine av.ne (fun _=>?_) (fun _=>?_)) | (refine av.split (fun _=>?_) (fun _=>?_)) | (simp (disch:=omega) only [↓wr,↓reduceIte,wq,ah,ag,aj,ab,ae,af,ai,isNil,Nat.reduceEqDiff,Nat.reduceAdd,Nat.reduceLT,Nat.reduceLeDiff,Int.reduceNeg,Int.reduceToNat,reduceCtorEq,nP,aw,encS,aU,encI]))
  · simp[gm,show ¬ r.right.length≤6 by omega]
  · simp[gm,show ¬ -1≤r.prec by omega]
  · simp[gm,show ¬ r.prec < g.ax.length by omega]
  · have hle:r.right.length≤6:=by omega
    have hp1 : -1≤r.prec:=by omega
    have hp2:r.prec < g.ax.length:=by omega
    refine bw.intro (fun k T _=>∃ i:Nat,i+k=r.right.length∧(r.right.drop i).all (kN g r.prec)=r.right.all (kN g r.prec)∧T 2=.aO (aw g) 0∧T 3=.aO (aU r) 0∧T 5=gi i) r.right.length ?_ ?_
    · exact ⟨0,by omega,rfl,rfl,rfl,rfl⟩
    · rintro k T H' ⟨i,hk,hi,h2,h3,h5⟩
      simp (disch:=omega) only [↓wr,↓reduceIte,wq,ah,ag,aj,ab,ae,af,ai,isNil,Nat.reduceEqDiff,Nat.reduceAdd,Nat.reduceLT,Nat.reduceLeDiff,Int.reduceNeg,Int.reduceToNat,reduceCtorEq,mb,h2,h3,h5,aU,encI]
      refine av.dec (fun hc=>?_) (fun hc=>?_)
      · have hg2:r.right[i]?=some (r.right[i]'(by omega)):=List.getElem?_eq_getElem (by omega)
        rw[eD (show i < r.right.length by omega)] at hi
        have hmem:r.right[i]'(by omega)∈r.right:=List.getElem_mem _
        generalize r.right[i]'(by omega)=t at hg2 hi hmem
        have hin:=hr.2 t hmem
        simp only[List.all_cons] at hi
        have hbad:kN g r.prec t=false→gb false=gb (gm g r):=fun e=>by rw[e,Bool.false_and] at hi; simp only[gm,← hi,Bool.and_false]
        have hok:kN g r.prec t=true→(r.right.drop (i+1)).all (kN g r.prec)=r.right.all (kN g r.prec):=fun e=>by rw[e,Bool.true_and] at hi; exact hi
        simp (disch:=omega) only [↓wr,↓reduceIte,wq,ah,ag,aj,ab,ae,af,ai,isNil,Nat.reduceEqDiff,Nat.reduceAdd,Nat.reduceLT,Nat.reduceLeDiff,Int.reduceNeg,Int.reduceToNat,reduceCtorEq,h2,h3,h5,aw,encS,aU,encI,List.getElem?_map,hg2,Option.map_some]
        refine aE.pure (Og g t hin) (by kernel_rfl) ?_
        repeat' (first | (refine av.dec (fun _=>?_) (fun _=>?_)) | (refine av.eq (fun _=>?_) (fun _=>?_)) | (refine av.ne (fun _=>?_) (fun _=>?_)) | (refine av.split (fun _=>?_) (fun _=>?_)) | (simp (disch:=omega) only [↓wr,↓reduceIte,wq,ah,ag,aj,ab,ae,af,ai,isNil,Nat.reduceEqDiff,Nat.reduceAdd,Nat.reduceLT,Nat.reduceLeDiff,Int.reduceNeg,Int.reduceToNat,reduceCtorEq,h2,h3,h5,aw,encS,aU,encI,List.getElem?_map,hg2,Option.map_some]))
        all_goals first
          | (refine hbad ?_; simp[kN, *]; done)
          | (refine ⟨k - 1,by omega,i+1,by omega,hok (by simp[kN, *]; done),by first | rfl | exact ⟨rfl,rfl⟩ | exact ⟨rfl,rfl,rfl⟩⟩)
          | skip
      · rw[List.drop_eq_nil_of_le (by omega)] at hi
        simp only[List.all_nil] at hi
        simp (disch:=omega) only [↓wr,↓reduceIte,wq,ah,ag,aj,ab,ae,af,ai,isNil,Nat.reduceEqDiff,Nat.reduceAdd,Nat.reduceLT,Nat.reduceLeDiff,Int.reduceNeg,Int.reduceToNat,reduceCtorEq,h2,h3,h5]
        simp only[gm,hle,hp1,hp2,decide_true,Bool.true_and,← hi]
theorem JQ (g:an) (r:aM) (hr:aX r.right∧∀ x∈r.right,cm x):aC Tryz.prog 106 [.agg (aw g),.agg (aU r)] (gb (gm g r)):=aC.val (E0 g r) (Kg g r hr)
def fJ (g:an):List aM→Int→Bool
  | [],top=>top == (g.au.length:Int) - 1
  | r :: l,top=>decide (0≤r.left) && decide (r.left≤top+1) && gm g r && fJ g l (if r.left > top then r.left else top)
def bH (g:an):Bool :=
  iK g && js g && decide (1≤g.rules.length) && decide (g.rules.length≤40) && decide (0≤g.start) && decide (g.start < g.au.length) && fJ g g.rules (-1)
set_option maxHeartbeats 1000000 in
theorem Hc (g:an) (hg:g.Ok) (H:View):aA Tryz.prog 54 [.agg (aw g)] H fun r _=>r=gb (bH g):=by
  refine aA.of mixed rA ?_
  have hn:=hg.au
  unfold aX at hn
  simp (disch:=omega) only [↓wr,↓reduceIte,wq,ah,ag,aj,ab,ae,af,ai,isNil,Nat.reduceEqDiff,Nat.reduceAdd,Nat.reduceLT,Nat.reduceLeDiff,Int.reduceNeg,Int.reduceToNat,reduceCtorEq,mQ,aw,encS]
  refine aE.pure (Ih g hg) (by kernel_rfl) ?_
  repeat' (first | (refine av.dec (fun _=>?_) (fun _=>?_)) | (refine av.eq (fun _=>?_) (fun _=>?_)) | (refine av.ne (fun _=>?_) (fun _=>?_)) | (refine av.split (fun _=>?_) (fun _=>?_)) | (simp (disch:=omega) only [↓wr,↓reduceIte,wq,ah,ag,aj,ab,ae,af,ai,isNil,Nat.reduceEqDiff,Nat.reduceAdd,Nat.reduceLT,Nat.reduceLeDiff,Int.reduceNeg,Int.reduceToNat,reduceCtorEq,aw,encS]))
  · rename_i h1
    refine aE.pure (JH g hg) (by kernel_rfl) ?_
    repeat' (first | (refine av.dec (fun _=>?_) (fun _=>?_)) | (refine av.eq (fun _=>?_) (fun _=>?_)) | (refine av.ne (fun _=>?_) (fun _=>?_)) | (refine av.split (fun _=>?_) (fun _=>?_)) | (simp (disch:=omega) only [↓wr,↓reduceIte,wq,ah,ag,aj,ab,ae,af,ai,isNil,Nat.reduceEqDiff,Nat.reduceAdd,Nat.reduceLT,Nat.reduceLeDiff,Int.reduceNeg,Int.reduceToNat,reduceCtorEq,aw,encS]))
    all_goals try (simp[bH, *]; done)
    all_goals try (simp[bH]; omega)
    rename_i h2 h3 h4 h5 h6
    have hle:g.rules.length≤40:=by omega
    have hpre:∀ b,fJ g g.rules (-1)=b→gb b=gb (bH g):=fun b e=>by
      simp[bH,h1,h2,show 1≤g.rules.length by omega,hle,show 0≤g.start by omega,show g.start < g.au.length by omega,e]
    refine bw.intro (fun k T _=>∃ (i:Nat) (w:Int),i+k=g.rules.length∧-1≤w∧w < i∧fJ g (g.rules.drop i) w=fJ g g.rules (-1)∧T 1=.aO (aw g) 0∧T 3=gi w∧T 4=gi i) g.rules.length ?_ ?_
    · exact ⟨0,-1,by omega,by omega,by omega,rfl,rfl,rfl,rfl⟩
    · rintro k T H' ⟨i,w,hk,hw1,hw2,hi,f1,f3,f4⟩
      simp (disch:=omega) only [↓wr,↓reduceIte,wq,ah,ag,aj,ab,ae,af,ai,isNil,Nat.reduceEqDiff,Nat.reduceAdd,Nat.reduceLT,Nat.reduceLeDiff,Int.reduceNeg,Int.reduceToNat,reduceCtorEq,lk,f1,f3,f4,aw]
      refine av.dec (fun hc=>?_) (fun hc=>?_)
      · have hg2:g.rules[i]?=some (g.rules[i]'(by omega)):=List.getElem?_eq_getElem (by omega)
        rw[eD (show i < g.rules.length by omega)] at hi
        have hmem:g.rules[i]'(by omega)∈g.rules:=List.getElem_mem _
        generalize g.rules[i]'(by omega)=t at hg2 hi hmem
        obtain ⟨⟨hl1,hl2⟩,hp,hr1,hr2⟩:=hg.aG t hmem
        simp only[fJ] at hi
        simp (disch:=omega) only [↓wr,↓reduceIte,wq,ah,ag,aj,ab,ae,af,ai,isNil,Nat.reduceEqDiff,Nat.reduceAdd,Nat.reduceLT,Nat.reduceLeDiff,Int.reduceNeg,Int.reduceToNat,reduceCtorEq,f1,f3,f4,aw,encS,aU,encI,List.getElem?_map,hg2,Option.map_some]
        intro m hm
        try simp (disch:=omega) only [↓wr,↓reduceIte,wq,ah,ag,aj,ab,ae,af,ai,isNil,Nat.reduceEqDiff,Nat.reduceAdd,Nat.reduceLT,Nat.reduceLeDiff,Int.reduceNeg,Int.reduceToNat,reduceCtorEq,f1,f3,f4]
        repeat' (first | (refine av.dec (fun _=>?_) (fun _=>?_)) | (refine av.eq (fun _=>?_) (fun _=>?_)) | (refine av.ne (fun _=>?_) (fun _=>?_)) | (refine av.split (fun _=>?_) (fun _=>?_)) | (simp (disch:=omega) only [↓wr,↓reduceIte,wq,ah,ag,aj,ab,ae,af,ai,isNil,Nat.reduceEqDiff,Nat.reduceAdd,Nat.reduceLT,Nat.reduceLeDiff,Int.reduceNeg,Int.reduceToNat,reduceCtorEq,f1,f3,f4,aw,encS,aU,encI]))
        all_goals try (refine hpre _ ?_; simp only[← hi]; simp; omega)
        rename_i e1 e2
        refine aE.pure (JQ g t ⟨hr1,hr2⟩) (by kernel_rfl) ?_
        repeat' (first | (refine av.dec (fun _=>?_) (fun _=>?_)) | (refine av.eq (fun _=>?_) (fun _=>?_)) | (refine av.ne (fun _=>?_) (fun _=>?_)) | (refine av.split (fun _=>?_) (fun _=>?_)) | (simp (disch:=omega) only [↓wr,↓reduceIte,wq,ah,ag,aj,ab,ae,af,ai,isNil,Nat.reduceEqDiff,Nat.reduceAdd,Nat.reduceLT,Nat.reduceLeDiff,Int.reduceNeg,Int.reduceToNat,reduceCtorEq,f1,f3,f4,aw,encS,aU,encI]))
        all_goals simp only[show 0≤t.left by omega,show t.left≤w+1 by omega,decide_true,Bool.true_and] at hi
        · rename_i e3 e4
          rw[e3,Bool.true_and,if_pos e4] at hi
          exact ⟨k - 1,by omega,i+1,_,by omega,by omega,by push_cast; omega,hi,by first | rfl | exact ⟨rfl,rfl⟩ | exact ⟨rfl,rfl,rfl⟩⟩
        · rename_i e3 e4
          rw[e3,Bool.true_and,if_neg e4] at hi
          exact ⟨k - 1,by omega,i+1,_,by omega,by omega,by push_cast; omega,hi,by first | rfl | exact ⟨rfl,rfl⟩ | exact ⟨rfl,rfl,rfl⟩⟩
        · rename_i e3
          rw[e3,Bool.false_and] at hi
          exact hpre _ hi.symm
      · rw[List.drop_eq_nil_of_le (by omega)] at hi
        simp only[fJ] at hi
        simp (disch:=omega) only [↓wr,↓reduceIte,wq,ah,ag,aj,ab,ae,af,ai,isNil,Nat.reduceEqDiff,Nat.reduceAdd,Nat.reduceLT,Nat.reduceLeDiff,Int.reduceNeg,Int.reduceToNat,reduceCtorEq,f1,f3,f4,aw,encS]
        exact hpre _ hi.symm
  · rename_i h1; simp[bH,h1]
theorem th (g:an) (hg:g.Ok):aC Tryz.prog 54 [.agg (aw g)] (gb (bH g)):=aC.val (e9 g) (Hc g hg)
inductive bY (α:Type) where
  | nil
  | node (v:α) (l r:bY α)
noncomputable def bY.get {α:Type} (z:α) (t:bY α):Nat→α :=
  bY.rec (motive:=fun _=>Nat→α) (fun _=>z) (fun v _ _ gl gr i=>Bool.rec (Bool.rec (gr (i / 2 - 1)) (gl (i / 2)) (Nat.beq (i % 2) 1)) v (Nat.beq i 0)) t
theorem bY.get_nil {α:Type} (z:α) (i:Nat):bY.get z .nil i=z:=rfl
theorem bY.L5 {α:Type} (z v:α) (l r:bY α) (i:Nat):bY.get z (.node v l r) i=match Nat.beq i 0 with
    | true=>v
    | false=>match Nat.beq (i % 2) 1 with
      | true=>bY.get z l (i / 2)
      | false=>bY.get z r (i / 2 - 1):=by
  change (Bool.rec (motive:=fun _=>α) _ _ _:α)=_
  cases Nat.beq i 0 with
  | true=>rfl
  | false=>cases Nat.beq (i % 2) 1 <;> rfl
def bY.val {α:Type} (z:α):bY α→α
  | .nil=>z
  | .node v _ _=>v
def bY.left {α:Type} : bY α→bY α
  | .nil=>.nil
  | .node _ l _=>l
def bY.right {α:Type} : bY α→bY α
  | .nil=>.nil
  | .node _ _ r=>r
noncomputable def bY.put {α:Type} (z:α) (x:α) (d:Nat):bY α→Nat→bY α :=
  Nat.rec (motive:=fun _=>bY α→Nat→bY α) (fun t _=>t) (fun _ pd t i =>
    Bool.rec (Bool.rec (.node (t.val z) t.left (pd t.right (i / 2 - 1))) (.node (t.val z) (pd t.left (i / 2)) t.right) (Nat.beq (i % 2) 1)) (.node x t.left t.right) (Nat.beq i 0)) d
theorem bY.La {α:Type} (z x:α) (d:Nat) (t:bY α) (i:Nat):bY.put z x (d+1) t i=match Nat.beq i 0 with
    | true=>.node x t.left t.right
    | false=>match Nat.beq (i % 2) 1 with
      | true=>.node (t.val z) (bY.put z x d t.left (i / 2)) t.right
      | false=>.node (t.val z) t.left (bY.put z x d t.right (i / 2 - 1)):=by
  change (Bool.rec (motive:=fun _=>bY α) _ _ _:bY α)=_
  cases Nat.beq i 0 with
  | true=>rfl
  | false=>cases Nat.beq (i % 2) 1 <;> rfl
theorem bY.lf {α:Type} (z:α) (t:bY α) (j:Nat):t.get z j=if j=0 then t.val z else if j % 2=1 then t.left.get z (j / 2) else t.right.get z (j / 2 - 1):=by
  cases t with
  | nil=>simp[bY.get_nil,bY.val,bY.left,bY.right]
  | node v l r =>
    simp only[bY.L5,bY.val,bY.left,bY.right]
    by_cases h:j=0
    · subst h; rfl
    · have:Nat.beq j 0=false:=by cases e:Nat.beq j 0 with | true=>exact absurd (Nat.eq_of_beq_eq_true e) h | false=>rfl
      rw[this,if_neg h]
      simp only
      by_cases h2:j % 2=1
      · have:Nat.beq (j % 2) 1=true:=by rw[h2]; rfl
        rw[this,if_pos h2]
      · have:Nat.beq (j % 2) 1=false:=by cases e:Nat.beq (j % 2) 1 with | true=>exact absurd (Nat.eq_of_beq_eq_true e) h2 | false=>rfl
        rw[this,if_neg h2]
theorem bY.lg {α:Type} (z x:α):∀ (d:Nat) (t:bY α) (i j:Nat),i+1 < 2 ^ d→(bY.put z x d t i).get z j=if j=i then x else t.get z j
  | 0,t,i,j,h=>by simp at h
  | d+1,t,i,j,h=>by
    rw[Nat.pow_succ] at h
    simp only[bY.La]
    by_cases hi:i=0
    · subst hi
      have:Nat.beq 0 0=true:=rfl
      rw[this]
      simp only
      rw[bY.lf,bY.lf z t]
      simp only[bY.val,bY.left,bY.right]
      by_cases hj:j=0
      · rw[if_pos hj,if_pos hj]
      · rw[if_neg hj,if_neg hj,if_neg hj]
    · have:Nat.beq i 0=false:=by cases e:Nat.beq i 0 with | true=>exact absurd (Nat.eq_of_beq_eq_true e) hi | false=>rfl
      rw[this]
      simp only
      by_cases h2:i % 2=1
      · have:Nat.beq (i % 2) 1=true:=by rw[h2]; rfl
        rw[this]
        simp only
        rw[bY.lf,bY.lf z t]
        simp only[bY.val,bY.left,bY.right]
        by_cases hj:j=0
        · subst hj; rw[if_pos rfl,if_neg (fun e=>hi e.symm),if_pos rfl]
        · rw[if_neg hj,if_neg hj]
          by_cases hj2:j % 2=1
          · rw[if_pos hj2,if_pos hj2,bY.lg z x d _ _ _ (by omega)]
            by_cases e:j=i
            · subst e; simp
            · rw[if_neg e,if_neg (by omega)]
          · rw[if_neg hj2,if_neg hj2,if_neg (fun e=>hj2 (by rw[e]; exact h2))]
      · have:Nat.beq (i % 2) 1=false:=by cases e:Nat.beq (i % 2) 1 with | true=>exact absurd (Nat.eq_of_beq_eq_true e) h2 | false=>rfl
        rw[this]
        simp only
        rw[bY.lf,bY.lf z t]
        simp only[bY.val,bY.left,bY.right]
        by_cases hj:j=0
        · subst hj; rw[if_pos rfl,if_neg (fun e=>hi e.symm),if_pos rfl]
        · rw[if_neg hj,if_neg hj]
          by_cases hj2:j % 2=1
          · rw[if_pos hj2,if_pos hj2,if_neg (fun e=>h2 (by rw[← e]; exact hj2))]
          · rw[if_neg hj2,if_neg hj2,bY.lg z x d _ _ _ (by omega)]
            by_cases e:j=i
            · subst e; simp
            · rw[if_neg e,if_neg (by omega)]
abbrev deep:Nat:=13
structure ES where
  L:bY V
  H:bY bL
  n:Nat
  w:List Nat
noncomputable def ES.T (s:ES):Env:=s.L.get .any
noncomputable def ES.V (s:ES):View:=s.H.get .dead
noncomputable def ES.put (s:ES) (d:Option Nat) (v:Gv.V):ES:=match d with
  | some t=>⟨s.L.put .any v deep t,s.H,s.n,s.w⟩
  | none=>s
theorem ES.MI {s:ES} {d:Option Nat} {v:Gv.V} (h:∀ t,d=some t→t < 8000):(s.put d v).T=s.T.put d v:=by
  cases d with
  | none=>rfl
  | some t =>
    funext k
    have:=h t rfl
    simp only[ES.put,ES.T,Env.put]
    rw[bY.lg _ _ _ _ _ _ (by simp[deep]; omega)]
noncomputable def Ed (v:V) (eff:aZ) (rd:List Nat) (s:ES):Option (V × ES × Rec):=match eff with
  | .none=>some (v,s,⟨rd,[],false,s.n,s.n⟩)
  | .new o=>match Nat.ble s.n 8000 with
    | true=>some (v,⟨s.L,s.H.put .dead o deep s.n,s.n+1,s.w⟩,⟨rd,[],false,s.n,s.n+1⟩)
    | false=>none
  | .eH id o=>match Nat.ble id 8000 with
    | true=>some (v,⟨s.L,s.H.put .dead o deep id,s.n,id :: s.w⟩,⟨rd,[id],false,s.n,s.n⟩)
    | false=>none
  | .bg id o=>match Nat.ble s.n 8000,Nat.ble id 8000 with
    | true,true=>some (v,⟨s.L,(s.H.put .dead .dead deep id).put .dead o deep s.n,s.n+1,id :: s.w⟩,⟨rd,[id],false,s.n,s.n+1⟩)
    | _,_=>none
noncomputable def Ph (x:SX) (_:Program) (T:Env) (_:View) (_:Nat):Out:=some (x.at T,.none,[])
noncomputable def OI (c a b:SX) (_:Program) (T:Env) (_:View) (_:Nat):Out:=match c.at T with
  | .val (.bool t)=>some (if t then a.at T else b.at T,.none,[])
  | _=>none
noncomputable def Ox (sz:Option Nat) (a:SX) (_:Program) (T:Env) (H:View) (_:Nat):Out:=tV sz (a.at T) H
noncomputable def N4 (sz:Nat) (a x:SX) (_:Program) (T:Env) (H:View) (_:Nat):Out:=Ak sz (a.at T) (x.at T) H
noncomputable def OO (off:Nat) (x:SX) (_:Program) (T:Env) (_:View) (_:Nat):Out:=w7 off (x.at T)
noncomputable def O7 (sz:Nat) (x i:SX) (_:Program) (T:Env) (_:View) (_:Nat):Out:=Ay sz (x.at T) (i.at T)
noncomputable def OZ (x:SX) (_:Program) (T:Env) (_:View) (_:Nat):Out:=(cT (x.at T)).map fun n=>(aj n,.none,[])
noncomputable def NF (op:BinOp) (x y:SX) (_:Program) (T:Env) (_:View) (_:Nat):Out:=vy op (x.at T) (y.at T)
noncomputable def Pz (op:BinOp) (x y:SX) (_:Program) (T:Env) (_:View) (_:Nat):Out:=yI op (x.at T) (y.at T)
noncomputable def O3 (x:SX) (_:Program) (T:Env) (_:View) (_:Nat):Out:=match x.at T with
  | .val (.bool t)=>some (.val (.bool (!t)),.none,[])
  | _=>none
noncomputable def Pu (i:Nat) (x:SX) (_:Program) (T:Env) (_:View) (_:Nat):Out:=match x.at T with
  | .bk vs=>if i < vs.length then some (vs.getD i .any,.none,[]) else none
  | _=>none
noncomputable def OH (x:SX) (_:Program) (T:Env) (_:View) (_:Nat):Out:=match x.at T with
  | .ptr id i j=>some (.ptr id i j,.none,[])
  | .aO e j=>some (.aO e j,.none,[])
  | .fn f a b=>some (.fn f a b,.none,[])
  | _=>none
noncomputable def eI (s:SI):Program→Env→View→Nat→Out:=match s with
  | .bg x=>Ph x
  | .pick c a b=>OI c a b
  | .load sz a=>Ox sz a
  | .store sz a x=>N4 sz a x
  | .addr o x=>OO o x
  | .idx sz x i=>O7 sz x i
  | .len x=>OZ x
  | .arith op x y=>NF op x y
  | .iE op x y=>Pz op x y
  | .not x=>O3 x
  | .ext i x=>Pu i x
  | .yG x=>OH x
  | s=>fun P T H n=>sI P s T H n
theorem Iq (s:SI) (P:Program) (T:Env) (H:View) (n:Nat):eI s P T H n=sI P s T H n:=by
  cases s <;> rfl
abbrev gg:=FuncId→List V→ES→Option (V × ES)
noncomputable def IY (P:Program) (s:SI) (e:ES):Option (V × ES × Rec):=match eI s P e.T e.V e.n with
  | some (v,eff,rd)=>Ed v eff rd e
  | none=>none
noncomputable def Kx (call:gg) (f:SX) (args:List SX) (e:ES):Option (V × ES × Rec):=match f.at e.T with
  | .fn g first cap=>match call g (first ++ args.map (SX.at e.T) ++ cap) e with
    | some (v,e')=>some (v,⟨e.L,e'.H,e'.n,e'.w ++ e.w⟩,⟨[],e'.w,true,e.n,e'.n⟩)
    | none=>none
  | _=>none
noncomputable def eB (P:Program) (call:gg) (b:SB):ES→Option (V × ES × Rec):=match b with
  | .op s=>IY P s
  | .call f args=>Kx call f args
noncomputable def F5 (P:Program) (call:gg):List (Option Nat × SB)→List Rec→ES→Option (ES × List Rec)
  | [],a,e=>some (e,a)
  | (d,b) :: r,a,e=>match eB P call b e with
    | some (v,e',c)=>F5 P call r (a ++ [c]) (e'.put d v)
    | none=>none
noncomputable def Ml (e:ES):Rec:=⟨[],[],false,e.n,e.n⟩
noncomputable def tz:List (Option Nat × SB)→List Rec→ES→ES × List Rec
  | [],a,e=>(e,a)
  | (d,_) :: r,a,e=>tz r (a ++ [Ml e]) (e.put d (.bk []))
noncomputable def Ky (P:Program) (call:gg) (ops:List (Option Nat × SB)) (want:Bool) (v:V) (a:List Rec) (e:ES):Option (ES × List Rec):=match v with
  | .val (.bool b)=>match xor b want with
    | true=>some (tz ops a e)
    | false=>F5 P call ops a e
  | .bk []=>some (tz ops a e)
  | _=>none
noncomputable def eG (P:Program) (call:gg) (g:SG) (a:List Rec) (e:ES):Option (ES × List Rec):=match g.guard with
  | none=>F5 P call g.ops a e
  | some (d,want)=>Ky P call g.ops want (e.T d) a e
noncomputable def KQ (P:Program) (call:gg):List SG→List Rec→ES→Option (ES × List Rec)
  | [],a,e=>some (e,a)
  | g :: r,a,e=>match eG P call g a e with
    | some (e',a')=>KQ P call r a' e'
    | none=>none
inductive DC where
  | skip
  | region (ps:List (Nat × Nat)) (gs:List SG)
  | seq (x y:DC)
  | cond (c:SX) (x y:DC)
  | block (id:Nat) (c:DC)
  | loop (c:DC)
  | exit (id:Nat)
  | ret
  deriving Inhabited
def Je (recs:List Rec) (ps:List (Nat × Nat)):Bool:=ps.all fun (i,k)=>match recs[i]?,recs[k]? with
  | some a,some b=>Aq a b
  | _,_=>false
abbrev ER:=Option (Exit × ES)
abbrev uH:=DC→ES→ER
noncomputable def I5:ES→ER:=fun e=>some (.normal,e)
noncomputable def Gn (P:Program) (call:gg) (ps:List (Nat × Nat)) (gs:List SG) (e:ES):ER:=match KQ P call gs [] e with
  | some (e',recs)=>match Je recs ps with
    | true=>some (.normal,e')
    | false=>none
  | none=>none
noncomputable def Od (run:uH) (x y:DC) (e:ES):ER:=match run x e with
  | some (.normal,e')=>run y e'
  | r=>r
noncomputable def Mm (run:uH) (c:SX) (x y:DC) (e:ES):ER:=match c.at e.T with
  | .val (.bool true)=>run x e
  | .val (.bool false)=>run y e
  | _=>none
noncomputable def Jk (run:uH) (id:Nat) (c:DC) (e:ES):ER:=match run c e with
  | some (r,e')=>some (np id r,e')
  | none=>none
noncomputable def Mn (run:uH) (c:DC) (e:ES):ER:=match run c e with
  | some (.normal,e')=>run (.loop c) e'
  | r=>r
noncomputable def kD (P:Program) (call:gg) (run:uH) (c:DC):ES→ER:=match c with
  | .skip=>I5
  | .region ps gs=>Gn P call ps gs
  | .seq x y=>Od run x y
  | .cond c x y=>Mm run c x y
  | .block id c=>Jk run id c
  | .loop c=>Mn run c
  | .exit id=>fun e=>some (.exit id,e)
  | .ret=>fun e=>some (.ret,e)
noncomputable def Mb (r:SR) (e:ES):Option V:=match r with
  | .tmp t=>some (e.T t)
  | .cell t sz=>match e.T t with
    | .ptr id i j=>match e.V id with
      | .arr _ es=>if i < es.length then kz sz (es.getD i []) j else none
      | _=>none
    | .aO e j=>kz sz e j
    | _=>none
noncomputable def tR:List SR→ES→Option (List V)
  | [],_=>some []
  | r :: l,e=>match Mb r e,tR l e with
    | some v,some vs=>some (v :: vs)
    | _,_=>none
noncomputable def ll:List V→Nat→bY V→bY V
  | [],_,t=>t
  | v :: vs,i,t=>ll vs (i+1) (t.put .any v deep i)
structure DF where
  code:DC
  res:List SR
  n:Nat
noncomputable def NP (l:List SR) (r:ER):Option (V × ES):=match r with
  | some (.ret,e)=>(tR l e).map fun vs=>(ah vs,e)
  | some (.normal,e)=>(tR l e).map fun vs=>(ah vs,e)
  | _=>none
noncomputable def Ob (m:Nat) (r:Option (V × ES)):Option (V × ES):=match r with
  | some (v,e)=>some (v,⟨e.L,e.H,e.n,e.w.filter fun id=>Nat.blt id m⟩)
  | none=>none
noncomputable def N0 (run:uH) (F:DF) (vs:List V) (e:ES):Option (V × ES):=match Nat.ble vs.length F.n,Nat.ble F.n 8000 with
  | true,true=>Ob e.n (NP F.res (run F.code ⟨ll vs 0 .nil,e.H,e.n,[]⟩))
  | _,_=>none
abbrev wM:=FuncId→List V→View→Option V
noncomputable def CV (P:Program) (tab:List (FuncId × DF)) (ext:wM) (run:uH) (g:FuncId) (vs:List V) (e:ES):Option (V × ES):=match ext g vs e.V with
  | some t=>some (t,⟨e.L,e.H,e.n,[]⟩)
  | none=>match tab.find? (fun p=>Nat.beq p.1 g) with
    | some (_,F)=>N0 run F vs e
    | none=>none
noncomputable def Ee (P:Program) (tab:List (FuncId × DF)) (ext:wM):Nat→uH
  | 0=>fun _ _=>none
  | k+1=>kD P (CV P tab ext (Ee P tab ext k)) (Ee P tab ext k)
def z2 (all:List Oper) (ls:List Nat):List (Nat × Nat) :=
  let b:=eA all []
  (ls.zipIdx.map fun (x,i)=>(ls.zipIdx.filter fun (y,k)=>decide (i < k) && !(ordered b i k || x == 0 || y == 0 || (decide (x≤1) && decide (y≤1)))).map fun (_,k)=>(i,k)).flatten
def Dv (P:Program) (n:Nat) (fz:List Nat) (ops:List Oper) (draw:Bool):Option DC:=match cZ P n ops ⟨fz,false⟩ ops with
  | none=>none
  | some l=>if !(group l).all qY then none else
    if draw then (if ko ops then some (.region (z2 ops (l.map fun s=>gT P false s.b)) (group l)) else none) else some (.region [] (group l))
def gQ (P:Program) (n:Nat) (fz:List Nat):Code→Option DC
  | .skip=>some .skip
  | .region _ ops draw=>Dv P n fz ops.toList draw
  | .seq x y=>match gQ P n fz x,gQ P n fz y with
    | some a,some b=>some (.seq a b)
    | _,_=>none
  | .cond c x y=>match gQ P n fz x,gQ P n fz y with
    | some a,some b=>some (.cond (SX.of c) a b)
    | _,_=>none
  | .block id c=>(gQ P n fz c).map (.block id)
  | .loop c=>(gQ P n fz c).map .loop
  | .exit id=>some (.exit id)
  | .ret=>some .ret
  | _=>none
abbrev al (l:List (Option Nat × SB)):DC:=.region [] [⟨none,l⟩]
def aS (P:Program) (f:FuncId) (fz:List Nat):Option DF:=match P.funcs[f]? with
  | some fn=>match fn.body with
    | some c=>match gQ P fn.ntmps fz c,eC P fn.results.toList,cX P f with
      | some sc,some rs,true=>some ⟨sc,rs,fn.ntmps⟩
      | _,_,_=>none
    | none=>none
  | none=>none
end Gv
