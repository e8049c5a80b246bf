/-
  Part 6 of the proof: what the machine does and what the functions answer.
  Conditions: those that each lemma names.
-/
import Derived.Test.YtomcjampldmjoaaGreatSGzWE
set_option linter.unusedSimpArgs false
set_option linter.unusedVariables false
set_option maxRecDepth 100000
namespace Gv
open Go Go.Proofs
structure Term where
  name:ByteArray
  level:Int
  assoc:Int
structure aY where
  left:Int
  right:List Int
  prec:Int
structure aw where
  ay:List Term
  ax:List ByteArray
  rules:List aY
  start:Int
instance:Inhabited Term:=⟨⟨.empty,0,0⟩⟩
instance:Inhabited aY:=⟨⟨0,[],0⟩⟩
def cY (t:Term):List V:=[gs t.name,gi t.level,gi t.assoc]
def bt (r:aY):List V:=[gi r.left,encI r.right,gi r.prec]
def encS (l:List ByteArray):V:=.aM (l.map fun s=>[gs s])
def av (g:aw):List V:=[.aM (g.ay.map cY),encS g.ax,.aM (g.rules.map bt),gi g.start]
theorem fy {α:Type} (l:List α) (f:α→List V) (h:∀ x∈l,∀ v∈f x,Tree v):Tree (.aM (l.map f)):=by
  refine .aM _ fun i j hi hj=>?_
  simp only[List.length_map] at hi
  have e:(l.map f).getD i []=f l[i]:=by simp[List.getD_eq_getElem?_getD,hi]
  rw[e] at hj ⊢
  have e2:(f l[i]).getD j .any=(f l[i])[j]:=by simp[List.getD_eq_getElem?_getD,hj]
  rw[e2]
  exact h _ (List.getElem_mem _) _ (List.getElem_mem _)
theorem cy (cs:List V) (h:∀ v∈cs,Tree v):Tree (.agg cs):=by
  refine .agg _ fun i hi=>?_
  have e2:cs.getD i .any=cs[i]:=by simp[List.getD_eq_getElem?_getD,hi]
  rw[e2]; exact h _ (List.getElem_mem _)
theorem Bx (l:List ByteArray):Tree (encS l):=fy _ _ fun x _ v hv=>by simp at hv; subst hv; exact .val _
theorem AI (t:Term):∀ v∈cY t,Tree v:=by intro v hv; simp[cY] at hv; rcases hv with rfl | rfl | rfl <;> exact .val _
theorem qi (r:aY):∀ v∈bt r,Tree v:=by
  intro v hv; simp[bt] at hv; rcases hv with rfl | rfl | rfl
  · exact .val _
  · exact ej _
  · exact .val _
theorem cH (g:aw):∀ v∈av g,Tree v:=by
  intro v hv; simp[av] at hv; rcases hv with rfl | rfl | rfl | rfl
  · exact fy _ _ fun x _=>AI x
  · exact Bx _
  · exact fy _ _ fun x _=>qi x
  · exact .val _
def bW (x:Int):Prop:=-9223372036854775808≤x∧x≤9223372036854775807
structure aw.Ok (g:aw):Prop where
  ay:bc g.ay
  ax:bc g.ax
  rules:bc g.rules
  start:bW g.start
  term:∀ t∈g.ay,bW t.level∧bW t.assoc
  bN:∀ r∈g.rules,bW r.left∧bW r.prec∧bc r.right∧∀ x∈r.right,bW x
def j7 (g:aw) (s:Int):Bool:=if 0≤s then decide (s < g.ay.length) else decide (-1 - s < g.ax.length)
def nN:SF:=⟨.seq (aq [bA 2 0,aN 4 false]) <|
  .seq (.seq (aq [aa 5 1,au 6 .geq 5 0]) <|
  .cond (.tmp 6) (.seq (aq [aa 7 1,an 8 0 2,ak 9 8,aC 10 9,aF 11 .lss 7 10,aa 4 11]) <|
  .ret) (.skip)) <|
  .seq (aq [aa 12 1,((some 13),.op (.arith .sub (.val (.val (.int .i64 (-1)))) (.tmp 12))),an 14 1 2,ak 15 14,aC 16 15,aF 17 .lss 13 16,aa 4 17]) <|
  .ret,
  [.tmp 4],18⟩
theorem tC:bo Tryz.prog 143 [2]=some nN:=by kernel_rfl
theorem MB (g:aw) (s:Int) (hs:bW s) (H:View):aL Tryz.prog 143 [.agg (av g),gi s] H fun r H'=>r=gb (j7 g s)∧H'=H:=by
  refine aL.of mixed tC ?_
  obtain ⟨h1,h2⟩:=hs
  simp (disch:=omega) only [↓wr,↓reduceIte,wq,ai,ag,Nat.reduceEqDiff,Nat.reduceAdd,Nat.reduceLeDiff,Int.reduceNeg,nN,av,encS]
  refine ar.dec (fun h=>?_) (fun h=>?_)
  · simp (disch:=omega) only [↓wr,↓reduceIte,wq,ag,ao,Nat.reduceEqDiff,Nat.reduceAdd,Nat.reduceLT,Int.reduceNeg,reduceCtorEq]
    simp[j7,show (0:Int)≤s from h]
  · simp (disch:=omega) only [↓wr,↓reduceIte,wq,ag,ao,Nat.reduceEqDiff,Nat.reduceAdd,Nat.reduceLT,Int.reduceNeg,reduceCtorEq]
    simp[j7,show ¬ (0:Int)≤s from h]
theorem Mn (g:aw) (s:Int) (hs:bW s):aJ Tryz.prog 143 [.agg (av g),gi s] (gb (j7 g s)) :=
  aJ.of (by
    intro v hv; simp at hv
    rcases hv with rfl | rfl
    · exact cy _ (cH g)
    · exact .val _) ((MB g s hs _).mono fun r H' h h' _=>by rw[h.1]; exact .tree _ (.val _))
def kJ (g:aw):Bool:=decide (40 < g.ay.length) || decide (40 < g.ax.length) || decide (60 < g.rules.length) || g.rules.any fun r=>decide (20 < r.right.length)
def jP:SC :=
  .seq (.seq (aq [aa 20 3,an 21 2 1,ak 22 21,aC 23 22,aF 24 .lss 20 23]) <|
  .cond (.tmp 24) (.skip) (.exit 0)) <|
  .seq (.block 1 (.seq (aq [an 27 2 1,ak 28 27,aa 29 3,aG 30 3 28 29,an 31 1 30,ak 32 31,aC 33 32,au 34 .gtr 33 20]) <|
  .cond (.tmp 34) (.seq (aq [aN 2 true]) <|
  .ret) (.skip))) <|
  aq [aa 25 3,au 26 .add 25 1,aa 3 26]
def kY:SF:=⟨.seq (aq [bA 1 0,aN 2 false]) <|
  .seq (.seq (.region false [⟨none,[an 4 0 1,ak 5 4,aC 6 5,au 7 .gtr 6 40,aa 8 7]⟩,⟨(some (8,false)),[an 9 1 1,ak 10 9,aC 11 10,au 12 .gtr 11 40]⟩,⟨none,[aX 13 8 12,aa 14 13]⟩,⟨(some (14,false)),[an 15 2 1,ak 16 15,aC 17 16,au 18 .gtr 17 60]⟩,⟨none,[aX 19 14 18]⟩]) <|
  .cond (.tmp 19) (.seq (aq [aN 2 true]) <|
  .ret) (.skip)) <|
  .seq (.seq (aq [aA 3 0]) <|
  .block 0 (.loop jP)) <|
  .seq (aq [aN 2 false]) <|
  .ret,
  [.tmp 2],35⟩
theorem qy:bo Tryz.prog 12 [1]=some kY:=by kernel_rfl
theorem JJ (g:aw) (H:View):aL Tryz.prog 12 [.agg (av g)] H fun r H'=>r=gb (kJ g)∧H'=H:=by
  refine aL.of mixed qy ?_
  simp (disch:=omega) only [↓wr,↓reduceIte,wq,ai,ag,ao,Nat.reduceEqDiff,Nat.reduceAdd,Nat.reduceLT,Nat.reduceLeDiff,kY,av,encS]
  refine ar.dec (fun h1=>?_) (fun h1=>?_)
  · simp (disch:=omega) only [↓wr,↓reduceIte,wq,Nat.reduceEqDiff,reduceCtorEq]
    simp[kJ,show 40 < g.ay.length by omega]
  · simp (disch:=omega) only [↓wr,↓reduceIte,wq,ag,ao,Nat.reduceEqDiff,Nat.reduceAdd,Nat.reduceLT]
    refine ar.dec (fun h2=>?_) (fun h2=>?_)
    · simp (disch:=omega) only [↓wr,↓reduceIte,wq,Nat.reduceEqDiff,reduceCtorEq]
      simp[kJ,show 40 < g.ax.length by omega]
    · simp (disch:=omega) only [↓wr,↓reduceIte,wq,ag,ao,Nat.reduceEqDiff,Nat.reduceAdd,Nat.reduceLT]
      refine ar.dec (fun h3=>?_) (fun h3=>?_)
      · simp (disch:=omega) only [↓wr,↓reduceIte,wq,reduceCtorEq]
        simp[kJ,show 60 < g.rules.length by omega]
      · simp (disch:=omega) only [↓wr,wq]
        refine bC.intro (fun k T H'=>∃ i:Nat,i+k=g.rules.length∧(∀ r∈g.rules.take i,¬ 20 < r.right.length)∧T 1=.aQ (av g) 0∧T 3=gi i∧H'=H) g.rules.length ?_ ?_
        · exact ⟨0,by omega,by simp,rfl,rfl,rfl⟩
        · rintro k T H' ⟨i,hk,hi,e1,e3,rfl⟩
          simp (disch:=omega) only [↓wr,↓reduceIte,wq,ag,ao,Nat.reduceEqDiff,Nat.reduceAdd,Nat.reduceLT,reduceCtorEq,jP,e1,e3,av]
          refine ar.dec (fun hc=>?_) (fun hc=>?_)
          · have hg:g.rules[i]?=some (g.rules[i]'(by omega)):=List.getElem?_eq_getElem (by omega)
            simp (disch:=omega) only [↓wr,↓reduceIte,wq,ag,ao,Nat.reduceEqDiff,Nat.reduceAdd,Nat.reduceLT,e1,e3,av,bt,encI,List.getElem?_map,hg]
            refine ar.dec (fun hd=>?_) (fun hd=>?_)
            · simp (disch:=omega) only [↓wr,↓reduceIte,wq,ag,Nat.reduceEqDiff,reduceCtorEq]
              have:g.rules.any (fun r=>decide (20 < r.right.length))=true:=by
                simp only[List.any_eq_true,decide_eq_true_eq]
                exact ⟨g.rules[i]'(by omega),List.getElem_mem _,by omega⟩
              simp[kJ,this]
            · simp (disch:=omega) only [↓wr,↓reduceIte,wq,ag,Nat.reduceEqDiff,reduceCtorEq,e1,e3]
              refine ⟨k - 1,by omega,i+1,by omega,?_,rfl,rfl⟩
              intro r hr
              rw[List.take_add_one,hg] at hr
              simp only[Option.toList_some,List.mem_append,List.mem_singleton] at hr
              rcases hr with hr | rfl
              · exact hi r hr
              · omega
          · simp (disch:=omega) only [↓wr,↓reduceIte,wq,Nat.reduceEqDiff,reduceCtorEq]
            have e:i=g.rules.length:=by omega
            rw[List.take_of_length_le (by omega)] at hi
            have:g.rules.any (fun r=>decide (20 < r.right.length))=false:=by
              simp only[List.any_eq_false,decide_eq_true_eq]; exact hi
            simp only[kJ,this]
            simp; omega
def dC (l:List Int) (is:List Bool) (ay:Bool):Bool:=l.all fun s=>if 0≤s then ay else is.getD (-1 - s).toNat false
def ld:SC :=
  .seq (.seq (aq [aa 8 7,aa 9 0,aC 10 9,aF 11 .lss 8 10]) <|
  .cond (.tmp 11) (.skip) (.exit 0)) <|
  .seq (.block 1 (.seq (.region false [⟨none,[aa 14 0,aa 15 7,aG 16 1 14 15,ak 17 16,au 18 .geq 17 0,aa 19 18]⟩,⟨(some (19,true)),[aa 20 2,bB 21 20]⟩,⟨none,[bj 22 19 21,aa 23 22]⟩,⟨(some (23,false)),[aa 24 0,aa 25 7,aG 26 1 24 25,ak 27 26,au 28 .lss 27 0,aa 29 28]⟩,⟨(some (29,true)),[aa 30 1,aa 31 0,aa 32 7,aG 33 1 31 32,ak 34 33,((some 35),.op (.arith .sub (.val (.val (.int .i64 (-1)))) (.tmp 34))),aG 36 1 30 35,ak 37 36,bB 38 37]⟩,⟨(some (23,false)),[bj 39 29 38]⟩,⟨none,[aX 40 23 39]⟩]) <|
  .cond (.tmp 40) (.seq (aq [aN 6 false]) <|
  .ret) (.skip))) <|
  aq [aa 12 7,au 13 .add 12 1,aa 7 13]
def nV:SF:=⟨.seq (aq [aN 6 false]) <|
  .seq (.seq (aq [aA 7 0]) <|
  .block 0 (.loop ld)) <|
  .seq (aq [aN 6 true]) <|
  .ret,
  [.tmp 6],41⟩
theorem uy:bo Tryz.prog 117 []=some nV:=by kernel_rfl
theorem MR (l:List Int) (is:List Bool) (t:Bool) (hl:bc l) (hs:∀ s∈l,bW s∧(s < 0→-1 - s < is.length)) (H:View) :
    aL Tryz.prog 117 [encI l,cO is,gb t] H fun r H'=>r=gb (dC l is t)∧H'=H:=by
  refine aL.of mixed uy ?_
  unfold bc at hl
  simp (disch:=omega) only [↓wr,wq,ai,Nat.reduceAdd,Nat.reduceLeDiff,nV]
  refine bC.intro (fun k T H'=>∃ i:Nat,i+k=l.length∧dC (l.take i) is t=true∧T 0=encI l∧T 1=cO is∧T 2=gb t∧T 7=gi i∧H'=H) l.length ?_ ?_
  · exact ⟨0,by omega,by simp[dC],rfl,rfl,rfl,rfl,rfl⟩
  · rintro k T H' ⟨i,hk,hi,h0,h1,h2,h7,rfl⟩
    simp (disch:=omega) only [↓wr,↓reduceIte,wq,ag,ao,Nat.reduceEqDiff,Int.reduceNeg,reduceCtorEq,ld,h0,h7,encI]
    refine ar.dec (fun hc=>?_) (fun hc=>?_)
    · have hg:l[i]?=some (l[i]'(by omega)):=List.getElem?_eq_getElem (by omega)
      have hm:l[i]'(by omega)∈l:=List.getElem_mem _
      generalize l[i]'(by omega)=s at hg hm
      obtain ⟨⟨hs1,hs2⟩,hs3⟩:=hs s hm
      have hstep:dC (l.take (i+1)) is t=(if 0≤s then t else is.getD (-1 - s).toNat false):=by
        rw[List.take_add_one,hg]
        simp only[dC,Option.toList_some,List.all_append,List.all_cons,List.all_nil,Bool.and_true] at hi ⊢
        rw[hi,Bool.true_and]
      have hfail:(if 0≤s then t else is.getD (-1 - s).toNat false)=false→dC l is t=false:=by
        intro hb
        simp only[dC,List.all_eq_false]
        exact ⟨s,hm,by simpa using hb⟩
      simp (disch:=omega) only [↓wr,↓reduceIte,wq,ag,Nat.reduceEqDiff,Nat.reduceLT,Int.reduceNeg,reduceCtorEq,h0,h7,encI,List.getElem?_map,hg]
      refine ar.dec (fun hd=>?_) (fun hd=>?_)
      · rw[if_pos (show 0≤s from hd)] at hstep hfail
        cases t with
        | true =>
          simp (disch:=omega) only [↓wr,↓reduceIte,wq,ag,Nat.reduceEqDiff,Nat.reduceLT,Int.reduceNeg,reduceCtorEq,h0,h2,h7,encI,List.getElem?_map,hg]
          refine ar.dec (fun hn=>absurd hn (by omega)) (fun _=>?_)
          simp (disch:=omega) only [↓wr,↓reduceIte,wq,ag,Nat.reduceEqDiff,Int.reduceNeg,reduceCtorEq,h0,h1,h2,h7,encI,cO]
          exact ⟨k - 1,by omega,i+1,by omega,hstep,rfl⟩
        | false =>
          simp (disch:=omega) only [↓wr,↓reduceIte,wq,ag,Nat.reduceEqDiff,Int.reduceNeg,reduceCtorEq,h0,h1,h2,h7,encI]
          rw[hfail rfl]
      · rw[if_neg (show ¬ 0≤s from hd)] at hstep hfail
        simp (disch:=omega) only [↓wr,↓reduceIte,wq,ag,Nat.reduceEqDiff,Nat.reduceLT,Int.reduceNeg,reduceCtorEq,h0,h7,encI,List.getElem?_map,hg]
        refine ar.dec (fun hn=>?_) (fun hn=>absurd hn (by omega))
        have hb:is[(-1 - s).toNat]?=some (is[(-1 - s).toNat]'(by omega)):=List.getElem?_eq_getElem (by omega)
        have hbd:is.getD (-1 - s).toNat false=is[(-1 - s).toNat]'(by omega):=by simp[List.getD_eq_getElem?_getD,hb]
        rw[hbd] at hstep hfail
        generalize is[(-1 - s).toNat]'(by omega)=b at hb hstep hfail
        simp (disch:=omega) only [↓wr,↓reduceIte,wq,ag,Nat.reduceEqDiff,Nat.reduceLT,Int.reduceNeg,reduceCtorEq,h0,h1,h7,encI,cO,List.getElem?_map,hg,hb]
        cases b with
        | true =>
          simp (disch:=omega) only [↓wr,↓reduceIte,wq,ag,Nat.reduceEqDiff,Int.reduceNeg,reduceCtorEq,h0,h1,h2,h7,encI,cO]
          exact ⟨k - 1,by omega,i+1,by omega,hstep,rfl⟩
        | false =>
          simp (disch:=omega) only [↓wr,↓reduceIte,wq,ag,Nat.reduceEqDiff,Int.reduceNeg,reduceCtorEq,h0,h1,h2,h7,encI,cO]
          rw[hfail rfl]
    · simp (disch:=omega) only [↓wr,↓reduceIte,wq,Nat.reduceEqDiff,reduceCtorEq]
      have e:i=l.length:=by omega
      rw[List.take_of_length_le (by omega)] at hi
      rw[hi]
abbrev gy (x:Int):V:=.val (.int .u8 x)
def rI (c:Int):Bool:=(decide (97≤c) && decide (c≤122)) || (decide (65≤c) && decide (c≤90)) || c == 95
def kg (c:Int):Bool:=rI c || (decide (48≤c) && decide (c≤57)) || c == 46
def lg:SF:=⟨.seq (aq [aN 2 false]) <|
  .seq (.region false [⟨none,[aa 3 0,((some 4),.op (.arith .geq (.tmp 3) (.val (.val (.int .u8 97))))),aa 5 4]⟩,⟨(some (5,true)),[aa 6 0,((some 7),.op (.arith .leq (.tmp 6) (.val (.val (.int .u8 122)))))]⟩,⟨none,[bj 8 5 7,aa 9 8]⟩,⟨(some (9,false)),[aa 10 0,((some 11),.op (.arith .geq (.tmp 10) (.val (.val (.int .u8 65))))),aa 12 11]⟩,⟨(some (12,true)),[aa 13 0,((some 14),.op (.arith .leq (.tmp 13) (.val (.val (.int .u8 90)))))]⟩,⟨(some (9,false)),[bj 15 12 14]⟩,⟨none,[aX 16 9 15,aa 17 16]⟩,⟨(some (17,false)),[aa 18 0,((some 19),.op (.arith .eql (.tmp 18) (.val (.val (.int .u8 95)))))]⟩,⟨none,[aX 20 17 19,aa 2 20]⟩]) <|
  .ret,
  [.tmp 2],21⟩
theorem qL:bo Tryz.prog 192 []=some lg:=by kernel_rfl
def lv:SF:=⟨.seq (aq [aN 2 false]) <|
  .seq (.region false [⟨none,[aa 3 0,aI 4 192 [3],aa 5 4]⟩,⟨(some (5,false)),[aa 6 0,((some 7),.op (.arith .geq (.tmp 6) (.val (.val (.int .u8 48))))),aa 8 7]⟩,⟨(some (8,true)),[aa 9 0,((some 10),.op (.arith .leq (.tmp 9) (.val (.val (.int .u8 57)))))]⟩,⟨(some (5,false)),[bj 11 8 10]⟩,⟨none,[aX 12 5 11,aa 13 12]⟩,⟨(some (13,false)),[aa 14 0,((some 15),.op (.arith .eql (.tmp 14) (.val (.val (.int .u8 46)))))]⟩,⟨none,[aX 16 13 15,aa 2 16]⟩]) <|
  .ret,
  [.tmp 2],17⟩
theorem qM:bo Tryz.prog 193 []=some lv:=by kernel_rfl
theorem Kw (c:Int) (H:View):aL Tryz.prog 192 [gy c] H fun r H'=>r=gb (rI c)∧H'=H:=by
  refine aL.of mixed qL ?_
  repeat' (first | (refine ar.dec (fun _=>?_) (fun _=>?_)) | (refine ar.eq (fun _=>?_) (fun _=>?_)) | (refine ar.ne (fun _=>?_) (fun _=>?_)) | (refine ar.split (fun _=>?_) (fun _=>?_)) | (simp (disch:=omega) only [↓wr,↓reduceIte,wq,ai,ag,Nat.reduceEqDiff,Nat.reduceLeDiff,reduceCtorEq,lg]))
  all_goals (congr 2; simp only[rI]; grind)
theorem DR (c:Int):aJ Tryz.prog 192 [gy c] (gb (rI c)) :=
  aJ.of (by intro v hv; simp at hv; subst hv; exact .val _) ((Kw c _).mono fun r H' h h' _=>by rw[h.1]; exact .tree _ (.val _))
theorem JI (c:Int) (H:View):aL Tryz.prog 193 [gy c] H fun r H'=>r=gb (kg c)∧H'=H:=by
  refine aL.of mixed qM ?_
  repeat' (first | (refine ar.dec (fun _=>?_) (fun _=>?_)) | (refine ar.eq (fun _=>?_) (fun _=>?_)) | (refine ar.ne (fun _=>?_) (fun _=>?_)) | (refine ar.split (fun _=>?_) (fun _=>?_)) | (simp (disch:=omega) only [↓wr,↓reduceIte,wq,ai,Nat.reduceLeDiff,reduceCtorEq,lv]))
  refine aO.pure (DR c) (by kernel_rfl) ?_
  repeat' (first | (refine ar.dec (fun _=>?_) (fun _=>?_)) | (refine ar.eq (fun _=>?_) (fun _=>?_)) | (refine ar.ne (fun _=>?_) (fun _=>?_)) | (refine ar.split (fun _=>?_) (fun _=>?_)) | (simp (disch:=omega) only [↓wr,↓reduceIte,wq,ag,Nat.reduceEqDiff,reduceCtorEq]))
  all_goals (congr 2; simp only[kg]; grind)
theorem Kx (c:Int):aJ Tryz.prog 193 [gy c] (gb (kg c)) :=
  aJ.of (by intro v hv; simp at hv; subst hv; exact .val _) ((JI c _).mono fun r H' h h' _=>by rw[h.1]; exact .tree _ (.val _))
def ed (l:List Int):Bool:=decide (0 < l.length) && decide (l.length≤20) && (match l with | c :: _=>rI c | []=>false) && l.all kg
def kr:SC :=
  .seq (.seq (aq [aa 18 3,aa 19 0,((some 20),.op (.fp (.tmp 19))),aF 21 .lss 18 20]) <|
  .cond (.tmp 21) (.skip) (.exit 0)) <|
  .seq (.block 1 (.seq (aq [aa 24 0,aa 25 3,((some 26),.op (.cF (.tmp 24) (.tmp 25))),aI 27 193 [26],bB 28 27]) <|
  .cond (.tmp 28) (.seq (aq [aN 2 false]) <|
  .ret) (.skip))) <|
  aq [aa 22 3,au 23 .add 22 1,aa 3 23]
def na:SF:=⟨.seq (aq [aN 2 false]) <|
  .seq (.seq (.region false [⟨none,[aa 4 0,((some 5),.op (.fp (.tmp 4))),au 6 .eql 5 0,aa 7 6]⟩,⟨(some (7,false)),[aa 8 0,((some 9),.op (.fp (.tmp 8))),au 10 .gtr 9 20]⟩,⟨none,[aX 11 7 10,aa 12 11]⟩,⟨(some (12,false)),[aa 13 0,((some 14),.op (.cF (.tmp 13) (.val (.val (.int .i64 0))))),aI 15 192 [14],bB 16 15]⟩,⟨none,[aX 17 12 16]⟩]) <|
  .cond (.tmp 17) (.seq (aq [aN 2 false]) <|
  .ret) (.skip)) <|
  .seq (.seq (aq [aA 3 0]) <|
  .block 0 (.loop kr)) <|
  .seq (aq [aN 2 true]) <|
  .ret,
  [.tmp 2],29⟩
theorem sK:bo Tryz.prog 142 []=some na:=by kernel_rfl
theorem I4 (s:ByteArray) (H:View):aL Tryz.prog 142 [gs s] H fun r H'=>r=gb (ed (dH s))∧H'=H:=by
  refine aL.of mixed sK ?_
  repeat' (first | (refine ar.dec (fun _=>?_) (fun _=>?_)) | (refine ar.eq (fun _=>?_) (fun _=>?_)) | (refine ar.ne (fun _=>?_) (fun _=>?_)) | (refine ar.split (fun _=>?_) (fun _=>?_)) | (simp (disch:=omega) only [↓wr,↓reduceIte,wq,ai,ag,ao,Nat.reduceEqDiff,Nat.reduceLeDiff,Int.reduceToNat,reduceCtorEq,na,c5]))
  · rename_i h
    congr 2; simp[ed,show (dH s).length=0 by omega]
  · rename_i h
    congr 2; simp[ed,show ¬ (dH s).length≤20 by omega]
  · rename_i h1 h2
    cases hb:dH s with
    | nil=>simp[hb] at h1
    | cons c l =>
      repeat' (first | (refine ar.dec (fun _=>?_) (fun _=>?_)) | (refine ar.eq (fun _=>?_) (fun _=>?_)) | (refine ar.ne (fun _=>?_) (fun _=>?_)) | (refine ar.split (fun _=>?_) (fun _=>?_)) | (simp (disch:=omega) only [↓wr,↓reduceIte,wq,List.getElem?_cons_zero]))
      refine aO.pure (DR c) (by kernel_rfl) ?_
      repeat' (first | (refine ar.dec (fun _=>?_) (fun _=>?_)) | (refine ar.eq (fun _=>?_) (fun _=>?_)) | (refine ar.ne (fun _=>?_) (fun _=>?_)) | (refine ar.split (fun _=>?_) (fun _=>?_)) | (simp (disch:=omega) only [↓wr,↓reduceIte,wq,Nat.reduceEqDiff,reduceCtorEq]))
      · rename_i hf
        refine bC.intro (fun k T H'=>∃ i:Nat,i+k=(c :: l).length∧((c :: l).take i).all kg=true∧T 0=gs s∧T 3=gi i∧H'=H) (c :: l).length ?_ ?_
        · exact ⟨0,by omega,by simp,rfl,rfl,rfl⟩
        · rintro k T H' ⟨i,hk,hi,h0,h3,rfl⟩
          rw[hb] at h1 h2
          simp (disch:=omega) only [↓wr,↓reduceIte,wq,ag,ao,Nat.reduceEqDiff,reduceCtorEq,kr,h0,h3,c5,hb]
          refine ar.dec (fun hc=>?_) (fun hc=>?_)
          · simp only[List.length_cons] at hc hk h2
            have hg:(c :: l)[i]?=some ((c :: l)[i]'(by simp; omega)):=List.getElem?_eq_getElem (by simp; omega)
            have hm:(c :: l)[i]'(by simp; omega)∈c :: l:=List.getElem_mem _
            generalize (c :: l)[i]'(by simp; omega)=d at hg hm
            simp (disch:=omega) only [↓wr,↓reduceIte,wq,Nat.reduceEqDiff,reduceCtorEq,h0,h3,hb,hg]
            refine aO.pure (Kx d) (by kernel_rfl) ?_
            repeat' (first | (refine ar.dec (fun _=>?_) (fun _=>?_)) | (refine ar.eq (fun _=>?_) (fun _=>?_)) | (refine ar.ne (fun _=>?_) (fun _=>?_)) | (refine ar.split (fun _=>?_) (fun _=>?_)) | (simp (disch:=omega) only [↓wr,↓reduceIte,wq,ag,Nat.reduceEqDiff,reduceCtorEq,h0,h3]))
            · rename_i hd
              refine ⟨k - 1,by omega,i+1,by omega,?_,rfl⟩
              rw[List.take_add_one,hg]
              simp only[Option.toList_some,List.all_append,hi,List.all_cons,hd,List.all_nil,Bool.and_self]
            · rename_i hd
              congr 2
              have:(c :: l).all kg=false:=by
                rw[List.all_eq_false]; exact ⟨d,hm,by simp[hd]⟩
              simp only[ed,this,Bool.and_false]
          · simp (disch:=omega) only [↓wr,↓reduceIte,wq,Nat.reduceEqDiff,reduceCtorEq]
            simp only[List.length_cons] at hc hk h2
            rw[List.take_of_length_le (by simp; omega)] at hi
            congr 2
            simp only[ed,hi,List.length_cons]
            simp[hf]; omega
      · rename_i hf
        congr 2; simp[ed,hf]
def jo:List Int→Bool
  | [a,b,c]=>a == 39 && c == 39 && decide (32≤b) && decide (b≤126) && b != 39 && b != 92
  | [a,b,c,d]=>a == 39 && d == 39 && b == 92 && (c == 110 || c == 116 || c == 92 || c == 39)
  | _=>false
theorem KJ {l:List Int} (h3:l.length≠3) (h4:l.length≠4):jo l=false:=by
  match l,h3,h4 with
  | [],_,_=>rfl
  | [_],_,_=>rfl
  | [_,_],_,_=>rfl
  | [_,_,_],h3,_=>exact absurd rfl h3
  | [_,_,_,_],_,h4=>exact absurd rfl h4
  | _ :: _ :: _ :: _ :: _ :: _,_,_=>rfl
theorem NV {α:Type} {l:List α} (h:l.length=3):∃ a b c,l=[a,b,c]:=by
  match l,h with
  | [a,b,c],_=>exact ⟨a,b,c,rfl⟩
theorem NO {α:Type} {l:List α} (h:l.length=4):∃ a b c d,l=[a,b,c,d]:=by
  match l,h with
  | [a,b,c,d],_=>exact ⟨a,b,c,d,rfl⟩
def jT:SF:=⟨.seq (aq [aN 2 false]) <|
  .seq (.seq (aq [aa 3 0,((some 4),.op (.fp (.tmp 3))),au 5 .eql 4 3]) <|
  .cond (.tmp 5) (.seq (.region false [⟨none,[aa 6 0,((some 7),.op (.cF (.tmp 6) (.val (.val (.int .i64 0))))),((some 8),.op (.arith .eql (.tmp 7) (.val (.val (.int .u8 39))))),aa 9 8]⟩,⟨(some (9,true)),[aa 10 0,((some 11),.op (.cF (.tmp 10) (.val (.val (.int .i64 2))))),((some 12),.op (.arith .eql (.tmp 11) (.val (.val (.int .u8 39)))))]⟩,⟨none,[bj 13 9 12,aa 14 13]⟩,⟨(some (14,true)),[aa 15 0,((some 16),.op (.cF (.tmp 15) (.val (.val (.int .i64 1))))),((some 17),.op (.arith .geq (.tmp 16) (.val (.val (.int .u8 32)))))]⟩,⟨none,[bj 18 14 17,aa 19 18]⟩,⟨(some (19,true)),[aa 20 0,((some 21),.op (.cF (.tmp 20) (.val (.val (.int .i64 1))))),((some 22),.op (.arith .leq (.tmp 21) (.val (.val (.int .u8 126)))))]⟩,⟨none,[bj 23 19 22,aa 24 23]⟩,⟨(some (24,true)),[aa 25 0,((some 26),.op (.cF (.tmp 25) (.val (.val (.int .i64 1))))),((some 27),.op (.arith .neq (.tmp 26) (.val (.val (.int .u8 39)))))]⟩,⟨none,[bj 28 24 27,aa 29 28]⟩,⟨(some (29,true)),[aa 30 0,((some 31),.op (.cF (.tmp 30) (.val (.val (.int .i64 1))))),((some 32),.op (.arith .neq (.tmp 31) (.val (.val (.int .u8 92)))))]⟩,⟨none,[bj 33 29 32,aa 2 33]⟩]) <|
  .ret) (.skip)) <|
  .seq (.region false [⟨none,[aa 34 0,((some 35),.op (.fp (.tmp 34))),au 36 .eql 35 4,aa 37 36]⟩,⟨(some (37,true)),[aa 38 0,((some 39),.op (.cF (.tmp 38) (.val (.val (.int .i64 0))))),((some 40),.op (.arith .eql (.tmp 39) (.val (.val (.int .u8 39)))))]⟩,⟨none,[bj 41 37 40,aa 42 41]⟩,⟨(some (42,true)),[aa 43 0,((some 44),.op (.cF (.tmp 43) (.val (.val (.int .i64 3))))),((some 45),.op (.arith .eql (.tmp 44) (.val (.val (.int .u8 39)))))]⟩,⟨none,[bj 46 42 45,aa 47 46]⟩,⟨(some (47,true)),[aa 48 0,((some 49),.op (.cF (.tmp 48) (.val (.val (.int .i64 1))))),((some 50),.op (.arith .eql (.tmp 49) (.val (.val (.int .u8 92)))))]⟩,⟨none,[bj 51 47 50,aa 52 51]⟩,⟨(some (52,true)),[aa 53 0,((some 54),.op (.cF (.tmp 53) (.val (.val (.int .i64 2))))),((some 55),.op (.arith .eql (.tmp 54) (.val (.val (.int .u8 110))))),aa 56 55]⟩,⟨(some (56,false)),[aa 57 0,((some 58),.op (.cF (.tmp 57) (.val (.val (.int .i64 2))))),((some 59),.op (.arith .eql (.tmp 58) (.val (.val (.int .u8 116)))))]⟩,⟨(some (52,true)),[aX 60 56 59,aa 61 60]⟩,⟨(some (61,false)),[aa 62 0,((some 63),.op (.cF (.tmp 62) (.val (.val (.int .i64 2))))),((some 64),.op (.arith .eql (.tmp 63) (.val (.val (.int .u8 92)))))]⟩,⟨(some (52,true)),[aX 65 61 64,aa 66 65]⟩,⟨(some (66,false)),[aa 67 0,((some 68),.op (.cF (.tmp 67) (.val (.val (.int .i64 2))))),((some 69),.op (.arith .eql (.tmp 68) (.val (.val (.int .u8 39)))))]⟩,⟨(some (52,true)),[aX 70 66 69]⟩,⟨none,[bj 71 52 70,aa 2 71]⟩]) <|
  .ret,
  [.tmp 2],72⟩
theorem pC:bo Tryz.prog 191 []=some jT:=by kernel_rfl
def kZ:SF:=⟨.seq (aq [aN 2 false]) <|
  .seq (.region false [⟨none,[aa 3 0,aI 4 142 [3],aa 5 4]⟩,⟨(some (5,false)),[aa 6 0,aI 7 191 [6]]⟩,⟨none,[aX 8 5 7,aa 2 8]⟩]) <|
  .ret,
  [.tmp 2],9⟩
theorem rf:bo Tryz.prog 139 []=some kZ:=by kernel_rfl
set_option maxHeartbeats 1000000 in
theorem JM (s:ByteArray) (H:View):aL Tryz.prog 191 [gs s] H fun r H'=>r=gb (jo (dH s))∧H'=H:=by
  refine aL.of mixed pC ?_
  simp (disch:=omega) only [↓wr,↓reduceIte,wq,ai,ag,ao,Nat.reduceLeDiff,reduceCtorEq,jT,c5]
  refine ar.eq (fun h=>?_) (fun h=>?_)
  · obtain ⟨a,b,c,hb⟩:=NV (l:=dH s) (by omega)
    repeat' (first | (refine ar.dec (fun _=>?_) (fun _=>?_)) | (refine ar.eq (fun _=>?_) (fun _=>?_)) | (refine ar.ne (fun _=>?_) (fun _=>?_)) | (refine ar.split (fun _=>?_) (fun _=>?_)) | (simp (disch:=omega) only [↓wr,↓reduceIte,wq,ag,Nat.reduceEqDiff,Int.reduceToNat,reduceCtorEq,hb,List.getElem?_cons_zero,List.getElem?_cons_succ]))
    all_goals (congr 2; simp only[jo]; grind)
  · simp (disch:=omega) only [↓wr,↓reduceIte,wq,ag,ao,reduceCtorEq,c5]
    refine ar.eq (fun h4=>?_) (fun h4=>?_)
    · obtain ⟨a,b,c,d,hb⟩:=NO (l:=dH s) (by omega)
      repeat' (first | (refine ar.dec (fun _=>?_) (fun _=>?_)) | (refine ar.eq (fun _=>?_) (fun _=>?_)) | (refine ar.ne (fun _=>?_) (fun _=>?_)) | (refine ar.split (fun _=>?_) (fun _=>?_)) | (simp (disch:=omega) only [↓wr,↓reduceIte,wq,ag,Nat.reduceEqDiff,Int.reduceToNat,reduceCtorEq,hb,List.getElem?_cons_zero,List.getElem?_cons_succ]))
      all_goals (congr 2; simp only[jo]; grind)
    · repeat' (first | (refine ar.dec (fun _=>?_) (fun _=>?_)) | (refine ar.eq (fun _=>?_) (fun _=>?_)) | (refine ar.ne (fun _=>?_) (fun _=>?_)) | (refine ar.split (fun _=>?_) (fun _=>?_)) | (simp (disch:=omega) only [↓wr,↓reduceIte,wq,Nat.reduceEqDiff,reduceCtorEq]))
      rw[KJ (by omega) (by omega)]
theorem lX (s:ByteArray):∀ v∈[gs s],Tree v:=by intro v hv; simp at hv; subst hv; exact .val _
theorem BH (s:ByteArray):aJ Tryz.prog 142 [gs s] (gb (ed (dH s))) :=
  aJ.of (lX s) ((I4 s _).mono fun r H' h h' _=>by rw[h.1]; exact .tree _ (.val _))
theorem JT (s:ByteArray):aJ Tryz.prog 191 [gs s] (gb (jo (dH s))) :=
  aJ.of (lX s) ((JM s _).mono fun r H' h h' _=>by rw[h.1]; exact .tree _ (.val _))
def mC (l:List Int):Bool:=ed l || jo l
theorem Gh (s:ByteArray) (H:View):aL Tryz.prog 139 [gs s] H fun r H'=>r=gb (mC (dH s))∧H'=H:=by
  refine aL.of mixed rf ?_
  simp (disch:=omega) only [↓wr,↓reduceIte,wq,ai,Nat.reduceLeDiff,reduceCtorEq,kZ]
  refine aO.pure (BH s) (by kernel_rfl) ?_
  repeat' (first | (refine ar.dec (fun _=>?_) (fun _=>?_)) | (refine ar.eq (fun _=>?_) (fun _=>?_)) | (refine ar.ne (fun _=>?_) (fun _=>?_)) | (refine ar.split (fun _=>?_) (fun _=>?_)) | (simp (disch:=omega) only [↓wr,↓reduceIte,wq,Nat.reduceEqDiff,reduceCtorEq]))
  · rename_i h; simp[mC,h]
  · rename_i h
    refine aO.pure (JT s) (by kernel_rfl) ?_
    repeat' (first | (refine ar.dec (fun _=>?_) (fun _=>?_)) | (refine ar.eq (fun _=>?_) (fun _=>?_)) | (refine ar.ne (fun _=>?_) (fun _=>?_)) | (refine ar.split (fun _=>?_) (fun _=>?_)) | (simp (disch:=omega) only [↓wr,↓reduceIte,wq,Nat.reduceEqDiff,reduceCtorEq]))
    simp[mC,h]
theorem Gz (s:ByteArray):aJ Tryz.prog 139 [gs s] (gb (mC (dH s))) :=
  aJ.of (lX s) ((Gh s _).mono fun r H' h h' _=>by rw[h.1]; exact .tree _ (.val _))
def km (s:ByteArray):List ByteArray→Int→Int
  | [],_=>-1
  | x :: l,i=>if fi x s=true then i else km s l (i+1)
def jk (g:aw) (s:ByteArray):Int:=km s (g.ay.map Term.name) 0
def vi (g:aw) (s:ByteArray):Int:=km s g.ax 0
theorem dw {α:Type} {l:List α} {i:Nat} (h:i < l.length):l.drop i=l[i] :: l.drop (i+1):=List.drop_eq_getElem_cons h
theorem Dk (g:aw) (s:ByteArray):∀ v∈[V.agg (av g),gs s],Tree v:=by
  intro v hv; simp at hv
  rcases hv with rfl | rfl
  · exact cy _ (cH g)
  · exact .val _
theorem gn (g:aw):∀ v∈[V.agg (av g)],Tree v:=by intro v hv; simp at hv; subst hv; exact cy _ (cH g)
theorem C0 (g:aw) (x:Int):∀ v∈[V.agg (av g),gi x],Tree v:=by
  intro v hv; simp at hv
  rcases hv with rfl | rfl
  · exact cy _ (cH g)
  · exact .val _
theorem aJ.val {P:Program} {f:FuncId} {vs:List V} {x:Value} (ht:∀ v∈vs,Tree v) (h:∀ H,aL P f vs H fun r _=>r=.val x):aJ P f vs (.val x) :=
  aJ.of ht ((h _).mono fun r H' e h' _=>by rw[e]; exact .tree _ (.val _))
def kx:SC :=
  .seq (.seq (aq [aa 6 5,an 7 0 2,ak 8 7,aC 9 8,aF 10 .lss 6 9]) <|
  .cond (.tmp 10) (.skip) (.exit 0)) <|
  .seq (.block 1 (.seq (aq [an 13 0 2,ak 14 13,aa 15 5,aG 16 3 14 15,an 17 0 16,ak 18 17,aa 19 1,((some 20),.op (.gD .eql (.tmp 18) (.tmp 19)))]) <|
  .cond (.tmp 20) (.seq (aq [aa 21 5,aa 4 21]) <|
  .ret) (.skip))) <|
  aq [aa 11 5,au 12 .add 11 1,aa 5 12]
def ng:SF:=⟨.seq (aq [bA 2 0,aA 4 0]) <|
  .seq (.seq (aq [aA 5 0]) <|
  .block 0 (.loop kx)) <|
  .seq (aq [aA 4 (-1)]) <|
  .ret,
  [.tmp 4],22⟩
theorem sk:bo Tryz.prog 140 [2]=some ng:=by kernel_rfl
def k8:SC :=
  .seq (.seq (aq [aa 6 5,an 7 1 2,ak 8 7,aC 9 8,aF 10 .lss 6 9]) <|
  .cond (.tmp 10) (.skip) (.exit 0)) <|
  .seq (.block 1 (.seq (aq [an 13 1 2,ak 14 13,aa 15 5,aG 16 1 14 15,ak 17 16,aa 18 1,((some 19),.op (.gD .eql (.tmp 17) (.tmp 18)))]) <|
  .cond (.tmp 19) (.seq (aq [aa 20 5,aa 4 20]) <|
  .ret) (.skip))) <|
  aq [aa 11 5,au 12 .add 11 1,aa 5 12]
def nS:SF:=⟨.seq (aq [bA 2 0,aA 4 0]) <|
  .seq (.seq (aq [aA 5 0]) <|
  .block 0 (.loop k8)) <|
  .seq (aq [aA 4 (-1)]) <|
  .ret,
  [.tmp 4],21⟩
theorem tJ:bo Tryz.prog 125 [2]=some nS:=by kernel_rfl
def jA:SC :=
  .seq (.seq (aq [aa 8 6,an 9 0 2,ak 10 9,aC 11 10,aF 12 .lss 8 11]) <|
  .cond (.tmp 12) (.skip) (.exit 0)) <|
  .seq (.block 1 (.seq (.region false [⟨none,[an 15 0 2,ak 16 15,aa 17 6,aG 18 3 16 17,aH 19 3 18,((some 7),.op (.alloc [(.val (.string ⟨#[]⟩)),(.val (.int .i64 0)),(.val (.int .i64 0))])),(none,.op (.store 3 (.tmp 7) (.tmp 19)))]⟩]) <|
  .seq (.seq (aq [an 20 1 7,ak 21 20,aa 22 1,aF 23 .neq 21 22]) <|
  .cond (.tmp 23) (.exit 1) (.skip)) <|
  .seq (.seq (.region false [⟨none,[aa 24 5,au 25 .neq 24 0,aa 26 25]⟩,⟨(some (26,true)),[aa 27 5,an 28 2 7,ak 29 28,aF 30 .neq 27 29]⟩,⟨none,[bj 31 26 30]⟩]) <|
  .cond (.tmp 31) (.seq (aq [aN 4 false]) <|
  .ret) (.skip)) <|
  aq [an 32 2 7,ak 33 32,aa 5 33])) <|
  aq [aa 13 6,au 14 .add 13 1,aa 6 14]
def lf:SF:=⟨.seq (aq [bA 2 0,aN 4 false]) <|
  .seq (aq [aA 5 0]) <|
  .seq (.seq (aq [aA 6 0]) <|
  .block 0 (.loop jA)) <|
  .seq (aq [aa 34 5,au 35 .neq 34 0,aa 4 35]) <|
  .ret,
  [.tmp 4],36⟩
theorem qI:bo Tryz.prog 141 [2]=some lf:=by kernel_rfl
theorem HZ (g:aw) (hg:g.Ok) (s:ByteArray) (H:View):aL Tryz.prog 140 [.agg (av g),gs s] H fun r _=>r=gi (jk g s):=by
  refine aL.of mixed sk ?_
  have hs:g.ay.length < 4611686018427387904:=hg.ay
  simp (disch:=omega) only [↓wr,wq,ai,Nat.reduceAdd,Nat.reduceLeDiff,Int.reduceNeg,ng,av,encS]
  refine bC.intro (fun k T _=>∃ i:Nat,i+k=g.ay.length∧km s ((g.ay.drop i).map Term.name) i=jk g s∧T 1=gs s∧T 2=.aQ (av g) 0∧T 5=gi i) g.ay.length ?_ ?_
  · exact ⟨0,by omega,rfl,rfl,rfl,rfl⟩
  · rintro k T H' ⟨i,hk,hi,h1,h2,h5⟩
    simp (disch:=omega) only [↓wr,↓reduceIte,wq,ag,ao,Nat.reduceEqDiff,Nat.reduceAdd,Nat.reduceLT,Int.reduceNeg,reduceCtorEq,kx,h2,h5,av]
    refine ar.dec (fun hc=>?_) (fun hc=>?_)
    · have hg2:g.ay[i]?=some (g.ay[i]'(by omega)):=List.getElem?_eq_getElem (by omega)
      rw[dw (show i < g.ay.length by omega)] at hi
      generalize g.ay[i]'(by omega)=t at hg2 hi
      simp only[List.map_cons,km] at hi
      simp (disch:=omega) only [↓wr,↓reduceIte,wq,Nat.reduceEqDiff,Nat.reduceAdd,Nat.reduceLT,Int.reduceNeg,h1,h2,h5,av,cY,List.getElem?_map,hg2]
      refine ar.split (fun hd=>?_) (fun hd=>?_)
      · rw[if_pos hd] at hi
        simp (disch:=omega) only [↓wr,↓reduceIte,wq,ag,Nat.reduceEqDiff,Int.reduceNeg,reduceCtorEq,h1,h2,h5]
        rw[hi]
      · rw[hd,if_neg (by simp)] at hi
        simp (disch:=omega) only [↓wr,↓reduceIte,wq,ag,Nat.reduceEqDiff,Int.reduceNeg,reduceCtorEq,h1,h2,h5]
        exact ⟨k - 1,by omega,i+1,by omega,by push_cast; exact hi,rfl,rfl⟩
    · rw[List.drop_eq_nil_of_le (by omega)] at hi
      simp only[List.map_nil,km] at hi
      simp (disch:=omega) only [↓wr,↓reduceIte,wq,Nat.reduceEqDiff,Int.reduceNeg,reduceCtorEq]
      rw[hi]
theorem A5 (g:aw) (hg:g.Ok) (s:ByteArray):aJ Tryz.prog 140 [.agg (av g),gs s] (gi (jk g s)):=aJ.val (Dk g s) (HZ g hg s)
theorem JZ (g:aw) (hg:g.Ok) (s:ByteArray) (H:View):aL Tryz.prog 125 [.agg (av g),gs s] H fun r _=>r=gi (vi g s):=by
  refine aL.of mixed tJ ?_
  have hs:g.ax.length < 4611686018427387904:=hg.ax
  simp (disch:=omega) only [↓wr,wq,ai,Nat.reduceAdd,Nat.reduceLeDiff,Int.reduceNeg,nS,av,encS]
  refine bC.intro (fun k T _=>∃ i:Nat,i+k=g.ax.length∧km s (g.ax.drop i) i=vi g s∧T 1=gs s∧T 2=.aQ (av g) 0∧T 5=gi i) g.ax.length ?_ ?_
  · exact ⟨0,by omega,rfl,rfl,rfl,rfl⟩
  · rintro k T H' ⟨i,hk,hi,h1,h2,h5⟩
    simp (disch:=omega) only [↓wr,↓reduceIte,wq,ag,ao,Nat.reduceEqDiff,Nat.reduceAdd,Nat.reduceLT,Int.reduceNeg,reduceCtorEq,k8,h2,h5,av,encS]
    refine ar.dec (fun hc=>?_) (fun hc=>?_)
    · have hg2:g.ax[i]?=some (g.ax[i]'(by omega)):=List.getElem?_eq_getElem (by omega)
      rw[dw (show i < g.ax.length by omega)] at hi
      generalize g.ax[i]'(by omega)=t at hg2 hi
      simp only[km] at hi
      simp (disch:=omega) only [↓wr,↓reduceIte,wq,Nat.reduceEqDiff,Nat.reduceAdd,Nat.reduceLT,Int.reduceNeg,h1,h2,h5,av,encS,List.getElem?_map,hg2]
      refine ar.split (fun hd=>?_) (fun hd=>?_)
      · rw[if_pos hd] at hi
        simp (disch:=omega) only [↓wr,↓reduceIte,wq,ag,Nat.reduceEqDiff,Int.reduceNeg,reduceCtorEq,h1,h2,h5]
        rw[hi]
      · rw[hd,if_neg (by simp)] at hi
        simp (disch:=omega) only [↓wr,↓reduceIte,wq,ag,Nat.reduceEqDiff,Int.reduceNeg,reduceCtorEq,h1,h2,h5]
        exact ⟨k - 1,by omega,i+1,by omega,by push_cast; exact hi,rfl,rfl⟩
    · rw[List.drop_eq_nil_of_le (by omega)] at hi
      simp only[km] at hi
      simp (disch:=omega) only [↓wr,↓reduceIte,wq,Nat.reduceEqDiff,Int.reduceNeg,reduceCtorEq]
      rw[hi]
theorem KE (g:aw) (hg:g.Ok) (s:ByteArray):aJ Tryz.prog 125 [.agg (av g),gs s] (gi (vi g s)):=aJ.val (Dk g s) (JZ g hg s)
def fP (n:Int):List Term→Int→Option Int
  | [],way=>some way
  | t :: r,way=>if t.level=n then (if way≠0∧way≠t.assoc then none else fP n r t.assoc) else fP n r way
def eF (l:List Term) (n:Int):Bool:=match fP n l 0 with
  | some w=>w != 0
  | none=>false
theorem GD (g:aw) (hg:g.Ok) (n:Int) (H:View):aL Tryz.prog 141 [.agg (av g),gi n] H fun r _=>r=gb (eF g.ay n):=by
  refine aL.of mixed qI ?_
  have hs:g.ay.length < 4611686018427387904:=hg.ay
  simp (disch:=omega) only [↓wr,wq,ai,Nat.reduceAdd,Nat.reduceLeDiff,lf,av,encS]
  refine bC.intro (fun k T _=>∃ (i:Nat) (w:Int),i+k=g.ay.length∧fP n (g.ay.drop i) w=fP n g.ay 0∧T 1=gi n∧T 2=.aQ (av g) 0∧T 5=gi w∧T 6=gi i) g.ay.length ?_ ?_
  · exact ⟨0,0,by omega,rfl,rfl,rfl,rfl,rfl⟩
  · rintro k T H' ⟨i,w,hk,hi,h1,h2,h5,h6⟩
    simp (disch:=omega) only [↓wr,↓reduceIte,wq,ag,ao,Nat.reduceEqDiff,Nat.reduceAdd,Nat.reduceLT,jA,h2,h6,av]
    refine ar.dec (fun hc=>?_) (fun hc=>?_)
    · have hg2:g.ay[i]?=some (g.ay[i]'(by omega)):=List.getElem?_eq_getElem (by omega)
      rw[dw (show i < g.ay.length by omega)] at hi
      generalize g.ay[i]'(by omega)=t at hg2 hi
      simp only[fP] at hi
      simp (disch:=omega) only [↓wr,↓reduceIte,wq,ag,ab,Nat.reduceEqDiff,Nat.reduceAdd,Nat.reduceLT,Nat.reduceLeDiff,h1,h2,h6,av,cY,List.getElem?_map,hg2]
      intro m hm
      try simp (disch:=omega) only [↓wr,↓reduceIte,wq,ai,ag,ao,ab,ae,af,aj,isNil,Nat.reduceEqDiff,Nat.reduceAdd,Nat.reduceLT,Nat.reduceLeDiff,Int.reduceNeg,Int.reduceToNat,reduceCtorEq,h1,h2,h5,h6]
      refine ar.ne (fun hd=>?_) (fun hd=>?_)
      · rw[if_neg hd] at hi
        simp (disch:=omega) only [↓wr,↓reduceIte,wq,ag,Nat.reduceEqDiff,reduceCtorEq,h1,h2,h5,h6]
        exact ⟨k - 1,by omega,i+1,w,by omega,hi,by first | rfl | exact ⟨rfl,rfl⟩ | exact ⟨rfl,rfl,rfl⟩⟩
      · rw[if_pos hd] at hi
        repeat' (first | (refine ar.dec (fun _=>?_) (fun _=>?_)) | (refine ar.eq (fun _=>?_) (fun _=>?_)) | (refine ar.ne (fun _=>?_) (fun _=>?_)) | (refine ar.split (fun _=>?_) (fun _=>?_)) | (simp (disch:=omega) only [↓wr,↓reduceIte,wq,ag,Nat.reduceEqDiff,Nat.reduceAdd,Nat.reduceLT,reduceCtorEq,h1,h2,h5,h6]))
        · rename_i a b
          rw[if_pos ⟨a,b⟩] at hi
          simp only[eF,← hi]
        · rename_i a b
          rw[if_neg (fun e=>e.2 b)] at hi
          exact ⟨k - 1,by omega,i+1,_,by omega,hi,by first | rfl | exact ⟨rfl,rfl⟩ | exact ⟨rfl,rfl,rfl⟩⟩
        · rename_i a
          rw[if_neg (fun e=>e.1 a)] at hi
          exact ⟨k - 1,by omega,i+1,_,by omega,hi,by first | rfl | exact ⟨rfl,rfl⟩ | exact ⟨rfl,rfl,rfl⟩⟩
    · rw[List.drop_eq_nil_of_le (by omega)] at hi
      simp only[fP] at hi
      simp (disch:=omega) only [↓wr,↓reduceIte,wq,Nat.reduceEqDiff,reduceCtorEq,h5]
      simp only[eF,← hi]
theorem GK (g:aw) (hg:g.Ok) (n:Int):aJ Tryz.prog 141 [.agg (av g),gi n] (gb (eF g.ay n)):=aJ.val (C0 g n) (GD g hg n)
def oh (g:aw) (t:Term):Bool:=(List.range t.level.toNat).all fun k=>eF g.ay ((k:Int)+1)
def gF (g:aw) (i:Int) (t:Term):Bool :=
  mC (dH t.name) && (jk g t.name == i) && decide (0≤t.level) && decide (t.level≤24) && decide (0≤t.assoc) && decide (t.assoc≤3) && ((t.level == 0) == (t.assoc == 0)) && oh g t
def ga (g:aw):List Term→Int→Bool
  | [],_=>true
  | t :: r,i=>gF g i t && ga g r (i+1)
def gv (g:aw):Bool:=decide (g.ay.length≤24) && ga g g.ay 0
def jN:SC :=
  .seq (.seq (aq [aa 63 5,an 64 1 4,ak 65 64,aF 66 .leq 63 65]) <|
  .cond (.tmp 66) (.skip) (.exit 2)) <|
  .seq (.block 3 (.seq (aq [aH 69 4 1,aa 70 5,aI 71 141 [69,70],bB 72 71]) <|
  .cond (.tmp 72) (.seq (aq [aN 2 false]) <|
  .ret) (.skip))) <|
  aq [aa 67 5,au 68 .add 67 1,aa 5 68]
def jQ:SC :=
  .seq (.seq (aq [aa 10 3,an 11 0 1,ak 12 11,aC 13 12,aF 14 .lss 10 13]) <|
  .cond (.tmp 14) (.skip) (.exit 0)) <|
  .seq (.block 1 (.seq (.region false [⟨none,[an 17 0 1,ak 18 17,aa 19 3,aG 20 3 18 19,aH 21 3 20,((some 4),.op (.alloc [(.val (.string ⟨#[]⟩)),(.val (.int .i64 0)),(.val (.int .i64 0))])),(none,.op (.store 3 (.tmp 4) (.tmp 21)))]⟩]) <|
  .seq (.seq (.region false [⟨none,[an 22 0 4,ak 23 22,aI 24 139 [23],bB 25 24,aa 26 25]⟩,⟨(some (26,false)),[aH 27 4 1,an 28 0 4,ak 29 28,aI 30 140 [27,29],aa 31 3,aF 32 .neq 30 31]⟩,⟨none,[aX 33 26 32,aa 34 33]⟩,⟨(some (34,false)),[an 35 1 4,ak 36 35,au 37 .lss 36 0]⟩,⟨none,[aX 38 34 37,aa 39 38]⟩,⟨(some (39,false)),[an 40 1 4,ak 41 40,au 42 .gtr 41 24]⟩,⟨none,[aX 43 39 42,aa 44 43]⟩,⟨(some (44,false)),[an 45 2 4,ak 46 45,au 47 .lss 46 0]⟩,⟨none,[aX 48 44 47,aa 49 48]⟩,⟨(some (49,false)),[an 50 2 4,ak 51 50,au 52 .gtr 51 3]⟩,⟨none,[aX 53 49 52,aa 54 53]⟩,⟨(some (54,false)),[an 55 1 4,ak 56 55,au 57 .eql 56 0,an 58 2 4,ak 59 58,au 60 .eql 59 0,((some 61),.op (.beq false (.tmp 57) (.tmp 60)))]⟩,⟨none,[aX 62 54 61]⟩]) <|
  .cond (.tmp 62) (.seq (aq [aN 2 false]) <|
  .ret) (.skip)) <|
  .seq (aq [aA 5 1]) <|
  .block 2 (.loop jN))) <|
  aq [aa 15 3,au 16 .add 15 1,aa 3 16]
def lj:SF:=⟨.seq (aq [bA 1 0,aN 2 false]) <|
  .seq (.seq (aq [an 6 0 1,ak 7 6,aC 8 7,au 9 .gtr 8 24]) <|
  .cond (.tmp 9) (.seq (aq [aN 2 false]) <|
  .ret) (.skip)) <|
  .seq (.seq (aq [aA 3 0]) <|
  .block 0 (.loop jQ)) <|
  .seq (aq [aN 2 true]) <|
  .ret,
  [.tmp 2],73⟩
theorem qF:bo Tryz.prog 89 [1]=some lj:=by kernel_rfl
def kE:SC :=
  .seq (.seq (aq [aa 14 3,an 15 1 1,ak 16 15,aC 17 16,aF 18 .lss 14 17]) <|
  .cond (.tmp 18) (.skip) (.exit 0)) <|
  .seq (.block 1 (.seq (.region false [⟨none,[an 21 1 1,ak 22 21,aa 23 3,aG 24 1 22 23,ak 25 24,aI 26 142 [25],bB 27 26,aa 28 27]⟩,⟨(some (28,false)),[aH 29 4 1,an 30 1 1,ak 31 30,aa 32 3,aG 33 1 31 32,ak 34 33,aI 35 125 [29,34],aa 36 3,aF 37 .neq 35 36]⟩,⟨none,[aX 38 28 37,aa 39 38]⟩,⟨(some (39,false)),[aH 40 4 1,an 41 1 1,ak 42 41,aa 43 3,aG 44 1 42 43,ak 45 44,aI 46 140 [40,45],au 47 .geq 46 0]⟩,⟨none,[aX 48 39 47]⟩]) <|
  .cond (.tmp 48) (.seq (aq [aN 2 false]) <|
  .ret) (.skip))) <|
  aq [aa 19 3,au 20 .add 19 1,aa 3 20]
def mA:SF:=⟨.seq (aq [bA 1 0,aN 2 false]) <|
  .seq (.seq (.region false [⟨none,[an 4 1 1,ak 5 4,aC 6 5,au 7 .lss 6 1,aa 8 7]⟩,⟨(some (8,false)),[an 9 1 1,ak 10 9,aC 11 10,au 12 .gtr 11 16]⟩,⟨none,[aX 13 8 12]⟩]) <|
  .cond (.tmp 13) (.seq (aq [aN 2 false]) <|
  .ret) (.skip)) <|
  .seq (.seq (aq [aA 3 0]) <|
  .block 0 (.loop kE)) <|
  .seq (aq [aN 2 true]) <|
  .ret,
  [.tmp 2],49⟩
theorem rD:bo Tryz.prog 90 [1]=some mA:=by kernel_rfl
def j9:SC :=
  .seq (.seq (aq [aa 23 5,an 24 1 3,ak 25 24,aC 26 25,aF 27 .lss 23 26]) <|
  .cond (.tmp 27) (.skip) (.exit 0)) <|
  .seq (.block 1 (.seq (.region false [⟨none,[aH 30 4 2,an 31 1 3,ak 32 31,aa 33 5,aG 34 1 32 33,ak 35 34,aI 36 143 [30,35],bB 37 36,aa 38 37]⟩,⟨(some (38,false)),[an 39 1 3,ak 40 39,aa 41 5,aG 42 1 40 41,ak 43 42,au 44 .geq 43 0,aa 45 44]⟩,⟨(some (45,true)),[an 46 2 3,ak 47 46,au 48 .eql 47 (-1)]⟩,⟨(some (38,false)),[bj 49 45 48]⟩,⟨none,[aX 50 38 49]⟩]) <|
  .cond (.tmp 50) (.seq (aq [aN 4 false]) <|
  .ret) (.skip))) <|
  aq [aa 28 5,au 29 .add 28 1,aa 5 29]
def mh:SF:=⟨.seq (aq [bA 2 0,bA 3 1,aN 4 false]) <|
  .seq (.seq (.region false [⟨none,[an 6 1 3,ak 7 6,aC 8 7,au 9 .gtr 8 6,aa 10 9]⟩,⟨(some (10,false)),[an 11 2 3,ak 12 11,au 13 .lss 12 (-1)]⟩,⟨none,[aX 14 10 13,aa 15 14]⟩,⟨(some (15,false)),[an 16 2 3,ak 17 16,an 18 0 2,ak 19 18,aC 20 19,aF 21 .geq 17 20]⟩,⟨none,[aX 22 15 21]⟩]) <|
  .cond (.tmp 22) (.seq (aq [aN 4 false]) <|
  .ret) (.skip)) <|
  .seq (.seq (aq [aA 5 0]) <|
  .block 0 (.loop j9)) <|
  .seq (aq [aN 4 true]) <|
  .ret,
  [.tmp 4],51⟩
theorem rF:bo Tryz.prog 91 [2,3]=some mh:=by kernel_rfl
def jx:SC :=
  .seq (.seq (aq [aa 39 4,an 40 2 1,ak 41 40,aC 42 41,aF 43 .lss 39 42]) <|
  .cond (.tmp 43) (.skip) (.exit 0)) <|
  .seq (.block 1 (.seq (aq [an 46 2 1,ak 47 46,aa 48 4,aG 49 3 47 48,aH 50 3 49,((some 5),.op (.alloc [(.val (.int .i64 0)),(.emp 1),(.val (.int .i64 0))])),(none,.op (.store 3 (.tmp 5) (.tmp 50)))]) <|
  .seq (.seq (.region false [⟨none,[an 51 0 5,ak 52 51,au 53 .lss 52 0,aa 54 53]⟩,⟨(some (54,false)),[an 55 0 5,ak 56 55,aa 57 3,au 58 .add 57 1,aF 59 .gtr 56 58]⟩,⟨none,[aX 60 54 59,aa 61 60]⟩,⟨(some (61,false)),[aH 62 4 1,aH 63 3 5,aI 64 91 [62,63],bB 65 64]⟩,⟨none,[aX 66 61 65]⟩]) <|
  .cond (.tmp 66) (.seq (aq [aN 2 false]) <|
  .ret) (.skip)) <|
  .seq (aq [an 67 0 5,ak 68 67,aa 69 3,aF 70 .gtr 68 69]) <|
  .cond (.tmp 70) (aq [an 71 0 5,ak 72 71,aa 3 72]) (.skip))) <|
  aq [aa 44 4,au 45 .add 44 1,aa 4 45]
def ln:SF:=⟨.seq (aq [bA 1 0,aN 2 false]) <|
  .seq (.seq (.region false [⟨none,[aH 6 4 1,aI 7 89 [6],bB 8 7,aa 9 8]⟩,⟨(some (9,false)),[aH 10 4 1,aI 11 90 [10],bB 12 11]⟩,⟨none,[aX 13 9 12,aa 14 13]⟩,⟨(some (14,false)),[an 15 2 1,ak 16 15,aC 17 16,au 18 .lss 17 1]⟩,⟨none,[aX 19 14 18,aa 20 19]⟩,⟨(some (20,false)),[an 21 2 1,ak 22 21,aC 23 22,au 24 .gtr 23 40]⟩,⟨none,[aX 25 20 24,aa 26 25]⟩,⟨(some (26,false)),[an 27 3 1,ak 28 27,au 29 .lss 28 0]⟩,⟨none,[aX 30 26 29,aa 31 30]⟩,⟨(some (31,false)),[an 32 3 1,ak 33 32,an 34 1 1,ak 35 34,aC 36 35,aF 37 .geq 33 36]⟩,⟨none,[aX 38 31 37]⟩]) <|
  .cond (.tmp 38) (.seq (aq [aN 2 false]) <|
  .ret) (.skip)) <|
  .seq (aq [aA 3 (-1)]) <|
  .seq (.seq (aq [aA 4 0]) <|
  .block 0 (.loop jx)) <|
  .seq (aq [aa 73 3,an 74 1 1,ak 75 74,aC 76 75,au 77 .sub 76 1,aF 78 .eql 73 77,aa 2 78]) <|
  .ret,
  [.tmp 2],79⟩
theorem qN:bo Tryz.prog 48 [1]=some ln:=by kernel_rfl
set_option maxHeartbeats 2000000 in
theorem GC (g:aw) (hg:g.Ok) (H:View):aL Tryz.prog 89 [.agg (av g)] H fun r _=>r=gb (gv g):=by
  refine aL.of mixed qF ?_
  simp (disch:=omega) only [↓wr,↓reduceIte,wq,ai,ag,ao,Nat.reduceEqDiff,Nat.reduceAdd,Nat.reduceLT,Nat.reduceLeDiff,lj,av,encS]
  refine ar.dec (fun h=>?_) (fun h=>?_)
  · simp (disch:=omega) only [↓wr,↓reduceIte,wq,reduceCtorEq]
    simp[gv,show ¬ g.ay.length≤24 by omega]
  · have hle:g.ay.length≤24:=by omega
    simp (disch:=omega) only [↓wr,wq]
    refine bC.intro (fun k T _=>∃ i:Nat,i+k=g.ay.length∧ga g (g.ay.drop i) i=ga g g.ay 0∧T 1=.aQ (av g) 0∧T 3=gi i) g.ay.length ?_ ?_
    · exact ⟨0,by omega,rfl,rfl,rfl⟩
    · rintro k T H' ⟨i,hk,hi,h1,h3⟩
      simp (disch:=omega) only [↓wr,↓reduceIte,wq,ag,ao,Nat.reduceEqDiff,Nat.reduceAdd,Nat.reduceLT,reduceCtorEq,jQ,h1,h3,av]
      refine ar.dec (fun hc=>?_) (fun hc=>?_)
      · have hg2:g.ay[i]?=some (g.ay[i]'(by omega)):=List.getElem?_eq_getElem (by omega)
        rw[dw (show i < g.ay.length by omega)] at hi
        have hmem:g.ay[i]'(by omega)∈g.ay:=List.getElem_mem _
        generalize g.ay[i]'(by omega)=t at hg2 hi hmem
        obtain ⟨⟨hl1,hl2⟩,⟨ha1,ha2⟩⟩:=hg.term t hmem
        simp only[ga] at hi
        have hbad:gF g i t=false→gb false=gb (gv g):=fun e=>by rw[e,Bool.false_and] at hi; simp[gv,← hi]
        simp (disch:=omega) only [↓wr,↓reduceIte,wq,ab,Nat.reduceEqDiff,Nat.reduceAdd,Nat.reduceLT,Nat.reduceLeDiff,h1,h3,av,cY,List.getElem?_map,hg2]
        intro m hm
        try simp (disch:=omega) only [↓wr,↓reduceIte,wq,ai,ag,ao,ab,ae,af,aj,isNil,Nat.reduceEqDiff,Nat.reduceAdd,Nat.reduceLT,Nat.reduceLeDiff,Int.reduceNeg,Int.reduceToNat,reduceCtorEq,h1,h3]
        refine aO.pure (Gz t.name) (by kernel_rfl) ?_
        repeat' (first | (refine ar.dec (fun _=>?_) (fun _=>?_)) | (refine ar.eq (fun _=>?_) (fun _=>?_)) | (refine ar.ne (fun _=>?_) (fun _=>?_)) | (refine ar.split (fun _=>?_) (fun _=>?_)) | (simp (disch:=omega) only [↓wr,↓reduceIte,wq,ag,Nat.reduceEqDiff,Nat.reduceAdd,Nat.reduceLT,Nat.reduceLeDiff,reduceCtorEq,h1,h3,av]))
        all_goals try (refine hbad ?_; simp[gF, *]; done)
        rename_i hnm
        refine aO.pure (A5 g hg t.name) (by kernel_rfl) ?_
        repeat' (first | (refine ar.dec (fun _=>?_) (fun _=>?_)) | (refine ar.eq (fun _=>?_) (fun _=>?_)) | (refine ar.ne (fun _=>?_) (fun _=>?_)) | (refine ar.split (fun _=>?_) (fun _=>?_)) | (simp (disch:=omega) only [↓wr,↓reduceIte,wq,ag,Nat.reduceEqDiff,Nat.reduceAdd,Nat.reduceLT,reduceCtorEq,h1,h3,av]))
        all_goals try (refine hbad ?_; simp[gF, *]; done)
        all_goals try (refine hbad ?_; simp[gF]; grind)
        rename_i e1 e2 e3 e4 e5 e6
        have hpre:gF g i t=oh g t:=by
          have e6':((t.level == 0) == (t.assoc == 0))=true:=by simpa using e6
          simp[gF,hnm,e1,e6',show (0:Int)≤t.level by omega,show t.level≤24 by omega,show (0:Int)≤t.assoc by omega,show t.assoc≤3 by omega]
        refine bC.intro (fun k' T H''=>∃ j:Nat,1≤j∧j+k'=t.level.toNat+1∧(∀ q:Nat,q+1 < j→eF g.ay ((q:Int)+1)=true)∧T 1=.aQ (av g) 0∧T 3=gi i∧T 4=.ptr m 0 0∧H'' m=.arr 3 [[gs t.name,gi t.level,gi t.assoc]]∧T 5=gi j) t.level.toNat ?_ ?_
        · refine ⟨1,by omega,by omega,fun q hq=>by omega,?_⟩
          simp (disch:=omega) only [↓wr,↓reduceIte,wq,Nat.reduceEqDiff,Nat.reduceAdd,h1,h3,av]
          rfl
        · rintro k' T' H'' ⟨j,hj1,hj2,hj3,f1,f3,f4,fm,f5⟩
          simp (disch:=omega) only [↓wr,↓reduceIte,wq,ag,Nat.reduceEqDiff,Nat.reduceAdd,Nat.reduceLT,jN,f4,f5,fm]
          refine ar.dec (fun hd=>?_) (fun hd=>?_)
          · simp (disch:=omega) only [↓wr,↓reduceIte,wq,Nat.reduceEqDiff,Nat.reduceAdd,Nat.reduceLeDiff,f1,f5,av]
            refine aO.pure (GK g hg j) (by kernel_rfl) ?_
            repeat' (first | (refine ar.dec (fun _=>?_) (fun _=>?_)) | (refine ar.eq (fun _=>?_) (fun _=>?_)) | (refine ar.ne (fun _=>?_) (fun _=>?_)) | (refine ar.split (fun _=>?_) (fun _=>?_)) | (simp (disch:=omega) only [↓wr,↓reduceIte,wq,ag,Nat.reduceEqDiff,reduceCtorEq,f1,f3,f4,f5,fm,av]))
            · rename_i hb
              refine ⟨k' - 1,by omega,j+1,by omega,by omega,fun q hq=>?_,by first | rfl | exact ⟨rfl,rfl⟩ | exact ⟨rfl,rfl,rfl⟩⟩
              by_cases e:q+1=j
              · have:(q:Int)+1=j:=by omega
                rw[this]; exact hb
              · exact hj3 q (by omega)
            · rename_i hb
              refine hbad ?_
              rw[hpre,oh,List.all_eq_false]
              refine ⟨j - 1,by simp; omega,?_⟩
              have:((j - 1:Nat):Int)+1=j:=by omega
              rw[this,hb]; simp
          · simp (disch:=omega) only [↓wr,↓reduceIte,wq,Nat.reduceEqDiff,reduceCtorEq,f1,f3]
            refine ⟨k - 1,by omega,i+1,by omega,?_,by first | rfl | exact ⟨rfl,rfl⟩ | exact ⟨rfl,rfl,rfl⟩⟩
            have hlv:oh g t=true:=by
              rw[oh,List.all_eq_true]
              intro q hq
              exact hj3 q (by simp at hq; omega)
            rw[hpre,hlv,Bool.true_and] at hi
            push_cast; exact hi
      · rw[List.drop_eq_nil_of_le (by omega)] at hi
        simp only[ga] at hi
        simp (disch:=omega) only [↓wr,↓reduceIte,wq,Nat.reduceEqDiff,reduceCtorEq]
        simp[gv,hle,← hi]
theorem GF (g:aw) (hg:g.Ok):aJ Tryz.prog 89 [.agg (av g)] (gb (gv g)):=aJ.val (gn g) (GC g hg)
def iM (g:aw) (i:Int) (s:ByteArray):Bool:=ed (dH s) && (vi g s == i) && decide (jk g s < 0)
def oD (g:aw):List ByteArray→Int→Bool
  | [],_=>true
  | s :: r,i=>iM g i s && oD g r (i+1)
def gP (g:aw):Bool:=decide (1≤g.ax.length) && decide (g.ax.length≤16) && oD g g.ax 0
set_option maxHeartbeats 1000000 in
theorem Jt (g:aw) (hg:g.Ok) (H:View):aL Tryz.prog 90 [.agg (av g)] H fun r _=>r=gb (gP g):=by
  refine aL.of mixed rD ?_
  repeat' (first | (refine ar.dec (fun _=>?_) (fun _=>?_)) | (refine ar.eq (fun _=>?_) (fun _=>?_)) | (refine ar.ne (fun _=>?_) (fun _=>?_)) | (refine ar.split (fun _=>?_) (fun _=>?_)) | (simp (disch:=omega) only [↓wr,↓reduceIte,wq,ai,ag,ao,Nat.reduceEqDiff,Nat.reduceAdd,Nat.reduceLT,Nat.reduceLeDiff,reduceCtorEq,mA,av,encS]))
  · simp[gP,show ¬ 1≤g.ax.length by omega]
  · simp[gP,show ¬ g.ax.length≤16 by omega]
  · have hle:g.ax.length≤16:=by omega
    refine bC.intro (fun k T _=>∃ i:Nat,i+k=g.ax.length∧oD g (g.ax.drop i) i=oD g g.ax 0∧T 1=.aQ (av g) 0∧T 3=gi i) g.ax.length ?_ ?_
    · exact ⟨0,by omega,rfl,rfl,rfl⟩
    · rintro k T H' ⟨i,hk,hi,h1,h3⟩
      simp (disch:=omega) only [↓wr,↓reduceIte,wq,ag,ao,Nat.reduceEqDiff,Nat.reduceAdd,Nat.reduceLT,reduceCtorEq,kE,h1,h3,av,encS]
      refine ar.dec (fun hc=>?_) (fun hc=>?_)
      · have hg2:g.ax[i]?=some (g.ax[i]'(by omega)):=List.getElem?_eq_getElem (by omega)
        rw[dw (show i < g.ax.length by omega)] at hi
        generalize g.ax[i]'(by omega)=t at hg2 hi
        simp only[oD] at hi
        have hbad:iM g i t=false→gb false=gb (gP g):=fun e=>by rw[e,Bool.false_and] at hi; simp[gP,← hi]
        simp (disch:=omega) only [↓wr,↓reduceIte,wq,Nat.reduceEqDiff,Nat.reduceAdd,Nat.reduceLT,h1,h3,av,encS,List.getElem?_map,hg2]
        refine aO.pure (BH t) (by kernel_rfl) ?_
        repeat' (first | (refine ar.dec (fun _=>?_) (fun _=>?_)) | (refine ar.eq (fun _=>?_) (fun _=>?_)) | (refine ar.ne (fun _=>?_) (fun _=>?_)) | (refine ar.split (fun _=>?_) (fun _=>?_)) | (simp (disch:=omega) only [↓wr,↓reduceIte,wq,ag,Nat.reduceEqDiff,Nat.reduceAdd,Nat.reduceLT,Nat.reduceLeDiff,reduceCtorEq,h1,h3,av,encS,List.getElem?_map,hg2]))
        all_goals try (refine hbad ?_; simp[iM, *]; done)
        rename_i hnm
        refine aO.pure (KE g hg t) (by kernel_rfl) ?_
        repeat' (first | (refine ar.dec (fun _=>?_) (fun _=>?_)) | (refine ar.eq (fun _=>?_) (fun _=>?_)) | (refine ar.ne (fun _=>?_) (fun _=>?_)) | (refine ar.split (fun _=>?_) (fun _=>?_)) | (simp (disch:=omega) only [↓wr,↓reduceIte,wq,ag,Nat.reduceEqDiff,Nat.reduceAdd,Nat.reduceLT,Nat.reduceLeDiff,reduceCtorEq,h1,h3,av,encS,List.getElem?_map,hg2]))
        all_goals try (refine hbad ?_; simp[iM, *]; done)
        rename_i hno
        refine aO.pure (A5 g hg t) (by kernel_rfl) ?_
        repeat' (first | (refine ar.dec (fun _=>?_) (fun _=>?_)) | (refine ar.eq (fun _=>?_) (fun _=>?_)) | (refine ar.ne (fun _=>?_) (fun _=>?_)) | (refine ar.split (fun _=>?_) (fun _=>?_)) | (simp (disch:=omega) only [↓wr,↓reduceIte,wq,ag,Nat.reduceEqDiff,reduceCtorEq,h1,h3,av,encS]))
        all_goals try (refine hbad ?_; simp[iM, *]; done)
        rename_i hte
        refine ⟨k - 1,by omega,i+1,by omega,?_,by first | rfl | exact ⟨rfl,rfl⟩ | exact ⟨rfl,rfl,rfl⟩⟩
        have:iM g i t=true:=by simp[iM,hnm,hno,show jk g t < 0 by omega]
        rw[this,Bool.true_and] at hi
        push_cast; exact hi
      · rw[List.drop_eq_nil_of_le (by omega)] at hi
        simp only[oD] at hi
        simp (disch:=omega) only [↓wr,↓reduceIte,wq,Nat.reduceEqDiff,reduceCtorEq]
        simp[gP,hle,show 1≤g.ax.length by omega,← hi]
theorem Jp (g:aw) (hg:g.Ok):aJ Tryz.prog 90 [.agg (av g)] (gb (gP g)):=aJ.val (gn g) (Jt g hg)
def jm (g:aw) (prec s:Int):Bool:=j7 g s && !(decide (0≤s) && prec == -1)
def eY (g:aw) (r:aY):Bool:=decide (r.right.length≤6) && decide (-1≤r.prec) && decide (r.prec < g.ay.length) && r.right.all (jm g r.prec)
theorem Cu (g:aw) (r:aY):∀ v∈[V.agg (av g),V.agg (bt r)],Tree v:=by
  intro v hv; simp at hv
  rcases hv with rfl | rfl
  · exact cy _ (cH g)
  · exact cy _ (qi r)
set_option maxHeartbeats 1000000 in
theorem IB (g:aw) (r:aY) (hr:bc r.right∧∀ x∈r.right,bW x) (H:View):aL Tryz.prog 91 [.agg (av g),.agg (bt r)] H fun v _=>v=gb (eY g r):=by
  refine aL.of mixed rF ?_
  repeat' (first | (refine ar.dec (fun _=>?_) (fun _=>?_)) | (refine ar.eq (fun _=>?_) (fun _=>?_)) | (refine ar.ne (fun _=>?_) (fun _=>?_)) | (refine ar.split (fun _=>?_) (fun _=>?_)) | (simp (disch:=omega) only [↓wr,↓reduceIte,wq,ai,ag,ao,Nat.reduceEqDiff,Nat.reduceAdd,Nat.reduceLT,Nat.reduceLeDiff,Int.reduceNeg,reduceCtorEq,mh,av,encS,bt,encI]))
  · simp[eY,show ¬ r.right.length≤6 by omega]
  · simp[eY,show ¬ -1≤r.prec by omega]
  · simp[eY,show ¬ r.prec < g.ay.length by omega]
  · have hle:r.right.length≤6:=by omega
    have hp1 : -1≤r.prec:=by omega
    have hp2:r.prec < g.ay.length:=by omega
    refine bC.intro (fun k T _=>∃ i:Nat,i+k=r.right.length∧(r.right.drop i).all (jm g r.prec)=r.right.all (jm g r.prec)∧T 2=.aQ (av g) 0∧T 3=.aQ (bt r) 0∧T 5=gi i) r.right.length ?_ ?_
    · exact ⟨0,by omega,rfl,rfl,rfl,rfl⟩
    · rintro k T H' ⟨i,hk,hi,h2,h3,h5⟩
      simp (disch:=omega) only [↓wr,↓reduceIte,wq,ag,ao,Nat.reduceEqDiff,Nat.reduceAdd,Nat.reduceLT,Int.reduceNeg,reduceCtorEq,j9,h3,h5,bt,encI]
      refine ar.dec (fun hc=>?_) (fun hc=>?_)
      · have hg2:r.right[i]?=some (r.right[i]'(by omega)):=List.getElem?_eq_getElem (by omega)
        rw[dw (show i < r.right.length by omega)] at hi
        have hmem:r.right[i]'(by omega)∈r.right:=List.getElem_mem _
        generalize r.right[i]'(by omega)=t at hg2 hi hmem
        have hin:=hr.2 t hmem
        simp only[List.all_cons] at hi
        have hbad:jm g r.prec t=false→gb false=gb (eY g r):=fun e=>by rw[e,Bool.false_and] at hi; simp only[eY,← hi,Bool.and_false]
        have hok:jm g r.prec t=true→(r.right.drop (i+1)).all (jm g r.prec)=r.right.all (jm g r.prec):=fun e=>by rw[e,Bool.true_and] at hi; exact hi
        simp (disch:=omega) only [↓wr,↓reduceIte,wq,Nat.reduceEqDiff,Nat.reduceAdd,Nat.reduceLT,Nat.reduceLeDiff,Int.reduceNeg,h2,h3,h5,av,encS,bt,encI,List.getElem?_map,hg2]
        refine aO.pure (Mn g t hin) (by kernel_rfl) ?_
        repeat' (first | (refine ar.dec (fun _=>?_) (fun _=>?_)) | (refine ar.eq (fun _=>?_) (fun _=>?_)) | (refine ar.ne (fun _=>?_) (fun _=>?_)) | (refine ar.split (fun _=>?_) (fun _=>?_)) | (simp (disch:=omega) only [↓wr,↓reduceIte,wq,ag,Nat.reduceEqDiff,Nat.reduceAdd,Nat.reduceLT,Int.reduceNeg,reduceCtorEq,h2,h3,h5,av,encS,bt,encI,List.getElem?_map,hg2]))
        all_goals first
          | (refine hbad ?_; simp[jm, *]; done)
          | (refine ⟨k - 1,by omega,i+1,by omega,hok (by simp[jm, *]; done),by first | rfl | exact ⟨rfl,rfl⟩ | exact ⟨rfl,rfl,rfl⟩⟩)
          | skip
      · rw[List.drop_eq_nil_of_le (by omega)] at hi
        simp only[List.all_nil] at hi
        simp (disch:=omega) only [↓wr,↓reduceIte,wq,Nat.reduceEqDiff,reduceCtorEq]
        simp only[eY,hle,hp1,hp2,decide_true,Bool.true_and,← hi]
theorem Je (g:aw) (r:aY) (hr:bc r.right∧∀ x∈r.right,bW x):aJ Tryz.prog 91 [.agg (av g),.agg (bt r)] (gb (eY g r)):=aJ.val (Cu g r) (IB g r hr)
def eD (g:aw):List aY→Int→Bool
  | [],top=>top == (g.ax.length:Int) - 1
  | r :: l,top=>decide (0≤r.left) && decide (r.left≤top+1) && eY g r && eD g l (if r.left > top then r.left else top)
def br (g:aw):Bool :=
  gv g && gP g && decide (1≤g.rules.length) && decide (g.rules.length≤40) && decide (0≤g.start) && decide (g.start < g.ax.length) && eD g g.rules (-1)
set_option maxHeartbeats 1000000 in
theorem FU (g:aw) (hg:g.Ok) (H:View):aL Tryz.prog 48 [.agg (av g)] H fun r _=>r=gb (br g):=by
  refine aL.of mixed qN ?_
  have hn:=hg.ax
  unfold bc at hn
  simp (disch:=omega) only [↓wr,↓reduceIte,wq,ai,Nat.reduceEqDiff,Nat.reduceAdd,Nat.reduceLeDiff,Int.reduceNeg,ln,av,encS]
  refine aO.pure (GF g hg) (by kernel_rfl) ?_
  repeat' (first | (refine ar.dec (fun _=>?_) (fun _=>?_)) | (refine ar.eq (fun _=>?_) (fun _=>?_)) | (refine ar.ne (fun _=>?_) (fun _=>?_)) | (refine ar.split (fun _=>?_) (fun _=>?_)) | (simp (disch:=omega) only [↓wr,↓reduceIte,wq,Nat.reduceEqDiff,Nat.reduceAdd,Nat.reduceLeDiff,Int.reduceNeg,reduceCtorEq]))
  · rename_i h1
    refine aO.pure (Jp g hg) (by kernel_rfl) ?_
    repeat' (first | (refine ar.dec (fun _=>?_) (fun _=>?_)) | (refine ar.eq (fun _=>?_) (fun _=>?_)) | (refine ar.ne (fun _=>?_) (fun _=>?_)) | (refine ar.split (fun _=>?_) (fun _=>?_)) | (simp (disch:=omega) only [↓wr,↓reduceIte,wq,ag,ao,Nat.reduceEqDiff,Nat.reduceAdd,Nat.reduceLT,Int.reduceNeg,reduceCtorEq]))
    all_goals try (simp[br, *]; done)
    all_goals try (simp[br]; omega)
    rename_i h2 h3 h4 h5 h6
    have hle:g.rules.length≤40:=by omega
    have hpre:∀ b,eD g g.rules (-1)=b→gb b=gb (br g):=fun b e=>by
      simp[br,h1,h2,show 1≤g.rules.length by omega,hle,show 0≤g.start by omega,show g.start < g.ax.length by omega,e]
    refine bC.intro (fun k T _=>∃ (i:Nat) (w:Int),i+k=g.rules.length∧-1≤w∧w < i∧eD g (g.rules.drop i) w=eD g g.rules (-1)∧T 1=.aQ (av g) 0∧T 3=gi w∧T 4=gi i) g.rules.length ?_ ?_
    · exact ⟨0,-1,by omega,by omega,by omega,rfl,rfl,rfl,rfl⟩
    · rintro k T H' ⟨i,w,hk,hw1,hw2,hi,f1,f3,f4⟩
      simp (disch:=omega) only [↓wr,↓reduceIte,wq,ag,ao,Nat.reduceEqDiff,Nat.reduceAdd,Nat.reduceLT,Int.reduceNeg,jx,f1,f4,av]
      refine ar.dec (fun hc=>?_) (fun hc=>?_)
      · have hg2:g.rules[i]?=some (g.rules[i]'(by omega)):=List.getElem?_eq_getElem (by omega)
        rw[dw (show i < g.rules.length by omega)] at hi
        have hmem:g.rules[i]'(by omega)∈g.rules:=List.getElem_mem _
        generalize g.rules[i]'(by omega)=t at hg2 hi hmem
        obtain ⟨⟨hl1,hl2⟩,hp,hr1,hr2⟩:=hg.bN t hmem
        simp only[eD] at hi
        simp (disch:=omega) only [↓wr,↓reduceIte,wq,ag,ab,Nat.reduceEqDiff,Nat.reduceAdd,Nat.reduceLT,Nat.reduceLeDiff,Int.reduceNeg,f1,f4,av,encS,bt,encI,List.getElem?_map,hg2]
        intro m hm
        try simp (disch:=omega) only [↓wr,↓reduceIte,wq,ai,ag,ao,ab,ae,af,aj,isNil,Nat.reduceEqDiff,Nat.reduceAdd,Nat.reduceLT,Nat.reduceLeDiff,Int.reduceNeg,Int.reduceToNat,reduceCtorEq,f1,f3,f4]
        repeat' (first | (refine ar.dec (fun _=>?_) (fun _=>?_)) | (refine ar.eq (fun _=>?_) (fun _=>?_)) | (refine ar.ne (fun _=>?_) (fun _=>?_)) | (refine ar.split (fun _=>?_) (fun _=>?_)) | (simp (disch:=omega) only [↓wr,↓reduceIte,wq,ag,ao,Nat.reduceEqDiff,Nat.reduceAdd,Nat.reduceLT,Nat.reduceLeDiff,Int.reduceNeg,reduceCtorEq,f1,f3,f4,av,encS]))
        all_goals try (refine hpre _ ?_; simp only[← hi]; simp; omega)
        rename_i e1 e2
        refine aO.pure (Je g t ⟨hr1,hr2⟩) (by kernel_rfl) ?_
        repeat' (first | (refine ar.dec (fun _=>?_) (fun _=>?_)) | (refine ar.eq (fun _=>?_) (fun _=>?_)) | (refine ar.ne (fun _=>?_) (fun _=>?_)) | (refine ar.split (fun _=>?_) (fun _=>?_)) | (simp (disch:=omega) only [↓wr,↓reduceIte,wq,ag,ao,Nat.reduceEqDiff,Nat.reduceAdd,Nat.reduceLT,Int.reduceNeg,reduceCtorEq,f1,f3,f4,av,encS]))
        all_goals simp only[show 0≤t.left by omega,show t.left≤w+1 by omega,decide_true,Bool.true_and] at hi
        · rename_i e3 e4
          rw[e3,Bool.true_and,if_pos e4] at hi
          exact ⟨k - 1,by omega,i+1,_,by omega,by omega,by push_cast; omega,hi,by first | rfl | exact ⟨rfl,rfl⟩ | exact ⟨rfl,rfl,rfl⟩⟩
        · rename_i e3 e4
          rw[e3,Bool.true_and,if_neg e4] at hi
          exact ⟨k - 1,by omega,i+1,_,by omega,by omega,by push_cast; omega,hi,by first | rfl | exact ⟨rfl,rfl⟩ | exact ⟨rfl,rfl,rfl⟩⟩
        · rename_i e3
          rw[e3,Bool.false_and] at hi
          exact hpre _ hi.symm
      · rw[List.drop_eq_nil_of_le (by omega)] at hi
        simp only[eD] at hi
        simp (disch:=omega) only [↓wr,↓reduceIte,wq,ag,ao,Nat.reduceEqDiff,Nat.reduceAdd,Nat.reduceLT,reduceCtorEq,f1,f3,av,encS]
        exact hpre _ hi.symm
  · rename_i h1; simp[br,h1]
theorem iw (g:aw) (hg:g.Ok):aJ Tryz.prog 48 [.agg (av g)] (gb (br g)):=aJ.val (gn g) (FU g hg)
inductive bL (α:Type) where
  | nil
  | node (v:α) (l r:bL α)
noncomputable def bL.get {α:Type} (z:α) (t:bL α):Nat→α :=
  bL.rec (motive:=fun _=>Nat→α) (fun _=>z) (fun v _ _ gl gr i=>Bool.rec (Bool.rec (gr (i / 2 - 1)) (gl (i / 2)) (Nat.beq (i % 2) 1)) v (Nat.beq i 0)) t
theorem bL.get_nil {α:Type} (z:α) (i:Nat):bL.get z .nil i=z:=rfl
theorem bL.KB {α:Type} (z v:α) (l r:bL α) (i:Nat):bL.get z (.node v l r) i=match Nat.beq i 0 with
    | true=>v
    | false=>match Nat.beq (i % 2) 1 with
      | true=>bL.get z l (i / 2)
      | false=>bL.get z r (i / 2 - 1):=by
  change (Bool.rec (motive:=fun _=>α) _ _ _:α)=_
  cases Nat.beq i 0 with
  | true=>rfl
  | false=>cases Nat.beq (i % 2) 1 <;> rfl
def bL.val {α:Type} (z:α):bL α→α
  | .nil=>z
  | .node v _ _=>v
def bL.left {α:Type} : bL α→bL α
  | .nil=>.nil
  | .node _ l _=>l
def bL.right {α:Type} : bL α→bL α
  | .nil=>.nil
  | .node _ _ r=>r
noncomputable def bL.put {α:Type} (z:α) (x:α) (d:Nat):bL α→Nat→bL α :=
  Nat.rec (motive:=fun _=>bL α→Nat→bL α) (fun t _=>t) (fun _ pd t i =>
    Bool.rec (Bool.rec (.node (t.val z) t.left (pd t.right (i / 2 - 1))) (.node (t.val z) (pd t.left (i / 2)) t.right) (Nat.beq (i % 2) 1)) (.node x t.left t.right) (Nat.beq i 0)) d
theorem bL.Ks {α:Type} (z x:α) (d:Nat) (t:bL α) (i:Nat):bL.put z x (d+1) t i=match Nat.beq i 0 with
    | true=>.node x t.left t.right
    | false=>match Nat.beq (i % 2) 1 with
      | true=>.node (t.val z) (bL.put z x d t.left (i / 2)) t.right
      | false=>.node (t.val z) t.left (bL.put z x d t.right (i / 2 - 1)):=by
  change (Bool.rec (motive:=fun _=>bL α) _ _ _:bL α)=_
  cases Nat.beq i 0 with
  | true=>rfl
  | false=>cases Nat.beq (i % 2) 1 <;> rfl
theorem bL.jy {α:Type} (z:α) (t:bL α) (j:Nat):t.get z j=if j=0 then t.val z else if j % 2=1 then t.left.get z (j / 2) else t.right.get z (j / 2 - 1):=by
  cases t with
  | nil=>simp[bL.get_nil,bL.val,bL.left,bL.right]
  | node v l r =>
    simp only[bL.KB,bL.val,bL.left,bL.right]
    by_cases h:j=0
    · subst h; rfl
    · have:Nat.beq j 0=false:=by cases e:Nat.beq j 0 with | true=>exact absurd (Nat.eq_of_beq_eq_true e) h | false=>rfl
      rw[this,if_neg h]
      simp only
      by_cases h2:j % 2=1
      · have:Nat.beq (j % 2) 1=true:=by rw[h2]; rfl
        rw[this,if_pos h2]
      · have:Nat.beq (j % 2) 1=false:=by cases e:Nat.beq (j % 2) 1 with | true=>exact absurd (Nat.eq_of_beq_eq_true e) h2 | false=>rfl
        rw[this,if_neg h2]
theorem bL.jF {α:Type} (z x:α):∀ (d:Nat) (t:bL α) (i j:Nat),i+1 < 2 ^ d→(bL.put z x d t i).get z j=if j=i then x else t.get z j
  | 0,t,i,j,h=>by simp at h
  | d+1,t,i,j,h=>by
    rw[Nat.pow_succ] at h
    simp only[bL.Ks]
    by_cases hi:i=0
    · subst hi
      have:Nat.beq 0 0=true:=rfl
      rw[this]
      simp only
      rw[bL.jy,bL.jy z t]
      simp only[bL.val,bL.left,bL.right]
      by_cases hj:j=0
      · rw[if_pos hj,if_pos hj]
      · rw[if_neg hj,if_neg hj,if_neg hj]
    · have:Nat.beq i 0=false:=by cases e:Nat.beq i 0 with | true=>exact absurd (Nat.eq_of_beq_eq_true e) hi | false=>rfl
      rw[this]
      simp only
      by_cases h2:i % 2=1
      · have:Nat.beq (i % 2) 1=true:=by rw[h2]; rfl
        rw[this]
        simp only
        rw[bL.jy,bL.jy z t]
        simp only[bL.val,bL.left,bL.right]
        by_cases hj:j=0
        · subst hj; rw[if_pos rfl,if_neg (fun e=>hi e.symm),if_pos rfl]
        · rw[if_neg hj,if_neg hj]
          by_cases hj2:j % 2=1
          · rw[if_pos hj2,if_pos hj2,bL.jF z x d _ _ _ (by omega)]
            by_cases e:j=i
            · subst e; simp
            · rw[if_neg e,if_neg (by omega)]
          · rw[if_neg hj2,if_neg hj2,if_neg (fun e=>hj2 (by rw[e]; exact h2))]
      · have:Nat.beq (i % 2) 1=false:=by cases e:Nat.beq (i % 2) 1 with | true=>exact absurd (Nat.eq_of_beq_eq_true e) h2 | false=>rfl
        rw[this]
        simp only
        rw[bL.jy,bL.jy z t]
        simp only[bL.val,bL.left,bL.right]
        by_cases hj:j=0
        · subst hj; rw[if_pos rfl,if_neg (fun e=>hi e.symm),if_pos rfl]
        · rw[if_neg hj,if_neg hj]
          by_cases hj2:j % 2=1
          · rw[if_pos hj2,if_pos hj2,if_neg (fun e=>h2 (by rw[← e]; exact hj2))]
          · rw[if_neg hj2,if_neg hj2,bL.jF z x d _ _ _ (by omega)]
            by_cases e:j=i
            · subst e; simp
            · rw[if_neg e,if_neg (by omega)]
abbrev deep:Nat:=13
structure ES where
  L:bL V
  H:bL bK
  n:Nat
  w:List Nat
noncomputable def ES.T (s:ES):Env:=s.L.get .any
noncomputable def ES.V (s:ES):View:=s.H.get .dead
noncomputable def ES.put (s:ES) (d:Option Nat) (v:Gv.V):ES:=match d with
  | some t=>⟨s.L.put .any v deep t,s.H,s.n,s.w⟩
  | none=>s
theorem ES.Ll {s:ES} {d:Option Nat} {v:Gv.V} (h:∀ t,d=some t→t < 8000):(s.put d v).T=s.T.put d v:=by
  cases d with
  | none=>rfl
  | some t =>
    funext k
    have:=h t rfl
    simp only[ES.put,ES.T,Env.put]
    rw[bL.jF _ _ _ _ _ _ (by simp[deep]; omega)]
noncomputable def Dq (v:V) (aB:aZ) (rd:List Nat) (s:ES):Option (V × ES × Rec):=match aB with
  | .none=>some (v,s,⟨rd,[],false,s.n,s.n⟩)
  | .new o=>match Nat.ble s.n 8000 with
    | true=>some (v,⟨s.L,s.H.put .dead o deep s.n,s.n+1,s.w⟩,⟨rd,[],false,s.n,s.n+1⟩)
    | false=>none
  | .eJ id o=>match Nat.ble id 8000 with
    | true=>some (v,⟨s.L,s.H.put .dead o deep id,s.n,id :: s.w⟩,⟨rd,[id],false,s.n,s.n⟩)
    | false=>none
  | .aW id o=>match Nat.ble s.n 8000,Nat.ble id 8000 with
    | true,true=>some (v,⟨s.L,(s.H.put .dead .dead deep id).put .dead o deep s.n,s.n+1,id :: s.w⟩,⟨rd,[id],false,s.n,s.n+1⟩)
    | _,_=>none
noncomputable def N0 (x:SX) (_:Program) (T:Env) (_:View) (_:Nat):Out:=some (x.at T,.none,[])
noncomputable def NB (c a b:SX) (_:Program) (T:Env) (_:View) (_:Nat):Out:=match c.at T with
  | .val (.bool t)=>some (if t then a.at T else b.at T,.none,[])
  | _=>none
noncomputable def Nz (sz:Option Nat) (a:SX) (_:Program) (T:Env) (H:View) (_:Nat):Out:=uf sz (a.at T) H
noncomputable def MW (sz:Nat) (a x:SX) (_:Program) (T:Env) (H:View) (_:Nat):Out:=yF sz (a.at T) (x.at T) H
noncomputable def Ns (off:Nat) (x:SX) (_:Program) (T:Env) (_:View) (_:Nat):Out:=w7 off (x.at T)
noncomputable def NZ (sz:Nat) (x i:SX) (_:Program) (T:Env) (_:View) (_:Nat):Out:=Ah sz (x.at T) (i.at T)
noncomputable def NN (x:SX) (_:Program) (T:Env) (_:View) (_:Nat):Out:=(dq (x.at T)).map fun n=>(ao n,.none,[])
noncomputable def M8 (op:BinOp) (x y:SX) (_:Program) (T:Env) (_:View) (_:Nat):Out:=vO op (x.at T) (y.at T)
noncomputable def N3 (op:BinOp) (x y:SX) (_:Program) (T:Env) (_:View) (_:Nat):Out:=yx op (x.at T) (y.at T)
noncomputable def NK (x:SX) (_:Program) (T:Env) (_:View) (_:Nat):Out:=match x.at T with
  | .val (.bool t)=>some (.val (.bool (!t)),.none,[])
  | _=>none
noncomputable def NU (i:Nat) (x:SX) (_:Program) (T:Env) (_:View) (_:Nat):Out:=match x.at T with
  | .bh vs=>if i < vs.length then some (vs.getD i .any,.none,[]) else none
  | _=>none
noncomputable def Nk (x:SX) (_:Program) (T:Env) (_:View) (_:Nat):Out:=match x.at T with
  | .ptr id i j=>some (.ptr id i j,.none,[])
  | .aQ e j=>some (.aQ e j,.none,[])
  | .fn f a b=>some (.fn f a b,.none,[])
  | _=>none
noncomputable def eI (s:SI):Program→Env→View→Nat→Out:=match s with
  | .aW x=>N0 x
  | .pick c a b=>NB c a b
  | .load sz a=>Nz sz a
  | .store sz a x=>MW sz a x
  | .addr o x=>Ns o x
  | .idx sz x i=>NZ sz x i
  | .len x=>NN x
  | .arith op x y=>M8 op x y
  | .gD op x y=>N3 op x y
  | .not x=>NK x
  | .ext i x=>NU i x
  | .xS x=>Nk x
  | s=>fun P T H n=>sI P s T H n
theorem Gx (s:SI) (P:Program) (T:Env) (H:View) (n:Nat):eI s P T H n=sI P s T H n:=by
  cases s <;> rfl
abbrev eS:=FuncId→List V→ES→Option (V × ES)
noncomputable def HF (P:Program) (s:SI) (e:ES):Option (V × ES × Rec):=match eI s P e.T e.V e.n with
  | some (v,aB,rd)=>Dq v aB rd e
  | none=>none
noncomputable def Ib (call:eS) (f:SX) (args:List SX) (e:ES):Option (V × ES × Rec):=match f.at e.T with
  | .fn g first cap=>match call g (first ++ args.map (SX.at e.T) ++ cap) e with
    | some (v,e')=>some (v,⟨e.L,e'.H,e'.n,e'.w ++ e.w⟩,⟨[],e'.w,true,e.n,e'.n⟩)
    | none=>none
  | _=>none
noncomputable def eB (P:Program) (call:eS) (b:SB):ES→Option (V × ES × Rec):=match b with
  | .op s=>HF P s
  | .call f args=>Ib call f args
noncomputable def Fj (P:Program) (call:eS):List (Option Nat × SB)→List Rec→ES→Option (ES × List Rec)
  | [],a,e=>some (e,a)
  | (d,b) :: r,a,e=>match eB P call b e with
    | some (v,e',c)=>Fj P call r (a ++ [c]) (e'.put d v)
    | none=>none
noncomputable def Lm (e:ES):Rec:=⟨[],[],false,e.n,e.n⟩
noncomputable def uj:List (Option Nat × SB)→List Rec→ES→ES × List Rec
  | [],a,e=>(e,a)
  | (d,_) :: r,a,e=>uj r (a ++ [Lm e]) (e.put d (.bh []))
noncomputable def HJ (P:Program) (call:eS) (ops:List (Option Nat × SB)) (want:Bool) (v:V) (a:List Rec) (e:ES):Option (ES × List Rec):=match v with
  | .val (.bool b)=>match xor b want with
    | true=>some (uj ops a e)
    | false=>Fj P call ops a e
  | .bh []=>some (uj ops a e)
  | _=>none
noncomputable def eG (P:Program) (call:eS) (g:SG) (a:List Rec) (e:ES):Option (ES × List Rec):=match g.guard with
  | none=>Fj P call g.ops a e
  | some (d,want)=>HJ P call g.ops want (e.T d) a e
noncomputable def HU (P:Program) (call:eS):List SG→List Rec→ES→Option (ES × List Rec)
  | [],a,e=>some (e,a)
  | g :: r,a,e=>match eG P call g a e with
    | some (e',a')=>HU P call r a' e'
    | none=>none
inductive DC where
  | skip
  | region (ps:List (Nat × Nat)) (gs:List SG)
  | seq (x y:DC)
  | cond (c:SX) (x y:DC)
  | block (id:Nat) (c:DC)
  | loop (c:DC)
  | exit (id:Nat)
  | ret
  deriving Inhabited
def Ht (recs:List Rec) (ps:List (Nat × Nat)):Bool:=ps.all fun (i,k)=>match recs[i]?,recs[k]? with
  | some a,some b=>z7 a b
  | _,_=>false
abbrev ER:=Option (Exit × ES)
abbrev uM:=DC→ES→ER
noncomputable def IK:ES→ER:=fun e=>some (.normal,e)
noncomputable def FI (P:Program) (call:eS) (ps:List (Nat × Nat)) (gs:List SG) (e:ES):ER:=match HU P call gs [] e with
  | some (e',recs)=>match Ht recs ps with
    | true=>some (.normal,e')
    | false=>none
  | none=>none
noncomputable def M7 (run:uM) (x y:DC) (e:ES):ER:=match run x e with
  | some (.normal,e')=>run y e'
  | r=>r
noncomputable def K9 (run:uM) (c:SX) (x y:DC) (e:ES):ER:=match c.at e.T with
  | .val (.bool true)=>run x e
  | .val (.bool false)=>run y e
  | _=>none
noncomputable def IT (run:uM) (id:Nat) (c:DC) (e:ES):ER:=match run c e with
  | some (r,e')=>some (l8 id r,e')
  | none=>none
noncomputable def Lo (run:uM) (c:DC) (e:ES):ER:=match run c e with
  | some (.normal,e')=>run (.loop c) e'
  | r=>r
noncomputable def jl (P:Program) (call:eS) (run:uM) (c:DC):ES→ER:=match c with
  | .skip=>IK
  | .region ps gs=>FI P call ps gs
  | .seq x y=>M7 run x y
  | .cond c x y=>K9 run c x y
  | .block id c=>IT run id c
  | .loop c=>Lo run c
  | .exit id=>fun e=>some (.exit id,e)
  | .ret=>fun e=>some (.ret,e)
noncomputable def JW (r:SR) (e:ES):Option V:=match r with
  | .tmp t=>some (e.T t)
  | .cell t sz=>match e.T t with
    | .ptr id i j=>match e.V id with
      | .arr _ es=>if i < es.length then je sz (es.getD i []) j else none
      | _=>none
    | .aQ e j=>je sz e j
    | _=>none
noncomputable def tn:List SR→ES→Option (List V)
  | [],_=>some []
  | r :: l,e=>match JW r e,tn l e with
    | some v,some vs=>some (v :: vs)
    | _,_=>none
noncomputable def jW:List V→Nat→bL V→bL V
  | [],_,t=>t
  | v :: vs,i,t=>jW vs (i+1) (t.put .any v deep i)
structure DF where
  code:DC
  res:List SR
  n:Nat
noncomputable def MY (l:List SR) (r:ER):Option (V × ES):=match r with
  | some (.ret,e)=>(tn l e).map fun vs=>(ai vs,e)
  | some (.normal,e)=>(tn l e).map fun vs=>(ai vs,e)
  | _=>none
noncomputable def MC (m:Nat) (r:Option (V × ES)):Option (V × ES):=match r with
  | some (v,e)=>some (v,⟨e.L,e.H,e.n,e.w.filter fun id=>Nat.blt id m⟩)
  | none=>none
noncomputable def Mv (run:uM) (F:DF) (vs:List V) (e:ES):Option (V × ES):=match Nat.ble vs.length F.n,Nat.ble F.n 8000 with
  | true,true=>MC e.n (MY F.res (run F.code ⟨jW vs 0 .nil,e.H,e.n,[]⟩))
  | _,_=>none
abbrev vy:=FuncId→List V→View→Option V
noncomputable def BY (P:Program) (tab:List (FuncId × DF)) (ext:vy) (run:uM) (g:FuncId) (vs:List V) (e:ES):Option (V × ES):=match ext g vs e.V with
  | some t=>some (t,⟨e.L,e.H,e.n,[]⟩)
  | none=>match tab.find? (fun p=>Nat.beq p.1 g) with
    | some (_,F)=>Mv run F vs e
    | none=>none
noncomputable def DX (P:Program) (tab:List (FuncId × DF)) (ext:vy):Nat→uM
  | 0=>fun _ _=>none
  | k+1=>jl P (BY P tab ext (DX P tab ext k)) (DX P tab ext k)
def zl (all:List Oper) (ls:List Nat):List (Nat × Nat) :=
  let b:=dI all []
  (ls.zipIdx.map fun (x,i)=>(ls.zipIdx.filter fun (y,k)=>decide (i < k) && !(ordered b i k || x == 0 || y == 0 || (decide (x≤1) && decide (y≤1)))).map fun (_,k)=>(i,k)).flatten
def Ct (P:Program) (n:Nat) (fz:List Nat) (ops:List Oper) (draw:Bool):Option DC:=match ct P n ops ⟨fz,false⟩ ops with
  | none=>none
  | some l=>if !(group l).all pS then none else
    if draw then (if ja ops then some (.region (zl ops (l.map fun s=>fE P false s.b)) (group l)) else none) else some (.region [] (group l))
def fD (P:Program) (n:Nat) (fz:List Nat):Code→Option DC
  | .skip=>some .skip
  | .region _ ops draw=>Ct P n fz ops.toList draw
  | .seq x y=>match fD P n fz x,fD P n fz y with
    | some a,some b=>some (.seq a b)
    | _,_=>none
  | .cond c x y=>match fD P n fz x,fD P n fz y with
    | some a,some b=>some (.cond (SX.of c) a b)
    | _,_=>none
  | .block id c=>(fD P n fz c).map (.block id)
  | .loop c=>(fD P n fz c).map .loop
  | .exit id=>some (.exit id)
  | .ret=>some .ret
  | _=>none
abbrev ah (l:List (Option Nat × SB)):DC:=.region [] [⟨none,l⟩]
def aK (P:Program) (f:FuncId) (fz:List Nat):Option DF:=match P.funcs[f]? with
  | some fn=>match fn.body with
    | some c=>match fD P fn.ntmps fz c,dK P fn.results.toList,ca P f with
      | some sc,some rs,true=>some ⟨sc,rs,fn.ntmps⟩
      | _,_,_=>none
    | none=>none
  | none=>none
end Gv
