/-
  Part 6 of the proof: what the machine does and what the functions answer.
  Conditions: those that each lemma names.
-/
import Derived.Test.YtomcjampldmjoaaGreatSGzSE
set_option linter.unusedSimpArgs false
set_option linter.unusedVariables false
set_option maxRecDepth 100000
namespace Gv
open Go Go.Proofs
structure Term where
  name:ByteArray
  level:Int
  assoc:Int
structure aM where
  left:Int
  right:List Int
  prec:Int
structure ao where
  ay:List Term
  au:List ByteArray
  rules:List aM
  start:Int
instance:Inhabited Term:=⟨⟨.empty,0,0⟩⟩
instance:Inhabited aM:=⟨⟨0,[],0⟩⟩
def cr (t:Term):List V:=[gs t.name,gi t.level,gi t.assoc]
def aK (r:aM):List V:=[gi r.left,encI r.right,gi r.prec]
def encS (l:List ByteArray):V:=.aY (l.map fun s=>[gs s])
def al (g:ao):List V:=[.aY (g.ay.map cr),encS g.au,.aY (g.rules.map aK),gi g.start]
theorem eV {α:Type} (l:List α) (f:α→List V) (h:∀ x∈l,∀ v∈f x,Tree v):Tree (.aY (l.map f)):=by
  refine .aY _ fun i j hi hj=>?_
  simp only[List.length_map] at hi
  have e:(l.map f).getD i []=f l[i]:=by simp[List.getD_eq_getElem?_getD,hi]
  rw[e] at hj ⊢
  have e2:(f l[i]).getD j .any=(f l[i])[j]:=by simp[List.getD_eq_getElem?_getD,hj]
  rw[e2]
  exact h _ (List.getElem_mem _) _ (List.getElem_mem _)
theorem cg (cs:List V) (h:∀ v∈cs,Tree v):Tree (.agg cs):=by
  refine .agg _ fun i hi=>?_
  have e2:cs.getD i .any=cs[i]:=by simp[List.getD_eq_getElem?_getD,hi]
  rw[e2]; exact h _ (List.getElem_mem _)
theorem wZ (l:List ByteArray):Tree (encS l):=eV _ _ fun x _ v hv=>by simp at hv; subst hv; exact .val _
theorem rV (t:Term):∀ v∈cr t,Tree v:=by intro v hv; simp[cr] at hv; rcases hv with rfl | rfl | rfl <;> exact .val _
theorem eK (r:aM):∀ v∈aK r,Tree v:=by
  intro v hv; simp[aK] at hv; rcases hv with rfl | rfl | rfl
  · exact .val _
  · exact bX _
  · exact .val _
theorem cO (g:ao):∀ v∈al g,Tree v:=by
  intro v hv; simp[al] at hv; rcases hv with rfl | rfl | rfl | rfl
  · exact eV _ _ fun x _=>rV x
  · exact wZ _
  · exact eV _ _ fun x _=>eK x
  · exact .val _
def bM (x:Int):Prop:=-9223372036854775808≤x∧x≤9223372036854775807
structure ao.Ok (g:ao):Prop where
  ay:aN g.ay
  au:aN g.au
  rules:aN g.rules
  start:bM g.start
  term:∀ t∈g.ay,bM t.level∧bM t.assoc
  ba:∀ r∈g.rules,bM r.left∧bM r.prec∧aN r.right∧∀ x∈r.right,bM x
def im (g:ao) (s:Int):Bool:=if 0≤s then decide (s < g.ay.length) else decide (-1 - s < g.au.length)
def qc:SF:=⟨.seq (ak [cx 2 0,bg 4 false]) <|
  .seq (.seq (ak [ae 5 1,ax 6 .geq 5 0]) <|
  .cond (.tmp 6) (.seq (ak [ae 7 1,aq 8 0 2,an 9 8,aP 10 9,aR 11 .lss 7 10,ae 4 11]) <|
  .ret) (.skip)) <|
  .seq (ak [ae 12 1,((some 13),.op (.arith .sub (.val (.val (.int .i64 (-1)))) (.tmp 12))),aq 14 1 2,an 15 14,aP 16 15,aR 17 .lss 13 16,ae 4 17]) <|
  .ret,
  [.tmp 4],18⟩
theorem vE:aU Tryz.prog 143 [2]=some qc:=by kernel_rfl
theorem Pv (g:ao) (s:Int) (hs:bM s) (H:View):az Tryz.prog 143 [.agg (al g),gi s] H fun r H'=>r=gb (im g s)∧H'=H:=by
  refine az.of mixed vE ?_
  obtain ⟨h1,h2⟩:=hs
  simp (disch:=omega) only [↓wr,↓reduceIte,wq,ah,ag,Nat.reduceEqDiff,Nat.reduceAdd,Nat.reduceLeDiff,Int.reduceNeg,qc,al,encS]
  refine ar.dec (fun h=>?_) (fun h=>?_)
  · simp (disch:=omega) only [↓wr,↓reduceIte,wq,ag,aj,Nat.reduceEqDiff,Nat.reduceAdd,Nat.reduceLT,Int.reduceNeg,reduceCtorEq]
    simp[im,show (0:Int)≤s from h]
  · simp (disch:=omega) only [↓wr,↓reduceIte,wq,ag,aj,Nat.reduceEqDiff,Nat.reduceAdd,Nat.reduceLT,Int.reduceNeg,reduceCtorEq]
    simp[im,show ¬ (0:Int)≤s from h]
theorem OQ (g:ao) (s:Int) (hs:bM s):aF Tryz.prog 143 [.agg (al g),gi s] (gb (im g s)) :=
  aF.of (by
    intro v hv; simp at hv
    rcases hv with rfl | rfl
    · exact cg _ (cO g)
    · exact .val _) ((Pv g s hs _).mono fun r H' h h' _=>by rw[h.1]; exact .tree _ (.val _))
def mz (g:ao):Bool:=decide (40 < g.ay.length) || decide (40 < g.au.length) || decide (60 < g.rules.length) || g.rules.any fun r=>decide (20 < r.right.length)
def lE:SC :=
  .seq (.seq (ak [ae 20 3,aq 21 2 1,an 22 21,aP 23 22,aR 24 .lss 20 23]) <|
  .cond (.tmp 24) (.skip) (.exit 0)) <|
  .seq (.block 1 (.seq (ak [aq 27 2 1,an 28 27,ae 29 3,aQ 30 3 28 29,aq 31 1 30,an 32 31,aP 33 32,ax 34 .gtr 33 20]) <|
  .cond (.tmp 34) (.seq (ak [bg 2 true]) <|
  .ret) (.skip))) <|
  ak [ae 25 3,ax 26 .add 25 1,ae 3 26]
def nE:SF:=⟨.seq (ak [cx 1 0,bg 2 false]) <|
  .seq (.seq (.region false [⟨none,[aq 4 0 1,an 5 4,aP 6 5,ax 7 .gtr 6 40,ae 8 7]⟩,⟨(some (8,false)),[aq 9 1 1,an 10 9,aP 11 10,ax 12 .gtr 11 40]⟩,⟨none,[bH 13 8 12,ae 14 13]⟩,⟨(some (14,false)),[aq 15 2 1,an 16 15,aP 17 16,ax 18 .gtr 17 60]⟩,⟨none,[bH 19 14 18]⟩]) <|
  .cond (.tmp 19) (.seq (ak [bg 2 true]) <|
  .ret) (.skip)) <|
  .seq (.seq (ak [aH 3 0]) <|
  .block 0 (.loop lE)) <|
  .seq (ak [bg 2 false]) <|
  .ret,
  [.tmp 2],35⟩
theorem sL:aU Tryz.prog 12 [1]=some nE:=by kernel_rfl
theorem LB (g:ao) (H:View):az Tryz.prog 12 [.agg (al g)] H fun r H'=>r=gb (mz g)∧H'=H:=by
  refine az.of mixed sL ?_
  simp (disch:=omega) only [↓wr,↓reduceIte,wq,ah,ag,aj,Nat.reduceEqDiff,Nat.reduceAdd,Nat.reduceLT,Nat.reduceLeDiff,nE,al,encS]
  refine ar.dec (fun h1=>?_) (fun h1=>?_)
  · simp (disch:=omega) only [↓wr,↓reduceIte,wq,Nat.reduceEqDiff,reduceCtorEq]
    simp[mz,show 40 < g.ay.length by omega]
  · simp (disch:=omega) only [↓wr,↓reduceIte,wq,ag,aj,Nat.reduceEqDiff,Nat.reduceAdd,Nat.reduceLT]
    refine ar.dec (fun h2=>?_) (fun h2=>?_)
    · simp (disch:=omega) only [↓wr,↓reduceIte,wq,Nat.reduceEqDiff,reduceCtorEq]
      simp[mz,show 40 < g.au.length by omega]
    · simp (disch:=omega) only [↓wr,↓reduceIte,wq,ag,aj,Nat.reduceEqDiff,Nat.reduceAdd,Nat.reduceLT]
      refine ar.dec (fun h3=>?_) (fun h3=>?_)
      · simp (disch:=omega) only [↓wr,↓reduceIte,wq,reduceCtorEq]
        simp[mz,show 60 < g.rules.length by omega]
      · simp (disch:=omega) only [↓wr,wq]
        refine bc.intro (fun k T H'=>∃ i:Nat,i+k=g.rules.length∧(∀ r∈g.rules.take i,¬ 20 < r.right.length)∧T 1=.aS (al g) 0∧T 3=gi i∧H'=H) g.rules.length ?_ ?_
        · exact ⟨0,by omega,by simp,rfl,rfl,rfl⟩
        · rintro k T H' ⟨i,hk,hi,e1,e3,rfl⟩
          simp (disch:=omega) only [↓wr,↓reduceIte,wq,ag,aj,Nat.reduceEqDiff,Nat.reduceAdd,Nat.reduceLT,reduceCtorEq,lE,e1,e3,al]
          refine ar.dec (fun hc=>?_) (fun hc=>?_)
          · have hg:g.rules[i]?=some (g.rules[i]'(by omega)):=List.getElem?_eq_getElem (by omega)
            simp (disch:=omega) only [↓wr,↓reduceIte,wq,ag,aj,Nat.reduceEqDiff,Nat.reduceAdd,Nat.reduceLT,e1,e3,al,aK,encI,List.getElem?_map,hg]
            refine ar.dec (fun hd=>?_) (fun hd=>?_)
            · simp (disch:=omega) only [↓wr,↓reduceIte,wq,ag,Nat.reduceEqDiff,reduceCtorEq]
              have:g.rules.any (fun r=>decide (20 < r.right.length))=true:=by
                simp only[List.any_eq_true,decide_eq_true_eq]
                exact ⟨g.rules[i]'(by omega),List.getElem_mem _,by omega⟩
              simp[mz,this]
            · simp (disch:=omega) only [↓wr,↓reduceIte,wq,ag,Nat.reduceEqDiff,reduceCtorEq,e1,e3]
              refine ⟨k - 1,by omega,i+1,by omega,?_,rfl,rfl⟩
              intro r hr
              rw[List.take_add_one,hg] at hr
              simp only[Option.toList_some,List.mem_append,List.mem_singleton] at hr
              rcases hr with hr | rfl
              · exact hi r hr
              · omega
          · simp (disch:=omega) only [↓wr,↓reduceIte,wq,Nat.reduceEqDiff,reduceCtorEq]
            have e:i=g.rules.length:=by omega
            rw[List.take_of_length_le (by omega)] at hi
            have:g.rules.any (fun r=>decide (20 < r.right.length))=false:=by
              simp only[List.any_eq_false,decide_eq_true_eq]; exact hi
            simp only[mz,this]
            simp; omega
def dy (l:List Int) (is:List Bool) (ay:Bool):Bool:=l.all fun s=>if 0≤s then ay else is.getD (-1 - s).toNat false
def nD:SC :=
  .seq (.seq (ak [ae 8 7,ae 9 0,aP 10 9,aR 11 .lss 8 10]) <|
  .cond (.tmp 11) (.skip) (.exit 0)) <|
  .seq (.block 1 (.seq (.region false [⟨none,[ae 14 0,ae 15 7,aQ 16 1 14 15,an 17 16,ax 18 .geq 17 0,ae 19 18]⟩,⟨(some (19,true)),[ae 20 2,cd 21 20]⟩,⟨none,[bN 22 19 21,ae 23 22]⟩,⟨(some (23,false)),[ae 24 0,ae 25 7,aQ 26 1 24 25,an 27 26,ax 28 .lss 27 0,ae 29 28]⟩,⟨(some (29,true)),[ae 30 1,ae 31 0,ae 32 7,aQ 33 1 31 32,an 34 33,((some 35),.op (.arith .sub (.val (.val (.int .i64 (-1)))) (.tmp 34))),aQ 36 1 30 35,an 37 36,cd 38 37]⟩,⟨(some (23,false)),[bN 39 29 38]⟩,⟨none,[bH 40 23 39]⟩]) <|
  .cond (.tmp 40) (.seq (ak [bg 6 false]) <|
  .ret) (.skip))) <|
  ak [ae 12 7,ax 13 .add 12 1,ae 7 13]
def qf:SF:=⟨.seq (ak [bg 6 false]) <|
  .seq (.seq (ak [aH 7 0]) <|
  .block 0 (.loop nD)) <|
  .seq (ak [bg 6 true]) <|
  .ret,
  [.tmp 6],41⟩
theorem vy:aU Tryz.prog 117 []=some qf:=by kernel_rfl
theorem OY (l:List Int) (is:List Bool) (t:Bool) (hl:aN l) (hs:∀ s∈l,bM s∧(s < 0→-1 - s < is.length)) (H:View) :
    az Tryz.prog 117 [encI l,bF is,gb t] H fun r H'=>r=gb (dy l is t)∧H'=H:=by
  refine az.of mixed vy ?_
  unfold aN at hl
  simp (disch:=omega) only [↓wr,wq,ah,Nat.reduceAdd,Nat.reduceLeDiff,qf]
  refine bc.intro (fun k T H'=>∃ i:Nat,i+k=l.length∧dy (l.take i) is t=true∧T 0=encI l∧T 1=bF is∧T 2=gb t∧T 7=gi i∧H'=H) l.length ?_ ?_
  · exact ⟨0,by omega,by simp[dy],rfl,rfl,rfl,rfl,rfl⟩
  · rintro k T H' ⟨i,hk,hi,h0,h1,h2,h7,rfl⟩
    simp (disch:=omega) only [↓wr,↓reduceIte,wq,ag,aj,Nat.reduceEqDiff,Int.reduceNeg,reduceCtorEq,nD,h0,h7,encI]
    refine ar.dec (fun hc=>?_) (fun hc=>?_)
    · have hg:l[i]?=some (l[i]'(by omega)):=List.getElem?_eq_getElem (by omega)
      have hm:l[i]'(by omega)∈l:=List.getElem_mem _
      generalize l[i]'(by omega)=s at hg hm
      obtain ⟨⟨hs1,hs2⟩,hs3⟩:=hs s hm
      have hstep:dy (l.take (i+1)) is t=(if 0≤s then t else is.getD (-1 - s).toNat false):=by
        rw[List.take_add_one,hg]
        simp only[dy,Option.toList_some,List.all_append,List.all_cons,List.all_nil,Bool.and_true] at hi ⊢
        rw[hi,Bool.true_and]
      have hfail:(if 0≤s then t else is.getD (-1 - s).toNat false)=false→dy l is t=false:=by
        intro hb
        simp only[dy,List.all_eq_false]
        exact ⟨s,hm,by simpa using hb⟩
      simp (disch:=omega) only [↓wr,↓reduceIte,wq,ag,Nat.reduceEqDiff,Nat.reduceLT,Int.reduceNeg,reduceCtorEq,h0,h7,encI,List.getElem?_map,hg]
      refine ar.dec (fun hd=>?_) (fun hd=>?_)
      · rw[if_pos (show 0≤s from hd)] at hstep hfail
        cases t with
        | true =>
          simp (disch:=omega) only [↓wr,↓reduceIte,wq,ag,Nat.reduceEqDiff,Nat.reduceLT,Int.reduceNeg,reduceCtorEq,h0,h2,h7,encI,List.getElem?_map,hg]
          refine ar.dec (fun hn=>absurd hn (by omega)) (fun _=>?_)
          simp (disch:=omega) only [↓wr,↓reduceIte,wq,ag,Nat.reduceEqDiff,Int.reduceNeg,reduceCtorEq,h0,h1,h2,h7,encI,bF]
          exact ⟨k - 1,by omega,i+1,by omega,hstep,rfl⟩
        | false =>
          simp (disch:=omega) only [↓wr,↓reduceIte,wq,ag,Nat.reduceEqDiff,Int.reduceNeg,reduceCtorEq,h0,h1,h2,h7,encI]
          rw[hfail rfl]
      · rw[if_neg (show ¬ 0≤s from hd)] at hstep hfail
        simp (disch:=omega) only [↓wr,↓reduceIte,wq,ag,Nat.reduceEqDiff,Nat.reduceLT,Int.reduceNeg,reduceCtorEq,h0,h7,encI,List.getElem?_map,hg]
        refine ar.dec (fun hn=>?_) (fun hn=>absurd hn (by omega))
        have hb:is[(-1 - s).toNat]?=some (is[(-1 - s).toNat]'(by omega)):=List.getElem?_eq_getElem (by omega)
        have hbd:is.getD (-1 - s).toNat false=is[(-1 - s).toNat]'(by omega):=by simp[List.getD_eq_getElem?_getD,hb]
        rw[hbd] at hstep hfail
        generalize is[(-1 - s).toNat]'(by omega)=b at hb hstep hfail
        simp (disch:=omega) only [↓wr,↓reduceIte,wq,ag,Nat.reduceEqDiff,Nat.reduceLT,Int.reduceNeg,reduceCtorEq,h0,h1,h7,encI,bF,List.getElem?_map,hg,hb]
        cases b with
        | true =>
          simp (disch:=omega) only [↓wr,↓reduceIte,wq,ag,Nat.reduceEqDiff,Int.reduceNeg,reduceCtorEq,h0,h1,h2,h7,encI,bF]
          exact ⟨k - 1,by omega,i+1,by omega,hstep,rfl⟩
        | false =>
          simp (disch:=omega) only [↓wr,↓reduceIte,wq,ag,Nat.reduceEqDiff,Int.reduceNeg,reduceCtorEq,h0,h1,h2,h7,encI,bF]
          rw[hfail rfl]
    · simp (disch:=omega) only [↓wr,↓reduceIte,wq,Nat.reduceEqDiff,reduceCtorEq]
      have e:i=l.length:=by omega
      rw[List.take_of_length_le (by omega)] at hi
      rw[hi]
abbrev gy (x:Int):V:=.val (.int .u8 x)
def uz (c:Int):Bool:=(decide (97≤c) && decide (c≤122)) || (decide (65≤c) && decide (c≤90)) || c == 95
def mw (c:Int):Bool:=uz c || (decide (48≤c) && decide (c≤57)) || c == 46
def ng:SF:=⟨.seq (ak [bg 2 false]) <|
  .seq (.region false [⟨none,[ae 3 0,((some 4),.op (.arith .geq (.tmp 3) (.val (.val (.int .u8 97))))),ae 5 4]⟩,⟨(some (5,true)),[ae 6 0,((some 7),.op (.arith .leq (.tmp 6) (.val (.val (.int .u8 122)))))]⟩,⟨none,[bN 8 5 7,ae 9 8]⟩,⟨(some (9,false)),[ae 10 0,((some 11),.op (.arith .geq (.tmp 10) (.val (.val (.int .u8 65))))),ae 12 11]⟩,⟨(some (12,true)),[ae 13 0,((some 14),.op (.arith .leq (.tmp 13) (.val (.val (.int .u8 90)))))]⟩,⟨(some (9,false)),[bN 15 12 14]⟩,⟨none,[bH 16 9 15,ae 17 16]⟩,⟨(some (17,false)),[ae 18 0,((some 19),.op (.arith .eql (.tmp 18) (.val (.val (.int .u8 95)))))]⟩,⟨none,[bH 20 17 19,ae 2 20]⟩]) <|
  .ret,
  [.tmp 2],21⟩
theorem th:aU Tryz.prog 192 []=some ng:=by kernel_rfl
def nd:SF:=⟨.seq (ak [bg 2 false]) <|
  .seq (.region false [⟨none,[ae 3 0,aL 4 192 [3],ae 5 4]⟩,⟨(some (5,false)),[ae 6 0,((some 7),.op (.arith .geq (.tmp 6) (.val (.val (.int .u8 48))))),ae 8 7]⟩,⟨(some (8,true)),[ae 9 0,((some 10),.op (.arith .leq (.tmp 9) (.val (.val (.int .u8 57)))))]⟩,⟨(some (5,false)),[bN 11 8 10]⟩,⟨none,[bH 12 5 11,ae 13 12]⟩,⟨(some (13,false)),[ae 14 0,((some 15),.op (.arith .eql (.tmp 14) (.val (.val (.int .u8 46)))))]⟩,⟨none,[bH 16 13 15,ae 2 16]⟩]) <|
  .ret,
  [.tmp 2],17⟩
theorem sD:aU Tryz.prog 193 []=some nd:=by kernel_rfl
theorem KE (c:Int) (H:View):az Tryz.prog 192 [gy c] H fun r H'=>r=gb (uz c)∧H'=H:=by
  refine az.of mixed th ?_
  repeat' (first | (refine ar.dec (fun _=>?_) (fun _=>?_)) | (refine ar.eq (fun _=>?_) (fun _=>?_)) | (refine ar.ne (fun _=>?_) (fun _=>?_)) | (refine ar.split (fun _=>?_) (fun _=>?_)) | (simp (disch:=omega) only [↓wr,↓reduceIte,wq,ah,ag,Nat.reduceEqDiff,Nat.reduceLeDiff,reduceCtorEq,ng]))
  all_goals (congr 2; simp only[uz]; grind)
theorem EM (c:Int):aF Tryz.prog 192 [gy c] (gb (uz c)) :=
  aF.of (by intro v hv; simp at hv; subst hv; exact .val _) ((KE c _).mono fun r H' h h' _=>by rw[h.1]; exact .tree _ (.val _))
theorem Lh (c:Int) (H:View):az Tryz.prog 193 [gy c] H fun r H'=>r=gb (mw c)∧H'=H:=by
  refine az.of mixed sD ?_
  repeat' (first | (refine ar.dec (fun _=>?_) (fun _=>?_)) | (refine ar.eq (fun _=>?_) (fun _=>?_)) | (refine ar.ne (fun _=>?_) (fun _=>?_)) | (refine ar.split (fun _=>?_) (fun _=>?_)) | (simp (disch:=omega) only [↓wr,↓reduceIte,wq,ah,Nat.reduceLeDiff,reduceCtorEq,nd]))
  refine aC.pure (EM c) (by kernel_rfl) ?_
  repeat' (first | (refine ar.dec (fun _=>?_) (fun _=>?_)) | (refine ar.eq (fun _=>?_) (fun _=>?_)) | (refine ar.ne (fun _=>?_) (fun _=>?_)) | (refine ar.split (fun _=>?_) (fun _=>?_)) | (simp (disch:=omega) only [↓wr,↓reduceIte,wq,ag,Nat.reduceEqDiff,reduceCtorEq]))
  all_goals (congr 2; simp only[mw]; grind)
theorem Kp (c:Int):aF Tryz.prog 193 [gy c] (gb (mw c)) :=
  aF.of (by intro v hv; simp at hv; subst hv; exact .val _) ((Lh c _).mono fun r H' h h' _=>by rw[h.1]; exact .tree _ (.val _))
def fe (l:List Int):Bool:=decide (0 < l.length) && decide (l.length≤20) && (match l with | c :: _=>uz c | []=>false) && l.all mw
def mP:SC :=
  .seq (.seq (ak [ae 18 3,ae 19 0,((some 20),.op (.gP (.tmp 19))),aR 21 .lss 18 20]) <|
  .cond (.tmp 21) (.skip) (.exit 0)) <|
  .seq (.block 1 (.seq (ak [ae 24 0,ae 25 3,((some 26),.op (.dq (.tmp 24) (.tmp 25))),aL 27 193 [26],cd 28 27]) <|
  .cond (.tmp 28) (.seq (ak [bg 2 false]) <|
  .ret) (.skip))) <|
  ak [ae 22 3,ax 23 .add 22 1,ae 3 23]
def o7:SF:=⟨.seq (ak [bg 2 false]) <|
  .seq (.seq (.region false [⟨none,[ae 4 0,((some 5),.op (.gP (.tmp 4))),ax 6 .eql 5 0,ae 7 6]⟩,⟨(some (7,false)),[ae 8 0,((some 9),.op (.gP (.tmp 8))),ax 10 .gtr 9 20]⟩,⟨none,[bH 11 7 10,ae 12 11]⟩,⟨(some (12,false)),[ae 13 0,((some 14),.op (.dq (.tmp 13) (.val (.val (.int .i64 0))))),aL 15 192 [14],cd 16 15]⟩,⟨none,[bH 17 12 16]⟩]) <|
  .cond (.tmp 17) (.seq (ak [bg 2 false]) <|
  .ret) (.skip)) <|
  .seq (.seq (ak [aH 3 0]) <|
  .block 0 (.loop mP)) <|
  .seq (ak [bg 2 true]) <|
  .ret,
  [.tmp 2],29⟩
theorem tn:aU Tryz.prog 142 []=some o7:=by kernel_rfl
theorem HQ (s:ByteArray) (H:View):az Tryz.prog 142 [gs s] H fun r H'=>r=gb (fe (ey s))∧H'=H:=by
  refine az.of mixed tn ?_
  repeat' (first | (refine ar.dec (fun _=>?_) (fun _=>?_)) | (refine ar.eq (fun _=>?_) (fun _=>?_)) | (refine ar.ne (fun _=>?_) (fun _=>?_)) | (refine ar.split (fun _=>?_) (fun _=>?_)) | (simp (disch:=omega) only [↓wr,↓reduceIte,wq,ah,ag,aj,Nat.reduceEqDiff,Nat.reduceLeDiff,Int.reduceToNat,reduceCtorEq,o7,dN]))
  · rename_i h
    congr 2; simp[fe,show (ey s).length=0 by omega]
  · rename_i h
    congr 2; simp[fe,show ¬ (ey s).length≤20 by omega]
  · rename_i h1 h2
    cases hb:ey s with
    | nil=>simp[hb] at h1
    | cons c l =>
      repeat' (first | (refine ar.dec (fun _=>?_) (fun _=>?_)) | (refine ar.eq (fun _=>?_) (fun _=>?_)) | (refine ar.ne (fun _=>?_) (fun _=>?_)) | (refine ar.split (fun _=>?_) (fun _=>?_)) | (simp (disch:=omega) only [↓wr,↓reduceIte,wq,List.getElem?_cons_zero]))
      refine aC.pure (EM c) (by kernel_rfl) ?_
      repeat' (first | (refine ar.dec (fun _=>?_) (fun _=>?_)) | (refine ar.eq (fun _=>?_) (fun _=>?_)) | (refine ar.ne (fun _=>?_) (fun _=>?_)) | (refine ar.split (fun _=>?_) (fun _=>?_)) | (simp (disch:=omega) only [↓wr,↓reduceIte,wq,Nat.reduceEqDiff,reduceCtorEq]))
      · rename_i hf
        refine bc.intro (fun k T H'=>∃ i:Nat,i+k=(c :: l).length∧((c :: l).take i).all mw=true∧T 0=gs s∧T 3=gi i∧H'=H) (c :: l).length ?_ ?_
        · exact ⟨0,by omega,by simp,rfl,rfl,rfl⟩
        · rintro k T H' ⟨i,hk,hi,h0,h3,rfl⟩
          rw[hb] at h1 h2
          simp (disch:=omega) only [↓wr,↓reduceIte,wq,ag,aj,Nat.reduceEqDiff,reduceCtorEq,mP,h0,h3,dN,hb]
          refine ar.dec (fun hc=>?_) (fun hc=>?_)
          · simp only[List.length_cons] at hc hk h2
            have hg:(c :: l)[i]?=some ((c :: l)[i]'(by simp; omega)):=List.getElem?_eq_getElem (by simp; omega)
            have hm:(c :: l)[i]'(by simp; omega)∈c :: l:=List.getElem_mem _
            generalize (c :: l)[i]'(by simp; omega)=d at hg hm
            simp (disch:=omega) only [↓wr,↓reduceIte,wq,Nat.reduceEqDiff,reduceCtorEq,h0,h3,hb,hg]
            refine aC.pure (Kp d) (by kernel_rfl) ?_
            repeat' (first | (refine ar.dec (fun _=>?_) (fun _=>?_)) | (refine ar.eq (fun _=>?_) (fun _=>?_)) | (refine ar.ne (fun _=>?_) (fun _=>?_)) | (refine ar.split (fun _=>?_) (fun _=>?_)) | (simp (disch:=omega) only [↓wr,↓reduceIte,wq,ag,Nat.reduceEqDiff,reduceCtorEq,h0,h3]))
            · rename_i hd
              refine ⟨k - 1,by omega,i+1,by omega,?_,rfl⟩
              rw[List.take_add_one,hg]
              simp only[Option.toList_some,List.all_append,hi,List.all_cons,hd,List.all_nil,Bool.and_self]
            · rename_i hd
              congr 2
              have:(c :: l).all mw=false:=by
                rw[List.all_eq_false]; exact ⟨d,hm,by simp[hd]⟩
              simp only[fe,this,Bool.and_false]
          · simp (disch:=omega) only [↓wr,↓reduceIte,wq,Nat.reduceEqDiff,reduceCtorEq]
            simp only[List.length_cons] at hc hk h2
            rw[List.take_of_length_le (by simp; omega)] at hi
            congr 2
            simp only[fe,hi,List.length_cons]
            simp[hf]; omega
      · rename_i hf
        congr 2; simp[fe,hf]
def lr:List Int→Bool
  | [a,b,c]=>a == 39 && c == 39 && decide (32≤b) && decide (b≤126) && b != 39 && b != 92
  | [a,b,c,d]=>a == 39 && d == 39 && b == 92 && (c == 110 || c == 116 || c == 92 || c == 39)
  | _=>false
theorem Kd {l:List Int} (h3:l.length≠3) (h4:l.length≠4):lr l=false:=by
  match l,h3,h4 with
  | [],_,_=>rfl
  | [_],_,_=>rfl
  | [_,_],_,_=>rfl
  | [_,_,_],h3,_=>exact absurd rfl h3
  | [_,_,_,_],_,h4=>exact absurd rfl h4
  | _ :: _ :: _ :: _ :: _ :: _,_,_=>rfl
theorem Qm {α:Type} {l:List α} (h:l.length=3):∃ a b c,l=[a,b,c]:=by
  match l,h with
  | [a,b,c],_=>exact ⟨a,b,c,rfl⟩
theorem Qr {α:Type} {l:List α} (h:l.length=4):∃ a b c d,l=[a,b,c,d]:=by
  match l,h with
  | [a,b,c,d],_=>exact ⟨a,b,c,d,rfl⟩
def lT:SF:=⟨.seq (ak [bg 2 false]) <|
  .seq (.seq (ak [ae 3 0,((some 4),.op (.gP (.tmp 3))),ax 5 .eql 4 3]) <|
  .cond (.tmp 5) (.seq (.region false [⟨none,[ae 6 0,((some 7),.op (.dq (.tmp 6) (.val (.val (.int .i64 0))))),((some 8),.op (.arith .eql (.tmp 7) (.val (.val (.int .u8 39))))),ae 9 8]⟩,⟨(some (9,true)),[ae 10 0,((some 11),.op (.dq (.tmp 10) (.val (.val (.int .i64 2))))),((some 12),.op (.arith .eql (.tmp 11) (.val (.val (.int .u8 39)))))]⟩,⟨none,[bN 13 9 12,ae 14 13]⟩,⟨(some (14,true)),[ae 15 0,((some 16),.op (.dq (.tmp 15) (.val (.val (.int .i64 1))))),((some 17),.op (.arith .geq (.tmp 16) (.val (.val (.int .u8 32)))))]⟩,⟨none,[bN 18 14 17,ae 19 18]⟩,⟨(some (19,true)),[ae 20 0,((some 21),.op (.dq (.tmp 20) (.val (.val (.int .i64 1))))),((some 22),.op (.arith .leq (.tmp 21) (.val (.val (.int .u8 126)))))]⟩,⟨none,[bN 23 19 22,ae 24 23]⟩,⟨(some (24,true)),[ae 25 0,((some 26),.op (.dq (.tmp 25) (.val (.val (.int .i64 1))))),((some 27),.op (.arith .neq (.tmp 26) (.val (.val (.int .u8 39)))))]⟩,⟨none,[bN 28 24 27,ae 29 28]⟩,⟨(some (29,true)),[ae 30 0,((some 31),.op (.dq (.tmp 30) (.val (.val (.int .i64 1))))),((some 32),.op (.arith .neq (.tmp 31) (.val (.val (.int .u8 92)))))]⟩,⟨none,[bN 33 29 32,ae 2 33]⟩]) <|
  .ret) (.skip)) <|
  .seq (.region false [⟨none,[ae 34 0,((some 35),.op (.gP (.tmp 34))),ax 36 .eql 35 4,ae 37 36]⟩,⟨(some (37,true)),[ae 38 0,((some 39),.op (.dq (.tmp 38) (.val (.val (.int .i64 0))))),((some 40),.op (.arith .eql (.tmp 39) (.val (.val (.int .u8 39)))))]⟩,⟨none,[bN 41 37 40,ae 42 41]⟩,⟨(some (42,true)),[ae 43 0,((some 44),.op (.dq (.tmp 43) (.val (.val (.int .i64 3))))),((some 45),.op (.arith .eql (.tmp 44) (.val (.val (.int .u8 39)))))]⟩,⟨none,[bN 46 42 45,ae 47 46]⟩,⟨(some (47,true)),[ae 48 0,((some 49),.op (.dq (.tmp 48) (.val (.val (.int .i64 1))))),((some 50),.op (.arith .eql (.tmp 49) (.val (.val (.int .u8 92)))))]⟩,⟨none,[bN 51 47 50,ae 52 51]⟩,⟨(some (52,true)),[ae 53 0,((some 54),.op (.dq (.tmp 53) (.val (.val (.int .i64 2))))),((some 55),.op (.arith .eql (.tmp 54) (.val (.val (.int .u8 110))))),ae 56 55]⟩,⟨(some (56,false)),[ae 57 0,((some 58),.op (.dq (.tmp 57) (.val (.val (.int .i64 2))))),((some 59),.op (.arith .eql (.tmp 58) (.val (.val (.int .u8 116)))))]⟩,⟨(some (52,true)),[bH 60 56 59,ae 61 60]⟩,⟨(some (61,false)),[ae 62 0,((some 63),.op (.dq (.tmp 62) (.val (.val (.int .i64 2))))),((some 64),.op (.arith .eql (.tmp 63) (.val (.val (.int .u8 92)))))]⟩,⟨(some (52,true)),[bH 65 61 64,ae 66 65]⟩,⟨(some (66,false)),[ae 67 0,((some 68),.op (.dq (.tmp 67) (.val (.val (.int .i64 2))))),((some 69),.op (.arith .eql (.tmp 68) (.val (.val (.int .u8 39)))))]⟩,⟨(some (52,true)),[bH 70 66 69]⟩,⟨none,[bN 71 52 70,ae 2 71]⟩]) <|
  .ret,
  [.tmp 2],72⟩
theorem rC:aU Tryz.prog 191 []=some lT:=by kernel_rfl
def nC:SF:=⟨.seq (ak [bg 2 false]) <|
  .seq (.region false [⟨none,[ae 3 0,aL 4 142 [3],ae 5 4]⟩,⟨(some (5,false)),[ae 6 0,aL 7 191 [6]]⟩,⟨none,[bH 8 5 7,ae 2 8]⟩]) <|
  .ret,
  [.tmp 2],9⟩
theorem sG:aU Tryz.prog 139 []=some nC:=by kernel_rfl
set_option maxHeartbeats 1000000 in
theorem KM (s:ByteArray) (H:View):az Tryz.prog 191 [gs s] H fun r H'=>r=gb (lr (ey s))∧H'=H:=by
  refine az.of mixed rC ?_
  simp (disch:=omega) only [↓wr,↓reduceIte,wq,ah,ag,aj,Nat.reduceLeDiff,reduceCtorEq,lT,dN]
  refine ar.eq (fun h=>?_) (fun h=>?_)
  · obtain ⟨a,b,c,hb⟩:=Qm (l:=ey s) (by omega)
    repeat' (first | (refine ar.dec (fun _=>?_) (fun _=>?_)) | (refine ar.eq (fun _=>?_) (fun _=>?_)) | (refine ar.ne (fun _=>?_) (fun _=>?_)) | (refine ar.split (fun _=>?_) (fun _=>?_)) | (simp (disch:=omega) only [↓wr,↓reduceIte,wq,ag,Nat.reduceEqDiff,Int.reduceToNat,reduceCtorEq,hb,List.getElem?_cons_zero,List.getElem?_cons_succ]))
    all_goals (congr 2; simp only[lr]; grind)
  · simp (disch:=omega) only [↓wr,↓reduceIte,wq,ag,aj,reduceCtorEq,dN]
    refine ar.eq (fun h4=>?_) (fun h4=>?_)
    · obtain ⟨a,b,c,d,hb⟩:=Qr (l:=ey s) (by omega)
      repeat' (first | (refine ar.dec (fun _=>?_) (fun _=>?_)) | (refine ar.eq (fun _=>?_) (fun _=>?_)) | (refine ar.ne (fun _=>?_) (fun _=>?_)) | (refine ar.split (fun _=>?_) (fun _=>?_)) | (simp (disch:=omega) only [↓wr,↓reduceIte,wq,ag,Nat.reduceEqDiff,Int.reduceToNat,reduceCtorEq,hb,List.getElem?_cons_zero,List.getElem?_cons_succ]))
      all_goals (congr 2; simp only[lr]; grind)
    · repeat' (first | (refine ar.dec (fun _=>?_) (fun _=>?_)) | (refine ar.eq (fun _=>?_) (fun _=>?_)) | (refine ar.ne (fun _=>?_) (fun _=>?_)) | (refine ar.split (fun _=>?_) (fun _=>?_)) | (simp (disch:=omega) only [↓wr,↓reduceIte,wq,Nat.reduceEqDiff,reduceCtorEq]))
      rw[Kd (by omega) (by omega)]
theorem nP (s:ByteArray):∀ v∈[gs s],Tree v:=by intro v hv; simp at hv; subst hv; exact .val _
theorem Da (s:ByteArray):aF Tryz.prog 142 [gs s] (gb (fe (ey s))) :=
  aF.of (nP s) ((HQ s _).mono fun r H' h h' _=>by rw[h.1]; exact .tree _ (.val _))
theorem Lo (s:ByteArray):aF Tryz.prog 191 [gs s] (gb (lr (ey s))) :=
  aF.of (nP s) ((KM s _).mono fun r H' h h' _=>by rw[h.1]; exact .tree _ (.val _))
def oX (l:List Int):Bool:=fe l || lr l
theorem HE (s:ByteArray) (H:View):az Tryz.prog 139 [gs s] H fun r H'=>r=gb (oX (ey s))∧H'=H:=by
  refine az.of mixed sG ?_
  simp (disch:=omega) only [↓wr,↓reduceIte,wq,ah,Nat.reduceLeDiff,reduceCtorEq,nC]
  refine aC.pure (Da s) (by kernel_rfl) ?_
  repeat' (first | (refine ar.dec (fun _=>?_) (fun _=>?_)) | (refine ar.eq (fun _=>?_) (fun _=>?_)) | (refine ar.ne (fun _=>?_) (fun _=>?_)) | (refine ar.split (fun _=>?_) (fun _=>?_)) | (simp (disch:=omega) only [↓wr,↓reduceIte,wq,Nat.reduceEqDiff,reduceCtorEq]))
  · rename_i h; simp[oX,h]
  · rename_i h
    refine aC.pure (Lo s) (by kernel_rfl) ?_
    repeat' (first | (refine ar.dec (fun _=>?_) (fun _=>?_)) | (refine ar.eq (fun _=>?_) (fun _=>?_)) | (refine ar.ne (fun _=>?_) (fun _=>?_)) | (refine ar.split (fun _=>?_) (fun _=>?_)) | (simp (disch:=omega) only [↓wr,↓reduceIte,wq,Nat.reduceEqDiff,reduceCtorEq]))
    simp[oX,h]
theorem Gw (s:ByteArray):aF Tryz.prog 139 [gs s] (gb (oX (ey s))) :=
  aF.of (nP s) ((HE s _).mono fun r H' h h' _=>by rw[h.1]; exact .tree _ (.val _))
def mE (s:ByteArray):List ByteArray→Int→Int
  | [],_=>-1
  | x :: l,i=>if gK x s=true then i else mE s l (i+1)
def lg (g:ao) (s:ByteArray):Int:=mE s (g.ay.map Term.name) 0
def xu (g:ao) (s:ByteArray):Int:=mE s g.au 0
theorem c9 {α:Type} {l:List α} {i:Nat} (h:i < l.length):l.drop i=l[i] :: l.drop (i+1):=List.drop_eq_getElem_cons h
theorem El (g:ao) (s:ByteArray):∀ v∈[V.agg (al g),gs s],Tree v:=by
  intro v hv; simp at hv
  rcases hv with rfl | rfl
  · exact cg _ (cO g)
  · exact .val _
theorem dM (g:ao):∀ v∈[V.agg (al g)],Tree v:=by intro v hv; simp at hv; subst hv; exact cg _ (cO g)
theorem u7 (g:ao) (x:Int):∀ v∈[V.agg (al g),gi x],Tree v:=by
  intro v hv; simp at hv
  rcases hv with rfl | rfl
  · exact cg _ (cO g)
  · exact .val _
theorem aF.val {P:Program} {f:FuncId} {vs:List V} {x:Value} (ht:∀ v∈vs,Tree v) (h:∀ H,az P f vs H fun r _=>r=.val x):aF P f vs (.val x) :=
  aF.of ht ((h _).mono fun r H' e h' _=>by rw[e]; exact .tree _ (.val _))
def mO:SC :=
  .seq (.seq (ak [ae 6 5,aq 7 0 2,an 8 7,aP 9 8,aR 10 .lss 6 9]) <|
  .cond (.tmp 10) (.skip) (.exit 0)) <|
  .seq (.block 1 (.seq (ak [aq 13 0 2,an 14 13,ae 15 5,aQ 16 3 14 15,aq 17 0 16,an 18 17,ae 19 1,((some 20),.op (.iN .eql (.tmp 18) (.tmp 19)))]) <|
  .cond (.tmp 20) (.seq (ak [ae 21 5,ae 4 21]) <|
  .ret) (.skip))) <|
  ak [ae 11 5,ax 12 .add 11 1,ae 5 12]
def pb:SF:=⟨.seq (ak [cx 2 0,aH 4 0]) <|
  .seq (.seq (ak [aH 5 0]) <|
  .block 0 (.loop mO)) <|
  .seq (ak [aH 4 (-1)]) <|
  .ret,
  [.tmp 4],22⟩
theorem ub:aU Tryz.prog 140 [2]=some pb:=by kernel_rfl
def nJ:SC :=
  .seq (.seq (ak [ae 6 5,aq 7 1 2,an 8 7,aP 9 8,aR 10 .lss 6 9]) <|
  .cond (.tmp 10) (.skip) (.exit 0)) <|
  .seq (.block 1 (.seq (ak [aq 13 1 2,an 14 13,ae 15 5,aQ 16 1 14 15,an 17 16,ae 18 1,((some 19),.op (.iN .eql (.tmp 17) (.tmp 18)))]) <|
  .cond (.tmp 19) (.seq (ak [ae 20 5,ae 4 20]) <|
  .ret) (.skip))) <|
  ak [ae 11 5,ax 12 .add 11 1,ae 5 12]
def qd:SF:=⟨.seq (ak [cx 2 0,aH 4 0]) <|
  .seq (.seq (ak [aH 5 0]) <|
  .block 0 (.loop nJ)) <|
  .seq (ak [aH 4 (-1)]) <|
  .ret,
  [.tmp 4],21⟩
theorem vK:aU Tryz.prog 125 [2]=some qd:=by kernel_rfl
def lU:SC :=
  .seq (.seq (ak [ae 8 6,aq 9 0 2,an 10 9,aP 11 10,aR 12 .lss 8 11]) <|
  .cond (.tmp 12) (.skip) (.exit 0)) <|
  .seq (.block 1 (.seq (.region false [⟨none,[aq 15 0 2,an 16 15,ae 17 6,aQ 18 3 16 17,aT 19 3 18,((some 7),.op (.alloc [(.val (.string ⟨#[]⟩)),(.val (.int .i64 0)),(.val (.int .i64 0))])),(none,.op (.store 3 (.tmp 7) (.tmp 19)))]⟩]) <|
  .seq (.seq (ak [aq 20 1 7,an 21 20,ae 22 1,aR 23 .neq 21 22]) <|
  .cond (.tmp 23) (.exit 1) (.skip)) <|
  .seq (.seq (.region false [⟨none,[ae 24 5,ax 25 .neq 24 0,ae 26 25]⟩,⟨(some (26,true)),[ae 27 5,aq 28 2 7,an 29 28,aR 30 .neq 27 29]⟩,⟨none,[bN 31 26 30]⟩]) <|
  .cond (.tmp 31) (.seq (ak [bg 4 false]) <|
  .ret) (.skip)) <|
  ak [aq 32 2 7,an 33 32,ae 5 33])) <|
  ak [ae 13 6,ax 14 .add 13 1,ae 6 14]
def nF:SF:=⟨.seq (ak [cx 2 0,bg 4 false]) <|
  .seq (ak [aH 5 0]) <|
  .seq (.seq (ak [aH 6 0]) <|
  .block 0 (.loop lU)) <|
  .seq (ak [ae 34 5,ax 35 .neq 34 0,ae 4 35]) <|
  .ret,
  [.tmp 4],36⟩
theorem tc:aU Tryz.prog 141 [2]=some nF:=by kernel_rfl
theorem HS (g:ao) (hg:g.Ok) (s:ByteArray) (H:View):az Tryz.prog 140 [.agg (al g),gs s] H fun r _=>r=gi (lg g s):=by
  refine az.of mixed ub ?_
  have hs:g.ay.length < 4611686018427387904:=hg.ay
  simp (disch:=omega) only [↓wr,wq,ah,Nat.reduceAdd,Nat.reduceLeDiff,Int.reduceNeg,pb,al,encS]
  refine bc.intro (fun k T _=>∃ i:Nat,i+k=g.ay.length∧mE s ((g.ay.drop i).map Term.name) i=lg g s∧T 1=gs s∧T 2=.aS (al g) 0∧T 5=gi i) g.ay.length ?_ ?_
  · exact ⟨0,by omega,rfl,rfl,rfl,rfl⟩
  · rintro k T H' ⟨i,hk,hi,h1,h2,h5⟩
    simp (disch:=omega) only [↓wr,↓reduceIte,wq,ag,aj,Nat.reduceEqDiff,Nat.reduceAdd,Nat.reduceLT,Int.reduceNeg,reduceCtorEq,mO,h2,h5,al]
    refine ar.dec (fun hc=>?_) (fun hc=>?_)
    · have hg2:g.ay[i]?=some (g.ay[i]'(by omega)):=List.getElem?_eq_getElem (by omega)
      rw[c9 (show i < g.ay.length by omega)] at hi
      generalize g.ay[i]'(by omega)=t at hg2 hi
      simp only[List.map_cons,mE] at hi
      simp (disch:=omega) only [↓wr,↓reduceIte,wq,Nat.reduceEqDiff,Nat.reduceAdd,Nat.reduceLT,Int.reduceNeg,h1,h2,h5,al,cr,List.getElem?_map,hg2]
      refine ar.split (fun hd=>?_) (fun hd=>?_)
      · rw[if_pos hd] at hi
        simp (disch:=omega) only [↓wr,↓reduceIte,wq,ag,Nat.reduceEqDiff,Int.reduceNeg,reduceCtorEq,h1,h2,h5]
        rw[hi]
      · rw[hd,if_neg (by simp)] at hi
        simp (disch:=omega) only [↓wr,↓reduceIte,wq,ag,Nat.reduceEqDiff,Int.reduceNeg,reduceCtorEq,h1,h2,h5]
        exact ⟨k - 1,by omega,i+1,by omega,by push_cast; exact hi,rfl,rfl⟩
    · rw[List.drop_eq_nil_of_le (by omega)] at hi
      simp only[List.map_nil,mE] at hi
      simp (disch:=omega) only [↓wr,↓reduceIte,wq,Nat.reduceEqDiff,Int.reduceNeg,reduceCtorEq]
      rw[hi]
theorem CQ (g:ao) (hg:g.Ok) (s:ByteArray):aF Tryz.prog 140 [.agg (al g),gs s] (gi (lg g s)):=aF.val (El g s) (HS g hg s)
theorem J7 (g:ao) (hg:g.Ok) (s:ByteArray) (H:View):az Tryz.prog 125 [.agg (al g),gs s] H fun r _=>r=gi (xu g s):=by
  refine az.of mixed vK ?_
  have hs:g.au.length < 4611686018427387904:=hg.au
  simp (disch:=omega) only [↓wr,wq,ah,Nat.reduceAdd,Nat.reduceLeDiff,Int.reduceNeg,qd,al,encS]
  refine bc.intro (fun k T _=>∃ i:Nat,i+k=g.au.length∧mE s (g.au.drop i) i=xu g s∧T 1=gs s∧T 2=.aS (al g) 0∧T 5=gi i) g.au.length ?_ ?_
  · exact ⟨0,by omega,rfl,rfl,rfl,rfl⟩
  · rintro k T H' ⟨i,hk,hi,h1,h2,h5⟩
    simp (disch:=omega) only [↓wr,↓reduceIte,wq,ag,aj,Nat.reduceEqDiff,Nat.reduceAdd,Nat.reduceLT,Int.reduceNeg,reduceCtorEq,nJ,h2,h5,al,encS]
    refine ar.dec (fun hc=>?_) (fun hc=>?_)
    · have hg2:g.au[i]?=some (g.au[i]'(by omega)):=List.getElem?_eq_getElem (by omega)
      rw[c9 (show i < g.au.length by omega)] at hi
      generalize g.au[i]'(by omega)=t at hg2 hi
      simp only[mE] at hi
      simp (disch:=omega) only [↓wr,↓reduceIte,wq,Nat.reduceEqDiff,Nat.reduceAdd,Nat.reduceLT,Int.reduceNeg,h1,h2,h5,al,encS,List.getElem?_map,hg2]
      refine ar.split (fun hd=>?_) (fun hd=>?_)
      · rw[if_pos hd] at hi
        simp (disch:=omega) only [↓wr,↓reduceIte,wq,ag,Nat.reduceEqDiff,Int.reduceNeg,reduceCtorEq,h1,h2,h5]
        rw[hi]
      · rw[hd,if_neg (by simp)] at hi
        simp (disch:=omega) only [↓wr,↓reduceIte,wq,ag,Nat.reduceEqDiff,Int.reduceNeg,reduceCtorEq,h1,h2,h5]
        exact ⟨k - 1,by omega,i+1,by omega,by push_cast; exact hi,rfl,rfl⟩
    · rw[List.drop_eq_nil_of_le (by omega)] at hi
      simp only[mE] at hi
      simp (disch:=omega) only [↓wr,↓reduceIte,wq,Nat.reduceEqDiff,Int.reduceNeg,reduceCtorEq]
      rw[hi]
theorem LQ (g:ao) (hg:g.Ok) (s:ByteArray):aF Tryz.prog 125 [.agg (al g),gs s] (gi (xu g s)):=aF.val (El g s) (J7 g hg s)
def ib (n:Int):List Term→Int→Option Int
  | [],way=>some way
  | t :: r,way=>if t.level=n then (if way≠0∧way≠t.assoc then none else ib n r t.assoc) else ib n r way
def fL (l:List Term) (n:Int):Bool:=match ib n l 0 with
  | some w=>w != 0
  | none=>false
theorem Gn (g:ao) (hg:g.Ok) (n:Int) (H:View):az Tryz.prog 141 [.agg (al g),gi n] H fun r _=>r=gb (fL g.ay n):=by
  refine az.of mixed tc ?_
  have hs:g.ay.length < 4611686018427387904:=hg.ay
  simp (disch:=omega) only [↓wr,wq,ah,Nat.reduceAdd,Nat.reduceLeDiff,nF,al,encS]
  refine bc.intro (fun k T _=>∃ (i:Nat) (w:Int),i+k=g.ay.length∧ib n (g.ay.drop i) w=ib n g.ay 0∧T 1=gi n∧T 2=.aS (al g) 0∧T 5=gi w∧T 6=gi i) g.ay.length ?_ ?_
  · exact ⟨0,0,by omega,rfl,rfl,rfl,rfl,rfl⟩
  · rintro k T H' ⟨i,w,hk,hi,h1,h2,h5,h6⟩
    simp (disch:=omega) only [↓wr,↓reduceIte,wq,ag,aj,Nat.reduceEqDiff,Nat.reduceAdd,Nat.reduceLT,lU,h2,h6,al]
    refine ar.dec (fun hc=>?_) (fun hc=>?_)
    · have hg2:g.ay[i]?=some (g.ay[i]'(by omega)):=List.getElem?_eq_getElem (by omega)
      rw[c9 (show i < g.ay.length by omega)] at hi
      generalize g.ay[i]'(by omega)=t at hg2 hi
      simp only[ib] at hi
      simp (disch:=omega) only [↓wr,↓reduceIte,wq,ag,aa,Nat.reduceEqDiff,Nat.reduceAdd,Nat.reduceLT,Nat.reduceLeDiff,h1,h2,h6,al,cr,List.getElem?_map,hg2]
      intro m hm
      try simp (disch:=omega) only [↓wr,↓reduceIte,wq,ah,ag,aj,aa,ab,af,ai,isNil,Nat.reduceEqDiff,Nat.reduceAdd,Nat.reduceLT,Nat.reduceLeDiff,Int.reduceNeg,Int.reduceToNat,reduceCtorEq,h1,h2,h5,h6]
      refine ar.ne (fun hd=>?_) (fun hd=>?_)
      · rw[if_neg hd] at hi
        simp (disch:=omega) only [↓wr,↓reduceIte,wq,ag,Nat.reduceEqDiff,reduceCtorEq,h1,h2,h5,h6]
        exact ⟨k - 1,by omega,i+1,w,by omega,hi,by first | rfl | exact ⟨rfl,rfl⟩ | exact ⟨rfl,rfl,rfl⟩⟩
      · rw[if_pos hd] at hi
        repeat' (first | (refine ar.dec (fun _=>?_) (fun _=>?_)) | (refine ar.eq (fun _=>?_) (fun _=>?_)) | (refine ar.ne (fun _=>?_) (fun _=>?_)) | (refine ar.split (fun _=>?_) (fun _=>?_)) | (simp (disch:=omega) only [↓wr,↓reduceIte,wq,ag,Nat.reduceEqDiff,Nat.reduceAdd,Nat.reduceLT,reduceCtorEq,h1,h2,h5,h6]))
        · rename_i a b
          rw[if_pos ⟨a,b⟩] at hi
          simp only[fL,← hi]
        · rename_i a b
          rw[if_neg (fun e=>e.2 b)] at hi
          exact ⟨k - 1,by omega,i+1,_,by omega,hi,by first | rfl | exact ⟨rfl,rfl⟩ | exact ⟨rfl,rfl,rfl⟩⟩
        · rename_i a
          rw[if_neg (fun e=>e.1 a)] at hi
          exact ⟨k - 1,by omega,i+1,_,by omega,hi,by first | rfl | exact ⟨rfl,rfl⟩ | exact ⟨rfl,rfl,rfl⟩⟩
    · rw[List.drop_eq_nil_of_le (by omega)] at hi
      simp only[ib] at hi
      simp (disch:=omega) only [↓wr,↓reduceIte,wq,Nat.reduceEqDiff,reduceCtorEq,h5]
      simp only[fL,← hi]
theorem GP (g:ao) (hg:g.Ok) (n:Int):aF Tryz.prog 141 [.agg (al g),gi n] (gb (fL g.ay n)):=aF.val (u7 g n) (Gn g hg n)
def qC (g:ao) (t:Term):Bool:=(List.range t.level.toNat).all fun k=>fL g.ay ((k:Int)+1)
def jw (g:ao) (i:Int) (t:Term):Bool :=
  oX (ey t.name) && (lg g t.name == i) && decide (0≤t.level) && decide (t.level≤24) && decide (0≤t.assoc) && decide (t.assoc≤3) && ((t.level == 0) == (t.assoc == 0)) && qC g t
def iS (g:ao):List Term→Int→Bool
  | [],_=>true
  | t :: r,i=>jw g i t && iS g r (i+1)
def iY (g:ao):Bool:=decide (g.ay.length≤24) && iS g g.ay 0
def lI:SC :=
  .seq (.seq (ak [ae 63 5,aq 64 1 4,an 65 64,aR 66 .leq 63 65]) <|
  .cond (.tmp 66) (.skip) (.exit 2)) <|
  .seq (.block 3 (.seq (ak [aT 69 4 1,ae 70 5,aL 71 141 [69,70],cd 72 71]) <|
  .cond (.tmp 72) (.seq (ak [bg 2 false]) <|
  .ret) (.skip))) <|
  ak [ae 67 5,ax 68 .add 67 1,ae 5 68]
def lB:SC :=
  .seq (.seq (ak [ae 10 3,aq 11 0 1,an 12 11,aP 13 12,aR 14 .lss 10 13]) <|
  .cond (.tmp 14) (.skip) (.exit 0)) <|
  .seq (.block 1 (.seq (.region false [⟨none,[aq 17 0 1,an 18 17,ae 19 3,aQ 20 3 18 19,aT 21 3 20,((some 4),.op (.alloc [(.val (.string ⟨#[]⟩)),(.val (.int .i64 0)),(.val (.int .i64 0))])),(none,.op (.store 3 (.tmp 4) (.tmp 21)))]⟩]) <|
  .seq (.seq (.region false [⟨none,[aq 22 0 4,an 23 22,aL 24 139 [23],cd 25 24,ae 26 25]⟩,⟨(some (26,false)),[aT 27 4 1,aq 28 0 4,an 29 28,aL 30 140 [27,29],ae 31 3,aR 32 .neq 30 31]⟩,⟨none,[bH 33 26 32,ae 34 33]⟩,⟨(some (34,false)),[aq 35 1 4,an 36 35,ax 37 .lss 36 0]⟩,⟨none,[bH 38 34 37,ae 39 38]⟩,⟨(some (39,false)),[aq 40 1 4,an 41 40,ax 42 .gtr 41 24]⟩,⟨none,[bH 43 39 42,ae 44 43]⟩,⟨(some (44,false)),[aq 45 2 4,an 46 45,ax 47 .lss 46 0]⟩,⟨none,[bH 48 44 47,ae 49 48]⟩,⟨(some (49,false)),[aq 50 2 4,an 51 50,ax 52 .gtr 51 3]⟩,⟨none,[bH 53 49 52,ae 54 53]⟩,⟨(some (54,false)),[aq 55 1 4,an 56 55,ax 57 .eql 56 0,aq 58 2 4,an 59 58,ax 60 .eql 59 0,((some 61),.op (.beq false (.tmp 57) (.tmp 60)))]⟩,⟨none,[bH 62 54 61]⟩]) <|
  .cond (.tmp 62) (.seq (ak [bg 2 false]) <|
  .ret) (.skip)) <|
  .seq (ak [aH 5 1]) <|
  .block 2 (.loop lI))) <|
  ak [ae 15 3,ax 16 .add 15 1,ae 3 16]
def nq:SF:=⟨.seq (ak [cx 1 0,bg 2 false]) <|
  .seq (.seq (ak [aq 6 0 1,an 7 6,aP 8 7,ax 9 .gtr 8 24]) <|
  .cond (.tmp 9) (.seq (ak [bg 2 false]) <|
  .ret) (.skip)) <|
  .seq (.seq (ak [aH 3 0]) <|
  .block 0 (.loop lB)) <|
  .seq (ak [bg 2 true]) <|
  .ret,
  [.tmp 2],73⟩
theorem tf:aU Tryz.prog 89 [1]=some nq:=by kernel_rfl
def l9:SC :=
  .seq (.seq (ak [ae 14 3,aq 15 1 1,an 16 15,aP 17 16,aR 18 .lss 14 17]) <|
  .cond (.tmp 18) (.skip) (.exit 0)) <|
  .seq (.block 1 (.seq (.region false [⟨none,[aq 21 1 1,an 22 21,ae 23 3,aQ 24 1 22 23,an 25 24,aL 26 142 [25],cd 27 26,ae 28 27]⟩,⟨(some (28,false)),[aT 29 4 1,aq 30 1 1,an 31 30,ae 32 3,aQ 33 1 31 32,an 34 33,aL 35 125 [29,34],ae 36 3,aR 37 .neq 35 36]⟩,⟨none,[bH 38 28 37,ae 39 38]⟩,⟨(some (39,false)),[aT 40 4 1,aq 41 1 1,an 42 41,ae 43 3,aQ 44 1 42 43,an 45 44,aL 46 140 [40,45],ax 47 .geq 46 0]⟩,⟨none,[bH 48 39 47]⟩]) <|
  .cond (.tmp 48) (.seq (ak [bg 2 false]) <|
  .ret) (.skip))) <|
  ak [ae 19 3,ax 20 .add 19 1,ae 3 20]
def pz:SF:=⟨.seq (ak [cx 1 0,bg 2 false]) <|
  .seq (.seq (.region false [⟨none,[aq 4 1 1,an 5 4,aP 6 5,ax 7 .lss 6 1,ae 8 7]⟩,⟨(some (8,false)),[aq 9 1 1,an 10 9,aP 11 10,ax 12 .gtr 11 16]⟩,⟨none,[bH 13 8 12]⟩]) <|
  .cond (.tmp 13) (.seq (ak [bg 2 false]) <|
  .ret) (.skip)) <|
  .seq (.seq (ak [aH 3 0]) <|
  .block 0 (.loop l9)) <|
  .seq (ak [bg 2 true]) <|
  .ret,
  [.tmp 2],49⟩
theorem uB:aU Tryz.prog 90 [1]=some pz:=by kernel_rfl
def mB:SC :=
  .seq (.seq (ak [ae 23 5,aq 24 1 3,an 25 24,aP 26 25,aR 27 .lss 23 26]) <|
  .cond (.tmp 27) (.skip) (.exit 0)) <|
  .seq (.block 1 (.seq (.region false [⟨none,[aT 30 4 2,aq 31 1 3,an 32 31,ae 33 5,aQ 34 1 32 33,an 35 34,aL 36 143 [30,35],cd 37 36,ae 38 37]⟩,⟨(some (38,false)),[aq 39 1 3,an 40 39,ae 41 5,aQ 42 1 40 41,an 43 42,ax 44 .geq 43 0,ae 45 44]⟩,⟨(some (45,true)),[aq 46 2 3,an 47 46,ax 48 .eql 47 (-1)]⟩,⟨(some (38,false)),[bN 49 45 48]⟩,⟨none,[bH 50 38 49]⟩]) <|
  .cond (.tmp 50) (.seq (ak [bg 4 false]) <|
  .ret) (.skip))) <|
  ak [ae 28 5,ax 29 .add 28 1,ae 5 29]
def pH:SF:=⟨.seq (ak [cx 2 0,cx 3 1,bg 4 false]) <|
  .seq (.seq (.region false [⟨none,[aq 6 1 3,an 7 6,aP 8 7,ax 9 .gtr 8 6,ae 10 9]⟩,⟨(some (10,false)),[aq 11 2 3,an 12 11,ax 13 .lss 12 (-1)]⟩,⟨none,[bH 14 10 13,ae 15 14]⟩,⟨(some (15,false)),[aq 16 2 3,an 17 16,aq 18 0 2,an 19 18,aP 20 19,aR 21 .geq 17 20]⟩,⟨none,[bH 22 15 21]⟩]) <|
  .cond (.tmp 22) (.seq (ak [bg 4 false]) <|
  .ret) (.skip)) <|
  .seq (.seq (ak [aH 5 0]) <|
  .block 0 (.loop mB)) <|
  .seq (ak [bg 4 true]) <|
  .ret,
  [.tmp 4],51⟩
theorem ua:aU Tryz.prog 91 [2,3]=some pH:=by kernel_rfl
def lN:SC :=
  .seq (.seq (ak [ae 39 4,aq 40 2 1,an 41 40,aP 42 41,aR 43 .lss 39 42]) <|
  .cond (.tmp 43) (.skip) (.exit 0)) <|
  .seq (.block 1 (.seq (ak [aq 46 2 1,an 47 46,ae 48 4,aQ 49 3 47 48,aT 50 3 49,((some 5),.op (.alloc [(.val (.int .i64 0)),(.emp 1),(.val (.int .i64 0))])),(none,.op (.store 3 (.tmp 5) (.tmp 50)))]) <|
  .seq (.seq (.region false [⟨none,[aq 51 0 5,an 52 51,ax 53 .lss 52 0,ae 54 53]⟩,⟨(some (54,false)),[aq 55 0 5,an 56 55,ae 57 3,ax 58 .add 57 1,aR 59 .gtr 56 58]⟩,⟨none,[bH 60 54 59,ae 61 60]⟩,⟨(some (61,false)),[aT 62 4 1,aT 63 3 5,aL 64 91 [62,63],cd 65 64]⟩,⟨none,[bH 66 61 65]⟩]) <|
  .cond (.tmp 66) (.seq (ak [bg 2 false]) <|
  .ret) (.skip)) <|
  .seq (ak [aq 67 0 5,an 68 67,ae 69 3,aR 70 .gtr 68 69]) <|
  .cond (.tmp 70) (ak [aq 71 0 5,an 72 71,ae 3 72]) (.skip))) <|
  ak [ae 44 4,ax 45 .add 44 1,ae 4 45]
def nK:SF:=⟨.seq (ak [cx 1 0,bg 2 false]) <|
  .seq (.seq (.region false [⟨none,[aT 6 4 1,aL 7 89 [6],cd 8 7,ae 9 8]⟩,⟨(some (9,false)),[aT 10 4 1,aL 11 90 [10],cd 12 11]⟩,⟨none,[bH 13 9 12,ae 14 13]⟩,⟨(some (14,false)),[aq 15 2 1,an 16 15,aP 17 16,ax 18 .lss 17 1]⟩,⟨none,[bH 19 14 18,ae 20 19]⟩,⟨(some (20,false)),[aq 21 2 1,an 22 21,aP 23 22,ax 24 .gtr 23 40]⟩,⟨none,[bH 25 20 24,ae 26 25]⟩,⟨(some (26,false)),[aq 27 3 1,an 28 27,ax 29 .lss 28 0]⟩,⟨none,[bH 30 26 29,ae 31 30]⟩,⟨(some (31,false)),[aq 32 3 1,an 33 32,aq 34 1 1,an 35 34,aP 36 35,aR 37 .geq 33 36]⟩,⟨none,[bH 38 31 37]⟩]) <|
  .cond (.tmp 38) (.seq (ak [bg 2 false]) <|
  .ret) (.skip)) <|
  .seq (ak [aH 3 (-1)]) <|
  .seq (.seq (ak [aH 4 0]) <|
  .block 0 (.loop lN)) <|
  .seq (ak [ae 73 3,aq 74 1 1,an 75 74,aP 76 75,ax 77 .sub 76 1,aR 78 .eql 73 77,ae 2 78]) <|
  .ret,
  [.tmp 2],79⟩
theorem sW:aU Tryz.prog 48 [1]=some nK:=by kernel_rfl
set_option maxHeartbeats 2000000 in
theorem HK (g:ao) (hg:g.Ok) (H:View):az Tryz.prog 89 [.agg (al g)] H fun r _=>r=gb (iY g):=by
  refine az.of mixed tf ?_
  simp (disch:=omega) only [↓wr,↓reduceIte,wq,ah,ag,aj,Nat.reduceEqDiff,Nat.reduceAdd,Nat.reduceLT,Nat.reduceLeDiff,nq,al,encS]
  refine ar.dec (fun h=>?_) (fun h=>?_)
  · simp (disch:=omega) only [↓wr,↓reduceIte,wq,reduceCtorEq]
    simp[iY,show ¬ g.ay.length≤24 by omega]
  · have hle:g.ay.length≤24:=by omega
    simp (disch:=omega) only [↓wr,wq]
    refine bc.intro (fun k T _=>∃ i:Nat,i+k=g.ay.length∧iS g (g.ay.drop i) i=iS g g.ay 0∧T 1=.aS (al g) 0∧T 3=gi i) g.ay.length ?_ ?_
    · exact ⟨0,by omega,rfl,rfl,rfl⟩
    · rintro k T H' ⟨i,hk,hi,h1,h3⟩
      simp (disch:=omega) only [↓wr,↓reduceIte,wq,ag,aj,Nat.reduceEqDiff,Nat.reduceAdd,Nat.reduceLT,reduceCtorEq,lB,h1,h3,al]
      refine ar.dec (fun hc=>?_) (fun hc=>?_)
      · have hg2:g.ay[i]?=some (g.ay[i]'(by omega)):=List.getElem?_eq_getElem (by omega)
        rw[c9 (show i < g.ay.length by omega)] at hi
        have hmem:g.ay[i]'(by omega)∈g.ay:=List.getElem_mem _
        generalize g.ay[i]'(by omega)=t at hg2 hi hmem
        obtain ⟨⟨hl1,hl2⟩,⟨ha1,ha2⟩⟩:=hg.term t hmem
        simp only[iS] at hi
        have hbad:jw g i t=false→gb false=gb (iY g):=fun e=>by rw[e,Bool.false_and] at hi; simp[iY,← hi]
        simp (disch:=omega) only [↓wr,↓reduceIte,wq,aa,Nat.reduceEqDiff,Nat.reduceAdd,Nat.reduceLT,Nat.reduceLeDiff,h1,h3,al,cr,List.getElem?_map,hg2]
        intro m hm
        try simp (disch:=omega) only [↓wr,↓reduceIte,wq,ah,ag,aj,aa,ab,af,ai,isNil,Nat.reduceEqDiff,Nat.reduceAdd,Nat.reduceLT,Nat.reduceLeDiff,Int.reduceNeg,Int.reduceToNat,reduceCtorEq,h1,h3]
        refine aC.pure (Gw t.name) (by kernel_rfl) ?_
        repeat' (first | (refine ar.dec (fun _=>?_) (fun _=>?_)) | (refine ar.eq (fun _=>?_) (fun _=>?_)) | (refine ar.ne (fun _=>?_) (fun _=>?_)) | (refine ar.split (fun _=>?_) (fun _=>?_)) | (simp (disch:=omega) only [↓wr,↓reduceIte,wq,ag,Nat.reduceEqDiff,Nat.reduceAdd,Nat.reduceLT,Nat.reduceLeDiff,reduceCtorEq,h1,h3,al]))
        all_goals try (refine hbad ?_; simp[jw, *]; done)
        rename_i hnm
        refine aC.pure (CQ g hg t.name) (by kernel_rfl) ?_
        repeat' (first | (refine ar.dec (fun _=>?_) (fun _=>?_)) | (refine ar.eq (fun _=>?_) (fun _=>?_)) | (refine ar.ne (fun _=>?_) (fun _=>?_)) | (refine ar.split (fun _=>?_) (fun _=>?_)) | (simp (disch:=omega) only [↓wr,↓reduceIte,wq,ag,Nat.reduceEqDiff,Nat.reduceAdd,Nat.reduceLT,reduceCtorEq,h1,h3,al]))
        all_goals try (refine hbad ?_; simp[jw, *]; done)
        all_goals try (refine hbad ?_; simp[jw]; grind)
        rename_i e1 e2 e3 e4 e5 e6
        have hpre:jw g i t=qC g t:=by
          have e6':((t.level == 0) == (t.assoc == 0))=true:=by simpa using e6
          simp[jw,hnm,e1,e6',show (0:Int)≤t.level by omega,show t.level≤24 by omega,show (0:Int)≤t.assoc by omega,show t.assoc≤3 by omega]
        refine bc.intro (fun k' T H''=>∃ j:Nat,1≤j∧j+k'=t.level.toNat+1∧(∀ q:Nat,q+1 < j→fL g.ay ((q:Int)+1)=true)∧T 1=.aS (al g) 0∧T 3=gi i∧T 4=.ptr m 0 0∧H'' m=.arr 3 [[gs t.name,gi t.level,gi t.assoc]]∧T 5=gi j) t.level.toNat ?_ ?_
        · refine ⟨1,by omega,by omega,fun q hq=>by omega,?_⟩
          simp (disch:=omega) only [↓wr,↓reduceIte,wq,Nat.reduceEqDiff,Nat.reduceAdd,h1,h3,al]
          rfl
        · rintro k' T' H'' ⟨j,hj1,hj2,hj3,f1,f3,f4,fm,f5⟩
          simp (disch:=omega) only [↓wr,↓reduceIte,wq,ag,Nat.reduceEqDiff,Nat.reduceAdd,Nat.reduceLT,lI,f4,f5,fm]
          refine ar.dec (fun hd=>?_) (fun hd=>?_)
          · simp (disch:=omega) only [↓wr,↓reduceIte,wq,Nat.reduceEqDiff,Nat.reduceAdd,Nat.reduceLeDiff,f1,f5,al]
            refine aC.pure (GP g hg j) (by kernel_rfl) ?_
            repeat' (first | (refine ar.dec (fun _=>?_) (fun _=>?_)) | (refine ar.eq (fun _=>?_) (fun _=>?_)) | (refine ar.ne (fun _=>?_) (fun _=>?_)) | (refine ar.split (fun _=>?_) (fun _=>?_)) | (simp (disch:=omega) only [↓wr,↓reduceIte,wq,ag,Nat.reduceEqDiff,reduceCtorEq,f1,f3,f4,f5,fm,al]))
            · rename_i hb
              refine ⟨k' - 1,by omega,j+1,by omega,by omega,fun q hq=>?_,by first | rfl | exact ⟨rfl,rfl⟩ | exact ⟨rfl,rfl,rfl⟩⟩
              by_cases e:q+1=j
              · have:(q:Int)+1=j:=by omega
                rw[this]; exact hb
              · exact hj3 q (by omega)
            · rename_i hb
              refine hbad ?_
              rw[hpre,qC,List.all_eq_false]
              refine ⟨j - 1,by simp; omega,?_⟩
              have:((j - 1:Nat):Int)+1=j:=by omega
              rw[this,hb]; simp
          · simp (disch:=omega) only [↓wr,↓reduceIte,wq,Nat.reduceEqDiff,reduceCtorEq,f1,f3]
            refine ⟨k - 1,by omega,i+1,by omega,?_,by first | rfl | exact ⟨rfl,rfl⟩ | exact ⟨rfl,rfl,rfl⟩⟩
            have hlv:qC g t=true:=by
              rw[qC,List.all_eq_true]
              intro q hq
              exact hj3 q (by simp at hq; omega)
            rw[hpre,hlv,Bool.true_and] at hi
            push_cast; exact hi
      · rw[List.drop_eq_nil_of_le (by omega)] at hi
        simp only[iS] at hi
        simp (disch:=omega) only [↓wr,↓reduceIte,wq,Nat.reduceEqDiff,reduceCtorEq]
        simp[iY,hle,← hi]
theorem Gz (g:ao) (hg:g.Ok):aF Tryz.prog 89 [.agg (al g)] (gb (iY g)):=aF.val (dM g) (HK g hg)
def kM (g:ao) (i:Int) (s:ByteArray):Bool:=fe (ey s) && (xu g s == i) && decide (lg g s < 0)
def qF (g:ao):List ByteArray→Int→Bool
  | [],_=>true
  | s :: r,i=>kM g i s && qF g r (i+1)
def jC (g:ao):Bool:=decide (1≤g.au.length) && decide (g.au.length≤16) && qF g g.au 0
set_option maxHeartbeats 1000000 in
theorem I9 (g:ao) (hg:g.Ok) (H:View):az Tryz.prog 90 [.agg (al g)] H fun r _=>r=gb (jC g):=by
  refine az.of mixed uB ?_
  repeat' (first | (refine ar.dec (fun _=>?_) (fun _=>?_)) | (refine ar.eq (fun _=>?_) (fun _=>?_)) | (refine ar.ne (fun _=>?_) (fun _=>?_)) | (refine ar.split (fun _=>?_) (fun _=>?_)) | (simp (disch:=omega) only [↓wr,↓reduceIte,wq,ah,ag,aj,Nat.reduceEqDiff,Nat.reduceAdd,Nat.reduceLT,Nat.reduceLeDiff,reduceCtorEq,pz,al,encS]))
  · simp[jC,show ¬ 1≤g.au.length by omega]
  · simp[jC,show ¬ g.au.length≤16 by omega]
  · have hle:g.au.length≤16:=by omega
    refine bc.intro (fun k T _=>∃ i:Nat,i+k=g.au.length∧qF g (g.au.drop i) i=qF g g.au 0∧T 1=.aS (al g) 0∧T 3=gi i) g.au.length ?_ ?_
    · exact ⟨0,by omega,rfl,rfl,rfl⟩
    · rintro k T H' ⟨i,hk,hi,h1,h3⟩
      simp (disch:=omega) only [↓wr,↓reduceIte,wq,ag,aj,Nat.reduceEqDiff,Nat.reduceAdd,Nat.reduceLT,reduceCtorEq,l9,h1,h3,al,encS]
      refine ar.dec (fun hc=>?_) (fun hc=>?_)
      · have hg2:g.au[i]?=some (g.au[i]'(by omega)):=List.getElem?_eq_getElem (by omega)
        rw[c9 (show i < g.au.length by omega)] at hi
        generalize g.au[i]'(by omega)=t at hg2 hi
        simp only[qF] at hi
        have hbad:kM g i t=false→gb false=gb (jC g):=fun e=>by rw[e,Bool.false_and] at hi; simp[jC,← hi]
        simp (disch:=omega) only [↓wr,↓reduceIte,wq,Nat.reduceEqDiff,Nat.reduceAdd,Nat.reduceLT,h1,h3,al,encS,List.getElem?_map,hg2]
        refine aC.pure (Da t) (by kernel_rfl) ?_
        repeat' (first | (refine ar.dec (fun _=>?_) (fun _=>?_)) | (refine ar.eq (fun _=>?_) (fun _=>?_)) | (refine ar.ne (fun _=>?_) (fun _=>?_)) | (refine ar.split (fun _=>?_) (fun _=>?_)) | (simp (disch:=omega) only [↓wr,↓reduceIte,wq,ag,Nat.reduceEqDiff,Nat.reduceAdd,Nat.reduceLT,Nat.reduceLeDiff,reduceCtorEq,h1,h3,al,encS,List.getElem?_map,hg2]))
        all_goals try (refine hbad ?_; simp[kM, *]; done)
        rename_i hnm
        refine aC.pure (LQ g hg t) (by kernel_rfl) ?_
        repeat' (first | (refine ar.dec (fun _=>?_) (fun _=>?_)) | (refine ar.eq (fun _=>?_) (fun _=>?_)) | (refine ar.ne (fun _=>?_) (fun _=>?_)) | (refine ar.split (fun _=>?_) (fun _=>?_)) | (simp (disch:=omega) only [↓wr,↓reduceIte,wq,ag,Nat.reduceEqDiff,Nat.reduceAdd,Nat.reduceLT,Nat.reduceLeDiff,reduceCtorEq,h1,h3,al,encS,List.getElem?_map,hg2]))
        all_goals try (refine hbad ?_; simp[kM, *]; done)
        rename_i hno
        refine aC.pure (CQ g hg t) (by kernel_rfl) ?_
        repeat' (first | (refine ar.dec (fun _=>?_) (fun _=>?_)) | (refine ar.eq (fun _=>?_) (fun _=>?_)) | (refine ar.ne (fun _=>?_) (fun _=>?_)) | (refine ar.split (fun _=>?_) (fun _=>?_)) | (simp (disch:=omega) only [↓wr,↓reduceIte,wq,ag,Nat.reduceEqDiff,reduceCtorEq,h1,h3,al,encS]))
        all_goals try (refine hbad ?_; simp[kM, *]; done)
        rename_i hte
        refine ⟨k - 1,by omega,i+1,by omega,?_,by first | rfl | exact ⟨rfl,rfl⟩ | exact ⟨rfl,rfl,rfl⟩⟩
        have:kM g i t=true:=by simp[kM,hnm,hno,show lg g t < 0 by omega]
        rw[this,Bool.true_and] at hi
        push_cast; exact hi
      · rw[List.drop_eq_nil_of_le (by omega)] at hi
        simp only[qF] at hi
        simp (disch:=omega) only [↓wr,↓reduceIte,wq,Nat.reduceEqDiff,reduceCtorEq]
        simp[jC,hle,show 1≤g.au.length by omega,← hi]
theorem Ie (g:ao) (hg:g.Ok):aF Tryz.prog 90 [.agg (al g)] (gb (jC g)):=aF.val (dM g) (I9 g hg)
def lk (g:ao) (prec s:Int):Bool:=im g s && !(decide (0≤s) && prec == -1)
def gv (g:ao) (r:aM):Bool:=decide (r.right.length≤6) && decide (-1≤r.prec) && decide (r.prec < g.ay.length) && r.right.all (lk g r.prec)
theorem D3 (g:ao) (r:aM):∀ v∈[V.agg (al g),V.agg (aK r)],Tree v:=by
  intro v hv; simp at hv
  rcases hv with rfl | rfl
  · exact cg _ (cO g)
  · exact cg _ (eK r)
set_option maxHeartbeats 1000000 in
theorem I0 (g:ao) (r:aM) (hr:aN r.right∧∀ x∈r.right,bM x) (H:View):az Tryz.prog 91 [.agg (al g),.agg (aK r)] H fun v _=>v=gb (gv g r):=by
  refine az.of mixed ua ?_
  repeat' (first | (refine ar.dec (fun _=>?_) (fun _=>?_)) | (refine ar.eq (fun _=>?_) (fun _=>?_)) | (refine ar.ne (fun _=>?_) (fun _=>?_)) | (refine ar.split (fun _=>?_) (fun _=>?_)) | (simp (disch:=omega) only [↓wr,↓reduceIte,wq,ah,ag,aj,Nat.reduceEqDiff,Nat.reduceAdd,Nat.reduceLT,Nat.reduceLeDiff,Int.reduceNeg,reduceCtorEq,pH,al,encS,aK,encI]))
  · simp[gv,show ¬ r.right.length≤6 by omega]
  · simp[gv,show ¬ -1≤r.prec by omega]
  · simp[gv,show ¬ r.prec < g.ay.length by omega]
  · have hle:r.right.length≤6:=by omega
    have hp1 : -1≤r.prec:=by omega
    have hp2:r.prec < g.ay.length:=by omega
    refine bc.intro (fun k T _=>∃ i:Nat,i+k=r.right.length∧(r.right.drop i).all (lk g r.prec)=r.right.all (lk g r.prec)∧T 2=.aS (al g) 0∧T 3=.aS (aK r) 0∧T 5=gi i) r.right.length ?_ ?_
    · exact ⟨0,by omega,rfl,rfl,rfl,rfl⟩
    · rintro k T H' ⟨i,hk,hi,h2,h3,h5⟩
      simp (disch:=omega) only [↓wr,↓reduceIte,wq,ag,aj,Nat.reduceEqDiff,Nat.reduceAdd,Nat.reduceLT,Int.reduceNeg,reduceCtorEq,mB,h3,h5,aK,encI]
      refine ar.dec (fun hc=>?_) (fun hc=>?_)
      · have hg2:r.right[i]?=some (r.right[i]'(by omega)):=List.getElem?_eq_getElem (by omega)
        rw[c9 (show i < r.right.length by omega)] at hi
        have hmem:r.right[i]'(by omega)∈r.right:=List.getElem_mem _
        generalize r.right[i]'(by omega)=t at hg2 hi hmem
        have hin:=hr.2 t hmem
        simp only[List.all_cons] at hi
        have hbad:lk g r.prec t=false→gb false=gb (gv g r):=fun e=>by rw[e,Bool.false_and] at hi; simp only[gv,← hi,Bool.and_false]
        have hok:lk g r.prec t=true→(r.right.drop (i+1)).all (lk g r.prec)=r.right.all (lk g r.prec):=fun e=>by rw[e,Bool.true_and] at hi; exact hi
        simp (disch:=omega) only [↓wr,↓reduceIte,wq,Nat.reduceEqDiff,Nat.reduceAdd,Nat.reduceLT,Nat.reduceLeDiff,Int.reduceNeg,h2,h3,h5,al,encS,aK,encI,List.getElem?_map,hg2]
        refine aC.pure (OQ g t hin) (by kernel_rfl) ?_
        repeat' (first | (refine ar.dec (fun _=>?_) (fun _=>?_)) | (refine ar.eq (fun _=>?_) (fun _=>?_)) | (refine ar.ne (fun _=>?_) (fun _=>?_)) | (refine ar.split (fun _=>?_) (fun _=>?_)) | (simp (disch:=omega) only [↓wr,↓reduceIte,wq,ag,Nat.reduceEqDiff,Nat.reduceAdd,Nat.reduceLT,Int.reduceNeg,reduceCtorEq,h2,h3,h5,al,encS,aK,encI,List.getElem?_map,hg2]))
        all_goals first
          | (refine hbad ?_; simp[lk, *]; done)
          | (refine ⟨k - 1,by omega,i+1,by omega,hok (by simp[lk, *]; done),by first | rfl | exact ⟨rfl,rfl⟩ | exact ⟨rfl,rfl,rfl⟩⟩)
          | skip
      · rw[List.drop_eq_nil_of_le (by omega)] at hi
        simp only[List.all_nil] at hi
        simp (disch:=omega) only [↓wr,↓reduceIte,wq,Nat.reduceEqDiff,reduceCtorEq]
        simp only[gv,hle,hp1,hp2,decide_true,Bool.true_and,← hi]
theorem Jt (g:ao) (r:aM) (hr:aN r.right∧∀ x∈r.right,bM x):aF Tryz.prog 91 [.agg (al g),.agg (aK r)] (gb (gv g r)):=aF.val (D3 g r) (I0 g r hr)
def fI (g:ao):List aM→Int→Bool
  | [],top=>top == (g.au.length:Int) - 1
  | r :: l,top=>decide (0≤r.left) && decide (r.left≤top+1) && gv g r && fI g l (if r.left > top then r.left else top)
def bm (g:ao):Bool :=
  iY g && jC g && decide (1≤g.rules.length) && decide (g.rules.length≤40) && decide (0≤g.start) && decide (g.start < g.au.length) && fI g g.rules (-1)
set_option maxHeartbeats 1000000 in
theorem G0 (g:ao) (hg:g.Ok) (H:View):az Tryz.prog 48 [.agg (al g)] H fun r _=>r=gb (bm g):=by
  refine az.of mixed sW ?_
  have hn:=hg.au
  unfold aN at hn
  simp (disch:=omega) only [↓wr,↓reduceIte,wq,ah,Nat.reduceEqDiff,Nat.reduceAdd,Nat.reduceLeDiff,Int.reduceNeg,nK,al,encS]
  refine aC.pure (Gz g hg) (by kernel_rfl) ?_
  repeat' (first | (refine ar.dec (fun _=>?_) (fun _=>?_)) | (refine ar.eq (fun _=>?_) (fun _=>?_)) | (refine ar.ne (fun _=>?_) (fun _=>?_)) | (refine ar.split (fun _=>?_) (fun _=>?_)) | (simp (disch:=omega) only [↓wr,↓reduceIte,wq,Nat.reduceEqDiff,Nat.reduceAdd,Nat.reduceLeDiff,Int.reduceNeg,reduceCtorEq]))
  · rename_i h1
    refine aC.pure (Ie g hg) (by kernel_rfl) ?_
    repeat' (first | (refine ar.dec (fun _=>?_) (fun _=>?_)) | (refine ar.eq (fun _=>?_) (fun _=>?_)) | (refine ar.ne (fun _=>?_) (fun _=>?_)) | (refine ar.split (fun _=>?_) (fun _=>?_)) | (simp (disch:=omega) only [↓wr,↓reduceIte,wq,ag,aj,Nat.reduceEqDiff,Nat.reduceAdd,Nat.reduceLT,Int.reduceNeg,reduceCtorEq]))
    all_goals try (simp[bm, *]; done)
    all_goals try (simp[bm]; omega)
    rename_i h2 h3 h4 h5 h6
    have hle:g.rules.length≤40:=by omega
    have hpre:∀ b,fI g g.rules (-1)=b→gb b=gb (bm g):=fun b e=>by
      simp[bm,h1,h2,show 1≤g.rules.length by omega,hle,show 0≤g.start by omega,show g.start < g.au.length by omega,e]
    refine bc.intro (fun k T _=>∃ (i:Nat) (w:Int),i+k=g.rules.length∧-1≤w∧w < i∧fI g (g.rules.drop i) w=fI g g.rules (-1)∧T 1=.aS (al g) 0∧T 3=gi w∧T 4=gi i) g.rules.length ?_ ?_
    · exact ⟨0,-1,by omega,by omega,by omega,rfl,rfl,rfl,rfl⟩
    · rintro k T H' ⟨i,w,hk,hw1,hw2,hi,f1,f3,f4⟩
      simp (disch:=omega) only [↓wr,↓reduceIte,wq,ag,aj,Nat.reduceEqDiff,Nat.reduceAdd,Nat.reduceLT,Int.reduceNeg,lN,f1,f4,al]
      refine ar.dec (fun hc=>?_) (fun hc=>?_)
      · have hg2:g.rules[i]?=some (g.rules[i]'(by omega)):=List.getElem?_eq_getElem (by omega)
        rw[c9 (show i < g.rules.length by omega)] at hi
        have hmem:g.rules[i]'(by omega)∈g.rules:=List.getElem_mem _
        generalize g.rules[i]'(by omega)=t at hg2 hi hmem
        obtain ⟨⟨hl1,hl2⟩,hp,hr1,hr2⟩:=hg.ba t hmem
        simp only[fI] at hi
        simp (disch:=omega) only [↓wr,↓reduceIte,wq,ag,aa,Nat.reduceEqDiff,Nat.reduceAdd,Nat.reduceLT,Nat.reduceLeDiff,Int.reduceNeg,f1,f4,al,encS,aK,encI,List.getElem?_map,hg2]
        intro m hm
        try simp (disch:=omega) only [↓wr,↓reduceIte,wq,ah,ag,aj,aa,ab,af,ai,isNil,Nat.reduceEqDiff,Nat.reduceAdd,Nat.reduceLT,Nat.reduceLeDiff,Int.reduceNeg,Int.reduceToNat,reduceCtorEq,f1,f3,f4]
        repeat' (first | (refine ar.dec (fun _=>?_) (fun _=>?_)) | (refine ar.eq (fun _=>?_) (fun _=>?_)) | (refine ar.ne (fun _=>?_) (fun _=>?_)) | (refine ar.split (fun _=>?_) (fun _=>?_)) | (simp (disch:=omega) only [↓wr,↓reduceIte,wq,ag,aj,Nat.reduceEqDiff,Nat.reduceAdd,Nat.reduceLT,Nat.reduceLeDiff,Int.reduceNeg,reduceCtorEq,f1,f3,f4,al,encS]))
        all_goals try (refine hpre _ ?_; simp only[← hi]; simp; omega)
        rename_i e1 e2
        refine aC.pure (Jt g t ⟨hr1,hr2⟩) (by kernel_rfl) ?_
        repeat' (first | (refine ar.dec (fun _=>?_) (fun _=>?_)) | (refine ar.eq (fun _=>?_) (fun _=>?_)) | (refine ar.ne (fun _=>?_) (fun _=>?_)) | (refine ar.split (fun _=>?_) (fun _=>?_)) | (simp (disch:=omega) only [↓wr,↓reduceIte,wq,ag,aj,Nat.reduceEqDiff,Nat.reduceAdd,Nat.reduceLT,Int.reduceNeg,reduceCtorEq,f1,f3,f4,al,encS]))
        all_goals simp only[show 0≤t.left by omega,show t.left≤w+1 by omega,decide_true,Bool.true_and] at hi
        · rename_i e3 e4
          rw[e3,Bool.true_and,if_pos e4] at hi
          exact ⟨k - 1,by omega,i+1,_,by omega,by omega,by push_cast; omega,hi,by first | rfl | exact ⟨rfl,rfl⟩ | exact ⟨rfl,rfl,rfl⟩⟩
        · rename_i e3 e4
          rw[e3,Bool.true_and,if_neg e4] at hi
          exact ⟨k - 1,by omega,i+1,_,by omega,by omega,by push_cast; omega,hi,by first | rfl | exact ⟨rfl,rfl⟩ | exact ⟨rfl,rfl,rfl⟩⟩
        · rename_i e3
          rw[e3,Bool.false_and] at hi
          exact hpre _ hi.symm
      · rw[List.drop_eq_nil_of_le (by omega)] at hi
        simp only[fI] at hi
        simp (disch:=omega) only [↓wr,↓reduceIte,wq,ag,aj,Nat.reduceEqDiff,Nat.reduceAdd,Nat.reduceLT,reduceCtorEq,f1,f3,al,encS]
        exact hpre _ hi.symm
  · rename_i h1; simp[bm,h1]
theorem kh (g:ao) (hg:g.Ok):aF Tryz.prog 48 [.agg (al g)] (gb (bm g)):=aF.val (dM g) (G0 g hg)
inductive cn (α:Type) where
  | nil
  | node (v:α) (l r:cn α)
noncomputable def cn.get {α:Type} (z:α) (t:cn α):Nat→α :=
  cn.rec (motive:=fun _=>Nat→α) (fun _=>z) (fun v _ _ gl gr i=>Bool.rec (Bool.rec (gr (i / 2 - 1)) (gl (i / 2)) (Nat.beq (i % 2) 1)) v (Nat.beq i 0)) t
theorem cn.get_nil {α:Type} (z:α) (i:Nat):cn.get z .nil i=z:=rfl
theorem cn.KC {α:Type} (z v:α) (l r:cn α) (i:Nat):cn.get z (.node v l r) i=match Nat.beq i 0 with
    | true=>v
    | false=>match Nat.beq (i % 2) 1 with
      | true=>cn.get z l (i / 2)
      | false=>cn.get z r (i / 2 - 1):=by
  change (Bool.rec (motive:=fun _=>α) _ _ _:α)=_
  cases Nat.beq i 0 with
  | true=>rfl
  | false=>cases Nat.beq (i % 2) 1 <;> rfl
def cn.val {α:Type} (z:α):cn α→α
  | .nil=>z
  | .node v _ _=>v
def cn.left {α:Type} : cn α→cn α
  | .nil=>.nil
  | .node _ l _=>l
def cn.right {α:Type} : cn α→cn α
  | .nil=>.nil
  | .node _ _ r=>r
noncomputable def cn.put {α:Type} (z:α) (x:α) (d:Nat):cn α→Nat→cn α :=
  Nat.rec (motive:=fun _=>cn α→Nat→cn α) (fun t _=>t) (fun _ pd t i =>
    Bool.rec (Bool.rec (.node (t.val z) t.left (pd t.right (i / 2 - 1))) (.node (t.val z) (pd t.left (i / 2)) t.right) (Nat.beq (i % 2) 1)) (.node x t.left t.right) (Nat.beq i 0)) d
theorem cn.Ld {α:Type} (z x:α) (d:Nat) (t:cn α) (i:Nat):cn.put z x (d+1) t i=match Nat.beq i 0 with
    | true=>.node x t.left t.right
    | false=>match Nat.beq (i % 2) 1 with
      | true=>.node (t.val z) (cn.put z x d t.left (i / 2)) t.right
      | false=>.node (t.val z) t.left (cn.put z x d t.right (i / 2 - 1)):=by
  change (Bool.rec (motive:=fun _=>cn α) _ _ _:cn α)=_
  cases Nat.beq i 0 with
  | true=>rfl
  | false=>cases Nat.beq (i % 2) 1 <;> rfl
theorem cn.lY {α:Type} (z:α) (t:cn α) (j:Nat):t.get z j=if j=0 then t.val z else if j % 2=1 then t.left.get z (j / 2) else t.right.get z (j / 2 - 1):=by
  cases t with
  | nil=>simp[cn.get_nil,cn.val,cn.left,cn.right]
  | node v l r =>
    simp only[cn.KC,cn.val,cn.left,cn.right]
    by_cases h:j=0
    · subst h; rfl
    · have:Nat.beq j 0=false:=by cases e:Nat.beq j 0 with | true=>exact absurd (Nat.eq_of_beq_eq_true e) h | false=>rfl
      rw[this,if_neg h]
      simp only
      by_cases h2:j % 2=1
      · have:Nat.beq (j % 2) 1=true:=by rw[h2]; rfl
        rw[this,if_pos h2]
      · have:Nat.beq (j % 2) 1=false:=by cases e:Nat.beq (j % 2) 1 with | true=>exact absurd (Nat.eq_of_beq_eq_true e) h2 | false=>rfl
        rw[this,if_neg h2]
theorem cn.lG {α:Type} (z x:α):∀ (d:Nat) (t:cn α) (i j:Nat),i+1 < 2 ^ d→(cn.put z x d t i).get z j=if j=i then x else t.get z j
  | 0,t,i,j,h=>by simp at h
  | d+1,t,i,j,h=>by
    rw[Nat.pow_succ] at h
    simp only[cn.Ld]
    by_cases hi:i=0
    · subst hi
      have:Nat.beq 0 0=true:=rfl
      rw[this]
      simp only
      rw[cn.lY,cn.lY z t]
      simp only[cn.val,cn.left,cn.right]
      by_cases hj:j=0
      · rw[if_pos hj,if_pos hj]
      · rw[if_neg hj,if_neg hj,if_neg hj]
    · have:Nat.beq i 0=false:=by cases e:Nat.beq i 0 with | true=>exact absurd (Nat.eq_of_beq_eq_true e) hi | false=>rfl
      rw[this]
      simp only
      by_cases h2:i % 2=1
      · have:Nat.beq (i % 2) 1=true:=by rw[h2]; rfl
        rw[this]
        simp only
        rw[cn.lY,cn.lY z t]
        simp only[cn.val,cn.left,cn.right]
        by_cases hj:j=0
        · subst hj; rw[if_pos rfl,if_neg (fun e=>hi e.symm),if_pos rfl]
        · rw[if_neg hj,if_neg hj]
          by_cases hj2:j % 2=1
          · rw[if_pos hj2,if_pos hj2,cn.lG z x d _ _ _ (by omega)]
            by_cases e:j=i
            · subst e; simp
            · rw[if_neg e,if_neg (by omega)]
          · rw[if_neg hj2,if_neg hj2,if_neg (fun e=>hj2 (by rw[e]; exact h2))]
      · have:Nat.beq (i % 2) 1=false:=by cases e:Nat.beq (i % 2) 1 with | true=>exact absurd (Nat.eq_of_beq_eq_true e) h2 | false=>rfl
        rw[this]
        simp only
        rw[cn.lY,cn.lY z t]
        simp only[cn.val,cn.left,cn.right]
        by_cases hj:j=0
        · subst hj; rw[if_pos rfl,if_neg (fun e=>hi e.symm),if_pos rfl]
        · rw[if_neg hj,if_neg hj]
          by_cases hj2:j % 2=1
          · rw[if_pos hj2,if_pos hj2,if_neg (fun e=>h2 (by rw[← e]; exact hj2))]
          · rw[if_neg hj2,if_neg hj2,cn.lG z x d _ _ _ (by omega)]
            by_cases e:j=i
            · subst e; simp
            · rw[if_neg e,if_neg (by omega)]
abbrev deep:Nat:=13
structure ES where
  L:cn V
  H:cn bR
  n:Nat
  w:List Nat
noncomputable def ES.T (s:ES):Env:=s.L.get .any
noncomputable def ES.V (s:ES):View:=s.H.get .dead
noncomputable def ES.put (s:ES) (d:Option Nat) (v:Gv.V):ES:=match d with
  | some t=>⟨s.L.put .any v deep t,s.H,s.n,s.w⟩
  | none=>s
theorem ES.Mm {s:ES} {d:Option Nat} {v:Gv.V} (h:∀ t,d=some t→t < 8000):(s.put d v).T=s.T.put d v:=by
  cases d with
  | none=>rfl
  | some t =>
    funext k
    have:=h t rfl
    simp only[ES.put,ES.T,Env.put]
    rw[cn.lG _ _ _ _ _ _ (by simp[deep]; omega)]
noncomputable def EN (v:V) (aD:bk) (rd:List Nat) (s:ES):Option (V × ES × Rec):=match aD with
  | .none=>some (v,s,⟨rd,[],false,s.n,s.n⟩)
  | .new o=>match Nat.ble s.n 8000 with
    | true=>some (v,⟨s.L,s.H.put .dead o deep s.n,s.n+1,s.w⟩,⟨rd,[],false,s.n,s.n+1⟩)
    | false=>none
  | .fH id o=>match Nat.ble id 8000 with
    | true=>some (v,⟨s.L,s.H.put .dead o deep id,s.n,id :: s.w⟩,⟨rd,[id],false,s.n,s.n⟩)
    | false=>none
  | .aZ id o=>match Nat.ble s.n 8000,Nat.ble id 8000 with
    | true,true=>some (v,⟨s.L,(s.H.put .dead .dead deep id).put .dead o deep s.n,s.n+1,id :: s.w⟩,⟨rd,[id],false,s.n,s.n+1⟩)
    | _,_=>none
noncomputable def Qc (x:SX) (_:Program) (T:Env) (_:View) (_:Nat):Out:=some (x.at T,.none,[])
noncomputable def PN (c a b:SX) (_:Program) (T:Env) (_:View) (_:Nat):Out:=match c.at T with
  | .val (.bool t)=>some (if t then a.at T else b.at T,.none,[])
  | _=>none
noncomputable def PT (sz:Option Nat) (a:SX) (_:Program) (T:Env) (H:View) (_:Nat):Out:=uF sz (a.at T) H
noncomputable def Ov (sz:Nat) (a x:SX) (_:Program) (T:Env) (H:View) (_:Nat):Out:=zU sz (a.at T) (x.at T) H
noncomputable def P7 (off:Nat) (x:SX) (_:Program) (T:Env) (_:View) (_:Nat):Out:=yi off (x.at T)
noncomputable def Qe (sz:Nat) (x i:SX) (_:Program) (T:Env) (_:View) (_:Nat):Out:=B2 sz (x.at T) (i.at T)
noncomputable def Qp (x:SX) (_:Program) (T:Env) (_:View) (_:Nat):Out:=(dS (x.at T)).map fun n=>(aj n,.none,[])
noncomputable def Oo (op:BinOp) (x y:SX) (_:Program) (T:Env) (_:View) (_:Nat):Out:=xx op (x.at T) (y.at T)
noncomputable def Qh (op:BinOp) (x y:SX) (_:Program) (T:Env) (_:View) (_:Nat):Out:=zj op (x.at T) (y.at T)
noncomputable def Qg (x:SX) (_:Program) (T:Env) (_:View) (_:Nat):Out:=match x.at T with
  | .val (.bool t)=>some (.val (.bool (!t)),.none,[])
  | _=>none
noncomputable def Qi (i:Nat) (x:SX) (_:Program) (T:Env) (_:View) (_:Nat):Out:=match x.at T with
  | .bt vs=>if i < vs.length then some (vs.getD i .any,.none,[]) else none
  | _=>none
noncomputable def PZ (x:SX) (_:Program) (T:Env) (_:View) (_:Nat):Out:=match x.at T with
  | .ptr id i j=>some (.ptr id i j,.none,[])
  | .aS e j=>some (.aS e j,.none,[])
  | .fn f a b=>some (.fn f a b,.none,[])
  | _=>none
noncomputable def eI (s:SI):Program→Env→View→Nat→Out:=match s with
  | .aZ x=>Qc x
  | .pick c a b=>PN c a b
  | .load sz a=>PT sz a
  | .store sz a x=>Ov sz a x
  | .addr o x=>P7 o x
  | .idx sz x i=>Qe sz x i
  | .len x=>Qp x
  | .arith op x y=>Oo op x y
  | .iN op x y=>Qh op x y
  | .not x=>Qg x
  | .ext i x=>Qi i x
  | .zo x=>PZ x
  | s=>fun P T H n=>sI P s T H n
theorem GJ (s:SI) (P:Program) (T:Env) (H:View) (n:Nat):eI s P T H n=sI P s T H n:=by
  cases s <;> rfl
abbrev gm:=FuncId→List V→ES→Option (V × ES)
noncomputable def Iu (P:Program) (s:SI) (e:ES):Option (V × ES × Rec):=match eI s P e.T e.V e.n with
  | some (v,aD,rd)=>EN v aD rd e
  | none=>none
noncomputable def JV (call:gm) (f:SX) (args:List SX) (e:ES):Option (V × ES × Rec):=match f.at e.T with
  | .fn g first cap=>match call g (first ++ args.map (SX.at e.T) ++ cap) e with
    | some (v,e')=>some (v,⟨e.L,e'.H,e'.n,e'.w ++ e.w⟩,⟨[],e'.w,true,e.n,e'.n⟩)
    | none=>none
  | _=>none
noncomputable def eB (P:Program) (call:gm) (b:SB):ES→Option (V × ES × Rec):=match b with
  | .op s=>Iu P s
  | .call f args=>JV call f args
noncomputable def Gf (P:Program) (call:gm):List (Option Nat × SB)→List Rec→ES→Option (ES × List Rec)
  | [],a,e=>some (e,a)
  | (d,b) :: r,a,e=>match eB P call b e with
    | some (v,e',c)=>Gf P call r (a ++ [c]) (e'.put d v)
    | none=>none
noncomputable def Mv (e:ES):Rec:=⟨[],[],false,e.n,e.n⟩
noncomputable def uM:List (Option Nat × SB)→List Rec→ES→ES × List Rec
  | [],a,e=>(e,a)
  | (d,_) :: r,a,e=>uM r (a ++ [Mv e]) (e.put d (.bt []))
noncomputable def JG (P:Program) (call:gm) (ops:List (Option Nat × SB)) (want:Bool) (v:V) (a:List Rec) (e:ES):Option (ES × List Rec):=match v with
  | .val (.bool b)=>match xor b want with
    | true=>some (uM ops a e)
    | false=>Gf P call ops a e
  | .bt []=>some (uM ops a e)
  | _=>none
noncomputable def eG (P:Program) (call:gm) (g:SG) (a:List Rec) (e:ES):Option (ES × List Rec):=match g.guard with
  | none=>Gf P call g.ops a e
  | some (d,want)=>JG P call g.ops want (e.T d) a e
noncomputable def I1 (P:Program) (call:gm):List SG→List Rec→ES→Option (ES × List Rec)
  | [],a,e=>some (e,a)
  | g :: r,a,e=>match eG P call g a e with
    | some (e',a')=>I1 P call r a' e'
    | none=>none
inductive DC where
  | skip
  | region (ps:List (Nat × Nat)) (gs:List SG)
  | seq (x y:DC)
  | cond (c:SX) (x y:DC)
  | block (id:Nat) (c:DC)
  | loop (c:DC)
  | exit (id:Nat)
  | ret
  deriving Inhabited
def Jp (recs:List Rec) (ps:List (Nat × Nat)):Bool:=ps.all fun (i,k)=>match recs[i]?,recs[k]? with
  | some a,some b=>BM a b
  | _,_=>false
abbrev ER:=Option (Exit × ES)
abbrev wa:=DC→ES→ER
noncomputable def JW:ES→ER:=fun e=>some (.normal,e)
noncomputable def FY (P:Program) (call:gm) (ps:List (Nat × Nat)) (gs:List SG) (e:ES):ER:=match I1 P call gs [] e with
  | some (e',recs)=>match Jp recs ps with
    | true=>some (.normal,e')
    | false=>none
  | none=>none
noncomputable def OX (run:wa) (x y:DC) (e:ES):ER:=match run x e with
  | some (.normal,e')=>run y e'
  | r=>r
noncomputable def Ml (run:wa) (c:SX) (x y:DC) (e:ES):ER:=match c.at e.T with
  | .val (.bool true)=>run x e
  | .val (.bool false)=>run y e
  | _=>none
noncomputable def HR (run:wa) (id:Nat) (c:DC) (e:ES):ER:=match run c e with
  | some (r,e')=>some (oJ id r,e')
  | none=>none
noncomputable def Mo (run:wa) (c:DC) (e:ES):ER:=match run c e with
  | some (.normal,e')=>run (.loop c) e'
  | r=>r
noncomputable def lf (P:Program) (call:gm) (run:wa) (c:DC):ES→ER:=match c with
  | .skip=>JW
  | .region ps gs=>FY P call ps gs
  | .seq x y=>OX run x y
  | .cond c x y=>Ml run c x y
  | .block id c=>HR run id c
  | .loop c=>Mo run c
  | .exit id=>fun e=>some (.exit id,e)
  | .ret=>fun e=>some (.ret,e)
noncomputable def LX (r:SR) (e:ES):Option V:=match r with
  | .tmp t=>some (e.T t)
  | .cell t sz=>match e.T t with
    | .ptr id i j=>match e.V id with
      | .arr _ es=>if i < es.length then k8 sz (es.getD i []) j else none
      | _=>none
    | .aS e j=>k8 sz e j
    | _=>none
noncomputable def uD:List SR→ES→Option (List V)
  | [],_=>some []
  | r :: l,e=>match LX r e,uD l e with
    | some v,some vs=>some (v :: vs)
    | _,_=>none
noncomputable def lH:List V→Nat→cn V→cn V
  | [],_,t=>t
  | v :: vs,i,t=>lH vs (i+1) (t.put .any v deep i)
structure DF where
  code:DC
  res:List SR
  n:Nat
noncomputable def OU (l:List SR) (r:ER):Option (V × ES):=match r with
  | some (.ret,e)=>(uD l e).map fun vs=>(ah vs,e)
  | some (.normal,e)=>(uD l e).map fun vs=>(ah vs,e)
  | _=>none
noncomputable def Pb (m:Nat) (r:Option (V × ES)):Option (V × ES):=match r with
  | some (v,e)=>some (v,⟨e.L,e.H,e.n,e.w.filter fun id=>Nat.blt id m⟩)
  | none=>none
noncomputable def Pg (run:wa) (F:DF) (vs:List V) (e:ES):Option (V × ES):=match Nat.ble vs.length F.n,Nat.ble F.n 8000 with
  | true,true=>Pb e.n (OU F.res (run F.code ⟨lH vs 0 .nil,e.H,e.n,[]⟩))
  | _,_=>none
abbrev x8:=FuncId→List V→View→Option V
noncomputable def Dv (P:Program) (tab:List (FuncId × DF)) (ext:x8) (run:wa) (g:FuncId) (vs:List V) (e:ES):Option (V × ES):=match ext g vs e.V with
  | some t=>some (t,⟨e.L,e.H,e.n,[]⟩)
  | none=>match tab.find? (fun p=>Nat.beq p.1 g) with
    | some (_,F)=>Pg run F vs e
    | none=>none
noncomputable def Eh (P:Program) (tab:List (FuncId × DF)) (ext:x8):Nat→wa
  | 0=>fun _ _=>none
  | k+1=>lf P (Dv P tab ext (Eh P tab ext k)) (Eh P tab ext k)
def zX (all:List Oper) (ls:List Nat):List (Nat × Nat) :=
  let b:=eC all []
  (ls.zipIdx.map fun (x,i)=>(ls.zipIdx.filter fun (y,k)=>decide (i < k) && !(ordered b i k || x == 0 || y == 0 || (decide (x≤1) && decide (y≤1)))).map fun (_,k)=>(i,k)).flatten
def DW (P:Program) (n:Nat) (fz:List Nat) (ops:List Oper) (draw:Bool):Option DC:=match cZ P n ops ⟨fz,false⟩ ops with
  | none=>none
  | some l=>if !(group l).all se then none else
    if draw then (if kX ops then some (.region (zX ops (l.map fun s=>hQ P false s.b)) (group l)) else none) else some (.region [] (group l))
def hO (P:Program) (n:Nat) (fz:List Nat):Code→Option DC
  | .skip=>some .skip
  | .region _ ops draw=>DW P n fz ops.toList draw
  | .seq x y=>match hO P n fz x,hO P n fz y with
    | some a,some b=>some (.seq a b)
    | _,_=>none
  | .cond c x y=>match hO P n fz x,hO P n fz y with
    | some a,some b=>some (.cond (SX.of c) a b)
    | _,_=>none
  | .block id c=>(hO P n fz c).map (.block id)
  | .loop c=>(hO P n fz c).map .loop
  | .exit id=>some (.exit id)
  | .ret=>some .ret
  | _=>none
abbrev aw (l:List (Option Nat × SB)):DC:=.region [] [⟨none,l⟩]
def bK (P:Program) (f:FuncId) (fz:List Nat):Option DF:=match P.funcs[f]? with
  | some fn=>match fn.body with
    | some c=>match hO P fn.ntmps fz c,eF P fn.results.toList,cX P f with
      | some sc,some rs,true=>some ⟨sc,rs,fn.ntmps⟩
      | _,_,_=>none
    | none=>none
  | none=>none
end Gv
