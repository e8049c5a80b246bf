/-
  Part 6 of the proof: what the machine does and what the functions answer.
  Conditions: those that each lemma names.
-/
import Derived.Test.YtomcjampldmjoaaGreatSGzVE
set_option linter.unusedSimpArgs false
set_option linter.unusedVariables false
set_option maxRecDepth 100000
namespace Gv
open Go Go.Proofs
structure Term where
  name:ByteArray
  level:Int
  assoc:Int
structure aQ where
  left:Int
  right:List Int
  prec:Int
structure an where
  ax:List Term
  av:List ByteArray
  rules:List aQ
  start:Int
instance:Inhabited Term:=⟨⟨.empty,0,0⟩⟩
instance:Inhabited aQ:=⟨⟨0,[],0⟩⟩
def ct (t:Term):List V:=[gs t.name,gi t.level,gi t.assoc]
def aO (r:aQ):List V:=[gi r.left,encI r.right,gi r.prec]
def encS (l:List ByteArray):V:=.aY (l.map fun s=>[gs s])
def ar (g:an):List V:=[.aY (g.ax.map ct),encS g.av,.aY (g.rules.map aO),gi g.start]
theorem ee {α:Type} (l:List α) (f:α→List V) (h:∀ x∈l,∀ v∈f x,Tree v):Tree (.aY (l.map f)):=by
  refine .aY _ fun i j hi hj=>?_
  simp only[List.length_map] at hi
  have e:(l.map f).getD i []=f l[i]:=by simp[List.getD_eq_getElem?_getD,hi]
  rw[e] at hj ⊢
  have e2:(f l[i]).getD j .any=(f l[i])[j]:=by simp[List.getD_eq_getElem?_getD,hj]
  rw[e2]
  exact h _ (List.getElem_mem _) _ (List.getElem_mem _)
theorem cE (cs:List V) (h:∀ v∈cs,Tree v):Tree (.agg cs):=by
  refine .agg _ fun i hi=>?_
  have e2:cs.getD i .any=cs[i]:=by simp[List.getD_eq_getElem?_getD,hi]
  rw[e2]; exact h _ (List.getElem_mem _)
theorem wm (l:List ByteArray):Tree (encS l):=ee _ _ fun x _ v hv=>by simp at hv; subst hv; exact .val _
theorem rU (t:Term):∀ v∈ct t,Tree v:=by intro v hv; simp[ct] at hv; rcases hv with rfl | rfl | rfl <;> exact .val _
theorem fL (r:aQ):∀ v∈aO r,Tree v:=by
  intro v hv; simp[aO] at hv; rcases hv with rfl | rfl | rfl
  · exact .val _
  · exact bQ _
  · exact .val _
theorem cR (g:an):∀ v∈ar g,Tree v:=by
  intro v hv; simp[ar] at hv; rcases hv with rfl | rfl | rfl | rfl
  · exact ee _ _ fun x _=>rU x
  · exact wm _
  · exact ee _ _ fun x _=>fL x
  · exact .val _
def bW (x:Int):Prop:=-9223372036854775808≤x∧x≤9223372036854775807
structure an.Ok (g:an):Prop where
  ax:aM g.ax
  av:aM g.av
  rules:aM g.rules
  start:bW g.start
  term:∀ t∈g.ax,bW t.level∧bW t.assoc
  bd:∀ r∈g.rules,bW r.left∧bW r.prec∧aM r.right∧∀ x∈r.right,bW x
def gu (g:an) (s:Int):Bool:=if 0≤s then decide (s < g.ax.length) else decide (-1 - s < g.av.length)
def pQ:SF:=⟨.seq (al [cM 2 0,aV 4 false]) <|
  .seq (.seq (al [ae 5 1,az 6 .geq 5 0]) <|
  .cond (.tmp 6) (.seq (al [ae 7 1,au 8 0 2,ao 9 8,aL 10 9,aR 11 .lss 7 10,ae 4 11]) <|
  .ret) (.skip)) <|
  .seq (al [ae 12 1,((some 13),.op (.arith .sub (.val (.val (.int .i64 (-1)))) (.tmp 12))),au 14 1 2,ao 15 14,aL 16 15,aR 17 .lss 13 16,ae 4 17]) <|
  .ret,
  [.tmp 4],18⟩
theorem u6:aW Tryz.prog 143 [2]=some pQ:=by kernel_rfl
theorem Og (g:an) (s:Int) (hs:bW s) (H:View):aA Tryz.prog 143 [.agg (ar g),gi s] H fun r H'=>r=gb (gu g s)∧H'=H:=by
  refine aA.of mixed u6 ?_
  obtain ⟨h1,h2⟩:=hs
  simp (disch:=omega) only [↓wr,↓reduceIte,wq,ai,ah,Nat.reduceEqDiff,Nat.reduceAdd,Nat.reduceLeDiff,Int.reduceNeg,pQ,ar,encS]
  refine aq.dec (fun h=>?_) (fun h=>?_)
  · simp (disch:=omega) only [↓wr,↓reduceIte,wq,ah,ak,Nat.reduceEqDiff,Nat.reduceAdd,Nat.reduceLT,Int.reduceNeg,reduceCtorEq]
    simp[gu,show (0:Int)≤s from h]
  · simp (disch:=omega) only [↓wr,↓reduceIte,wq,ah,ak,Nat.reduceEqDiff,Nat.reduceAdd,Nat.reduceLT,Int.reduceNeg,reduceCtorEq]
    simp[gu,show ¬ (0:Int)≤s from h]
theorem OR (g:an) (s:Int) (hs:bW s):aD Tryz.prog 143 [.agg (ar g),gi s] (gb (gu g s)) :=
  aD.of (by
    intro v hv; simp at hv
    rcases hv with rfl | rfl
    · exact cE _ (cR g)
    · exact .val _) ((Og g s hs _).mono fun r H' h h' _=>by rw[h.1]; exact .tree _ (.val _))
def lT (g:an):Bool:=decide (40 < g.ax.length) || decide (40 < g.av.length) || decide (60 < g.rules.length) || g.rules.any fun r=>decide (20 < r.right.length)
def lB:SC :=
  .seq (.seq (al [ae 20 3,au 21 2 1,ao 22 21,aL 23 22,aR 24 .lss 20 23]) <|
  .cond (.tmp 24) (.skip) (.exit 0)) <|
  .seq (.block 1 (.seq (al [au 27 2 1,ao 28 27,ae 29 3,aP 30 3 28 29,au 31 1 30,ao 32 31,aL 33 32,az 34 .gtr 33 20]) <|
  .cond (.tmp 34) (.seq (al [aV 2 true]) <|
  .ret) (.skip))) <|
  al [ae 25 3,az 26 .add 25 1,ae 3 26]
def na:SF:=⟨.seq (al [cM 1 0,aV 2 false]) <|
  .seq (.seq (.region false [⟨none,[au 4 0 1,ao 5 4,aL 6 5,az 7 .gtr 6 40,ae 8 7]⟩,⟨(some (8,false)),[au 9 1 1,ao 10 9,aL 11 10,az 12 .gtr 11 40]⟩,⟨none,[bC 13 8 12,ae 14 13]⟩,⟨(some (14,false)),[au 15 2 1,ao 16 15,aL 17 16,az 18 .gtr 17 60]⟩,⟨none,[bC 19 14 18]⟩]) <|
  .cond (.tmp 19) (.seq (al [aV 2 true]) <|
  .ret) (.skip)) <|
  .seq (.seq (al [aH 3 0]) <|
  .block 0 (.loop lB)) <|
  .seq (al [aV 2 false]) <|
  .ret,
  [.tmp 2],35⟩
theorem sN:aW Tryz.prog 12 [1]=some na:=by kernel_rfl
theorem Kd (g:an) (H:View):aA Tryz.prog 12 [.agg (ar g)] H fun r H'=>r=gb (lT g)∧H'=H:=by
  refine aA.of mixed sN ?_
  simp (disch:=omega) only [↓wr,↓reduceIte,wq,ai,ah,ak,Nat.reduceEqDiff,Nat.reduceAdd,Nat.reduceLT,Nat.reduceLeDiff,na,ar,encS]
  refine aq.dec (fun h1=>?_) (fun h1=>?_)
  · simp (disch:=omega) only [↓wr,↓reduceIte,wq,Nat.reduceEqDiff,reduceCtorEq]
    simp[lT,show 40 < g.ax.length by omega]
  · simp (disch:=omega) only [↓wr,↓reduceIte,wq,ah,ak,Nat.reduceEqDiff,Nat.reduceAdd,Nat.reduceLT]
    refine aq.dec (fun h2=>?_) (fun h2=>?_)
    · simp (disch:=omega) only [↓wr,↓reduceIte,wq,Nat.reduceEqDiff,reduceCtorEq]
      simp[lT,show 40 < g.av.length by omega]
    · simp (disch:=omega) only [↓wr,↓reduceIte,wq,ah,ak,Nat.reduceEqDiff,Nat.reduceAdd,Nat.reduceLT]
      refine aq.dec (fun h3=>?_) (fun h3=>?_)
      · simp (disch:=omega) only [↓wr,↓reduceIte,wq,reduceCtorEq]
        simp[lT,show 60 < g.rules.length by omega]
      · simp (disch:=omega) only [↓wr,wq]
        refine bb.intro (fun k T H'=>∃ i:Nat,i+k=g.rules.length∧(∀ r∈g.rules.take i,¬ 20 < r.right.length)∧T 1=.aS (ar g) 0∧T 3=gi i∧H'=H) g.rules.length ?_ ?_
        · exact ⟨0,by omega,by simp,rfl,rfl,rfl⟩
        · rintro k T H' ⟨i,hk,hi,e1,e3,rfl⟩
          simp (disch:=omega) only [↓wr,↓reduceIte,wq,ah,ak,Nat.reduceEqDiff,Nat.reduceAdd,Nat.reduceLT,reduceCtorEq,lB,e1,e3,ar]
          refine aq.dec (fun hc=>?_) (fun hc=>?_)
          · have hg:g.rules[i]?=some (g.rules[i]'(by omega)):=List.getElem?_eq_getElem (by omega)
            simp (disch:=omega) only [↓wr,↓reduceIte,wq,ah,ak,Nat.reduceEqDiff,Nat.reduceAdd,Nat.reduceLT,e1,e3,ar,aO,encI,List.getElem?_map,hg]
            refine aq.dec (fun hd=>?_) (fun hd=>?_)
            · simp (disch:=omega) only [↓wr,↓reduceIte,wq,ah,Nat.reduceEqDiff,reduceCtorEq]
              have:g.rules.any (fun r=>decide (20 < r.right.length))=true:=by
                simp only[List.any_eq_true,decide_eq_true_eq]
                exact ⟨g.rules[i]'(by omega),List.getElem_mem _,by omega⟩
              simp[lT,this]
            · simp (disch:=omega) only [↓wr,↓reduceIte,wq,ah,Nat.reduceEqDiff,reduceCtorEq,e1,e3]
              refine ⟨k - 1,by omega,i+1,by omega,?_,rfl,rfl⟩
              intro r hr
              rw[List.take_add_one,hg] at hr
              simp only[Option.toList_some,List.mem_append,List.mem_singleton] at hr
              rcases hr with hr | rfl
              · exact hi r hr
              · omega
          · simp (disch:=omega) only [↓wr,↓reduceIte,wq,Nat.reduceEqDiff,reduceCtorEq]
            have e:i=g.rules.length:=by omega
            rw[List.take_of_length_le (by omega)] at hi
            have:g.rules.any (fun r=>decide (20 < r.right.length))=false:=by
              simp only[List.any_eq_false,decide_eq_true_eq]; exact hi
            simp only[lT,this]
            simp; omega
def dt (l:List Int) (is:List Bool) (ax:Bool):Bool:=l.all fun s=>if 0≤s then ax else is.getD (-1 - s).toNat false
def nf:SC :=
  .seq (.seq (al [ae 8 7,ae 9 0,aL 10 9,aR 11 .lss 8 10]) <|
  .cond (.tmp 11) (.skip) (.exit 0)) <|
  .seq (.block 1 (.seq (.region false [⟨none,[ae 14 0,ae 15 7,aP 16 1 14 15,ao 17 16,az 18 .geq 17 0,ae 19 18]⟩,⟨(some (19,true)),[ae 20 2,bZ 21 20]⟩,⟨none,[bO 22 19 21,ae 23 22]⟩,⟨(some (23,false)),[ae 24 0,ae 25 7,aP 26 1 24 25,ao 27 26,az 28 .lss 27 0,ae 29 28]⟩,⟨(some (29,true)),[ae 30 1,ae 31 0,ae 32 7,aP 33 1 31 32,ao 34 33,((some 35),.op (.arith .sub (.val (.val (.int .i64 (-1)))) (.tmp 34))),aP 36 1 30 35,ao 37 36,bZ 38 37]⟩,⟨(some (23,false)),[bO 39 29 38]⟩,⟨none,[bC 40 23 39]⟩]) <|
  .cond (.tmp 40) (.seq (al [aV 6 false]) <|
  .ret) (.skip))) <|
  al [ae 12 7,az 13 .add 12 1,ae 7 13]
def pR:SF:=⟨.seq (al [aV 6 false]) <|
  .seq (.seq (al [aH 7 0]) <|
  .block 0 (.loop nf)) <|
  .seq (al [aV 6 true]) <|
  .ret,
  [.tmp 6],41⟩
theorem um:aW Tryz.prog 117 []=some pR:=by kernel_rfl
theorem Pf (l:List Int) (is:List Bool) (t:Bool) (hl:aM l) (hs:∀ s∈l,bW s∧(s < 0→-1 - s < is.length)) (H:View) :
    aA Tryz.prog 117 [encI l,bw is,gb t] H fun r H'=>r=gb (dt l is t)∧H'=H:=by
  refine aA.of mixed um ?_
  unfold aM at hl
  simp (disch:=omega) only [↓wr,wq,ai,Nat.reduceAdd,Nat.reduceLeDiff,pR]
  refine bb.intro (fun k T H'=>∃ i:Nat,i+k=l.length∧dt (l.take i) is t=true∧T 0=encI l∧T 1=bw is∧T 2=gb t∧T 7=gi i∧H'=H) l.length ?_ ?_
  · exact ⟨0,by omega,by simp[dt],rfl,rfl,rfl,rfl,rfl⟩
  · rintro k T H' ⟨i,hk,hi,h0,h1,h2,h7,rfl⟩
    simp (disch:=omega) only [↓wr,↓reduceIte,wq,ah,ak,Nat.reduceEqDiff,Int.reduceNeg,reduceCtorEq,nf,h0,h7,encI]
    refine aq.dec (fun hc=>?_) (fun hc=>?_)
    · have hg:l[i]?=some (l[i]'(by omega)):=List.getElem?_eq_getElem (by omega)
      have hm:l[i]'(by omega)∈l:=List.getElem_mem _
      generalize l[i]'(by omega)=s at hg hm
      obtain ⟨⟨hs1,hs2⟩,hs3⟩:=hs s hm
      have hstep:dt (l.take (i+1)) is t=(if 0≤s then t else is.getD (-1 - s).toNat false):=by
        rw[List.take_add_one,hg]
        simp only[dt,Option.toList_some,List.all_append,List.all_cons,List.all_nil,Bool.and_true] at hi ⊢
        rw[hi,Bool.true_and]
      have hfail:(if 0≤s then t else is.getD (-1 - s).toNat false)=false→dt l is t=false:=by
        intro hb
        simp only[dt,List.all_eq_false]
        exact ⟨s,hm,by simpa using hb⟩
      simp (disch:=omega) only [↓wr,↓reduceIte,wq,ah,Nat.reduceEqDiff,Nat.reduceLT,Int.reduceNeg,reduceCtorEq,h0,h7,encI,List.getElem?_map,hg]
      refine aq.dec (fun hd=>?_) (fun hd=>?_)
      · rw[if_pos (show 0≤s from hd)] at hstep hfail
        cases t with
        | true =>
          simp (disch:=omega) only [↓wr,↓reduceIte,wq,ah,Nat.reduceEqDiff,Nat.reduceLT,Int.reduceNeg,reduceCtorEq,h0,h2,h7,encI,List.getElem?_map,hg]
          refine aq.dec (fun hn=>absurd hn (by omega)) (fun _=>?_)
          simp (disch:=omega) only [↓wr,↓reduceIte,wq,ah,Nat.reduceEqDiff,Int.reduceNeg,reduceCtorEq,h0,h1,h2,h7,encI,bw]
          exact ⟨k - 1,by omega,i+1,by omega,hstep,rfl⟩
        | false =>
          simp (disch:=omega) only [↓wr,↓reduceIte,wq,ah,Nat.reduceEqDiff,Int.reduceNeg,reduceCtorEq,h0,h1,h2,h7,encI]
          rw[hfail rfl]
      · rw[if_neg (show ¬ 0≤s from hd)] at hstep hfail
        simp (disch:=omega) only [↓wr,↓reduceIte,wq,ah,Nat.reduceEqDiff,Nat.reduceLT,Int.reduceNeg,reduceCtorEq,h0,h7,encI,List.getElem?_map,hg]
        refine aq.dec (fun hn=>?_) (fun hn=>absurd hn (by omega))
        have hb:is[(-1 - s).toNat]?=some (is[(-1 - s).toNat]'(by omega)):=List.getElem?_eq_getElem (by omega)
        have hbd:is.getD (-1 - s).toNat false=is[(-1 - s).toNat]'(by omega):=by simp[List.getD_eq_getElem?_getD,hb]
        rw[hbd] at hstep hfail
        generalize is[(-1 - s).toNat]'(by omega)=b at hb hstep hfail
        simp (disch:=omega) only [↓wr,↓reduceIte,wq,ah,Nat.reduceEqDiff,Nat.reduceLT,Int.reduceNeg,reduceCtorEq,h0,h1,h7,encI,bw,List.getElem?_map,hg,hb]
        cases b with
        | true =>
          simp (disch:=omega) only [↓wr,↓reduceIte,wq,ah,Nat.reduceEqDiff,Int.reduceNeg,reduceCtorEq,h0,h1,h2,h7,encI,bw]
          exact ⟨k - 1,by omega,i+1,by omega,hstep,rfl⟩
        | false =>
          simp (disch:=omega) only [↓wr,↓reduceIte,wq,ah,Nat.reduceEqDiff,Int.reduceNeg,reduceCtorEq,h0,h1,h2,h7,encI,bw]
          rw[hfail rfl]
    · simp (disch:=omega) only [↓wr,↓reduceIte,wq,Nat.reduceEqDiff,reduceCtorEq]
      have e:i=l.length:=by omega
      rw[List.take_of_length_le (by omega)] at hi
      rw[hi]
abbrev gy (x:Int):V:=.val (.int .u8 x)
def tC (c:Int):Bool:=(decide (97≤c) && decide (c≤122)) || (decide (65≤c) && decide (c≤90)) || c == 95
def mc (c:Int):Bool:=tC c || (decide (48≤c) && decide (c≤57)) || c == 46
def nh:SF:=⟨.seq (al [aV 2 false]) <|
  .seq (.region false [⟨none,[ae 3 0,((some 4),.op (.arith .geq (.tmp 3) (.val (.val (.int .u8 97))))),ae 5 4]⟩,⟨(some (5,true)),[ae 6 0,((some 7),.op (.arith .leq (.tmp 6) (.val (.val (.int .u8 122)))))]⟩,⟨none,[bO 8 5 7,ae 9 8]⟩,⟨(some (9,false)),[ae 10 0,((some 11),.op (.arith .geq (.tmp 10) (.val (.val (.int .u8 65))))),ae 12 11]⟩,⟨(some (12,true)),[ae 13 0,((some 14),.op (.arith .leq (.tmp 13) (.val (.val (.int .u8 90)))))]⟩,⟨(some (9,false)),[bO 15 12 14]⟩,⟨none,[bC 16 9 15,ae 17 16]⟩,⟨(some (17,false)),[ae 18 0,((some 19),.op (.arith .eql (.tmp 18) (.val (.val (.int .u8 95)))))]⟩,⟨none,[bC 20 17 19,ae 2 20]⟩]) <|
  .ret,
  [.tmp 2],21⟩
theorem sw:aW Tryz.prog 192 []=some nh:=by kernel_rfl
def m7:SF:=⟨.seq (al [aV 2 false]) <|
  .seq (.region false [⟨none,[ae 3 0,aN 4 192 [3],ae 5 4]⟩,⟨(some (5,false)),[ae 6 0,((some 7),.op (.arith .geq (.tmp 6) (.val (.val (.int .u8 48))))),ae 8 7]⟩,⟨(some (8,true)),[ae 9 0,((some 10),.op (.arith .leq (.tmp 9) (.val (.val (.int .u8 57)))))]⟩,⟨(some (5,false)),[bO 11 8 10]⟩,⟨none,[bC 12 5 11,ae 13 12]⟩,⟨(some (13,false)),[ae 14 0,((some 15),.op (.arith .eql (.tmp 14) (.val (.val (.int .u8 46)))))]⟩,⟨none,[bC 16 13 15,ae 2 16]⟩]) <|
  .ret,
  [.tmp 2],17⟩
theorem sK:aW Tryz.prog 193 []=some m7:=by kernel_rfl
theorem KR (c:Int) (H:View):aA Tryz.prog 192 [gy c] H fun r H'=>r=gb (tC c)∧H'=H:=by
  refine aA.of mixed sw ?_
  repeat' (first | (refine aq.dec (fun _=>?_) (fun _=>?_)) | (refine aq.eq (fun _=>?_) (fun _=>?_)) | (refine aq.ne (fun _=>?_) (fun _=>?_)) | (refine aq.split (fun _=>?_) (fun _=>?_)) | (simp (disch:=omega) only [↓wr,↓reduceIte,wq,ai,ah,Nat.reduceEqDiff,Nat.reduceLeDiff,reduceCtorEq,nh]))
  all_goals (congr 2; simp only[tC]; grind)
theorem D8 (c:Int):aD Tryz.prog 192 [gy c] (gb (tC c)) :=
  aD.of (by intro v hv; simp at hv; subst hv; exact .val _) ((KR c _).mono fun r H' h h' _=>by rw[h.1]; exact .tree _ (.val _))
theorem JV (c:Int) (H:View):aA Tryz.prog 193 [gy c] H fun r H'=>r=gb (mc c)∧H'=H:=by
  refine aA.of mixed sK ?_
  repeat' (first | (refine aq.dec (fun _=>?_) (fun _=>?_)) | (refine aq.eq (fun _=>?_) (fun _=>?_)) | (refine aq.ne (fun _=>?_) (fun _=>?_)) | (refine aq.split (fun _=>?_) (fun _=>?_)) | (simp (disch:=omega) only [↓wr,↓reduceIte,wq,ai,Nat.reduceLeDiff,reduceCtorEq,m7]))
  refine aF.pure (D8 c) (by kernel_rfl) ?_
  repeat' (first | (refine aq.dec (fun _=>?_) (fun _=>?_)) | (refine aq.eq (fun _=>?_) (fun _=>?_)) | (refine aq.ne (fun _=>?_) (fun _=>?_)) | (refine aq.split (fun _=>?_) (fun _=>?_)) | (simp (disch:=omega) only [↓wr,↓reduceIte,wq,ah,Nat.reduceEqDiff,reduceCtorEq]))
  all_goals (congr 2; simp only[mc]; grind)
theorem J2 (c:Int):aD Tryz.prog 193 [gy c] (gb (mc c)) :=
  aD.of (by intro v hv; simp at hv; subst hv; exact .val _) ((JV c _).mono fun r H' h h' _=>by rw[h.1]; exact .tree _ (.val _))
def eS (l:List Int):Bool:=decide (0 < l.length) && decide (l.length≤20) && (match l with | c :: _=>tC c | []=>false) && l.all mc
def mK:SC :=
  .seq (.seq (al [ae 18 3,ae 19 0,((some 20),.op (.gG (.tmp 19))),aR 21 .lss 18 20]) <|
  .cond (.tmp 21) (.skip) (.exit 0)) <|
  .seq (.block 1 (.seq (al [ae 24 0,ae 25 3,((some 26),.op (.dk (.tmp 24) (.tmp 25))),aN 27 193 [26],bZ 28 27]) <|
  .cond (.tmp 28) (.seq (al [aV 2 false]) <|
  .ret) (.skip))) <|
  al [ae 22 3,az 23 .add 22 1,ae 3 23]
def oV:SF:=⟨.seq (al [aV 2 false]) <|
  .seq (.seq (.region false [⟨none,[ae 4 0,((some 5),.op (.gG (.tmp 4))),az 6 .eql 5 0,ae 7 6]⟩,⟨(some (7,false)),[ae 8 0,((some 9),.op (.gG (.tmp 8))),az 10 .gtr 9 20]⟩,⟨none,[bC 11 7 10,ae 12 11]⟩,⟨(some (12,false)),[ae 13 0,((some 14),.op (.dk (.tmp 13) (.val (.val (.int .i64 0))))),aN 15 192 [14],bZ 16 15]⟩,⟨none,[bC 17 12 16]⟩]) <|
  .cond (.tmp 17) (.seq (al [aV 2 false]) <|
  .ret) (.skip)) <|
  .seq (.seq (al [aH 3 0]) <|
  .block 0 (.loop mK)) <|
  .seq (al [aV 2 true]) <|
  .ret,
  [.tmp 2],29⟩
theorem tv:aW Tryz.prog 142 []=some oV:=by kernel_rfl
theorem IA (s:ByteArray) (H:View):aA Tryz.prog 142 [gs s] H fun r H'=>r=gb (eS (ed s))∧H'=H:=by
  refine aA.of mixed tv ?_
  repeat' (first | (refine aq.dec (fun _=>?_) (fun _=>?_)) | (refine aq.eq (fun _=>?_) (fun _=>?_)) | (refine aq.ne (fun _=>?_) (fun _=>?_)) | (refine aq.split (fun _=>?_) (fun _=>?_)) | (simp (disch:=omega) only [↓wr,↓reduceIte,wq,ai,ah,ak,Nat.reduceEqDiff,Nat.reduceLeDiff,Int.reduceToNat,reduceCtorEq,oV,dJ]))
  · rename_i h
    congr 2; simp[eS,show (ed s).length=0 by omega]
  · rename_i h
    congr 2; simp[eS,show ¬ (ed s).length≤20 by omega]
  · rename_i h1 h2
    cases hb:ed s with
    | nil=>simp[hb] at h1
    | cons c l =>
      repeat' (first | (refine aq.dec (fun _=>?_) (fun _=>?_)) | (refine aq.eq (fun _=>?_) (fun _=>?_)) | (refine aq.ne (fun _=>?_) (fun _=>?_)) | (refine aq.split (fun _=>?_) (fun _=>?_)) | (simp (disch:=omega) only [↓wr,↓reduceIte,wq,List.getElem?_cons_zero]))
      refine aF.pure (D8 c) (by kernel_rfl) ?_
      repeat' (first | (refine aq.dec (fun _=>?_) (fun _=>?_)) | (refine aq.eq (fun _=>?_) (fun _=>?_)) | (refine aq.ne (fun _=>?_) (fun _=>?_)) | (refine aq.split (fun _=>?_) (fun _=>?_)) | (simp (disch:=omega) only [↓wr,↓reduceIte,wq,Nat.reduceEqDiff,reduceCtorEq]))
      · rename_i hf
        refine bb.intro (fun k T H'=>∃ i:Nat,i+k=(c :: l).length∧((c :: l).take i).all mc=true∧T 0=gs s∧T 3=gi i∧H'=H) (c :: l).length ?_ ?_
        · exact ⟨0,by omega,by simp,rfl,rfl,rfl⟩
        · rintro k T H' ⟨i,hk,hi,h0,h3,rfl⟩
          rw[hb] at h1 h2
          simp (disch:=omega) only [↓wr,↓reduceIte,wq,ah,ak,Nat.reduceEqDiff,reduceCtorEq,mK,h0,h3,dJ,hb]
          refine aq.dec (fun hc=>?_) (fun hc=>?_)
          · simp only[List.length_cons] at hc hk h2
            have hg:(c :: l)[i]?=some ((c :: l)[i]'(by simp; omega)):=List.getElem?_eq_getElem (by simp; omega)
            have hm:(c :: l)[i]'(by simp; omega)∈c :: l:=List.getElem_mem _
            generalize (c :: l)[i]'(by simp; omega)=d at hg hm
            simp (disch:=omega) only [↓wr,↓reduceIte,wq,Nat.reduceEqDiff,reduceCtorEq,h0,h3,hb,hg]
            refine aF.pure (J2 d) (by kernel_rfl) ?_
            repeat' (first | (refine aq.dec (fun _=>?_) (fun _=>?_)) | (refine aq.eq (fun _=>?_) (fun _=>?_)) | (refine aq.ne (fun _=>?_) (fun _=>?_)) | (refine aq.split (fun _=>?_) (fun _=>?_)) | (simp (disch:=omega) only [↓wr,↓reduceIte,wq,ah,Nat.reduceEqDiff,reduceCtorEq,h0,h3]))
            · rename_i hd
              refine ⟨k - 1,by omega,i+1,by omega,?_,rfl⟩
              rw[List.take_add_one,hg]
              simp only[Option.toList_some,List.all_append,hi,List.all_cons,hd,List.all_nil,Bool.and_self]
            · rename_i hd
              congr 2
              have:(c :: l).all mc=false:=by
                rw[List.all_eq_false]; exact ⟨d,hm,by simp[hd]⟩
              simp only[eS,this,Bool.and_false]
          · simp (disch:=omega) only [↓wr,↓reduceIte,wq,Nat.reduceEqDiff,reduceCtorEq]
            simp only[List.length_cons] at hc hk h2
            rw[List.take_of_length_le (by simp; omega)] at hi
            congr 2
            simp only[eS,hi,List.length_cons]
            simp[hf]; omega
      · rename_i hf
        congr 2; simp[eS,hf]
def k8:List Int→Bool
  | [a,b,c]=>a == 39 && c == 39 && decide (32≤b) && decide (b≤126) && b != 39 && b != 92
  | [a,b,c,d]=>a == 39 && d == 39 && b == 92 && (c == 110 || c == 116 || c == 92 || c == 39)
  | _=>false
theorem J4 {l:List Int} (h3:l.length≠3) (h4:l.length≠4):k8 l=false:=by
  match l,h3,h4 with
  | [],_,_=>rfl
  | [_],_,_=>rfl
  | [_,_],_,_=>rfl
  | [_,_,_],h3,_=>exact absurd rfl h3
  | [_,_,_,_],_,h4=>exact absurd rfl h4
  | _ :: _ :: _ :: _ :: _ :: _,_,_=>rfl
theorem Qb {α:Type} {l:List α} (h:l.length=3):∃ a b c,l=[a,b,c]:=by
  match l,h with
  | [a,b,c],_=>exact ⟨a,b,c,rfl⟩
theorem Qf {α:Type} {l:List α} (h:l.length=4):∃ a b c d,l=[a,b,c,d]:=by
  match l,h with
  | [a,b,c,d],_=>exact ⟨a,b,c,d,rfl⟩
def ly:SF:=⟨.seq (al [aV 2 false]) <|
  .seq (.seq (al [ae 3 0,((some 4),.op (.gG (.tmp 3))),az 5 .eql 4 3]) <|
  .cond (.tmp 5) (.seq (.region false [⟨none,[ae 6 0,((some 7),.op (.dk (.tmp 6) (.val (.val (.int .i64 0))))),((some 8),.op (.arith .eql (.tmp 7) (.val (.val (.int .u8 39))))),ae 9 8]⟩,⟨(some (9,true)),[ae 10 0,((some 11),.op (.dk (.tmp 10) (.val (.val (.int .i64 2))))),((some 12),.op (.arith .eql (.tmp 11) (.val (.val (.int .u8 39)))))]⟩,⟨none,[bO 13 9 12,ae 14 13]⟩,⟨(some (14,true)),[ae 15 0,((some 16),.op (.dk (.tmp 15) (.val (.val (.int .i64 1))))),((some 17),.op (.arith .geq (.tmp 16) (.val (.val (.int .u8 32)))))]⟩,⟨none,[bO 18 14 17,ae 19 18]⟩,⟨(some (19,true)),[ae 20 0,((some 21),.op (.dk (.tmp 20) (.val (.val (.int .i64 1))))),((some 22),.op (.arith .leq (.tmp 21) (.val (.val (.int .u8 126)))))]⟩,⟨none,[bO 23 19 22,ae 24 23]⟩,⟨(some (24,true)),[ae 25 0,((some 26),.op (.dk (.tmp 25) (.val (.val (.int .i64 1))))),((some 27),.op (.arith .neq (.tmp 26) (.val (.val (.int .u8 39)))))]⟩,⟨none,[bO 28 24 27,ae 29 28]⟩,⟨(some (29,true)),[ae 30 0,((some 31),.op (.dk (.tmp 30) (.val (.val (.int .i64 1))))),((some 32),.op (.arith .neq (.tmp 31) (.val (.val (.int .u8 92)))))]⟩,⟨none,[bO 33 29 32,ae 2 33]⟩]) <|
  .ret) (.skip)) <|
  .seq (.region false [⟨none,[ae 34 0,((some 35),.op (.gG (.tmp 34))),az 36 .eql 35 4,ae 37 36]⟩,⟨(some (37,true)),[ae 38 0,((some 39),.op (.dk (.tmp 38) (.val (.val (.int .i64 0))))),((some 40),.op (.arith .eql (.tmp 39) (.val (.val (.int .u8 39)))))]⟩,⟨none,[bO 41 37 40,ae 42 41]⟩,⟨(some (42,true)),[ae 43 0,((some 44),.op (.dk (.tmp 43) (.val (.val (.int .i64 3))))),((some 45),.op (.arith .eql (.tmp 44) (.val (.val (.int .u8 39)))))]⟩,⟨none,[bO 46 42 45,ae 47 46]⟩,⟨(some (47,true)),[ae 48 0,((some 49),.op (.dk (.tmp 48) (.val (.val (.int .i64 1))))),((some 50),.op (.arith .eql (.tmp 49) (.val (.val (.int .u8 92)))))]⟩,⟨none,[bO 51 47 50,ae 52 51]⟩,⟨(some (52,true)),[ae 53 0,((some 54),.op (.dk (.tmp 53) (.val (.val (.int .i64 2))))),((some 55),.op (.arith .eql (.tmp 54) (.val (.val (.int .u8 110))))),ae 56 55]⟩,⟨(some (56,false)),[ae 57 0,((some 58),.op (.dk (.tmp 57) (.val (.val (.int .i64 2))))),((some 59),.op (.arith .eql (.tmp 58) (.val (.val (.int .u8 116)))))]⟩,⟨(some (52,true)),[bC 60 56 59,ae 61 60]⟩,⟨(some (61,false)),[ae 62 0,((some 63),.op (.dk (.tmp 62) (.val (.val (.int .i64 2))))),((some 64),.op (.arith .eql (.tmp 63) (.val (.val (.int .u8 92)))))]⟩,⟨(some (52,true)),[bC 65 61 64,ae 66 65]⟩,⟨(some (66,false)),[ae 67 0,((some 68),.op (.dk (.tmp 67) (.val (.val (.int .i64 2))))),((some 69),.op (.arith .eql (.tmp 68) (.val (.val (.int .u8 39)))))]⟩,⟨(some (52,true)),[bC 70 66 69]⟩,⟨none,[bO 71 52 70,ae 2 71]⟩]) <|
  .ret,
  [.tmp 2],72⟩
theorem qL:aW Tryz.prog 191 []=some ly:=by kernel_rfl
def nk:SF:=⟨.seq (al [aV 2 false]) <|
  .seq (.region false [⟨none,[ae 3 0,aN 4 142 [3],ae 5 4]⟩,⟨(some (5,false)),[ae 6 0,aN 7 191 [6]]⟩,⟨none,[bC 8 5 7,ae 2 8]⟩]) <|
  .ret,
  [.tmp 2],9⟩
theorem sR:aW Tryz.prog 139 []=some nk:=by kernel_rfl
set_option maxHeartbeats 1000000 in
theorem Lp (s:ByteArray) (H:View):aA Tryz.prog 191 [gs s] H fun r H'=>r=gb (k8 (ed s))∧H'=H:=by
  refine aA.of mixed qL ?_
  simp (disch:=omega) only [↓wr,↓reduceIte,wq,ai,ah,ak,Nat.reduceLeDiff,reduceCtorEq,ly,dJ]
  refine aq.eq (fun h=>?_) (fun h=>?_)
  · obtain ⟨a,b,c,hb⟩:=Qb (l:=ed s) (by omega)
    repeat' (first | (refine aq.dec (fun _=>?_) (fun _=>?_)) | (refine aq.eq (fun _=>?_) (fun _=>?_)) | (refine aq.ne (fun _=>?_) (fun _=>?_)) | (refine aq.split (fun _=>?_) (fun _=>?_)) | (simp (disch:=omega) only [↓wr,↓reduceIte,wq,ah,Nat.reduceEqDiff,Int.reduceToNat,reduceCtorEq,hb,List.getElem?_cons_zero,List.getElem?_cons_succ]))
    all_goals (congr 2; simp only[k8]; grind)
  · simp (disch:=omega) only [↓wr,↓reduceIte,wq,ah,ak,reduceCtorEq,dJ]
    refine aq.eq (fun h4=>?_) (fun h4=>?_)
    · obtain ⟨a,b,c,d,hb⟩:=Qf (l:=ed s) (by omega)
      repeat' (first | (refine aq.dec (fun _=>?_) (fun _=>?_)) | (refine aq.eq (fun _=>?_) (fun _=>?_)) | (refine aq.ne (fun _=>?_) (fun _=>?_)) | (refine aq.split (fun _=>?_) (fun _=>?_)) | (simp (disch:=omega) only [↓wr,↓reduceIte,wq,ah,Nat.reduceEqDiff,Int.reduceToNat,reduceCtorEq,hb,List.getElem?_cons_zero,List.getElem?_cons_succ]))
      all_goals (congr 2; simp only[k8]; grind)
    · repeat' (first | (refine aq.dec (fun _=>?_) (fun _=>?_)) | (refine aq.eq (fun _=>?_) (fun _=>?_)) | (refine aq.ne (fun _=>?_) (fun _=>?_)) | (refine aq.split (fun _=>?_) (fun _=>?_)) | (simp (disch:=omega) only [↓wr,↓reduceIte,wq,Nat.reduceEqDiff,reduceCtorEq]))
      rw[J4 (by omega) (by omega)]
theorem nX (s:ByteArray):∀ v∈[gs s],Tree v:=by intro v hv; simp at hv; subst hv; exact .val _
theorem Cf (s:ByteArray):aD Tryz.prog 142 [gs s] (gb (eS (ed s))) :=
  aD.of (nX s) ((IA s _).mono fun r H' h h' _=>by rw[h.1]; exact .tree _ (.val _))
theorem Le (s:ByteArray):aD Tryz.prog 191 [gs s] (gb (k8 (ed s))) :=
  aD.of (nX s) ((Lp s _).mono fun r H' h h' _=>by rw[h.1]; exact .tree _ (.val _))
def o9 (l:List Int):Bool:=eS l || k8 l
theorem Hc (s:ByteArray) (H:View):aA Tryz.prog 139 [gs s] H fun r H'=>r=gb (o9 (ed s))∧H'=H:=by
  refine aA.of mixed sR ?_
  simp (disch:=omega) only [↓wr,↓reduceIte,wq,ai,Nat.reduceLeDiff,reduceCtorEq,nk]
  refine aF.pure (Cf s) (by kernel_rfl) ?_
  repeat' (first | (refine aq.dec (fun _=>?_) (fun _=>?_)) | (refine aq.eq (fun _=>?_) (fun _=>?_)) | (refine aq.ne (fun _=>?_) (fun _=>?_)) | (refine aq.split (fun _=>?_) (fun _=>?_)) | (simp (disch:=omega) only [↓wr,↓reduceIte,wq,Nat.reduceEqDiff,reduceCtorEq]))
  · rename_i h; simp[o9,h]
  · rename_i h
    refine aF.pure (Le s) (by kernel_rfl) ?_
    repeat' (first | (refine aq.dec (fun _=>?_) (fun _=>?_)) | (refine aq.eq (fun _=>?_) (fun _=>?_)) | (refine aq.ne (fun _=>?_) (fun _=>?_)) | (refine aq.split (fun _=>?_) (fun _=>?_)) | (simp (disch:=omega) only [↓wr,↓reduceIte,wq,Nat.reduceEqDiff,reduceCtorEq]))
    simp[o9,h]
theorem Ge (s:ByteArray):aD Tryz.prog 139 [gs s] (gb (o9 (ed s))) :=
  aD.of (nX s) ((Hc s _).mono fun r H' h h' _=>by rw[h.1]; exact .tree _ (.val _))
def mN (s:ByteArray):List ByteArray→Int→Int
  | [],_=>-1
  | x :: l,i=>if gA x s=true then i else mN s l (i+1)
def kN (g:an) (s:ByteArray):Int:=mN s (g.ax.map Term.name) 0
def wk (g:an) (s:ByteArray):Int:=mN s g.av 0
theorem dA {α:Type} {l:List α} {i:Nat} (h:i < l.length):l.drop i=l[i] :: l.drop (i+1):=List.drop_eq_getElem_cons h
theorem Eh (g:an) (s:ByteArray):∀ v∈[V.agg (ar g),gs s],Tree v:=by
  intro v hv; simp at hv
  rcases hv with rfl | rfl
  · exact cE _ (cR g)
  · exact .val _
theorem eA (g:an):∀ v∈[V.agg (ar g)],Tree v:=by intro v hv; simp at hv; subst hv; exact cE _ (cR g)
theorem y7 (g:an) (x:Int):∀ v∈[V.agg (ar g),gi x],Tree v:=by
  intro v hv; simp at hv
  rcases hv with rfl | rfl
  · exact cE _ (cR g)
  · exact .val _
theorem aD.val {P:Program} {f:FuncId} {vs:List V} {x:Value} (ht:∀ v∈vs,Tree v) (h:∀ H,aA P f vs H fun r _=>r=.val x):aD P f vs (.val x) :=
  aD.of ht ((h _).mono fun r H' e h' _=>by rw[e]; exact .tree _ (.val _))
def lU:SC :=
  .seq (.seq (al [ae 6 5,au 7 0 2,ao 8 7,aL 9 8,aR 10 .lss 6 9]) <|
  .cond (.tmp 10) (.skip) (.exit 0)) <|
  .seq (.block 1 (.seq (al [au 13 0 2,ao 14 13,ae 15 5,aP 16 3 14 15,au 17 0 16,ao 18 17,ae 19 1,((some 20),.op (.iE .eql (.tmp 18) (.tmp 19)))]) <|
  .cond (.tmp 20) (.seq (al [ae 21 5,ae 4 21]) <|
  .ret) (.skip))) <|
  al [ae 11 5,az 12 .add 11 1,ae 5 12]
def oO:SF:=⟨.seq (al [cM 2 0,aH 4 0]) <|
  .seq (.seq (al [aH 5 0]) <|
  .block 0 (.loop lU)) <|
  .seq (al [aH 4 (-1)]) <|
  .ret,
  [.tmp 4],22⟩
theorem tw:aW Tryz.prog 140 [2]=some oO:=by kernel_rfl
def m3:SC :=
  .seq (.seq (al [ae 6 5,au 7 1 2,ao 8 7,aL 9 8,aR 10 .lss 6 9]) <|
  .cond (.tmp 10) (.skip) (.exit 0)) <|
  .seq (.block 1 (.seq (al [au 13 1 2,ao 14 13,ae 15 5,aP 16 1 14 15,ao 17 16,ae 18 1,((some 19),.op (.iE .eql (.tmp 17) (.tmp 18)))]) <|
  .cond (.tmp 19) (.seq (al [ae 20 5,ae 4 20]) <|
  .ret) (.skip))) <|
  al [ae 11 5,az 12 .add 11 1,ae 5 12]
def pS:SF:=⟨.seq (al [cM 2 0,aH 4 0]) <|
  .seq (.seq (al [aH 5 0]) <|
  .block 0 (.loop m3)) <|
  .seq (al [aH 4 (-1)]) <|
  .ret,
  [.tmp 4],21⟩
theorem ub:aW Tryz.prog 125 [2]=some pS:=by kernel_rfl
def lx:SC :=
  .seq (.seq (al [ae 8 6,au 9 0 2,ao 10 9,aL 11 10,aR 12 .lss 8 11]) <|
  .cond (.tmp 12) (.skip) (.exit 0)) <|
  .seq (.block 1 (.seq (.region false [⟨none,[au 15 0 2,ao 16 15,ae 17 6,aP 18 3 16 17,aU 19 3 18,((some 7),.op (.alloc [(.val (.string ⟨#[]⟩)),(.val (.int .i64 0)),(.val (.int .i64 0))])),(none,.op (.store 3 (.tmp 7) (.tmp 19)))]⟩]) <|
  .seq (.seq (al [au 20 1 7,ao 21 20,ae 22 1,aR 23 .neq 21 22]) <|
  .cond (.tmp 23) (.exit 1) (.skip)) <|
  .seq (.seq (.region false [⟨none,[ae 24 5,az 25 .neq 24 0,ae 26 25]⟩,⟨(some (26,true)),[ae 27 5,au 28 2 7,ao 29 28,aR 30 .neq 27 29]⟩,⟨none,[bO 31 26 30]⟩]) <|
  .cond (.tmp 31) (.seq (al [aV 4 false]) <|
  .ret) (.skip)) <|
  al [au 32 2 7,ao 33 32,ae 5 33])) <|
  al [ae 13 6,az 14 .add 13 1,ae 6 14]
def m0:SF:=⟨.seq (al [cM 2 0,aV 4 false]) <|
  .seq (al [aH 5 0]) <|
  .seq (.seq (al [aH 6 0]) <|
  .block 0 (.loop lx)) <|
  .seq (al [ae 34 5,az 35 .neq 34 0,ae 4 35]) <|
  .ret,
  [.tmp 4],36⟩
theorem sj:aW Tryz.prog 141 [2]=some m0:=by kernel_rfl
theorem IT (g:an) (hg:g.Ok) (s:ByteArray) (H:View):aA Tryz.prog 140 [.agg (ar g),gs s] H fun r _=>r=gi (kN g s):=by
  refine aA.of mixed tw ?_
  have hs:g.ax.length < 4611686018427387904:=hg.ax
  simp (disch:=omega) only [↓wr,wq,ai,Nat.reduceAdd,Nat.reduceLeDiff,Int.reduceNeg,oO,ar,encS]
  refine bb.intro (fun k T _=>∃ i:Nat,i+k=g.ax.length∧mN s ((g.ax.drop i).map Term.name) i=kN g s∧T 1=gs s∧T 2=.aS (ar g) 0∧T 5=gi i) g.ax.length ?_ ?_
  · exact ⟨0,by omega,rfl,rfl,rfl,rfl⟩
  · rintro k T H' ⟨i,hk,hi,h1,h2,h5⟩
    simp (disch:=omega) only [↓wr,↓reduceIte,wq,ah,ak,Nat.reduceEqDiff,Nat.reduceAdd,Nat.reduceLT,Int.reduceNeg,reduceCtorEq,lU,h2,h5,ar]
    refine aq.dec (fun hc=>?_) (fun hc=>?_)
    · have hg2:g.ax[i]?=some (g.ax[i]'(by omega)):=List.getElem?_eq_getElem (by omega)
      rw[dA (show i < g.ax.length by omega)] at hi
      generalize g.ax[i]'(by omega)=t at hg2 hi
      simp only[List.map_cons,mN] at hi
      simp (disch:=omega) only [↓wr,↓reduceIte,wq,Nat.reduceEqDiff,Nat.reduceAdd,Nat.reduceLT,Int.reduceNeg,h1,h2,h5,ar,ct,List.getElem?_map,hg2]
      refine aq.split (fun hd=>?_) (fun hd=>?_)
      · rw[if_pos hd] at hi
        simp (disch:=omega) only [↓wr,↓reduceIte,wq,ah,Nat.reduceEqDiff,Int.reduceNeg,reduceCtorEq,h1,h2,h5]
        rw[hi]
      · rw[hd,if_neg (by simp)] at hi
        simp (disch:=omega) only [↓wr,↓reduceIte,wq,ah,Nat.reduceEqDiff,Int.reduceNeg,reduceCtorEq,h1,h2,h5]
        exact ⟨k - 1,by omega,i+1,by omega,by push_cast; exact hi,rfl,rfl⟩
    · rw[List.drop_eq_nil_of_le (by omega)] at hi
      simp only[List.map_nil,mN] at hi
      simp (disch:=omega) only [↓wr,↓reduceIte,wq,Nat.reduceEqDiff,Int.reduceNeg,reduceCtorEq]
      rw[hi]
theorem Cs (g:an) (hg:g.Ok) (s:ByteArray):aD Tryz.prog 140 [.agg (ar g),gs s] (gi (kN g s)):=aD.val (Eh g s) (IT g hg s)
theorem Kp (g:an) (hg:g.Ok) (s:ByteArray) (H:View):aA Tryz.prog 125 [.agg (ar g),gs s] H fun r _=>r=gi (wk g s):=by
  refine aA.of mixed ub ?_
  have hs:g.av.length < 4611686018427387904:=hg.av
  simp (disch:=omega) only [↓wr,wq,ai,Nat.reduceAdd,Nat.reduceLeDiff,Int.reduceNeg,pS,ar,encS]
  refine bb.intro (fun k T _=>∃ i:Nat,i+k=g.av.length∧mN s (g.av.drop i) i=wk g s∧T 1=gs s∧T 2=.aS (ar g) 0∧T 5=gi i) g.av.length ?_ ?_
  · exact ⟨0,by omega,rfl,rfl,rfl,rfl⟩
  · rintro k T H' ⟨i,hk,hi,h1,h2,h5⟩
    simp (disch:=omega) only [↓wr,↓reduceIte,wq,ah,ak,Nat.reduceEqDiff,Nat.reduceAdd,Nat.reduceLT,Int.reduceNeg,reduceCtorEq,m3,h2,h5,ar,encS]
    refine aq.dec (fun hc=>?_) (fun hc=>?_)
    · have hg2:g.av[i]?=some (g.av[i]'(by omega)):=List.getElem?_eq_getElem (by omega)
      rw[dA (show i < g.av.length by omega)] at hi
      generalize g.av[i]'(by omega)=t at hg2 hi
      simp only[mN] at hi
      simp (disch:=omega) only [↓wr,↓reduceIte,wq,Nat.reduceEqDiff,Nat.reduceAdd,Nat.reduceLT,Int.reduceNeg,h1,h2,h5,ar,encS,List.getElem?_map,hg2]
      refine aq.split (fun hd=>?_) (fun hd=>?_)
      · rw[if_pos hd] at hi
        simp (disch:=omega) only [↓wr,↓reduceIte,wq,ah,Nat.reduceEqDiff,Int.reduceNeg,reduceCtorEq,h1,h2,h5]
        rw[hi]
      · rw[hd,if_neg (by simp)] at hi
        simp (disch:=omega) only [↓wr,↓reduceIte,wq,ah,Nat.reduceEqDiff,Int.reduceNeg,reduceCtorEq,h1,h2,h5]
        exact ⟨k - 1,by omega,i+1,by omega,by push_cast; exact hi,rfl,rfl⟩
    · rw[List.drop_eq_nil_of_le (by omega)] at hi
      simp only[mN] at hi
      simp (disch:=omega) only [↓wr,↓reduceIte,wq,Nat.reduceEqDiff,Int.reduceNeg,reduceCtorEq]
      rw[hi]
theorem KQ (g:an) (hg:g.Ok) (s:ByteArray):aD Tryz.prog 125 [.agg (ar g),gs s] (gi (wk g s)):=aD.val (Eh g s) (Kp g hg s)
def hU (n:Int):List Term→Int→Option Int
  | [],way=>some way
  | t :: r,way=>if t.level=n then (if way≠0∧way≠t.assoc then none else hU n r t.assoc) else hU n r way
def fy (l:List Term) (n:Int):Bool:=match hU n l 0 with
  | some w=>w != 0
  | none=>false
theorem Gu (g:an) (hg:g.Ok) (n:Int) (H:View):aA Tryz.prog 141 [.agg (ar g),gi n] H fun r _=>r=gb (fy g.ax n):=by
  refine aA.of mixed sj ?_
  have hs:g.ax.length < 4611686018427387904:=hg.ax
  simp (disch:=omega) only [↓wr,wq,ai,Nat.reduceAdd,Nat.reduceLeDiff,m0,ar,encS]
  refine bb.intro (fun k T _=>∃ (i:Nat) (w:Int),i+k=g.ax.length∧hU n (g.ax.drop i) w=hU n g.ax 0∧T 1=gi n∧T 2=.aS (ar g) 0∧T 5=gi w∧T 6=gi i) g.ax.length ?_ ?_
  · exact ⟨0,0,by omega,rfl,rfl,rfl,rfl,rfl⟩
  · rintro k T H' ⟨i,w,hk,hi,h1,h2,h5,h6⟩
    simp (disch:=omega) only [↓wr,↓reduceIte,wq,ah,ak,Nat.reduceEqDiff,Nat.reduceAdd,Nat.reduceLT,lx,h2,h6,ar]
    refine aq.dec (fun hc=>?_) (fun hc=>?_)
    · have hg2:g.ax[i]?=some (g.ax[i]'(by omega)):=List.getElem?_eq_getElem (by omega)
      rw[dA (show i < g.ax.length by omega)] at hi
      generalize g.ax[i]'(by omega)=t at hg2 hi
      simp only[hU] at hi
      simp (disch:=omega) only [↓wr,↓reduceIte,wq,ah,aa,Nat.reduceEqDiff,Nat.reduceAdd,Nat.reduceLT,Nat.reduceLeDiff,h1,h2,h6,ar,ct,List.getElem?_map,hg2]
      intro m hm
      try simp (disch:=omega) only [↓wr,↓reduceIte,wq,ai,ah,ak,aa,af,ag,aj,isNil,Nat.reduceEqDiff,Nat.reduceAdd,Nat.reduceLT,Nat.reduceLeDiff,Int.reduceNeg,Int.reduceToNat,reduceCtorEq,h1,h2,h5,h6]
      refine aq.ne (fun hd=>?_) (fun hd=>?_)
      · rw[if_neg hd] at hi
        simp (disch:=omega) only [↓wr,↓reduceIte,wq,ah,Nat.reduceEqDiff,reduceCtorEq,h1,h2,h5,h6]
        exact ⟨k - 1,by omega,i+1,w,by omega,hi,by first | rfl | exact ⟨rfl,rfl⟩ | exact ⟨rfl,rfl,rfl⟩⟩
      · rw[if_pos hd] at hi
        repeat' (first | (refine aq.dec (fun _=>?_) (fun _=>?_)) | (refine aq.eq (fun _=>?_) (fun _=>?_)) | (refine aq.ne (fun _=>?_) (fun _=>?_)) | (refine aq.split (fun _=>?_) (fun _=>?_)) | (simp (disch:=omega) only [↓wr,↓reduceIte,wq,ah,Nat.reduceEqDiff,Nat.reduceAdd,Nat.reduceLT,reduceCtorEq,h1,h2,h5,h6]))
        · rename_i a b
          rw[if_pos ⟨a,b⟩] at hi
          simp only[fy,← hi]
        · rename_i a b
          rw[if_neg (fun e=>e.2 b)] at hi
          exact ⟨k - 1,by omega,i+1,_,by omega,hi,by first | rfl | exact ⟨rfl,rfl⟩ | exact ⟨rfl,rfl,rfl⟩⟩
        · rename_i a
          rw[if_neg (fun e=>e.1 a)] at hi
          exact ⟨k - 1,by omega,i+1,_,by omega,hi,by first | rfl | exact ⟨rfl,rfl⟩ | exact ⟨rfl,rfl,rfl⟩⟩
    · rw[List.drop_eq_nil_of_le (by omega)] at hi
      simp only[hU] at hi
      simp (disch:=omega) only [↓wr,↓reduceIte,wq,Nat.reduceEqDiff,reduceCtorEq,h5]
      simp only[fy,← hi]
theorem GG (g:an) (hg:g.Ok) (n:Int):aD Tryz.prog 141 [.agg (ar g),gi n] (gb (fy g.ax n)):=aD.val (y7 g n) (Gu g hg n)
def qj (g:an) (t:Term):Bool:=(List.range t.level.toNat).all fun k=>fy g.ax ((k:Int)+1)
def jo (g:an) (i:Int) (t:Term):Bool :=
  o9 (ed t.name) && (kN g t.name == i) && decide (0≤t.level) && decide (t.level≤24) && decide (0≤t.assoc) && decide (t.assoc≤3) && ((t.level == 0) == (t.assoc == 0)) && qj g t
def iF (g:an):List Term→Int→Bool
  | [],_=>true
  | t :: r,i=>jo g i t && iF g r (i+1)
def iR (g:an):Bool:=decide (g.ax.length≤24) && iF g g.ax 0
def lG:SC :=
  .seq (.seq (al [ae 63 5,au 64 1 4,ao 65 64,aR 66 .leq 63 65]) <|
  .cond (.tmp 66) (.skip) (.exit 2)) <|
  .seq (.block 3 (.seq (al [aU 69 4 1,ae 70 5,aN 71 141 [69,70],bZ 72 71]) <|
  .cond (.tmp 72) (.seq (al [aV 2 false]) <|
  .ret) (.skip))) <|
  al [ae 67 5,az 68 .add 67 1,ae 5 68]
def lI:SC :=
  .seq (.seq (al [ae 10 3,au 11 0 1,ao 12 11,aL 13 12,aR 14 .lss 10 13]) <|
  .cond (.tmp 14) (.skip) (.exit 0)) <|
  .seq (.block 1 (.seq (.region false [⟨none,[au 17 0 1,ao 18 17,ae 19 3,aP 20 3 18 19,aU 21 3 20,((some 4),.op (.alloc [(.val (.string ⟨#[]⟩)),(.val (.int .i64 0)),(.val (.int .i64 0))])),(none,.op (.store 3 (.tmp 4) (.tmp 21)))]⟩]) <|
  .seq (.seq (.region false [⟨none,[au 22 0 4,ao 23 22,aN 24 139 [23],bZ 25 24,ae 26 25]⟩,⟨(some (26,false)),[aU 27 4 1,au 28 0 4,ao 29 28,aN 30 140 [27,29],ae 31 3,aR 32 .neq 30 31]⟩,⟨none,[bC 33 26 32,ae 34 33]⟩,⟨(some (34,false)),[au 35 1 4,ao 36 35,az 37 .lss 36 0]⟩,⟨none,[bC 38 34 37,ae 39 38]⟩,⟨(some (39,false)),[au 40 1 4,ao 41 40,az 42 .gtr 41 24]⟩,⟨none,[bC 43 39 42,ae 44 43]⟩,⟨(some (44,false)),[au 45 2 4,ao 46 45,az 47 .lss 46 0]⟩,⟨none,[bC 48 44 47,ae 49 48]⟩,⟨(some (49,false)),[au 50 2 4,ao 51 50,az 52 .gtr 51 3]⟩,⟨none,[bC 53 49 52,ae 54 53]⟩,⟨(some (54,false)),[au 55 1 4,ao 56 55,az 57 .eql 56 0,au 58 2 4,ao 59 58,az 60 .eql 59 0,((some 61),.op (.beq false (.tmp 57) (.tmp 60)))]⟩,⟨none,[bC 62 54 61]⟩]) <|
  .cond (.tmp 62) (.seq (al [aV 2 false]) <|
  .ret) (.skip)) <|
  .seq (al [aH 5 1]) <|
  .block 2 (.loop lG))) <|
  al [ae 15 3,az 16 .add 15 1,ae 3 16]
def m8:SF:=⟨.seq (al [cM 1 0,aV 2 false]) <|
  .seq (.seq (al [au 6 0 1,ao 7 6,aL 8 7,az 9 .gtr 8 24]) <|
  .cond (.tmp 9) (.seq (al [aV 2 false]) <|
  .ret) (.skip)) <|
  .seq (.seq (al [aH 3 0]) <|
  .block 0 (.loop lI)) <|
  .seq (al [aV 2 true]) <|
  .ret,
  [.tmp 2],73⟩
theorem so:aW Tryz.prog 89 [1]=some m8:=by kernel_rfl
def mH:SC :=
  .seq (.seq (al [ae 14 3,au 15 1 1,ao 16 15,aL 17 16,aR 18 .lss 14 17]) <|
  .cond (.tmp 18) (.skip) (.exit 0)) <|
  .seq (.block 1 (.seq (.region false [⟨none,[au 21 1 1,ao 22 21,ae 23 3,aP 24 1 22 23,ao 25 24,aN 26 142 [25],bZ 27 26,ae 28 27]⟩,⟨(some (28,false)),[aU 29 4 1,au 30 1 1,ao 31 30,ae 32 3,aP 33 1 31 32,ao 34 33,aN 35 125 [29,34],ae 36 3,aR 37 .neq 35 36]⟩,⟨none,[bC 38 28 37,ae 39 38]⟩,⟨(some (39,false)),[aU 40 4 1,au 41 1 1,ao 42 41,ae 43 3,aP 44 1 42 43,ao 45 44,aN 46 140 [40,45],az 47 .geq 46 0]⟩,⟨none,[bC 48 39 47]⟩]) <|
  .cond (.tmp 48) (.seq (al [aV 2 false]) <|
  .ret) (.skip))) <|
  al [ae 19 3,az 20 .add 19 1,ae 3 20]
def oB:SF:=⟨.seq (al [cM 1 0,aV 2 false]) <|
  .seq (.seq (.region false [⟨none,[au 4 1 1,ao 5 4,aL 6 5,az 7 .lss 6 1,ae 8 7]⟩,⟨(some (8,false)),[au 9 1 1,ao 10 9,aL 11 10,az 12 .gtr 11 16]⟩,⟨none,[bC 13 8 12]⟩]) <|
  .cond (.tmp 13) (.seq (al [aV 2 false]) <|
  .ret) (.skip)) <|
  .seq (.seq (al [aH 3 0]) <|
  .block 0 (.loop mH)) <|
  .seq (al [aV 2 true]) <|
  .ret,
  [.tmp 2],49⟩
theorem tu:aW Tryz.prog 90 [1]=some oB:=by kernel_rfl
def mM:SC :=
  .seq (.seq (al [ae 23 5,au 24 1 3,ao 25 24,aL 26 25,aR 27 .lss 23 26]) <|
  .cond (.tmp 27) (.skip) (.exit 0)) <|
  .seq (.block 1 (.seq (.region false [⟨none,[aU 30 4 2,au 31 1 3,ao 32 31,ae 33 5,aP 34 1 32 33,ao 35 34,aN 36 143 [30,35],bZ 37 36,ae 38 37]⟩,⟨(some (38,false)),[au 39 1 3,ao 40 39,ae 41 5,aP 42 1 40 41,ao 43 42,az 44 .geq 43 0,ae 45 44]⟩,⟨(some (45,true)),[au 46 2 3,ao 47 46,az 48 .eql 47 (-1)]⟩,⟨(some (38,false)),[bO 49 45 48]⟩,⟨none,[bC 50 38 49]⟩]) <|
  .cond (.tmp 50) (.seq (al [aV 4 false]) <|
  .ret) (.skip))) <|
  al [ae 28 5,az 29 .add 28 1,ae 5 29]
def oP:SF:=⟨.seq (al [cM 2 0,cM 3 1,aV 4 false]) <|
  .seq (.seq (.region false [⟨none,[au 6 1 3,ao 7 6,aL 8 7,az 9 .gtr 8 6,ae 10 9]⟩,⟨(some (10,false)),[au 11 2 3,ao 12 11,az 13 .lss 12 (-1)]⟩,⟨none,[bC 14 10 13,ae 15 14]⟩,⟨(some (15,false)),[au 16 2 3,ao 17 16,au 18 0 2,ao 19 18,aL 20 19,aR 21 .geq 17 20]⟩,⟨none,[bC 22 15 21]⟩]) <|
  .cond (.tmp 22) (.seq (al [aV 4 false]) <|
  .ret) (.skip)) <|
  .seq (.seq (al [aH 5 0]) <|
  .block 0 (.loop mM)) <|
  .seq (al [aV 4 true]) <|
  .ret,
  [.tmp 4],51⟩
theorem tz:aW Tryz.prog 91 [2,3]=some oP:=by kernel_rfl
def lE:SC :=
  .seq (.seq (al [ae 39 4,au 40 2 1,ao 41 40,aL 42 41,aR 43 .lss 39 42]) <|
  .cond (.tmp 43) (.skip) (.exit 0)) <|
  .seq (.block 1 (.seq (al [au 46 2 1,ao 47 46,ae 48 4,aP 49 3 47 48,aU 50 3 49,((some 5),.op (.alloc [(.val (.int .i64 0)),(.emp 1),(.val (.int .i64 0))])),(none,.op (.store 3 (.tmp 5) (.tmp 50)))]) <|
  .seq (.seq (.region false [⟨none,[au 51 0 5,ao 52 51,az 53 .lss 52 0,ae 54 53]⟩,⟨(some (54,false)),[au 55 0 5,ao 56 55,ae 57 3,az 58 .add 57 1,aR 59 .gtr 56 58]⟩,⟨none,[bC 60 54 59,ae 61 60]⟩,⟨(some (61,false)),[aU 62 4 1,aU 63 3 5,aN 64 91 [62,63],bZ 65 64]⟩,⟨none,[bC 66 61 65]⟩]) <|
  .cond (.tmp 66) (.seq (al [aV 2 false]) <|
  .ret) (.skip)) <|
  .seq (al [au 67 0 5,ao 68 67,ae 69 3,aR 70 .gtr 68 69]) <|
  .cond (.tmp 70) (al [au 71 0 5,ao 72 71,ae 3 72]) (.skip))) <|
  al [ae 44 4,az 45 .add 44 1,ae 4 45]
def m9:SF:=⟨.seq (al [cM 1 0,aV 2 false]) <|
  .seq (.seq (.region false [⟨none,[aU 6 4 1,aN 7 89 [6],bZ 8 7,ae 9 8]⟩,⟨(some (9,false)),[aU 10 4 1,aN 11 90 [10],bZ 12 11]⟩,⟨none,[bC 13 9 12,ae 14 13]⟩,⟨(some (14,false)),[au 15 2 1,ao 16 15,aL 17 16,az 18 .lss 17 1]⟩,⟨none,[bC 19 14 18,ae 20 19]⟩,⟨(some (20,false)),[au 21 2 1,ao 22 21,aL 23 22,az 24 .gtr 23 40]⟩,⟨none,[bC 25 20 24,ae 26 25]⟩,⟨(some (26,false)),[au 27 3 1,ao 28 27,az 29 .lss 28 0]⟩,⟨none,[bC 30 26 29,ae 31 30]⟩,⟨(some (31,false)),[au 32 3 1,ao 33 32,au 34 1 1,ao 35 34,aL 36 35,aR 37 .geq 33 36]⟩,⟨none,[bC 38 31 37]⟩]) <|
  .cond (.tmp 38) (.seq (al [aV 2 false]) <|
  .ret) (.skip)) <|
  .seq (al [aH 3 (-1)]) <|
  .seq (.seq (al [aH 4 0]) <|
  .block 0 (.loop lE)) <|
  .seq (al [ae 73 3,au 74 1 1,ao 75 74,aL 76 75,az 77 .sub 76 1,aR 78 .eql 73 77,ae 2 78]) <|
  .ret,
  [.tmp 2],79⟩
theorem sr:aW Tryz.prog 48 [1]=some m9:=by kernel_rfl
set_option maxHeartbeats 2000000 in
theorem Gh (g:an) (hg:g.Ok) (H:View):aA Tryz.prog 89 [.agg (ar g)] H fun r _=>r=gb (iR g):=by
  refine aA.of mixed so ?_
  simp (disch:=omega) only [↓wr,↓reduceIte,wq,ai,ah,ak,Nat.reduceEqDiff,Nat.reduceAdd,Nat.reduceLT,Nat.reduceLeDiff,m8,ar,encS]
  refine aq.dec (fun h=>?_) (fun h=>?_)
  · simp (disch:=omega) only [↓wr,↓reduceIte,wq,reduceCtorEq]
    simp[iR,show ¬ g.ax.length≤24 by omega]
  · have hle:g.ax.length≤24:=by omega
    simp (disch:=omega) only [↓wr,wq]
    refine bb.intro (fun k T _=>∃ i:Nat,i+k=g.ax.length∧iF g (g.ax.drop i) i=iF g g.ax 0∧T 1=.aS (ar g) 0∧T 3=gi i) g.ax.length ?_ ?_
    · exact ⟨0,by omega,rfl,rfl,rfl⟩
    · rintro k T H' ⟨i,hk,hi,h1,h3⟩
      simp (disch:=omega) only [↓wr,↓reduceIte,wq,ah,ak,Nat.reduceEqDiff,Nat.reduceAdd,Nat.reduceLT,reduceCtorEq,lI,h1,h3,ar]
      refine aq.dec (fun hc=>?_) (fun hc=>?_)
      · have hg2:g.ax[i]?=some (g.ax[i]'(by omega)):=List.getElem?_eq_getElem (by omega)
        rw[dA (show i < g.ax.length by omega)] at hi
        have hmem:g.ax[i]'(by omega)∈g.ax:=List.getElem_mem _
        generalize g.ax[i]'(by omega)=t at hg2 hi hmem
        obtain ⟨⟨hl1,hl2⟩,⟨ha1,ha2⟩⟩:=hg.term t hmem
        simp only[iF] at hi
        have hbad:jo g i t=false→gb false=gb (iR g):=fun e=>by rw[e,Bool.false_and] at hi; simp[iR,← hi]
        simp (disch:=omega) only [↓wr,↓reduceIte,wq,aa,Nat.reduceEqDiff,Nat.reduceAdd,Nat.reduceLT,Nat.reduceLeDiff,h1,h3,ar,ct,List.getElem?_map,hg2]
        intro m hm
        try simp (disch:=omega) only [↓wr,↓reduceIte,wq,ai,ah,ak,aa,af,ag,aj,isNil,Nat.reduceEqDiff,Nat.reduceAdd,Nat.reduceLT,Nat.reduceLeDiff,Int.reduceNeg,Int.reduceToNat,reduceCtorEq,h1,h3]
        refine aF.pure (Ge t.name) (by kernel_rfl) ?_
        repeat' (first | (refine aq.dec (fun _=>?_) (fun _=>?_)) | (refine aq.eq (fun _=>?_) (fun _=>?_)) | (refine aq.ne (fun _=>?_) (fun _=>?_)) | (refine aq.split (fun _=>?_) (fun _=>?_)) | (simp (disch:=omega) only [↓wr,↓reduceIte,wq,ah,Nat.reduceEqDiff,Nat.reduceAdd,Nat.reduceLT,Nat.reduceLeDiff,reduceCtorEq,h1,h3,ar]))
        all_goals try (refine hbad ?_; simp[jo, *]; done)
        rename_i hnm
        refine aF.pure (Cs g hg t.name) (by kernel_rfl) ?_
        repeat' (first | (refine aq.dec (fun _=>?_) (fun _=>?_)) | (refine aq.eq (fun _=>?_) (fun _=>?_)) | (refine aq.ne (fun _=>?_) (fun _=>?_)) | (refine aq.split (fun _=>?_) (fun _=>?_)) | (simp (disch:=omega) only [↓wr,↓reduceIte,wq,ah,Nat.reduceEqDiff,Nat.reduceAdd,Nat.reduceLT,reduceCtorEq,h1,h3,ar]))
        all_goals try (refine hbad ?_; simp[jo, *]; done)
        all_goals try (refine hbad ?_; simp[jo]; grind)
        rename_i e1 e2 e3 e4 e5 e6
        have hpre:jo g i t=qj g t:=by
          have e6':((t.level == 0) == (t.assoc == 0))=true:=by simpa using e6
          simp[jo,hnm,e1,e6',show (0:Int)≤t.level by omega,show t.level≤24 by omega,show (0:Int)≤t.assoc by omega,show t.assoc≤3 by omega]
        refine bb.intro (fun k' T H''=>∃ j:Nat,1≤j∧j+k'=t.level.toNat+1∧(∀ q:Nat,q+1 < j→fy g.ax ((q:Int)+1)=true)∧T 1=.aS (ar g) 0∧T 3=gi i∧T 4=.ptr m 0 0∧H'' m=.arr 3 [[gs t.name,gi t.level,gi t.assoc]]∧T 5=gi j) t.level.toNat ?_ ?_
        · refine ⟨1,by omega,by omega,fun q hq=>by omega,?_⟩
          simp (disch:=omega) only [↓wr,↓reduceIte,wq,Nat.reduceEqDiff,Nat.reduceAdd,h1,h3,ar]
          rfl
        · rintro k' T' H'' ⟨j,hj1,hj2,hj3,f1,f3,f4,fm,f5⟩
          simp (disch:=omega) only [↓wr,↓reduceIte,wq,ah,Nat.reduceEqDiff,Nat.reduceAdd,Nat.reduceLT,lG,f4,f5,fm]
          refine aq.dec (fun hd=>?_) (fun hd=>?_)
          · simp (disch:=omega) only [↓wr,↓reduceIte,wq,Nat.reduceEqDiff,Nat.reduceAdd,Nat.reduceLeDiff,f1,f5,ar]
            refine aF.pure (GG g hg j) (by kernel_rfl) ?_
            repeat' (first | (refine aq.dec (fun _=>?_) (fun _=>?_)) | (refine aq.eq (fun _=>?_) (fun _=>?_)) | (refine aq.ne (fun _=>?_) (fun _=>?_)) | (refine aq.split (fun _=>?_) (fun _=>?_)) | (simp (disch:=omega) only [↓wr,↓reduceIte,wq,ah,Nat.reduceEqDiff,reduceCtorEq,f1,f3,f4,f5,fm,ar]))
            · rename_i hb
              refine ⟨k' - 1,by omega,j+1,by omega,by omega,fun q hq=>?_,by first | rfl | exact ⟨rfl,rfl⟩ | exact ⟨rfl,rfl,rfl⟩⟩
              by_cases e:q+1=j
              · have:(q:Int)+1=j:=by omega
                rw[this]; exact hb
              · exact hj3 q (by omega)
            · rename_i hb
              refine hbad ?_
              rw[hpre,qj,List.all_eq_false]
              refine ⟨j - 1,by simp; omega,?_⟩
              have:((j - 1:Nat):Int)+1=j:=by omega
              rw[this,hb]; simp
          · simp (disch:=omega) only [↓wr,↓reduceIte,wq,Nat.reduceEqDiff,reduceCtorEq,f1,f3]
            refine ⟨k - 1,by omega,i+1,by omega,?_,by first | rfl | exact ⟨rfl,rfl⟩ | exact ⟨rfl,rfl,rfl⟩⟩
            have hlv:qj g t=true:=by
              rw[qj,List.all_eq_true]
              intro q hq
              exact hj3 q (by simp at hq; omega)
            rw[hpre,hlv,Bool.true_and] at hi
            push_cast; exact hi
      · rw[List.drop_eq_nil_of_le (by omega)] at hi
        simp only[iF] at hi
        simp (disch:=omega) only [↓wr,↓reduceIte,wq,Nat.reduceEqDiff,reduceCtorEq]
        simp[iR,hle,← hi]
theorem He (g:an) (hg:g.Ok):aD Tryz.prog 89 [.agg (ar g)] (gb (iR g)):=aD.val (eA g) (Gh g hg)
def ko (g:an) (i:Int) (s:ByteArray):Bool:=eS (ed s) && (wk g s == i) && decide (kN g s < 0)
def qh (g:an):List ByteArray→Int→Bool
  | [],_=>true
  | s :: r,i=>ko g i s && qh g r (i+1)
def jD (g:an):Bool:=decide (1≤g.av.length) && decide (g.av.length≤16) && qh g g.av 0
set_option maxHeartbeats 1000000 in
theorem IV (g:an) (hg:g.Ok) (H:View):aA Tryz.prog 90 [.agg (ar g)] H fun r _=>r=gb (jD g):=by
  refine aA.of mixed tu ?_
  repeat' (first | (refine aq.dec (fun _=>?_) (fun _=>?_)) | (refine aq.eq (fun _=>?_) (fun _=>?_)) | (refine aq.ne (fun _=>?_) (fun _=>?_)) | (refine aq.split (fun _=>?_) (fun _=>?_)) | (simp (disch:=omega) only [↓wr,↓reduceIte,wq,ai,ah,ak,Nat.reduceEqDiff,Nat.reduceAdd,Nat.reduceLT,Nat.reduceLeDiff,reduceCtorEq,oB,ar,encS]))
  · simp[jD,show ¬ 1≤g.av.length by omega]
  · simp[jD,show ¬ g.av.length≤16 by omega]
  · have hle:g.av.length≤16:=by omega
    refine bb.intro (fun k T _=>∃ i:Nat,i+k=g.av.length∧qh g (g.av.drop i) i=qh g g.av 0∧T 1=.aS (ar g) 0∧T 3=gi i) g.av.length ?_ ?_
    · exact ⟨0,by omega,rfl,rfl,rfl⟩
    · rintro k T H' ⟨i,hk,hi,h1,h3⟩
      simp (disch:=omega) only [↓wr,↓reduceIte,wq,ah,ak,Nat.reduceEqDiff,Nat.reduceAdd,Nat.reduceLT,reduceCtorEq,mH,h1,h3,ar,encS]
      refine aq.dec (fun hc=>?_) (fun hc=>?_)
      · have hg2:g.av[i]?=some (g.av[i]'(by omega)):=List.getElem?_eq_getElem (by omega)
        rw[dA (show i < g.av.length by omega)] at hi
        generalize g.av[i]'(by omega)=t at hg2 hi
        simp only[qh] at hi
        have hbad:ko g i t=false→gb false=gb (jD g):=fun e=>by rw[e,Bool.false_and] at hi; simp[jD,← hi]
        simp (disch:=omega) only [↓wr,↓reduceIte,wq,Nat.reduceEqDiff,Nat.reduceAdd,Nat.reduceLT,h1,h3,ar,encS,List.getElem?_map,hg2]
        refine aF.pure (Cf t) (by kernel_rfl) ?_
        repeat' (first | (refine aq.dec (fun _=>?_) (fun _=>?_)) | (refine aq.eq (fun _=>?_) (fun _=>?_)) | (refine aq.ne (fun _=>?_) (fun _=>?_)) | (refine aq.split (fun _=>?_) (fun _=>?_)) | (simp (disch:=omega) only [↓wr,↓reduceIte,wq,ah,Nat.reduceEqDiff,Nat.reduceAdd,Nat.reduceLT,Nat.reduceLeDiff,reduceCtorEq,h1,h3,ar,encS,List.getElem?_map,hg2]))
        all_goals try (refine hbad ?_; simp[ko, *]; done)
        rename_i hnm
        refine aF.pure (KQ g hg t) (by kernel_rfl) ?_
        repeat' (first | (refine aq.dec (fun _=>?_) (fun _=>?_)) | (refine aq.eq (fun _=>?_) (fun _=>?_)) | (refine aq.ne (fun _=>?_) (fun _=>?_)) | (refine aq.split (fun _=>?_) (fun _=>?_)) | (simp (disch:=omega) only [↓wr,↓reduceIte,wq,ah,Nat.reduceEqDiff,Nat.reduceAdd,Nat.reduceLT,Nat.reduceLeDiff,reduceCtorEq,h1,h3,ar,encS,List.getElem?_map,hg2]))
        all_goals try (refine hbad ?_; simp[ko, *]; done)
        rename_i hno
        refine aF.pure (Cs g hg t) (by kernel_rfl) ?_
        repeat' (first | (refine aq.dec (fun _=>?_) (fun _=>?_)) | (refine aq.eq (fun _=>?_) (fun _=>?_)) | (refine aq.ne (fun _=>?_) (fun _=>?_)) | (refine aq.split (fun _=>?_) (fun _=>?_)) | (simp (disch:=omega) only [↓wr,↓reduceIte,wq,ah,Nat.reduceEqDiff,reduceCtorEq,h1,h3,ar,encS]))
        all_goals try (refine hbad ?_; simp[ko, *]; done)
        rename_i hte
        refine ⟨k - 1,by omega,i+1,by omega,?_,by first | rfl | exact ⟨rfl,rfl⟩ | exact ⟨rfl,rfl,rfl⟩⟩
        have:ko g i t=true:=by simp[ko,hnm,hno,show kN g t < 0 by omega]
        rw[this,Bool.true_and] at hi
        push_cast; exact hi
      · rw[List.drop_eq_nil_of_le (by omega)] at hi
        simp only[qh] at hi
        simp (disch:=omega) only [↓wr,↓reduceIte,wq,Nat.reduceEqDiff,reduceCtorEq]
        simp[jD,hle,show 1≤g.av.length by omega,← hi]
theorem H8 (g:an) (hg:g.Ok):aD Tryz.prog 90 [.agg (ar g)] (gb (jD g)):=aD.val (eA g) (IV g hg)
def kW (g:an) (prec s:Int):Bool:=gu g s && !(decide (0≤s) && prec == -1)
def gm (g:an) (r:aQ):Bool:=decide (r.right.length≤6) && decide (-1≤r.prec) && decide (r.prec < g.ax.length) && r.right.all (kW g r.prec)
theorem Dy (g:an) (r:aQ):∀ v∈[V.agg (ar g),V.agg (aO r)],Tree v:=by
  intro v hv; simp at hv
  rcases hv with rfl | rfl
  · exact cE _ (cR g)
  · exact cE _ (fL r)
set_option maxHeartbeats 1000000 in
theorem IY (g:an) (r:aQ) (hr:aM r.right∧∀ x∈r.right,bW x) (H:View):aA Tryz.prog 91 [.agg (ar g),.agg (aO r)] H fun v _=>v=gb (gm g r):=by
  refine aA.of mixed tz ?_
  repeat' (first | (refine aq.dec (fun _=>?_) (fun _=>?_)) | (refine aq.eq (fun _=>?_) (fun _=>?_)) | (refine aq.ne (fun _=>?_) (fun _=>?_)) | (refine aq.split (fun _=>?_) (fun _=>?_)) | (simp (disch:=omega) only [↓wr,↓reduceIte,wq,ai,ah,ak,Nat.reduceEqDiff,Nat.reduceAdd,Nat.reduceLT,Nat.reduceLeDiff,Int.reduceNeg,reduceCtorEq,oP,ar,encS,aO,encI]))
  · simp[gm,show ¬ r.right.length≤6 by omega]
  · simp[gm,show ¬ -1≤r.prec by omega]
  · simp[gm,show ¬ r.prec < g.ax.length by omega]
  · have hle:r.right.length≤6:=by omega
    have hp1 : -1≤r.prec:=by omega
    have hp2:r.prec < g.ax.length:=by omega
    refine bb.intro (fun k T _=>∃ i:Nat,i+k=r.right.length∧(r.right.drop i).all (kW g r.prec)=r.right.all (kW g r.prec)∧T 2=.aS (ar g) 0∧T 3=.aS (aO r) 0∧T 5=gi i) r.right.length ?_ ?_
    · exact ⟨0,by omega,rfl,rfl,rfl,rfl⟩
    · rintro k T H' ⟨i,hk,hi,h2,h3,h5⟩
      simp (disch:=omega) only [↓wr,↓reduceIte,wq,ah,ak,Nat.reduceEqDiff,Nat.reduceAdd,Nat.reduceLT,Int.reduceNeg,reduceCtorEq,mM,h3,h5,aO,encI]
      refine aq.dec (fun hc=>?_) (fun hc=>?_)
      · have hg2:r.right[i]?=some (r.right[i]'(by omega)):=List.getElem?_eq_getElem (by omega)
        rw[dA (show i < r.right.length by omega)] at hi
        have hmem:r.right[i]'(by omega)∈r.right:=List.getElem_mem _
        generalize r.right[i]'(by omega)=t at hg2 hi hmem
        have hin:=hr.2 t hmem
        simp only[List.all_cons] at hi
        have hbad:kW g r.prec t=false→gb false=gb (gm g r):=fun e=>by rw[e,Bool.false_and] at hi; simp only[gm,← hi,Bool.and_false]
        have hok:kW g r.prec t=true→(r.right.drop (i+1)).all (kW g r.prec)=r.right.all (kW g r.prec):=fun e=>by rw[e,Bool.true_and] at hi; exact hi
        simp (disch:=omega) only [↓wr,↓reduceIte,wq,Nat.reduceEqDiff,Nat.reduceAdd,Nat.reduceLT,Nat.reduceLeDiff,Int.reduceNeg,h2,h3,h5,ar,encS,aO,encI,List.getElem?_map,hg2]
        refine aF.pure (OR g t hin) (by kernel_rfl) ?_
        repeat' (first | (refine aq.dec (fun _=>?_) (fun _=>?_)) | (refine aq.eq (fun _=>?_) (fun _=>?_)) | (refine aq.ne (fun _=>?_) (fun _=>?_)) | (refine aq.split (fun _=>?_) (fun _=>?_)) | (simp (disch:=omega) only [↓wr,↓reduceIte,wq,ah,Nat.reduceEqDiff,Nat.reduceAdd,Nat.reduceLT,Int.reduceNeg,reduceCtorEq,h2,h3,h5,ar,encS,aO,encI,List.getElem?_map,hg2]))
        all_goals first
          | (refine hbad ?_; simp[kW, *]; done)
          | (refine ⟨k - 1,by omega,i+1,by omega,hok (by simp[kW, *]; done),by first | rfl | exact ⟨rfl,rfl⟩ | exact ⟨rfl,rfl,rfl⟩⟩)
          | skip
      · rw[List.drop_eq_nil_of_le (by omega)] at hi
        simp only[List.all_nil] at hi
        simp (disch:=omega) only [↓wr,↓reduceIte,wq,Nat.reduceEqDiff,reduceCtorEq]
        simp only[gm,hle,hp1,hp2,decide_true,Bool.true_and,← hi]
theorem IK (g:an) (r:aQ) (hr:aM r.right∧∀ x∈r.right,bW x):aD Tryz.prog 91 [.agg (ar g),.agg (aO r)] (gb (gm g r)):=aD.val (Dy g r) (IY g r hr)
def fA (g:an):List aQ→Int→Bool
  | [],top=>top == (g.av.length:Int) - 1
  | r :: l,top=>decide (0≤r.left) && decide (r.left≤top+1) && gm g r && fA g l (if r.left > top then r.left else top)
def bp (g:an):Bool :=
  iR g && jD g && decide (1≤g.rules.length) && decide (g.rules.length≤40) && decide (0≤g.start) && decide (g.start < g.av.length) && fA g g.rules (-1)
set_option maxHeartbeats 1000000 in
theorem GQ (g:an) (hg:g.Ok) (H:View):aA Tryz.prog 48 [.agg (ar g)] H fun r _=>r=gb (bp g):=by
  refine aA.of mixed sr ?_
  have hn:=hg.av
  unfold aM at hn
  simp (disch:=omega) only [↓wr,↓reduceIte,wq,ai,Nat.reduceEqDiff,Nat.reduceAdd,Nat.reduceLeDiff,Int.reduceNeg,m9,ar,encS]
  refine aF.pure (He g hg) (by kernel_rfl) ?_
  repeat' (first | (refine aq.dec (fun _=>?_) (fun _=>?_)) | (refine aq.eq (fun _=>?_) (fun _=>?_)) | (refine aq.ne (fun _=>?_) (fun _=>?_)) | (refine aq.split (fun _=>?_) (fun _=>?_)) | (simp (disch:=omega) only [↓wr,↓reduceIte,wq,Nat.reduceEqDiff,Nat.reduceAdd,Nat.reduceLeDiff,Int.reduceNeg,reduceCtorEq]))
  · rename_i h1
    refine aF.pure (H8 g hg) (by kernel_rfl) ?_
    repeat' (first | (refine aq.dec (fun _=>?_) (fun _=>?_)) | (refine aq.eq (fun _=>?_) (fun _=>?_)) | (refine aq.ne (fun _=>?_) (fun _=>?_)) | (refine aq.split (fun _=>?_) (fun _=>?_)) | (simp (disch:=omega) only [↓wr,↓reduceIte,wq,ah,ak,Nat.reduceEqDiff,Nat.reduceAdd,Nat.reduceLT,Int.reduceNeg,reduceCtorEq]))
    all_goals try (simp[bp, *]; done)
    all_goals try (simp[bp]; omega)
    rename_i h2 h3 h4 h5 h6
    have hle:g.rules.length≤40:=by omega
    have hpre:∀ b,fA g g.rules (-1)=b→gb b=gb (bp g):=fun b e=>by
      simp[bp,h1,h2,show 1≤g.rules.length by omega,hle,show 0≤g.start by omega,show g.start < g.av.length by omega,e]
    refine bb.intro (fun k T _=>∃ (i:Nat) (w:Int),i+k=g.rules.length∧-1≤w∧w < i∧fA g (g.rules.drop i) w=fA g g.rules (-1)∧T 1=.aS (ar g) 0∧T 3=gi w∧T 4=gi i) g.rules.length ?_ ?_
    · exact ⟨0,-1,by omega,by omega,by omega,rfl,rfl,rfl,rfl⟩
    · rintro k T H' ⟨i,w,hk,hw1,hw2,hi,f1,f3,f4⟩
      simp (disch:=omega) only [↓wr,↓reduceIte,wq,ah,ak,Nat.reduceEqDiff,Nat.reduceAdd,Nat.reduceLT,Int.reduceNeg,lE,f1,f4,ar]
      refine aq.dec (fun hc=>?_) (fun hc=>?_)
      · have hg2:g.rules[i]?=some (g.rules[i]'(by omega)):=List.getElem?_eq_getElem (by omega)
        rw[dA (show i < g.rules.length by omega)] at hi
        have hmem:g.rules[i]'(by omega)∈g.rules:=List.getElem_mem _
        generalize g.rules[i]'(by omega)=t at hg2 hi hmem
        obtain ⟨⟨hl1,hl2⟩,hp,hr1,hr2⟩:=hg.bd t hmem
        simp only[fA] at hi
        simp (disch:=omega) only [↓wr,↓reduceIte,wq,ah,aa,Nat.reduceEqDiff,Nat.reduceAdd,Nat.reduceLT,Nat.reduceLeDiff,Int.reduceNeg,f1,f4,ar,encS,aO,encI,List.getElem?_map,hg2]
        intro m hm
        try simp (disch:=omega) only [↓wr,↓reduceIte,wq,ai,ah,ak,aa,af,ag,aj,isNil,Nat.reduceEqDiff,Nat.reduceAdd,Nat.reduceLT,Nat.reduceLeDiff,Int.reduceNeg,Int.reduceToNat,reduceCtorEq,f1,f3,f4]
        repeat' (first | (refine aq.dec (fun _=>?_) (fun _=>?_)) | (refine aq.eq (fun _=>?_) (fun _=>?_)) | (refine aq.ne (fun _=>?_) (fun _=>?_)) | (refine aq.split (fun _=>?_) (fun _=>?_)) | (simp (disch:=omega) only [↓wr,↓reduceIte,wq,ah,ak,Nat.reduceEqDiff,Nat.reduceAdd,Nat.reduceLT,Nat.reduceLeDiff,Int.reduceNeg,reduceCtorEq,f1,f3,f4,ar,encS]))
        all_goals try (refine hpre _ ?_; simp only[← hi]; simp; omega)
        rename_i e1 e2
        refine aF.pure (IK g t ⟨hr1,hr2⟩) (by kernel_rfl) ?_
        repeat' (first | (refine aq.dec (fun _=>?_) (fun _=>?_)) | (refine aq.eq (fun _=>?_) (fun _=>?_)) | (refine aq.ne (fun _=>?_) (fun _=>?_)) | (refine aq.split (fun _=>?_) (fun _=>?_)) | (simp (disch:=omega) only [↓wr,↓reduceIte,wq,ah,ak,Nat.reduceEqDiff,Nat.reduceAdd,Nat.reduceLT,Int.reduceNeg,reduceCtorEq,f1,f3,f4,ar,encS]))
        all_goals simp only[show 0≤t.left by omega,show t.left≤w+1 by omega,decide_true,Bool.true_and] at hi
        · rename_i e3 e4
          rw[e3,Bool.true_and,if_pos e4] at hi
          exact ⟨k - 1,by omega,i+1,_,by omega,by omega,by push_cast; omega,hi,by first | rfl | exact ⟨rfl,rfl⟩ | exact ⟨rfl,rfl,rfl⟩⟩
        · rename_i e3 e4
          rw[e3,Bool.true_and,if_neg e4] at hi
          exact ⟨k - 1,by omega,i+1,_,by omega,by omega,by push_cast; omega,hi,by first | rfl | exact ⟨rfl,rfl⟩ | exact ⟨rfl,rfl,rfl⟩⟩
        · rename_i e3
          rw[e3,Bool.false_and] at hi
          exact hpre _ hi.symm
      · rw[List.drop_eq_nil_of_le (by omega)] at hi
        simp only[fA] at hi
        simp (disch:=omega) only [↓wr,↓reduceIte,wq,ah,ak,Nat.reduceEqDiff,Nat.reduceAdd,Nat.reduceLT,reduceCtorEq,f1,f3,ar,encS]
        exact hpre _ hi.symm
  · rename_i h1; simp[bp,h1]
theorem jY (g:an) (hg:g.Ok):aD Tryz.prog 48 [.agg (ar g)] (gb (bp g)):=aD.val (eA g) (GQ g hg)
inductive cm (α:Type) where
  | nil
  | node (v:α) (l r:cm α)
noncomputable def cm.get {α:Type} (z:α) (t:cm α):Nat→α :=
  cm.rec (motive:=fun _=>Nat→α) (fun _=>z) (fun v _ _ gl gr i=>Bool.rec (Bool.rec (gr (i / 2 - 1)) (gl (i / 2)) (Nat.beq (i % 2) 1)) v (Nat.beq i 0)) t
theorem cm.get_nil {α:Type} (z:α) (i:Nat):cm.get z .nil i=z:=rfl
theorem cm.Lk {α:Type} (z v:α) (l r:cm α) (i:Nat):cm.get z (.node v l r) i=match Nat.beq i 0 with
    | true=>v
    | false=>match Nat.beq (i % 2) 1 with
      | true=>cm.get z l (i / 2)
      | false=>cm.get z r (i / 2 - 1):=by
  change (Bool.rec (motive:=fun _=>α) _ _ _:α)=_
  cases Nat.beq i 0 with
  | true=>rfl
  | false=>cases Nat.beq (i % 2) 1 <;> rfl
def cm.val {α:Type} (z:α):cm α→α
  | .nil=>z
  | .node v _ _=>v
def cm.left {α:Type} : cm α→cm α
  | .nil=>.nil
  | .node _ l _=>l
def cm.right {α:Type} : cm α→cm α
  | .nil=>.nil
  | .node _ _ r=>r
noncomputable def cm.put {α:Type} (z:α) (x:α) (d:Nat):cm α→Nat→cm α :=
  Nat.rec (motive:=fun _=>cm α→Nat→cm α) (fun t _=>t) (fun _ pd t i =>
    Bool.rec (Bool.rec (.node (t.val z) t.left (pd t.right (i / 2 - 1))) (.node (t.val z) (pd t.left (i / 2)) t.right) (Nat.beq (i % 2) 1)) (.node x t.left t.right) (Nat.beq i 0)) d
theorem cm.LM {α:Type} (z x:α) (d:Nat) (t:cm α) (i:Nat):cm.put z x (d+1) t i=match Nat.beq i 0 with
    | true=>.node x t.left t.right
    | false=>match Nat.beq (i % 2) 1 with
      | true=>.node (t.val z) (cm.put z x d t.left (i / 2)) t.right
      | false=>.node (t.val z) t.left (cm.put z x d t.right (i / 2 - 1)):=by
  change (Bool.rec (motive:=fun _=>cm α) _ _ _:cm α)=_
  cases Nat.beq i 0 with
  | true=>rfl
  | false=>cases Nat.beq (i % 2) 1 <;> rfl
theorem cm.ln {α:Type} (z:α) (t:cm α) (j:Nat):t.get z j=if j=0 then t.val z else if j % 2=1 then t.left.get z (j / 2) else t.right.get z (j / 2 - 1):=by
  cases t with
  | nil=>simp[cm.get_nil,cm.val,cm.left,cm.right]
  | node v l r =>
    simp only[cm.Lk,cm.val,cm.left,cm.right]
    by_cases h:j=0
    · subst h; rfl
    · have:Nat.beq j 0=false:=by cases e:Nat.beq j 0 with | true=>exact absurd (Nat.eq_of_beq_eq_true e) h | false=>rfl
      rw[this,if_neg h]
      simp only
      by_cases h2:j % 2=1
      · have:Nat.beq (j % 2) 1=true:=by rw[h2]; rfl
        rw[this,if_pos h2]
      · have:Nat.beq (j % 2) 1=false:=by cases e:Nat.beq (j % 2) 1 with | true=>exact absurd (Nat.eq_of_beq_eq_true e) h2 | false=>rfl
        rw[this,if_neg h2]
theorem cm.lC {α:Type} (z x:α):∀ (d:Nat) (t:cm α) (i j:Nat),i+1 < 2 ^ d→(cm.put z x d t i).get z j=if j=i then x else t.get z j
  | 0,t,i,j,h=>by simp at h
  | d+1,t,i,j,h=>by
    rw[Nat.pow_succ] at h
    simp only[cm.LM]
    by_cases hi:i=0
    · subst hi
      have:Nat.beq 0 0=true:=rfl
      rw[this]
      simp only
      rw[cm.ln,cm.ln z t]
      simp only[cm.val,cm.left,cm.right]
      by_cases hj:j=0
      · rw[if_pos hj,if_pos hj]
      · rw[if_neg hj,if_neg hj,if_neg hj]
    · have:Nat.beq i 0=false:=by cases e:Nat.beq i 0 with | true=>exact absurd (Nat.eq_of_beq_eq_true e) hi | false=>rfl
      rw[this]
      simp only
      by_cases h2:i % 2=1
      · have:Nat.beq (i % 2) 1=true:=by rw[h2]; rfl
        rw[this]
        simp only
        rw[cm.ln,cm.ln z t]
        simp only[cm.val,cm.left,cm.right]
        by_cases hj:j=0
        · subst hj; rw[if_pos rfl,if_neg (fun e=>hi e.symm),if_pos rfl]
        · rw[if_neg hj,if_neg hj]
          by_cases hj2:j % 2=1
          · rw[if_pos hj2,if_pos hj2,cm.lC z x d _ _ _ (by omega)]
            by_cases e:j=i
            · subst e; simp
            · rw[if_neg e,if_neg (by omega)]
          · rw[if_neg hj2,if_neg hj2,if_neg (fun e=>hj2 (by rw[e]; exact h2))]
      · have:Nat.beq (i % 2) 1=false:=by cases e:Nat.beq (i % 2) 1 with | true=>exact absurd (Nat.eq_of_beq_eq_true e) h2 | false=>rfl
        rw[this]
        simp only
        rw[cm.ln,cm.ln z t]
        simp only[cm.val,cm.left,cm.right]
        by_cases hj:j=0
        · subst hj; rw[if_pos rfl,if_neg (fun e=>hi e.symm),if_pos rfl]
        · rw[if_neg hj,if_neg hj]
          by_cases hj2:j % 2=1
          · rw[if_pos hj2,if_pos hj2,if_neg (fun e=>h2 (by rw[← e]; exact hj2))]
          · rw[if_neg hj2,if_neg hj2,cm.lC z x d _ _ _ (by omega)]
            by_cases e:j=i
            · subst e; simp
            · rw[if_neg e,if_neg (by omega)]
abbrev deep:Nat:=13
structure ES where
  L:cm V
  H:cm bN
  n:Nat
  w:List Nat
noncomputable def ES.T (s:ES):Env:=s.L.get .any
noncomputable def ES.V (s:ES):View:=s.H.get .dead
noncomputable def ES.put (s:ES) (d:Option Nat) (v:Gv.V):ES:=match d with
  | some t=>⟨s.L.put .any v deep t,s.H,s.n,s.w⟩
  | none=>s
theorem ES.LS {s:ES} {d:Option Nat} {v:Gv.V} (h:∀ t,d=some t→t < 8000):(s.put d v).T=s.T.put d v:=by
  cases d with
  | none=>rfl
  | some t =>
    funext k
    have:=h t rfl
    simp only[ES.put,ES.T,Env.put]
    rw[cm.lC _ _ _ _ _ _ (by simp[deep]; omega)]
noncomputable def Dt (v:V) (aC:bg) (rd:List Nat) (s:ES):Option (V × ES × Rec):=match aC with
  | .none=>some (v,s,⟨rd,[],false,s.n,s.n⟩)
  | .new o=>match Nat.ble s.n 8000 with
    | true=>some (v,⟨s.L,s.H.put .dead o deep s.n,s.n+1,s.w⟩,⟨rd,[],false,s.n,s.n+1⟩)
    | false=>none
  | .fC id o=>match Nat.ble id 8000 with
    | true=>some (v,⟨s.L,s.H.put .dead o deep id,s.n,id :: s.w⟩,⟨rd,[id],false,s.n,s.n⟩)
    | false=>none
  | .bc id o=>match Nat.ble s.n 8000,Nat.ble id 8000 with
    | true,true=>some (v,⟨s.L,(s.H.put .dead .dead deep id).put .dead o deep s.n,s.n+1,id :: s.w⟩,⟨rd,[id],false,s.n,s.n+1⟩)
    | _,_=>none
noncomputable def Qd (x:SX) (_:Program) (T:Env) (_:View) (_:Nat):Out:=some (x.at T,.none,[])
noncomputable def PJ (c a b:SX) (_:Program) (T:Env) (_:View) (_:Nat):Out:=match c.at T with
  | .val (.bool t)=>some (if t then a.at T else b.at T,.none,[])
  | _=>none
noncomputable def Px (sz:Option Nat) (a:SX) (_:Program) (T:Env) (H:View) (_:Nat):Out:=uU sz (a.at T) H
noncomputable def Oq (sz:Nat) (a x:SX) (_:Program) (T:Env) (H:View) (_:Nat):Out:=zp sz (a.at T) (x.at T) H
noncomputable def PA (off:Nat) (x:SX) (_:Program) (T:Env) (_:View) (_:Nat):Out:=xK off (x.at T)
noncomputable def P8 (sz:Nat) (x i:SX) (_:Program) (T:Env) (_:View) (_:Nat):Out:=A3 sz (x.at T) (i.at T)
noncomputable def P6 (x:SX) (_:Program) (T:Env) (_:View) (_:Nat):Out:=(dM (x.at T)).map fun n=>(ak n,.none,[])
noncomputable def Pu (op:BinOp) (x y:SX) (_:Program) (T:Env) (_:View) (_:Nat):Out:=xt op (x.at T) (y.at T)
noncomputable def P5 (op:BinOp) (x y:SX) (_:Program) (T:Env) (_:View) (_:Nat):Out:=yS op (x.at T) (y.at T)
noncomputable def P0 (x:SX) (_:Program) (T:Env) (_:View) (_:Nat):Out:=match x.at T with
  | .val (.bool t)=>some (.val (.bool (!t)),.none,[])
  | _=>none
noncomputable def Qe (i:Nat) (x:SX) (_:Program) (T:Env) (_:View) (_:Nat):Out:=match x.at T with
  | .bo vs=>if i < vs.length then some (vs.getD i .any,.none,[]) else none
  | _=>none
noncomputable def PR (x:SX) (_:Program) (T:Env) (_:View) (_:Nat):Out:=match x.at T with
  | .ptr id i j=>some (.ptr id i j,.none,[])
  | .aS e j=>some (.aS e j,.none,[])
  | .fn f a b=>some (.fn f a b,.none,[])
  | _=>none
noncomputable def eI (s:SI):Program→Env→View→Nat→Out:=match s with
  | .bc x=>Qd x
  | .pick c a b=>PJ c a b
  | .load sz a=>Px sz a
  | .store sz a x=>Oq sz a x
  | .addr o x=>PA o x
  | .idx sz x i=>P8 sz x i
  | .len x=>P6 x
  | .arith op x y=>Pu op x y
  | .iE op x y=>P5 op x y
  | .not x=>P0 x
  | .ext i x=>Qe i x
  | .y9 x=>PR x
  | s=>fun P T H n=>sI P s T H n
theorem GV (s:SI) (P:Program) (T:Env) (H:View) (n:Nat):eI s P T H n=sI P s T H n:=by
  cases s <;> rfl
abbrev fX:=FuncId→List V→ES→Option (V × ES)
noncomputable def Jc (P:Program) (s:SI) (e:ES):Option (V × ES × Rec):=match eI s P e.T e.V e.n with
  | some (v,aC,rd)=>Dt v aC rd e
  | none=>none
noncomputable def Hl (call:fX) (f:SX) (args:List SX) (e:ES):Option (V × ES × Rec):=match f.at e.T with
  | .fn g first cap=>match call g (first ++ args.map (SX.at e.T) ++ cap) e with
    | some (v,e')=>some (v,⟨e.L,e'.H,e'.n,e'.w ++ e.w⟩,⟨[],e'.w,true,e.n,e'.n⟩)
    | none=>none
  | _=>none
noncomputable def eB (P:Program) (call:fX) (b:SB):ES→Option (V × ES × Rec):=match b with
  | .op s=>Jc P s
  | .call f args=>Hl call f args
noncomputable def E4 (P:Program) (call:fX):List (Option Nat × SB)→List Rec→ES→Option (ES × List Rec)
  | [],a,e=>some (e,a)
  | (d,b) :: r,a,e=>match eB P call b e with
    | some (v,e',c)=>E4 P call r (a ++ [c]) (e'.put d v)
    | none=>none
noncomputable def Ma (e:ES):Rec:=⟨[],[],false,e.n,e.n⟩
noncomputable def u5:List (Option Nat × SB)→List Rec→ES→ES × List Rec
  | [],a,e=>(e,a)
  | (d,_) :: r,a,e=>u5 r (a ++ [Ma e]) (e.put d (.bo []))
noncomputable def Hi (P:Program) (call:fX) (ops:List (Option Nat × SB)) (want:Bool) (v:V) (a:List Rec) (e:ES):Option (ES × List Rec):=match v with
  | .val (.bool b)=>match xor b want with
    | true=>some (u5 ops a e)
    | false=>E4 P call ops a e
  | .bo []=>some (u5 ops a e)
  | _=>none
noncomputable def eG (P:Program) (call:fX) (g:SG) (a:List Rec) (e:ES):Option (ES × List Rec):=match g.guard with
  | none=>E4 P call g.ops a e
  | some (d,want)=>Hi P call g.ops want (e.T d) a e
noncomputable def Hj (P:Program) (call:fX):List SG→List Rec→ES→Option (ES × List Rec)
  | [],a,e=>some (e,a)
  | g :: r,a,e=>match eG P call g a e with
    | some (e',a')=>Hj P call r a' e'
    | none=>none
inductive DC where
  | skip
  | region (ps:List (Nat × Nat)) (gs:List SG)
  | seq (x y:DC)
  | cond (c:SX) (x y:DC)
  | block (id:Nat) (c:DC)
  | loop (c:DC)
  | exit (id:Nat)
  | ret
  deriving Inhabited
def HN (recs:List Rec) (ps:List (Nat × Nat)):Bool:=ps.all fun (i,k)=>match recs[i]?,recs[k]? with
  | some a,some b=>Bq a b
  | _,_=>false
abbrev ER:=Option (Exit × ES)
abbrev vm:=DC→ES→ER
noncomputable def I2:ES→ER:=fun e=>some (.normal,e)
noncomputable def FI (P:Program) (call:fX) (ps:List (Nat × Nat)) (gs:List SG) (e:ES):ER:=match Hj P call gs [] e with
  | some (e',recs)=>match HN recs ps with
    | true=>some (.normal,e')
    | false=>none
  | none=>none
noncomputable def Pc (run:vm) (x y:DC) (e:ES):ER:=match run x e with
  | some (.normal,e')=>run y e'
  | r=>r
noncomputable def LQ (run:vm) (c:SX) (x y:DC) (e:ES):ER:=match c.at e.T with
  | .val (.bool true)=>run x e
  | .val (.bool false)=>run y e
  | _=>none
noncomputable def Ht (run:vm) (id:Nat) (c:DC) (e:ES):ER:=match run c e with
  | some (r,e')=>some (oq id r,e')
  | none=>none
noncomputable def L8 (run:vm) (c:DC) (e:ES):ER:=match run c e with
  | some (.normal,e')=>run (.loop c) e'
  | r=>r
noncomputable def kS (P:Program) (call:fX) (run:vm) (c:DC):ES→ER:=match c with
  | .skip=>I2
  | .region ps gs=>FI P call ps gs
  | .seq x y=>Pc run x y
  | .cond c x y=>LQ run c x y
  | .block id c=>Ht run id c
  | .loop c=>L8 run c
  | .exit id=>fun e=>some (.exit id,e)
  | .ret=>fun e=>some (.ret,e)
noncomputable def Ks (r:SR) (e:ES):Option V:=match r with
  | .tmp t=>some (e.T t)
  | .cell t sz=>match e.T t with
    | .ptr id i j=>match e.V id with
      | .arr _ es=>if i < es.length then kR sz (es.getD i []) j else none
      | _=>none
    | .aS e j=>kR sz e j
    | _=>none
noncomputable def ve:List SR→ES→Option (List V)
  | [],_=>some []
  | r :: l,e=>match Ks r e,ve l e with
    | some v,some vs=>some (v :: vs)
    | _,_=>none
noncomputable def lM:List V→Nat→cm V→cm V
  | [],_,t=>t
  | v :: vs,i,t=>lM vs (i+1) (t.put .any v deep i)
structure DF where
  code:DC
  res:List SR
  n:Nat
noncomputable def Pm (l:List SR) (r:ER):Option (V × ES):=match r with
  | some (.ret,e)=>(ve l e).map fun vs=>(ai vs,e)
  | some (.normal,e)=>(ve l e).map fun vs=>(ai vs,e)
  | _=>none
noncomputable def OU (m:Nat) (r:Option (V × ES)):Option (V × ES):=match r with
  | some (v,e)=>some (v,⟨e.L,e.H,e.n,e.w.filter fun id=>Nat.blt id m⟩)
  | none=>none
noncomputable def Pa (run:vm) (F:DF) (vs:List V) (e:ES):Option (V × ES):=match Nat.ble vs.length F.n,Nat.ble F.n 8000 with
  | true,true=>OU e.n (Pm F.res (run F.code ⟨lM vs 0 .nil,e.H,e.n,[]⟩))
  | _,_=>none
abbrev wU:=FuncId→List V→View→Option V
noncomputable def CY (P:Program) (tab:List (FuncId × DF)) (ext:wU) (run:vm) (g:FuncId) (vs:List V) (e:ES):Option (V × ES):=match ext g vs e.V with
  | some t=>some (t,⟨e.L,e.H,e.n,[]⟩)
  | none=>match tab.find? (fun p=>Nat.beq p.1 g) with
    | some (_,F)=>Pa run F vs e
    | none=>none
noncomputable def DW (P:Program) (tab:List (FuncId × DF)) (ext:wU):Nat→vm
  | 0=>fun _ _=>none
  | k+1=>kS P (CY P tab ext (DW P tab ext k)) (DW P tab ext k)
def Am (all:List Oper) (ls:List Nat):List (Nat × Nat) :=
  let b:=ew all []
  (ls.zipIdx.map fun (x,i)=>(ls.zipIdx.filter fun (y,k)=>decide (i < k) && !(ordered b i k || x == 0 || y == 0 || (decide (x≤1) && decide (y≤1)))).map fun (_,k)=>(i,k)).flatten
def Dw (P:Program) (n:Nat) (fz:List Nat) (ops:List Oper) (draw:Bool):Option DC:=match cZ P n ops ⟨fz,false⟩ ops with
  | none=>none
  | some l=>if !(group l).all rO then none else
    if draw then (if kJ ops then some (.region (Am ops (l.map fun s=>gT P false s.b)) (group l)) else none) else some (.region [] (group l))
def gQ (P:Program) (n:Nat) (fz:List Nat):Code→Option DC
  | .skip=>some .skip
  | .region _ ops draw=>Dw P n fz ops.toList draw
  | .seq x y=>match gQ P n fz x,gQ P n fz y with
    | some a,some b=>some (.seq a b)
    | _,_=>none
  | .cond c x y=>match gQ P n fz x,gQ P n fz y with
    | some a,some b=>some (.cond (SX.of c) a b)
    | _,_=>none
  | .block id c=>(gQ P n fz c).map (.block id)
  | .loop c=>(gQ P n fz c).map .loop
  | .exit id=>some (.exit id)
  | .ret=>some .ret
  | _=>none
abbrev ay (l:List (Option Nat × SB)):DC:=.region [] [⟨none,l⟩]
def bH (P:Program) (f:FuncId) (fz:List Nat):Option DF:=match P.funcs[f]? with
  | some fn=>match fn.body with
    | some c=>match gQ P fn.ntmps fz c,ez P fn.results.toList,cX P f with
      | some sc,some rs,true=>some ⟨sc,rs,fn.ntmps⟩
      | _,_,_=>none
    | none=>none
  | none=>none
end Gv
