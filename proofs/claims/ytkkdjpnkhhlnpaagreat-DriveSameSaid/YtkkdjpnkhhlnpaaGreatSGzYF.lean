/-
  Part 6 of the proof: what the machine does and what the functions answer.
  Conditions: those that each lemma names.
-/
import Derived.Test.YtkkdjpnkhhlnpaaGreatSGzYE
set_option linter.unusedSimpArgs false
set_option linter.unusedVariables false
set_option maxRecDepth 100000
namespace Gv
open Go Go.Proofs
structure Term where
  name:ByteArray
  level:Int
  assoc:Int
structure cR where
  left:Int
  right:List Int
  prec:Int
structure ay where
  ax:List Term
  aA:List ByteArray
  rules:List cR
  start:Int
instance:Inhabited Term:=⟨⟨.empty,0,0⟩⟩
instance:Inhabited cR:=⟨⟨0,[],0⟩⟩
def dP (t:Term):List V:=[gs t.name,gi t.level,gi t.assoc]
def bP (r:cR):List V:=[gi r.left,encI r.right,gi r.prec]
def encS (l:List ByteArray):V:=.aX (l.map fun s=>[gs s])
def aw (g:ay):List V:=[.aX (g.ax.map dP),encS g.aA,.aX (g.rules.map bP),gi g.start]
theorem cL {α:Type} (l:List α) (f:α→List V) (h:∀ x∈l,∀ v∈f x,Tree v):Tree (.aX (l.map f)):=by
  refine .aX _ fun i j hi hj=>?_
  simp only[List.length_map] at hi
  have e:(l.map f).getD i []=f l[i]:=by simp[List.getD_eq_getElem?_getD,hi]
  rw[e] at hj ⊢
  have e2:(f l[i]).getD j .any=(f l[i])[j]:=by simp[List.getD_eq_getElem?_getD,hj]
  rw[e2]
  exact h _ (List.getElem_mem _) _ (List.getElem_mem _)
theorem bL (cs:List V) (h:∀ v∈cs,Tree v):Tree (.agg cs):=by
  refine .agg _ fun i hi=>?_
  have e2:cs.getD i .any=cs[i]:=by simp[List.getD_eq_getElem?_getD,hi]
  rw[e2]; exact h _ (List.getElem_mem _)
theorem DK (l:List ByteArray):Tree (encS l):=cL _ _ fun x _ v hv=>by simp at hv; subst hv; exact .val _
theorem DS (t:Term):∀ v∈dP t,Tree v:=by intro v hv; simp[dP] at hv; rcases hv with rfl | rfl | rfl <;> exact .val _
theorem tP (r:cR):∀ v∈bP r,Tree v:=by
  intro v hv; simp[bP] at hv; rcases hv with rfl | rfl | rfl
  · exact .val _
  · exact cF _
  · exact .val _
theorem bU (g:ay):∀ v∈aw g,Tree v:=by
  intro v hv; simp[aw] at hv; rcases hv with rfl | rfl | rfl | rfl
  · exact cL _ _ fun x _=>DS x
  · exact DK _
  · exact cL _ _ fun x _=>tP x
  · exact .val _
def bJ (x:Int):Prop:=-9223372036854775808≤x∧x≤9223372036854775807
structure ay.Ok (g:ay):Prop where
  ax:aL g.ax
  aA:aL g.aA
  rules:aL g.rules
  start:bJ g.start
  term:∀ t∈g.ax,bJ t.level∧bJ t.assoc
  aP:∀ r∈g.rules,bJ r.left∧bJ r.prec∧aL r.right∧∀ x∈r.right,bJ x
def lh (g:ay) (s:Int):Bool:=if 0≤s then decide (s < g.ax.length) else decide (-1 - s < g.aA.length)
def rp:SF:=⟨.seq (ak [bW 2 0,aZ 4 false]) <|
  .seq (.seq (ak [aa 5 1,az 6 .geq 5 0]) <|
  .cond (.tmp 6) (.seq (ak [aa 7 1,au 8 0 2,ao 9 8,aM 10 9,aR 11 .lss 7 10,aa 4 11]) <|
  .ret) (.skip)) <|
  .seq (ak [aa 12 1,((some 13),.op (.arith .sub (.val (.val (.int .i64 (-1)))) (.tmp 12))),au 14 1 2,ao 15 14,aM 16 15,aR 17 .lss 13 16,aa 4 17]) <|
  .ret,
  [.tmp 4],18⟩
theorem wC:aY Tryz.prog 172 [2]=some rp:=by kernel_rfl
theorem RA (g:ay) (s:Int) (hs:bJ s) (H:View):aC Tryz.prog 172 [.agg (aw g),gi s] H fun r H'=>r=gb (lh g s)∧H'=H:=by
  refine aC.of mixed wC ?_
  obtain ⟨h1,h2⟩:=hs
  simp (disch:=omega) only [↓wr,↓reduceIte,wq,ah,ag,Nat.reduceEqDiff,Nat.reduceAdd,Nat.reduceLeDiff,Int.reduceNeg,rp,aw,encS]
  refine av.dec (fun h=>?_) (fun h=>?_)
  · simp (disch:=omega) only [↓wr,↓reduceIte,wq,ag,aj,Nat.reduceEqDiff,Nat.reduceAdd,Nat.reduceLT,Int.reduceNeg,reduceCtorEq]
    simp[lh,show (0:Int)≤s from h]
  · simp (disch:=omega) only [↓wr,↓reduceIte,wq,ag,aj,Nat.reduceEqDiff,Nat.reduceAdd,Nat.reduceLT,Int.reduceNeg,reduceCtorEq]
    simp[lh,show ¬ (0:Int)≤s from h]
theorem Nd (g:ay) (s:Int) (hs:bJ s):aD Tryz.prog 172 [.agg (aw g),gi s] (gb (lh g s)) :=
  aD.of (by
    intro v hv; simp at hv
    rcases hv with rfl | rfl
    · exact bL _ (bU g)
    · exact .val _) ((RA g s hs _).mono fun r H' h h' _=>by rw[h.1]; exact .tree _ (.val _))
def np (g:ay):Bool:=decide (40 < g.ax.length) || decide (40 < g.aA.length) || decide (60 < g.rules.length) || g.rules.any fun r=>decide (20 < r.right.length)
def mC:SC :=
  .seq (.seq (ak [aa 20 3,au 21 2 1,ao 22 21,aM 23 22,aR 24 .lss 20 23]) <|
  .cond (.tmp 24) (.skip) (.exit 0)) <|
  .seq (.block 1 (.seq (ak [au 27 2 1,ao 28 27,aa 29 3,aS 30 3 28 29,au 31 1 30,ao 32 31,aM 33 32,az 34 .gtr 33 20]) <|
  .cond (.tmp 34) (.seq (ak [aZ 2 true]) <|
  .ret) (.skip))) <|
  ak [aa 25 3,az 26 .add 25 1,aa 3 26]
def od:SF:=⟨.seq (ak [bW 1 0,aZ 2 false]) <|
  .seq (.seq (.region false [⟨none,[au 4 0 1,ao 5 4,aM 6 5,az 7 .gtr 6 40,aa 8 7]⟩,⟨(some (8,false)),[au 9 1 1,ao 10 9,aM 11 10,az 12 .gtr 11 40]⟩,⟨none,[bB 13 8 12,aa 14 13]⟩,⟨(some (14,false)),[au 15 2 1,ao 16 15,aM 17 16,az 18 .gtr 17 60]⟩,⟨none,[bB 19 14 18]⟩]) <|
  .cond (.tmp 19) (.seq (ak [aZ 2 true]) <|
  .ret) (.skip)) <|
  .seq (.seq (ak [aI 3 0]) <|
  .block 0 (.loop mC)) <|
  .seq (ak [aZ 2 false]) <|
  .ret,
  [.tmp 2],35⟩
theorem uj:aY Tryz.prog 16 [1]=some od:=by kernel_rfl
theorem Oc (g:ay) (H:View):aC Tryz.prog 16 [.agg (aw g)] H fun r H'=>r=gb (np g)∧H'=H:=by
  refine aC.of mixed uj ?_
  simp (disch:=omega) only [↓wr,↓reduceIte,wq,ah,ag,aj,Nat.reduceEqDiff,Nat.reduceAdd,Nat.reduceLT,Nat.reduceLeDiff,od,aw,encS]
  refine av.dec (fun h1=>?_) (fun h1=>?_)
  · simp (disch:=omega) only [↓wr,↓reduceIte,wq,Nat.reduceEqDiff,reduceCtorEq]
    simp[np,show 40 < g.ax.length by omega]
  · simp (disch:=omega) only [↓wr,↓reduceIte,wq,ag,aj,Nat.reduceEqDiff,Nat.reduceAdd,Nat.reduceLT]
    refine av.dec (fun h2=>?_) (fun h2=>?_)
    · simp (disch:=omega) only [↓wr,↓reduceIte,wq,Nat.reduceEqDiff,reduceCtorEq]
      simp[np,show 40 < g.aA.length by omega]
    · simp (disch:=omega) only [↓wr,↓reduceIte,wq,ag,aj,Nat.reduceEqDiff,Nat.reduceAdd,Nat.reduceLT]
      refine av.dec (fun h3=>?_) (fun h3=>?_)
      · simp (disch:=omega) only [↓wr,↓reduceIte,wq,reduceCtorEq]
        simp[np,show 60 < g.rules.length by omega]
      · simp (disch:=omega) only [↓wr,wq]
        refine ba.intro (fun k T H'=>∃ i:Nat,i+k=g.rules.length∧(∀ r∈g.rules.take i,¬ 20 < r.right.length)∧T 1=.aT (aw g) 0∧T 3=gi i∧H'=H) g.rules.length ?_ ?_
        · exact ⟨0,by omega,by simp,rfl,rfl,rfl⟩
        · rintro k T H' ⟨i,hk,hi,e1,e3,rfl⟩
          simp (disch:=omega) only [↓wr,↓reduceIte,wq,ag,aj,Nat.reduceEqDiff,Nat.reduceAdd,Nat.reduceLT,reduceCtorEq,mC,e1,e3,aw]
          refine av.dec (fun hc=>?_) (fun hc=>?_)
          · have hg:g.rules[i]?=some (g.rules[i]'(by omega)):=List.getElem?_eq_getElem (by omega)
            simp (disch:=omega) only [↓wr,↓reduceIte,wq,ag,aj,Nat.reduceEqDiff,Nat.reduceAdd,Nat.reduceLT,e1,e3,aw,bP,encI,List.getElem?_map,hg]
            refine av.dec (fun hd=>?_) (fun hd=>?_)
            · simp (disch:=omega) only [↓wr,↓reduceIte,wq,ag,Nat.reduceEqDiff,reduceCtorEq]
              have:g.rules.any (fun r=>decide (20 < r.right.length))=true:=by
                simp only[List.any_eq_true,decide_eq_true_eq]
                exact ⟨g.rules[i]'(by omega),List.getElem_mem _,by omega⟩
              simp[np,this]
            · simp (disch:=omega) only [↓wr,↓reduceIte,wq,ag,Nat.reduceEqDiff,reduceCtorEq,e1,e3]
              refine ⟨k - 1,by omega,i+1,by omega,?_,rfl,rfl⟩
              intro r hr
              rw[List.take_add_one,hg] at hr
              simp only[Option.toList_some,List.mem_append,List.mem_singleton] at hr
              rcases hr with hr | rfl
              · exact hi r hr
              · omega
          · simp (disch:=omega) only [↓wr,↓reduceIte,wq,Nat.reduceEqDiff,reduceCtorEq]
            have e:i=g.rules.length:=by omega
            rw[List.take_of_length_le (by omega)] at hi
            have:g.rules.any (fun r=>decide (20 < r.right.length))=false:=by
              simp only[List.any_eq_false,decide_eq_true_eq]; exact hi
            simp only[np,this]
            simp; omega
def nz (l:List Int) (is:List Bool) (ax:Bool):Bool:=l.all fun s=>if 0≤s then ax else is.getD (-1 - s).toNat false
def oz:SC :=
  .seq (.seq (ak [aa 8 7,aa 9 0,aM 10 9,aR 11 .lss 8 10]) <|
  .cond (.tmp 11) (.skip) (.exit 0)) <|
  .seq (.block 1 (.seq (.region false [⟨none,[aa 14 0,aa 15 7,aS 16 1 14 15,ao 17 16,az 18 .geq 17 0,aa 19 18]⟩,⟨(some (19,true)),[aa 20 2,bX 21 20]⟩,⟨none,[bF 22 19 21,aa 23 22]⟩,⟨(some (23,false)),[aa 24 0,aa 25 7,aS 26 1 24 25,ao 27 26,az 28 .lss 27 0,aa 29 28]⟩,⟨(some (29,true)),[aa 30 1,aa 31 0,aa 32 7,aS 33 1 31 32,ao 34 33,((some 35),.op (.arith .sub (.val (.val (.int .i64 (-1)))) (.tmp 34))),aS 36 1 30 35,ao 37 36,bX 38 37]⟩,⟨(some (23,false)),[bF 39 29 38]⟩,⟨none,[bB 40 23 39]⟩]) <|
  .cond (.tmp 40) (.seq (ak [aZ 6 false]) <|
  .ret) (.skip))) <|
  ak [aa 12 7,az 13 .add 12 1,aa 7 13]
def rm:SF:=⟨.seq (ak [aZ 6 false]) <|
  .seq (.seq (ak [aI 7 0]) <|
  .block 0 (.loop oz)) <|
  .seq (ak [aZ 6 true]) <|
  .ret,
  [.tmp 6],41⟩
theorem wU:aY Tryz.prog 128 []=some rm:=by kernel_rfl
theorem Rm (l:List Int) (is:List Bool) (t:Bool) (hl:aL l) (hs:∀ s∈l,bJ s∧(s < 0→-1 - s < is.length)) (H:View) :
    aC Tryz.prog 128 [encI l,dI is,gb t] H fun r H'=>r=gb (nz l is t)∧H'=H:=by
  refine aC.of mixed wU ?_
  unfold aL at hl
  simp (disch:=omega) only [↓wr,wq,ah,Nat.reduceAdd,Nat.reduceLeDiff,rm]
  refine ba.intro (fun k T H'=>∃ i:Nat,i+k=l.length∧nz (l.take i) is t=true∧T 0=encI l∧T 1=dI is∧T 2=gb t∧T 7=gi i∧H'=H) l.length ?_ ?_
  · exact ⟨0,by omega,by simp[nz],rfl,rfl,rfl,rfl,rfl⟩
  · rintro k T H' ⟨i,hk,hi,h0,h1,h2,h7,rfl⟩
    simp (disch:=omega) only [↓wr,↓reduceIte,wq,ag,aj,Nat.reduceEqDiff,Int.reduceNeg,reduceCtorEq,oz,h0,h7,encI]
    refine av.dec (fun hc=>?_) (fun hc=>?_)
    · have hg:l[i]?=some (l[i]'(by omega)):=List.getElem?_eq_getElem (by omega)
      have hm:l[i]'(by omega)∈l:=List.getElem_mem _
      generalize l[i]'(by omega)=s at hg hm
      obtain ⟨⟨hs1,hs2⟩,hs3⟩:=hs s hm
      have hstep:nz (l.take (i+1)) is t=(if 0≤s then t else is.getD (-1 - s).toNat false):=by
        rw[List.take_add_one,hg]
        simp only[nz,Option.toList_some,List.all_append,List.all_cons,List.all_nil,Bool.and_true] at hi ⊢
        rw[hi,Bool.true_and]
      have hfail:(if 0≤s then t else is.getD (-1 - s).toNat false)=false→nz l is t=false:=by
        intro hb
        simp only[nz,List.all_eq_false]
        exact ⟨s,hm,by simpa using hb⟩
      simp (disch:=omega) only [↓wr,↓reduceIte,wq,ag,Nat.reduceEqDiff,Nat.reduceLT,Int.reduceNeg,reduceCtorEq,h0,h7,encI,List.getElem?_map,hg]
      refine av.dec (fun hd=>?_) (fun hd=>?_)
      · rw[if_pos (show 0≤s from hd)] at hstep hfail
        cases t with
        | true =>
          simp (disch:=omega) only [↓wr,↓reduceIte,wq,ag,Nat.reduceEqDiff,Nat.reduceLT,Int.reduceNeg,reduceCtorEq,h0,h2,h7,encI,List.getElem?_map,hg]
          refine av.dec (fun hn=>absurd hn (by omega)) (fun _=>?_)
          simp (disch:=omega) only [↓wr,↓reduceIte,wq,ag,Nat.reduceEqDiff,Int.reduceNeg,reduceCtorEq,h0,h1,h2,h7,encI,dI]
          exact ⟨k - 1,by omega,i+1,by omega,hstep,rfl⟩
        | false =>
          simp (disch:=omega) only [↓wr,↓reduceIte,wq,ag,Nat.reduceEqDiff,Int.reduceNeg,reduceCtorEq,h0,h1,h2,h7,encI]
          rw[hfail rfl]
      · rw[if_neg (show ¬ 0≤s from hd)] at hstep hfail
        simp (disch:=omega) only [↓wr,↓reduceIte,wq,ag,Nat.reduceEqDiff,Nat.reduceLT,Int.reduceNeg,reduceCtorEq,h0,h7,encI,List.getElem?_map,hg]
        refine av.dec (fun hn=>?_) (fun hn=>absurd hn (by omega))
        have hb:is[(-1 - s).toNat]?=some (is[(-1 - s).toNat]'(by omega)):=List.getElem?_eq_getElem (by omega)
        have hbd:is.getD (-1 - s).toNat false=is[(-1 - s).toNat]'(by omega):=by simp[List.getD_eq_getElem?_getD,hb]
        rw[hbd] at hstep hfail
        generalize is[(-1 - s).toNat]'(by omega)=b at hb hstep hfail
        simp (disch:=omega) only [↓wr,↓reduceIte,wq,ag,Nat.reduceEqDiff,Nat.reduceLT,Int.reduceNeg,reduceCtorEq,h0,h1,h7,encI,dI,List.getElem?_map,hg,hb]
        cases b with
        | true =>
          simp (disch:=omega) only [↓wr,↓reduceIte,wq,ag,Nat.reduceEqDiff,Int.reduceNeg,reduceCtorEq,h0,h1,h2,h7,encI,dI]
          exact ⟨k - 1,by omega,i+1,by omega,hstep,rfl⟩
        | false =>
          simp (disch:=omega) only [↓wr,↓reduceIte,wq,ag,Nat.reduceEqDiff,Int.reduceNeg,reduceCtorEq,h0,h1,h2,h7,encI,dI]
          rw[hfail rfl]
    · simp (disch:=omega) only [↓wr,↓reduceIte,wq,Nat.reduceEqDiff,reduceCtorEq]
      have e:i=l.length:=by omega
      rw[List.take_of_length_le (by omega)] at hi
      rw[hi]
abbrev gy (x:Int):V:=.val (.int .u8 x)
def vi (c:Int):Bool:=(decide (97≤c) && decide (c≤122)) || (decide (65≤c) && decide (c≤90)) || c == 95
def nN (c:Int):Bool:=vi c || (decide (48≤c) && decide (c≤57)) || c == 46
def oc:SF:=⟨.seq (ak [aZ 2 false]) <|
  .seq (.region false [⟨none,[aa 3 0,((some 4),.op (.arith .geq (.tmp 3) (.val (.val (.int .u8 97))))),aa 5 4]⟩,⟨(some (5,true)),[aa 6 0,((some 7),.op (.arith .leq (.tmp 6) (.val (.val (.int .u8 122)))))]⟩,⟨none,[bF 8 5 7,aa 9 8]⟩,⟨(some (9,false)),[aa 10 0,((some 11),.op (.arith .geq (.tmp 10) (.val (.val (.int .u8 65))))),aa 12 11]⟩,⟨(some (12,true)),[aa 13 0,((some 14),.op (.arith .leq (.tmp 13) (.val (.val (.int .u8 90)))))]⟩,⟨(some (9,false)),[bF 15 12 14]⟩,⟨none,[bB 16 9 15,aa 17 16]⟩,⟨(some (17,false)),[aa 18 0,((some 19),.op (.arith .eql (.tmp 18) (.val (.val (.int .u8 95)))))]⟩,⟨none,[bB 20 17 19,aa 2 20]⟩]) <|
  .ret,
  [.tmp 2],21⟩
theorem uA:aY Tryz.prog 218 []=some oc:=by kernel_rfl
def om:SF:=⟨.seq (ak [aZ 2 false]) <|
  .seq (.region false [⟨none,[aa 3 0,aQ 4 218 [3],aa 5 4]⟩,⟨(some (5,false)),[aa 6 0,((some 7),.op (.arith .geq (.tmp 6) (.val (.val (.int .u8 48))))),aa 8 7]⟩,⟨(some (8,true)),[aa 9 0,((some 10),.op (.arith .leq (.tmp 9) (.val (.val (.int .u8 57)))))]⟩,⟨(some (5,false)),[bF 11 8 10]⟩,⟨none,[bB 12 5 11,aa 13 12]⟩,⟨(some (13,false)),[aa 14 0,((some 15),.op (.arith .eql (.tmp 14) (.val (.val (.int .u8 46)))))]⟩,⟨none,[bB 16 13 15,aa 2 16]⟩]) <|
  .ret,
  [.tmp 2],17⟩
theorem uq:aY Tryz.prog 219 []=some om:=by kernel_rfl
theorem N1 (c:Int) (H:View):aC Tryz.prog 218 [gy c] H fun r H'=>r=gb (vi c)∧H'=H:=by
  refine aC.of mixed uA ?_
  repeat' (first | (refine av.dec (fun _=>?_) (fun _=>?_)) | (refine av.eq (fun _=>?_) (fun _=>?_)) | (refine av.ne (fun _=>?_) (fun _=>?_)) | (refine av.split (fun _=>?_) (fun _=>?_)) | (simp (disch:=omega) only [↓wr,↓reduceIte,wq,ah,ag,Nat.reduceEqDiff,Nat.reduceLeDiff,reduceCtorEq,oc]))
  all_goals (congr 2; simp only[vi]; grind)
theorem Gf (c:Int):aD Tryz.prog 218 [gy c] (gb (vi c)) :=
  aD.of (by intro v hv; simp at hv; subst hv; exact .val _) ((N1 c _).mono fun r H' h h' _=>by rw[h.1]; exact .tree _ (.val _))
theorem OH (c:Int) (H:View):aC Tryz.prog 219 [gy c] H fun r H'=>r=gb (nN c)∧H'=H:=by
  refine aC.of mixed uq ?_
  repeat' (first | (refine av.dec (fun _=>?_) (fun _=>?_)) | (refine av.eq (fun _=>?_) (fun _=>?_)) | (refine av.ne (fun _=>?_) (fun _=>?_)) | (refine av.split (fun _=>?_) (fun _=>?_)) | (simp (disch:=omega) only [↓wr,↓reduceIte,wq,ah,Nat.reduceLeDiff,reduceCtorEq,om]))
  refine aE.pure (Gf c) (by kernel_rfl) ?_
  repeat' (first | (refine av.dec (fun _=>?_) (fun _=>?_)) | (refine av.eq (fun _=>?_) (fun _=>?_)) | (refine av.ne (fun _=>?_) (fun _=>?_)) | (refine av.split (fun _=>?_) (fun _=>?_)) | (simp (disch:=omega) only [↓wr,↓reduceIte,wq,ag,Nat.reduceEqDiff,reduceCtorEq]))
  all_goals (congr 2; simp only[nN]; grind)
theorem NY (c:Int):aD Tryz.prog 219 [gy c] (gb (nN c)) :=
  aD.of (by intro v hv; simp at hv; subst hv; exact .val _) ((OH c _).mono fun r H' h h' _=>by rw[h.1]; exact .tree _ (.val _))
def gg (l:List Int):Bool:=decide (0 < l.length) && decide (l.length≤20) && (match l with | c :: _=>vi c | []=>false) && l.all nN
def mY:SC :=
  .seq (.seq (ak [aa 18 3,aa 19 0,((some 20),.op (.ik (.tmp 19))),aR 21 .lss 18 20]) <|
  .cond (.tmp 21) (.skip) (.exit 0)) <|
  .seq (.block 1 (.seq (ak [aa 24 0,aa 25 3,((some 26),.op (.dB (.tmp 24) (.tmp 25))),aQ 27 219 [26],bX 28 27]) <|
  .cond (.tmp 28) (.seq (ak [aZ 2 false]) <|
  .ret) (.skip))) <|
  ak [aa 22 3,az 23 .add 22 1,aa 3 23]
def qC:SF:=⟨.seq (ak [aZ 2 false]) <|
  .seq (.seq (.region false [⟨none,[aa 4 0,((some 5),.op (.ik (.tmp 4))),az 6 .eql 5 0,aa 7 6]⟩,⟨(some (7,false)),[aa 8 0,((some 9),.op (.ik (.tmp 8))),az 10 .gtr 9 20]⟩,⟨none,[bB 11 7 10,aa 12 11]⟩,⟨(some (12,false)),[aa 13 0,((some 14),.op (.dB (.tmp 13) (.val (.val (.int .i64 0))))),aQ 15 218 [14],bX 16 15]⟩,⟨none,[bB 17 12 16]⟩]) <|
  .cond (.tmp 17) (.seq (ak [aZ 2 false]) <|
  .ret) (.skip)) <|
  .seq (.seq (ak [aI 3 0]) <|
  .block 0 (.loop mY)) <|
  .seq (ak [aZ 2 true]) <|
  .ret,
  [.tmp 2],29⟩
theorem uY:aY Tryz.prog 171 []=some qC:=by kernel_rfl
theorem LN (s:ByteArray) (H:View):aC Tryz.prog 171 [gs s] H fun r H'=>r=gb (gg (eS s))∧H'=H:=by
  refine aC.of mixed uY ?_
  repeat' (first | (refine av.dec (fun _=>?_) (fun _=>?_)) | (refine av.eq (fun _=>?_) (fun _=>?_)) | (refine av.ne (fun _=>?_) (fun _=>?_)) | (refine av.split (fun _=>?_) (fun _=>?_)) | (simp (disch:=omega) only [↓wr,↓reduceIte,wq,ah,ag,aj,Nat.reduceEqDiff,Nat.reduceLeDiff,Int.reduceToNat,reduceCtorEq,qC,dQ]))
  · rename_i h
    congr 2; simp[gg,show (eS s).length=0 by omega]
  · rename_i h
    congr 2; simp[gg,show ¬ (eS s).length≤20 by omega]
  · rename_i h1 h2
    cases hb:eS s with
    | nil=>simp[hb] at h1
    | cons c l =>
      repeat' (first | (refine av.dec (fun _=>?_) (fun _=>?_)) | (refine av.eq (fun _=>?_) (fun _=>?_)) | (refine av.ne (fun _=>?_) (fun _=>?_)) | (refine av.split (fun _=>?_) (fun _=>?_)) | (simp (disch:=omega) only [↓wr,↓reduceIte,wq,List.getElem?_cons_zero]))
      refine aE.pure (Gf c) (by kernel_rfl) ?_
      repeat' (first | (refine av.dec (fun _=>?_) (fun _=>?_)) | (refine av.eq (fun _=>?_) (fun _=>?_)) | (refine av.ne (fun _=>?_) (fun _=>?_)) | (refine av.split (fun _=>?_) (fun _=>?_)) | (simp (disch:=omega) only [↓wr,↓reduceIte,wq,Nat.reduceEqDiff,reduceCtorEq]))
      · rename_i hf
        refine ba.intro (fun k T H'=>∃ i:Nat,i+k=(c :: l).length∧((c :: l).take i).all nN=true∧T 0=gs s∧T 3=gi i∧H'=H) (c :: l).length ?_ ?_
        · exact ⟨0,by omega,by simp,rfl,rfl,rfl⟩
        · rintro k T H' ⟨i,hk,hi,h0,h3,rfl⟩
          rw[hb] at h1 h2
          simp (disch:=omega) only [↓wr,↓reduceIte,wq,ag,aj,Nat.reduceEqDiff,reduceCtorEq,mY,h0,h3,dQ,hb]
          refine av.dec (fun hc=>?_) (fun hc=>?_)
          · simp only[List.length_cons] at hc hk h2
            have hg:(c :: l)[i]?=some ((c :: l)[i]'(by simp; omega)):=List.getElem?_eq_getElem (by simp; omega)
            have hm:(c :: l)[i]'(by simp; omega)∈c :: l:=List.getElem_mem _
            generalize (c :: l)[i]'(by simp; omega)=d at hg hm
            simp (disch:=omega) only [↓wr,↓reduceIte,wq,Nat.reduceEqDiff,reduceCtorEq,h0,h3,hb,hg]
            refine aE.pure (NY d) (by kernel_rfl) ?_
            repeat' (first | (refine av.dec (fun _=>?_) (fun _=>?_)) | (refine av.eq (fun _=>?_) (fun _=>?_)) | (refine av.ne (fun _=>?_) (fun _=>?_)) | (refine av.split (fun _=>?_) (fun _=>?_)) | (simp (disch:=omega) only [↓wr,↓reduceIte,wq,ag,Nat.reduceEqDiff,reduceCtorEq,h0,h3]))
            · rename_i hd
              refine ⟨k - 1,by omega,i+1,by omega,?_,rfl⟩
              rw[List.take_add_one,hg]
              simp only[Option.toList_some,List.all_append,hi,List.all_cons,hd,List.all_nil,Bool.and_self]
            · rename_i hd
              congr 2
              have:(c :: l).all nN=false:=by
                rw[List.all_eq_false]; exact ⟨d,hm,by simp[hd]⟩
              simp only[gg,this,Bool.and_false]
          · simp (disch:=omega) only [↓wr,↓reduceIte,wq,Nat.reduceEqDiff,reduceCtorEq]
            simp only[List.length_cons] at hc hk h2
            rw[List.take_of_length_le (by simp; omega)] at hi
            congr 2
            simp only[gg,hi,List.length_cons]
            simp[hf]; omega
      · rename_i hf
        congr 2; simp[gg,hf]
def lR:List Int→Bool
  | [a,b,c]=>a == 39 && c == 39 && decide (32≤b) && decide (b≤126) && b != 39 && b != 92
  | [a,b,c,d]=>a == 39 && d == 39 && b == 92 && (c == 110 || c == 116 || c == 92 || c == 39)
  | _=>false
theorem Oe {l:List Int} (h3:l.length≠3) (h4:l.length≠4):lR l=false:=by
  match l,h3,h4 with
  | [],_,_=>rfl
  | [_],_,_=>rfl
  | [_,_],_,_=>rfl
  | [_,_,_],h3,_=>exact absurd rfl h3
  | [_,_,_,_],_,h4=>exact absurd rfl h4
  | _ :: _ :: _ :: _ :: _ :: _,_,_=>rfl
theorem Sp {α:Type} {l:List α} (h:l.length=3):∃ a b c,l=[a,b,c]:=by
  match l,h with
  | [a,b,c],_=>exact ⟨a,b,c,rfl⟩
theorem Sz {α:Type} {l:List α} (h:l.length=4):∃ a b c d,l=[a,b,c,d]:=by
  match l,h with
  | [a,b,c,d],_=>exact ⟨a,b,c,d,rfl⟩
def mL:SF:=⟨.seq (ak [aZ 2 false]) <|
  .seq (.seq (ak [aa 3 0,((some 4),.op (.ik (.tmp 3))),az 5 .eql 4 3]) <|
  .cond (.tmp 5) (.seq (.region false [⟨none,[aa 6 0,((some 7),.op (.dB (.tmp 6) (.val (.val (.int .i64 0))))),((some 8),.op (.arith .eql (.tmp 7) (.val (.val (.int .u8 39))))),aa 9 8]⟩,⟨(some (9,true)),[aa 10 0,((some 11),.op (.dB (.tmp 10) (.val (.val (.int .i64 2))))),((some 12),.op (.arith .eql (.tmp 11) (.val (.val (.int .u8 39)))))]⟩,⟨none,[bF 13 9 12,aa 14 13]⟩,⟨(some (14,true)),[aa 15 0,((some 16),.op (.dB (.tmp 15) (.val (.val (.int .i64 1))))),((some 17),.op (.arith .geq (.tmp 16) (.val (.val (.int .u8 32)))))]⟩,⟨none,[bF 18 14 17,aa 19 18]⟩,⟨(some (19,true)),[aa 20 0,((some 21),.op (.dB (.tmp 20) (.val (.val (.int .i64 1))))),((some 22),.op (.arith .leq (.tmp 21) (.val (.val (.int .u8 126)))))]⟩,⟨none,[bF 23 19 22,aa 24 23]⟩,⟨(some (24,true)),[aa 25 0,((some 26),.op (.dB (.tmp 25) (.val (.val (.int .i64 1))))),((some 27),.op (.arith .neq (.tmp 26) (.val (.val (.int .u8 39)))))]⟩,⟨none,[bF 28 24 27,aa 29 28]⟩,⟨(some (29,true)),[aa 30 0,((some 31),.op (.dB (.tmp 30) (.val (.val (.int .i64 1))))),((some 32),.op (.arith .neq (.tmp 31) (.val (.val (.int .u8 92)))))]⟩,⟨none,[bF 33 29 32,aa 2 33]⟩]) <|
  .ret) (.skip)) <|
  .seq (.region false [⟨none,[aa 34 0,((some 35),.op (.ik (.tmp 34))),az 36 .eql 35 4,aa 37 36]⟩,⟨(some (37,true)),[aa 38 0,((some 39),.op (.dB (.tmp 38) (.val (.val (.int .i64 0))))),((some 40),.op (.arith .eql (.tmp 39) (.val (.val (.int .u8 39)))))]⟩,⟨none,[bF 41 37 40,aa 42 41]⟩,⟨(some (42,true)),[aa 43 0,((some 44),.op (.dB (.tmp 43) (.val (.val (.int .i64 3))))),((some 45),.op (.arith .eql (.tmp 44) (.val (.val (.int .u8 39)))))]⟩,⟨none,[bF 46 42 45,aa 47 46]⟩,⟨(some (47,true)),[aa 48 0,((some 49),.op (.dB (.tmp 48) (.val (.val (.int .i64 1))))),((some 50),.op (.arith .eql (.tmp 49) (.val (.val (.int .u8 92)))))]⟩,⟨none,[bF 51 47 50,aa 52 51]⟩,⟨(some (52,true)),[aa 53 0,((some 54),.op (.dB (.tmp 53) (.val (.val (.int .i64 2))))),((some 55),.op (.arith .eql (.tmp 54) (.val (.val (.int .u8 110))))),aa 56 55]⟩,⟨(some (56,false)),[aa 57 0,((some 58),.op (.dB (.tmp 57) (.val (.val (.int .i64 2))))),((some 59),.op (.arith .eql (.tmp 58) (.val (.val (.int .u8 116)))))]⟩,⟨(some (52,true)),[bB 60 56 59,aa 61 60]⟩,⟨(some (61,false)),[aa 62 0,((some 63),.op (.dB (.tmp 62) (.val (.val (.int .i64 2))))),((some 64),.op (.arith .eql (.tmp 63) (.val (.val (.int .u8 92)))))]⟩,⟨(some (52,true)),[bB 65 61 64,aa 66 65]⟩,⟨(some (66,false)),[aa 67 0,((some 68),.op (.dB (.tmp 67) (.val (.val (.int .i64 2))))),((some 69),.op (.arith .eql (.tmp 68) (.val (.val (.int .u8 39)))))]⟩,⟨(some (52,true)),[bB 70 66 69]⟩,⟨none,[bF 71 52 70,aa 2 71]⟩]) <|
  .ret,
  [.tmp 2],72⟩
theorem sM:aY Tryz.prog 217 []=some mL:=by kernel_rfl
def ov:SF:=⟨.seq (ak [aZ 2 false]) <|
  .seq (.region false [⟨none,[aa 3 0,aQ 4 171 [3],aa 5 4]⟩,⟨(some (5,false)),[aa 6 0,aQ 7 217 [6]]⟩,⟨none,[bB 8 5 7,aa 2 8]⟩]) <|
  .ret,
  [.tmp 2],9⟩
theorem ud:aY Tryz.prog 168 []=some ov:=by kernel_rfl
set_option maxHeartbeats 1000000 in
theorem Ox (s:ByteArray) (H:View):aC Tryz.prog 217 [gs s] H fun r H'=>r=gb (lR (eS s))∧H'=H:=by
  refine aC.of mixed sM ?_
  simp (disch:=omega) only [↓wr,↓reduceIte,wq,ah,ag,aj,Nat.reduceLeDiff,reduceCtorEq,mL,dQ]
  refine av.eq (fun h=>?_) (fun h=>?_)
  · obtain ⟨a,b,c,hb⟩:=Sp (l:=eS s) (by omega)
    repeat' (first | (refine av.dec (fun _=>?_) (fun _=>?_)) | (refine av.eq (fun _=>?_) (fun _=>?_)) | (refine av.ne (fun _=>?_) (fun _=>?_)) | (refine av.split (fun _=>?_) (fun _=>?_)) | (simp (disch:=omega) only [↓wr,↓reduceIte,wq,ag,Nat.reduceEqDiff,Int.reduceToNat,reduceCtorEq,hb,List.getElem?_cons_zero,List.getElem?_cons_succ]))
    all_goals (congr 2; simp only[lR]; grind)
  · simp (disch:=omega) only [↓wr,↓reduceIte,wq,ag,aj,reduceCtorEq,dQ]
    refine av.eq (fun h4=>?_) (fun h4=>?_)
    · obtain ⟨a,b,c,d,hb⟩:=Sz (l:=eS s) (by omega)
      repeat' (first | (refine av.dec (fun _=>?_) (fun _=>?_)) | (refine av.eq (fun _=>?_) (fun _=>?_)) | (refine av.ne (fun _=>?_) (fun _=>?_)) | (refine av.split (fun _=>?_) (fun _=>?_)) | (simp (disch:=omega) only [↓wr,↓reduceIte,wq,ag,Nat.reduceEqDiff,Int.reduceToNat,reduceCtorEq,hb,List.getElem?_cons_zero,List.getElem?_cons_succ]))
      all_goals (congr 2; simp only[lR]; grind)
    · repeat' (first | (refine av.dec (fun _=>?_) (fun _=>?_)) | (refine av.eq (fun _=>?_) (fun _=>?_)) | (refine av.ne (fun _=>?_) (fun _=>?_)) | (refine av.split (fun _=>?_) (fun _=>?_)) | (simp (disch:=omega) only [↓wr,↓reduceIte,wq,Nat.reduceEqDiff,reduceCtorEq]))
      rw[Oe (by omega) (by omega)]
theorem pq (s:ByteArray):∀ v∈[gs s],Tree v:=by intro v hv; simp at hv; subst hv; exact .val _
theorem EO (s:ByteArray):aD Tryz.prog 171 [gs s] (gb (gg (eS s))) :=
  aD.of (pq s) ((LN s _).mono fun r H' h h' _=>by rw[h.1]; exact .tree _ (.val _))
theorem Pq (s:ByteArray):aD Tryz.prog 217 [gs s] (gb (lR (eS s))) :=
  aD.of (pq s) ((Ox s _).mono fun r H' h h' _=>by rw[h.1]; exact .tree _ (.val _))
def qq (l:List Int):Bool:=gg l || lR l
theorem Kb (s:ByteArray) (H:View):aC Tryz.prog 168 [gs s] H fun r H'=>r=gb (qq (eS s))∧H'=H:=by
  refine aC.of mixed ud ?_
  simp (disch:=omega) only [↓wr,↓reduceIte,wq,ah,Nat.reduceLeDiff,reduceCtorEq,ov]
  refine aE.pure (EO s) (by kernel_rfl) ?_
  repeat' (first | (refine av.dec (fun _=>?_) (fun _=>?_)) | (refine av.eq (fun _=>?_) (fun _=>?_)) | (refine av.ne (fun _=>?_) (fun _=>?_)) | (refine av.split (fun _=>?_) (fun _=>?_)) | (simp (disch:=omega) only [↓wr,↓reduceIte,wq,Nat.reduceEqDiff,reduceCtorEq]))
  · rename_i h; simp[qq,h]
  · rename_i h
    refine aE.pure (Pq s) (by kernel_rfl) ?_
    repeat' (first | (refine av.dec (fun _=>?_) (fun _=>?_)) | (refine av.eq (fun _=>?_) (fun _=>?_)) | (refine av.ne (fun _=>?_) (fun _=>?_)) | (refine av.split (fun _=>?_) (fun _=>?_)) | (simp (disch:=omega) only [↓wr,↓reduceIte,wq,Nat.reduceEqDiff,reduceCtorEq]))
    simp[qq,h]
theorem Ld (s:ByteArray):aD Tryz.prog 168 [gs s] (gb (qq (eS s))) :=
  aD.of (pq s) ((Kb s _).mono fun r H' h h' _=>by rw[h.1]; exact .tree _ (.val _))
def nF (s:ByteArray):List ByteArray→Int→Int
  | [],_=>-1
  | x :: l,i=>if hU x s=true then i else nF s l (i+1)
def rN (g:ay) (s:ByteArray):Int:=nF s (g.ax.map Term.name) 0
def CX (g:ay) (s:ByteArray):Int:=nF s g.aA 0
theorem dJ {α:Type} {l:List α} {i:Nat} (h:i < l.length):l.drop i=l[i] :: l.drop (i+1):=List.drop_eq_getElem_cons h
theorem Hj (g:ay) (s:ByteArray):∀ v∈[V.agg (aw g),gs s],Tree v:=by
  intro v hv; simp at hv
  rcases hv with rfl | rfl
  · exact bL _ (bU g)
  · exact .val _
theorem fY (g:ay):∀ v∈[V.agg (aw g)],Tree v:=by intro v hv; simp at hv; subst hv; exact bL _ (bU g)
theorem Gg (g:ay) (x:Int):∀ v∈[V.agg (aw g),gi x],Tree v:=by
  intro v hv; simp at hv
  rcases hv with rfl | rfl
  · exact bL _ (bU g)
  · exact .val _
theorem aD.val {P:Program} {f:FuncId} {vs:List V} {x:Value} (ht:∀ v∈vs,Tree v) (h:∀ H,aC P f vs H fun r _=>r=.val x):aD P f vs (.val x) :=
  aD.of ht ((h _).mono fun r H' e h' _=>by rw[e]; exact .tree _ (.val _))
def m4:SC :=
  .seq (.seq (ak [aa 6 5,au 7 0 2,ao 8 7,aM 9 8,aR 10 .lss 6 9]) <|
  .cond (.tmp 10) (.skip) (.exit 0)) <|
  .seq (.block 1 (.seq (ak [au 13 0 2,ao 14 13,aa 15 5,aS 16 3 14 15,au 17 0 16,ao 18 17,aa 19 1,((some 20),.op (.jx .eql (.tmp 18) (.tmp 19)))]) <|
  .cond (.tmp 20) (.seq (ak [aa 21 5,aa 4 21]) <|
  .ret) (.skip))) <|
  ak [aa 11 5,az 12 .add 11 1,aa 5 12]
def qw:SF:=⟨.seq (ak [bW 2 0,aI 4 0]) <|
  .seq (.seq (ak [aI 5 0]) <|
  .block 0 (.loop m4)) <|
  .seq (ak [aI 4 (-1)]) <|
  .ret,
  [.tmp 4],22⟩
theorem vX:aY Tryz.prog 169 [2]=some qw:=by kernel_rfl
def oI:SC :=
  .seq (.seq (ak [aa 6 5,au 7 1 2,ao 8 7,aM 9 8,aR 10 .lss 6 9]) <|
  .cond (.tmp 10) (.skip) (.exit 0)) <|
  .seq (.block 1 (.seq (ak [au 13 1 2,ao 14 13,aa 15 5,aS 16 1 14 15,ao 17 16,aa 18 1,((some 19),.op (.jx .eql (.tmp 17) (.tmp 18)))]) <|
  .cond (.tmp 19) (.seq (ak [aa 20 5,aa 4 20]) <|
  .ret) (.skip))) <|
  ak [aa 11 5,az 12 .add 11 1,aa 5 12]
def re:SF:=⟨.seq (ak [bW 2 0,aI 4 0]) <|
  .seq (.seq (ak [aI 5 0]) <|
  .block 0 (.loop oI)) <|
  .seq (ak [aI 4 (-1)]) <|
  .ret,
  [.tmp 4],21⟩
theorem xy:aY Tryz.prog 145 [2]=some re:=by kernel_rfl
def mb:SC :=
  .seq (.seq (ak [aa 8 6,au 9 0 2,ao 10 9,aM 11 10,aR 12 .lss 8 11]) <|
  .cond (.tmp 12) (.skip) (.exit 0)) <|
  .seq (.block 1 (.seq (.region false [⟨none,[au 15 0 2,ao 16 15,aa 17 6,aS 18 3 16 17,aO 19 3 18,((some 7),.op (.alloc [(.val (.string ⟨#[]⟩)),(.val (.int .i64 0)),(.val (.int .i64 0))])),(none,.op (.store 3 (.tmp 7) (.tmp 19)))]⟩]) <|
  .seq (.seq (ak [au 20 1 7,ao 21 20,aa 22 1,aR 23 .neq 21 22]) <|
  .cond (.tmp 23) (.exit 1) (.skip)) <|
  .seq (.seq (.region false [⟨none,[aa 24 5,az 25 .neq 24 0,aa 26 25]⟩,⟨(some (26,true)),[aa 27 5,au 28 2 7,ao 29 28,aR 30 .neq 27 29]⟩,⟨none,[bF 31 26 30]⟩]) <|
  .cond (.tmp 31) (.seq (ak [aZ 4 false]) <|
  .ret) (.skip)) <|
  ak [au 32 2 7,ao 33 32,aa 5 33])) <|
  ak [aa 13 6,az 14 .add 13 1,aa 6 14]
def oP:SF:=⟨.seq (ak [bW 2 0,aZ 4 false]) <|
  .seq (ak [aI 5 0]) <|
  .seq (.seq (ak [aI 6 0]) <|
  .block 0 (.loop mb)) <|
  .seq (ak [aa 34 5,az 35 .neq 34 0,aa 4 35]) <|
  .ret,
  [.tmp 4],36⟩
theorem uD:aY Tryz.prog 170 [2]=some oP:=by kernel_rfl
theorem MW (g:ay) (hg:g.Ok) (s:ByteArray) (H:View):aC Tryz.prog 169 [.agg (aw g),gs s] H fun r _=>r=gi (rN g s):=by
  refine aC.of mixed vX ?_
  have hs:g.ax.length < 4611686018427387904:=hg.ax
  simp (disch:=omega) only [↓wr,wq,ah,Nat.reduceAdd,Nat.reduceLeDiff,Int.reduceNeg,qw,aw,encS]
  refine ba.intro (fun k T _=>∃ i:Nat,i+k=g.ax.length∧nF s ((g.ax.drop i).map Term.name) i=rN g s∧T 1=gs s∧T 2=.aT (aw g) 0∧T 5=gi i) g.ax.length ?_ ?_
  · exact ⟨0,by omega,rfl,rfl,rfl,rfl⟩
  · rintro k T H' ⟨i,hk,hi,h1,h2,h5⟩
    simp (disch:=omega) only [↓wr,↓reduceIte,wq,ag,aj,Nat.reduceEqDiff,Nat.reduceAdd,Nat.reduceLT,Int.reduceNeg,reduceCtorEq,m4,h2,h5,aw]
    refine av.dec (fun hc=>?_) (fun hc=>?_)
    · have hg2:g.ax[i]?=some (g.ax[i]'(by omega)):=List.getElem?_eq_getElem (by omega)
      rw[dJ (show i < g.ax.length by omega)] at hi
      generalize g.ax[i]'(by omega)=t at hg2 hi
      simp only[List.map_cons,nF] at hi
      simp (disch:=omega) only [↓wr,↓reduceIte,wq,Nat.reduceEqDiff,Nat.reduceAdd,Nat.reduceLT,Int.reduceNeg,h1,h2,h5,aw,dP,List.getElem?_map,hg2]
      refine av.split (fun hd=>?_) (fun hd=>?_)
      · rw[if_pos hd] at hi
        simp (disch:=omega) only [↓wr,↓reduceIte,wq,ag,Nat.reduceEqDiff,Int.reduceNeg,reduceCtorEq,h1,h2,h5]
        rw[hi]
      · rw[hd,if_neg (by simp)] at hi
        simp (disch:=omega) only [↓wr,↓reduceIte,wq,ag,Nat.reduceEqDiff,Int.reduceNeg,reduceCtorEq,h1,h2,h5]
        exact ⟨k - 1,by omega,i+1,by omega,by push_cast; exact hi,rfl,rfl⟩
    · rw[List.drop_eq_nil_of_le (by omega)] at hi
      simp only[List.map_nil,nF] at hi
      simp (disch:=omega) only [↓wr,↓reduceIte,wq,Nat.reduceEqDiff,Int.reduceNeg,reduceCtorEq]
      rw[hi]
theorem Ev (g:ay) (hg:g.Ok) (s:ByteArray):aD Tryz.prog 169 [.agg (aw g),gs s] (gi (rN g s)):=aD.val (Hj g s) (MW g hg s)
theorem OZ (g:ay) (hg:g.Ok) (s:ByteArray) (H:View):aC Tryz.prog 145 [.agg (aw g),gs s] H fun r _=>r=gi (CX g s):=by
  refine aC.of mixed xy ?_
  have hs:g.aA.length < 4611686018427387904:=hg.aA
  simp (disch:=omega) only [↓wr,wq,ah,Nat.reduceAdd,Nat.reduceLeDiff,Int.reduceNeg,re,aw,encS]
  refine ba.intro (fun k T _=>∃ i:Nat,i+k=g.aA.length∧nF s (g.aA.drop i) i=CX g s∧T 1=gs s∧T 2=.aT (aw g) 0∧T 5=gi i) g.aA.length ?_ ?_
  · exact ⟨0,by omega,rfl,rfl,rfl,rfl⟩
  · rintro k T H' ⟨i,hk,hi,h1,h2,h5⟩
    simp (disch:=omega) only [↓wr,↓reduceIte,wq,ag,aj,Nat.reduceEqDiff,Nat.reduceAdd,Nat.reduceLT,Int.reduceNeg,reduceCtorEq,oI,h2,h5,aw,encS]
    refine av.dec (fun hc=>?_) (fun hc=>?_)
    · have hg2:g.aA[i]?=some (g.aA[i]'(by omega)):=List.getElem?_eq_getElem (by omega)
      rw[dJ (show i < g.aA.length by omega)] at hi
      generalize g.aA[i]'(by omega)=t at hg2 hi
      simp only[nF] at hi
      simp (disch:=omega) only [↓wr,↓reduceIte,wq,Nat.reduceEqDiff,Nat.reduceAdd,Nat.reduceLT,Int.reduceNeg,h1,h2,h5,aw,encS,List.getElem?_map,hg2]
      refine av.split (fun hd=>?_) (fun hd=>?_)
      · rw[if_pos hd] at hi
        simp (disch:=omega) only [↓wr,↓reduceIte,wq,ag,Nat.reduceEqDiff,Int.reduceNeg,reduceCtorEq,h1,h2,h5]
        rw[hi]
      · rw[hd,if_neg (by simp)] at hi
        simp (disch:=omega) only [↓wr,↓reduceIte,wq,ag,Nat.reduceEqDiff,Int.reduceNeg,reduceCtorEq,h1,h2,h5]
        exact ⟨k - 1,by omega,i+1,by omega,by push_cast; exact hi,rfl,rfl⟩
    · rw[List.drop_eq_nil_of_le (by omega)] at hi
      simp only[nF] at hi
      simp (disch:=omega) only [↓wr,↓reduceIte,wq,Nat.reduceEqDiff,Int.reduceNeg,reduceCtorEq]
      rw[hi]
theorem Ob (g:ay) (hg:g.Ok) (s:ByteArray):aD Tryz.prog 145 [.agg (aw g),gs s] (gi (CX g s)):=aD.val (Hj g s) (OZ g hg s)
def iL (n:Int):List Term→Int→Option Int
  | [],way=>some way
  | t :: r,way=>if t.level=n then (if way≠0∧way≠t.assoc then none else iL n r t.assoc) else iL n r way
def gu (l:List Term) (n:Int):Bool:=match iL n l 0 with
  | some w=>w != 0
  | none=>false
theorem KO (g:ay) (hg:g.Ok) (n:Int) (H:View):aC Tryz.prog 170 [.agg (aw g),gi n] H fun r _=>r=gb (gu g.ax n):=by
  refine aC.of mixed uD ?_
  have hs:g.ax.length < 4611686018427387904:=hg.ax
  simp (disch:=omega) only [↓wr,wq,ah,Nat.reduceAdd,Nat.reduceLeDiff,oP,aw,encS]
  refine ba.intro (fun k T _=>∃ (i:Nat) (w:Int),i+k=g.ax.length∧iL n (g.ax.drop i) w=iL n g.ax 0∧T 1=gi n∧T 2=.aT (aw g) 0∧T 5=gi w∧T 6=gi i) g.ax.length ?_ ?_
  · exact ⟨0,0,by omega,rfl,rfl,rfl,rfl,rfl⟩
  · rintro k T H' ⟨i,w,hk,hi,h1,h2,h5,h6⟩
    simp (disch:=omega) only [↓wr,↓reduceIte,wq,ag,aj,Nat.reduceEqDiff,Nat.reduceAdd,Nat.reduceLT,mb,h2,h6,aw]
    refine av.dec (fun hc=>?_) (fun hc=>?_)
    · have hg2:g.ax[i]?=some (g.ax[i]'(by omega)):=List.getElem?_eq_getElem (by omega)
      rw[dJ (show i < g.ax.length by omega)] at hi
      generalize g.ax[i]'(by omega)=t at hg2 hi
      simp only[iL] at hi
      simp (disch:=omega) only [↓wr,↓reduceIte,wq,ag,ab,Nat.reduceEqDiff,Nat.reduceAdd,Nat.reduceLT,Nat.reduceLeDiff,h1,h2,h6,aw,dP,List.getElem?_map,hg2]
      intro m hm
      try simp (disch:=omega) only [↓wr,↓reduceIte,wq,ah,ag,aj,ab,ae,af,ai,isNil,Nat.reduceEqDiff,Nat.reduceAdd,Nat.reduceLT,Nat.reduceLeDiff,Int.reduceNeg,Int.reduceToNat,reduceCtorEq,h1,h2,h5,h6]
      refine av.ne (fun hd=>?_) (fun hd=>?_)
      · rw[if_neg hd] at hi
        simp (disch:=omega) only [↓wr,↓reduceIte,wq,ag,Nat.reduceEqDiff,reduceCtorEq,h1,h2,h5,h6]
        exact ⟨k - 1,by omega,i+1,w,by omega,hi,by first | rfl | exact ⟨rfl,rfl⟩ | exact ⟨rfl,rfl,rfl⟩⟩
      · rw[if_pos hd] at hi
        repeat' (first | (refine av.dec (fun _=>?_) (fun _=>?_)) | (refine av.eq (fun _=>?_) (fun _=>?_)) | (refine av.ne (fun _=>?_) (fun _=>?_)) | (refine av.split (fun _=>?_) (fun _=>?_)) | (simp (disch:=omega) only [↓wr,↓reduceIte,wq,ag,Nat.reduceEqDiff,Nat.reduceAdd,Nat.reduceLT,reduceCtorEq,h1,h2,h5,h6]))
        · rename_i a b
          rw[if_pos ⟨a,b⟩] at hi
          simp only[gu,← hi]
        · rename_i a b
          rw[if_neg (fun e=>e.2 b)] at hi
          exact ⟨k - 1,by omega,i+1,_,by omega,hi,by first | rfl | exact ⟨rfl,rfl⟩ | exact ⟨rfl,rfl,rfl⟩⟩
        · rename_i a
          rw[if_neg (fun e=>e.1 a)] at hi
          exact ⟨k - 1,by omega,i+1,_,by omega,hi,by first | rfl | exact ⟨rfl,rfl⟩ | exact ⟨rfl,rfl,rfl⟩⟩
    · rw[List.drop_eq_nil_of_le (by omega)] at hi
      simp only[iL] at hi
      simp (disch:=omega) only [↓wr,↓reduceIte,wq,Nat.reduceEqDiff,reduceCtorEq,h5]
      simp only[gu,← hi]
theorem Le (g:ay) (hg:g.Ok) (n:Int):aD Tryz.prog 170 [.agg (aw g),gi n] (gb (gu g.ax n)):=aD.val (Gg g n) (KO g hg n)
def tJ (g:ay) (t:Term):Bool:=(List.range t.level.toNat).all fun k=>gu g.ax ((k:Int)+1)
def kF (g:ay) (i:Int) (t:Term):Bool :=
  qq (eS t.name) && (rN g t.name == i) && decide (0≤t.level) && decide (t.level≤24) && decide (0≤t.assoc) && decide (t.assoc≤3) && ((t.level == 0) == (t.assoc == 0)) && tJ g t
def mX (g:ay):List Term→Int→Bool
  | [],_=>true
  | t :: r,i=>kF g i t && mX g r (i+1)
def kG (g:ay):Bool:=decide (g.ax.length≤24) && mX g g.ax 0
def l9:SC :=
  .seq (.seq (ak [aa 63 5,au 64 1 4,ao 65 64,aR 66 .leq 63 65]) <|
  .cond (.tmp 66) (.skip) (.exit 2)) <|
  .seq (.block 3 (.seq (ak [aO 69 4 1,aa 70 5,aQ 71 170 [69,70],bX 72 71]) <|
  .cond (.tmp 72) (.seq (ak [aZ 2 false]) <|
  .ret) (.skip))) <|
  ak [aa 67 5,az 68 .add 67 1,aa 5 68]
def l8:SC :=
  .seq (.seq (ak [aa 10 3,au 11 0 1,ao 12 11,aM 13 12,aR 14 .lss 10 13]) <|
  .cond (.tmp 14) (.skip) (.exit 0)) <|
  .seq (.block 1 (.seq (.region false [⟨none,[au 17 0 1,ao 18 17,aa 19 3,aS 20 3 18 19,aO 21 3 20,((some 4),.op (.alloc [(.val (.string ⟨#[]⟩)),(.val (.int .i64 0)),(.val (.int .i64 0))])),(none,.op (.store 3 (.tmp 4) (.tmp 21)))]⟩]) <|
  .seq (.seq (.region false [⟨none,[au 22 0 4,ao 23 22,aQ 24 168 [23],bX 25 24,aa 26 25]⟩,⟨(some (26,false)),[aO 27 4 1,au 28 0 4,ao 29 28,aQ 30 169 [27,29],aa 31 3,aR 32 .neq 30 31]⟩,⟨none,[bB 33 26 32,aa 34 33]⟩,⟨(some (34,false)),[au 35 1 4,ao 36 35,az 37 .lss 36 0]⟩,⟨none,[bB 38 34 37,aa 39 38]⟩,⟨(some (39,false)),[au 40 1 4,ao 41 40,az 42 .gtr 41 24]⟩,⟨none,[bB 43 39 42,aa 44 43]⟩,⟨(some (44,false)),[au 45 2 4,ao 46 45,az 47 .lss 46 0]⟩,⟨none,[bB 48 44 47,aa 49 48]⟩,⟨(some (49,false)),[au 50 2 4,ao 51 50,az 52 .gtr 51 3]⟩,⟨none,[bB 53 49 52,aa 54 53]⟩,⟨(some (54,false)),[au 55 1 4,ao 56 55,az 57 .eql 56 0,au 58 2 4,ao 59 58,az 60 .eql 59 0,((some 61),.op (.beq false (.tmp 57) (.tmp 60)))]⟩,⟨none,[bB 62 54 61]⟩]) <|
  .cond (.tmp 62) (.seq (ak [aZ 2 false]) <|
  .ret) (.skip)) <|
  .seq (ak [aI 5 1]) <|
  .block 2 (.loop l9))) <|
  ak [aa 15 3,az 16 .add 15 1,aa 3 16]
def oy:SF:=⟨.seq (ak [bW 1 0,aZ 2 false]) <|
  .seq (.seq (ak [au 6 0 1,ao 7 6,aM 8 7,az 9 .gtr 8 24]) <|
  .cond (.tmp 9) (.seq (ak [aZ 2 false]) <|
  .ret) (.skip)) <|
  .seq (.seq (ak [aI 3 0]) <|
  .block 0 (.loop l8)) <|
  .seq (ak [aZ 2 true]) <|
  .ret,
  [.tmp 2],73⟩
theorem ui:aY Tryz.prog 115 [1]=some oy:=by kernel_rfl
def m5:SC :=
  .seq (.seq (ak [aa 14 3,au 15 1 1,ao 16 15,aM 17 16,aR 18 .lss 14 17]) <|
  .cond (.tmp 18) (.skip) (.exit 0)) <|
  .seq (.block 1 (.seq (.region false [⟨none,[au 21 1 1,ao 22 21,aa 23 3,aS 24 1 22 23,ao 25 24,aQ 26 171 [25],bX 27 26,aa 28 27]⟩,⟨(some (28,false)),[aO 29 4 1,au 30 1 1,ao 31 30,aa 32 3,aS 33 1 31 32,ao 34 33,aQ 35 145 [29,34],aa 36 3,aR 37 .neq 35 36]⟩,⟨none,[bB 38 28 37,aa 39 38]⟩,⟨(some (39,false)),[aO 40 4 1,au 41 1 1,ao 42 41,aa 43 3,aS 44 1 42 43,ao 45 44,aQ 46 169 [40,45],az 47 .geq 46 0]⟩,⟨none,[bB 48 39 47]⟩]) <|
  .cond (.tmp 48) (.seq (ak [aZ 2 false]) <|
  .ret) (.skip))) <|
  ak [aa 19 3,az 20 .add 19 1,aa 3 20]
def qm:SF:=⟨.seq (ak [bW 1 0,aZ 2 false]) <|
  .seq (.seq (.region false [⟨none,[au 4 1 1,ao 5 4,aM 6 5,az 7 .lss 6 1,aa 8 7]⟩,⟨(some (8,false)),[au 9 1 1,ao 10 9,aM 11 10,az 12 .gtr 11 16]⟩,⟨none,[bB 13 8 12]⟩]) <|
  .cond (.tmp 13) (.seq (ak [aZ 2 false]) <|
  .ret) (.skip)) <|
  .seq (.seq (ak [aI 3 0]) <|
  .block 0 (.loop m5)) <|
  .seq (ak [aZ 2 true]) <|
  .ret,
  [.tmp 2],49⟩
theorem vP:aY Tryz.prog 116 [1]=some qm:=by kernel_rfl
def nD:SC :=
  .seq (.seq (ak [aa 23 5,au 24 1 3,ao 25 24,aM 26 25,aR 27 .lss 23 26]) <|
  .cond (.tmp 27) (.skip) (.exit 0)) <|
  .seq (.block 1 (.seq (.region false [⟨none,[aO 30 4 2,au 31 1 3,ao 32 31,aa 33 5,aS 34 1 32 33,ao 35 34,aQ 36 172 [30,35],bX 37 36,aa 38 37]⟩,⟨(some (38,false)),[au 39 1 3,ao 40 39,aa 41 5,aS 42 1 40 41,ao 43 42,az 44 .geq 43 0,aa 45 44]⟩,⟨(some (45,true)),[au 46 2 3,ao 47 46,az 48 .eql 47 (-1)]⟩,⟨(some (38,false)),[bF 49 45 48]⟩,⟨none,[bB 50 38 49]⟩]) <|
  .cond (.tmp 50) (.seq (ak [aZ 4 false]) <|
  .ret) (.skip))) <|
  ak [aa 28 5,az 29 .add 28 1,aa 5 29]
def p8:SF:=⟨.seq (ak [bW 2 0,bW 3 1,aZ 4 false]) <|
  .seq (.seq (.region false [⟨none,[au 6 1 3,ao 7 6,aM 8 7,az 9 .gtr 8 6,aa 10 9]⟩,⟨(some (10,false)),[au 11 2 3,ao 12 11,az 13 .lss 12 (-1)]⟩,⟨none,[bB 14 10 13,aa 15 14]⟩,⟨(some (15,false)),[au 16 2 3,ao 17 16,au 18 0 2,ao 19 18,aM 20 19,aR 21 .geq 17 20]⟩,⟨none,[bB 22 15 21]⟩]) <|
  .cond (.tmp 22) (.seq (ak [aZ 4 false]) <|
  .ret) (.skip)) <|
  .seq (.seq (ak [aI 5 0]) <|
  .block 0 (.loop nD)) <|
  .seq (ak [aZ 4 true]) <|
  .ret,
  [.tmp 4],51⟩
theorem vx:aY Tryz.prog 117 [2,3]=some p8:=by kernel_rfl
def l6:SC :=
  .seq (.seq (ak [aa 39 4,au 40 2 1,ao 41 40,aM 42 41,aR 43 .lss 39 42]) <|
  .cond (.tmp 43) (.skip) (.exit 0)) <|
  .seq (.block 1 (.seq (ak [au 46 2 1,ao 47 46,aa 48 4,aS 49 3 47 48,aO 50 3 49,((some 5),.op (.alloc [(.val (.int .i64 0)),(.emp 1),(.val (.int .i64 0))])),(none,.op (.store 3 (.tmp 5) (.tmp 50)))]) <|
  .seq (.seq (.region false [⟨none,[au 51 0 5,ao 52 51,az 53 .lss 52 0,aa 54 53]⟩,⟨(some (54,false)),[au 55 0 5,ao 56 55,aa 57 3,az 58 .add 57 1,aR 59 .gtr 56 58]⟩,⟨none,[bB 60 54 59,aa 61 60]⟩,⟨(some (61,false)),[aO 62 4 1,aO 63 3 5,aQ 64 117 [62,63],bX 65 64]⟩,⟨none,[bB 66 61 65]⟩]) <|
  .cond (.tmp 66) (.seq (ak [aZ 2 false]) <|
  .ret) (.skip)) <|
  .seq (ak [au 67 0 5,ao 68 67,aa 69 3,aR 70 .gtr 68 69]) <|
  .cond (.tmp 70) (ak [au 71 0 5,ao 72 71,aa 3 72]) (.skip))) <|
  ak [aa 44 4,az 45 .add 44 1,aa 4 45]
def n0:SF:=⟨.seq (ak [bW 1 0,aZ 2 false]) <|
  .seq (.seq (.region false [⟨none,[aO 6 4 1,aQ 7 115 [6],bX 8 7,aa 9 8]⟩,⟨(some (9,false)),[aO 10 4 1,aQ 11 116 [10],bX 12 11]⟩,⟨none,[bB 13 9 12,aa 14 13]⟩,⟨(some (14,false)),[au 15 2 1,ao 16 15,aM 17 16,az 18 .lss 17 1]⟩,⟨none,[bB 19 14 18,aa 20 19]⟩,⟨(some (20,false)),[au 21 2 1,ao 22 21,aM 23 22,az 24 .gtr 23 40]⟩,⟨none,[bB 25 20 24,aa 26 25]⟩,⟨(some (26,false)),[au 27 3 1,ao 28 27,az 29 .lss 28 0]⟩,⟨none,[bB 30 26 29,aa 31 30]⟩,⟨(some (31,false)),[au 32 3 1,ao 33 32,au 34 1 1,ao 35 34,aM 36 35,aR 37 .geq 33 36]⟩,⟨none,[bB 38 31 37]⟩]) <|
  .cond (.tmp 38) (.seq (ak [aZ 2 false]) <|
  .ret) (.skip)) <|
  .seq (ak [aI 3 (-1)]) <|
  .seq (.seq (ak [aI 4 0]) <|
  .block 0 (.loop l6)) <|
  .seq (ak [aa 73 3,au 74 1 1,ao 75 74,aM 76 75,az 77 .sub 76 1,aR 78 .eql 73 77,aa 2 78]) <|
  .ret,
  [.tmp 2],79⟩
theorem uS:aY Tryz.prog 66 [1]=some n0:=by kernel_rfl
set_option maxHeartbeats 2000000 in
theorem K7 (g:ay) (hg:g.Ok) (H:View):aC Tryz.prog 115 [.agg (aw g)] H fun r _=>r=gb (kG g):=by
  refine aC.of mixed ui ?_
  simp (disch:=omega) only [↓wr,↓reduceIte,wq,ah,ag,aj,Nat.reduceEqDiff,Nat.reduceAdd,Nat.reduceLT,Nat.reduceLeDiff,oy,aw,encS]
  refine av.dec (fun h=>?_) (fun h=>?_)
  · simp (disch:=omega) only [↓wr,↓reduceIte,wq,reduceCtorEq]
    simp[kG,show ¬ g.ax.length≤24 by omega]
  · have hle:g.ax.length≤24:=by omega
    simp (disch:=omega) only [↓wr,wq]
    refine ba.intro (fun k T _=>∃ i:Nat,i+k=g.ax.length∧mX g (g.ax.drop i) i=mX g g.ax 0∧T 1=.aT (aw g) 0∧T 3=gi i) g.ax.length ?_ ?_
    · exact ⟨0,by omega,rfl,rfl,rfl⟩
    · rintro k T H' ⟨i,hk,hi,h1,h3⟩
      simp (disch:=omega) only [↓wr,↓reduceIte,wq,ag,aj,Nat.reduceEqDiff,Nat.reduceAdd,Nat.reduceLT,reduceCtorEq,l8,h1,h3,aw]
      refine av.dec (fun hc=>?_) (fun hc=>?_)
      · have hg2:g.ax[i]?=some (g.ax[i]'(by omega)):=List.getElem?_eq_getElem (by omega)
        rw[dJ (show i < g.ax.length by omega)] at hi
        have hmem:g.ax[i]'(by omega)∈g.ax:=List.getElem_mem _
        generalize g.ax[i]'(by omega)=t at hg2 hi hmem
        obtain ⟨⟨hl1,hl2⟩,⟨ha1,ha2⟩⟩:=hg.term t hmem
        simp only[mX] at hi
        have hbad:kF g i t=false→gb false=gb (kG g):=fun e=>by rw[e,Bool.false_and] at hi; simp[kG,← hi]
        simp (disch:=omega) only [↓wr,↓reduceIte,wq,ab,Nat.reduceEqDiff,Nat.reduceAdd,Nat.reduceLT,Nat.reduceLeDiff,h1,h3,aw,dP,List.getElem?_map,hg2]
        intro m hm
        try simp (disch:=omega) only [↓wr,↓reduceIte,wq,ah,ag,aj,ab,ae,af,ai,isNil,Nat.reduceEqDiff,Nat.reduceAdd,Nat.reduceLT,Nat.reduceLeDiff,Int.reduceNeg,Int.reduceToNat,reduceCtorEq,h1,h3]
        refine aE.pure (Ld t.name) (by kernel_rfl) ?_
        repeat' (first | (refine av.dec (fun _=>?_) (fun _=>?_)) | (refine av.eq (fun _=>?_) (fun _=>?_)) | (refine av.ne (fun _=>?_) (fun _=>?_)) | (refine av.split (fun _=>?_) (fun _=>?_)) | (simp (disch:=omega) only [↓wr,↓reduceIte,wq,ag,Nat.reduceEqDiff,Nat.reduceAdd,Nat.reduceLT,Nat.reduceLeDiff,reduceCtorEq,h1,h3,aw]))
        all_goals try (refine hbad ?_; simp[kF, *]; done)
        rename_i hnm
        refine aE.pure (Ev g hg t.name) (by kernel_rfl) ?_
        repeat' (first | (refine av.dec (fun _=>?_) (fun _=>?_)) | (refine av.eq (fun _=>?_) (fun _=>?_)) | (refine av.ne (fun _=>?_) (fun _=>?_)) | (refine av.split (fun _=>?_) (fun _=>?_)) | (simp (disch:=omega) only [↓wr,↓reduceIte,wq,ag,Nat.reduceEqDiff,Nat.reduceAdd,Nat.reduceLT,reduceCtorEq,h1,h3,aw]))
        all_goals try (refine hbad ?_; simp[kF, *]; done)
        all_goals try (refine hbad ?_; simp[kF]; grind)
        rename_i e1 e2 e3 e4 e5 e6
        have hpre:kF g i t=tJ g t:=by
          have e6':((t.level == 0) == (t.assoc == 0))=true:=by simpa using e6
          simp[kF,hnm,e1,e6',show (0:Int)≤t.level by omega,show t.level≤24 by omega,show (0:Int)≤t.assoc by omega,show t.assoc≤3 by omega]
        refine ba.intro (fun k' T H''=>∃ j:Nat,1≤j∧j+k'=t.level.toNat+1∧(∀ q:Nat,q+1 < j→gu g.ax ((q:Int)+1)=true)∧T 1=.aT (aw g) 0∧T 3=gi i∧T 4=.ptr m 0 0∧H'' m=.arr 3 [[gs t.name,gi t.level,gi t.assoc]]∧T 5=gi j) t.level.toNat ?_ ?_
        · refine ⟨1,by omega,by omega,fun q hq=>by omega,?_⟩
          simp (disch:=omega) only [↓wr,↓reduceIte,wq,Nat.reduceEqDiff,Nat.reduceAdd,h1,h3,aw]
          rfl
        · rintro k' T' H'' ⟨j,hj1,hj2,hj3,f1,f3,f4,fm,f5⟩
          simp (disch:=omega) only [↓wr,↓reduceIte,wq,ag,Nat.reduceEqDiff,Nat.reduceAdd,Nat.reduceLT,l9,f4,f5,fm]
          refine av.dec (fun hd=>?_) (fun hd=>?_)
          · simp (disch:=omega) only [↓wr,↓reduceIte,wq,Nat.reduceEqDiff,Nat.reduceAdd,Nat.reduceLeDiff,f1,f5,aw]
            refine aE.pure (Le g hg j) (by kernel_rfl) ?_
            repeat' (first | (refine av.dec (fun _=>?_) (fun _=>?_)) | (refine av.eq (fun _=>?_) (fun _=>?_)) | (refine av.ne (fun _=>?_) (fun _=>?_)) | (refine av.split (fun _=>?_) (fun _=>?_)) | (simp (disch:=omega) only [↓wr,↓reduceIte,wq,ag,Nat.reduceEqDiff,reduceCtorEq,f1,f3,f4,f5,fm,aw]))
            · rename_i hb
              refine ⟨k' - 1,by omega,j+1,by omega,by omega,fun q hq=>?_,by first | rfl | exact ⟨rfl,rfl⟩ | exact ⟨rfl,rfl,rfl⟩⟩
              by_cases e:q+1=j
              · have:(q:Int)+1=j:=by omega
                rw[this]; exact hb
              · exact hj3 q (by omega)
            · rename_i hb
              refine hbad ?_
              rw[hpre,tJ,List.all_eq_false]
              refine ⟨j - 1,by simp; omega,?_⟩
              have:((j - 1:Nat):Int)+1=j:=by omega
              rw[this,hb]; simp
          · simp (disch:=omega) only [↓wr,↓reduceIte,wq,Nat.reduceEqDiff,reduceCtorEq,f1,f3]
            refine ⟨k - 1,by omega,i+1,by omega,?_,by first | rfl | exact ⟨rfl,rfl⟩ | exact ⟨rfl,rfl,rfl⟩⟩
            have hlv:tJ g t=true:=by
              rw[tJ,List.all_eq_true]
              intro q hq
              exact hj3 q (by simp at hq; omega)
            rw[hpre,hlv,Bool.true_and] at hi
            push_cast; exact hi
      · rw[List.drop_eq_nil_of_le (by omega)] at hi
        simp only[mX] at hi
        simp (disch:=omega) only [↓wr,↓reduceIte,wq,Nat.reduceEqDiff,reduceCtorEq]
        simp[kG,hle,← hi]
theorem Ke (g:ay) (hg:g.Ok):aD Tryz.prog 115 [.agg (aw g)] (gb (kG g)):=aD.val (fY g) (K7 g hg)
def pt (g:ay) (i:Int) (s:ByteArray):Bool:=gg (eS s) && (CX g s == i) && decide (rN g s < 0)
def rH (g:ay):List ByteArray→Int→Bool
  | [],_=>true
  | s :: r,i=>pt g i s && rH g r (i+1)
def lv (g:ay):Bool:=decide (1≤g.aA.length) && decide (g.aA.length≤16) && rH g g.aA 0
set_option maxHeartbeats 1000000 in
theorem NN (g:ay) (hg:g.Ok) (H:View):aC Tryz.prog 116 [.agg (aw g)] H fun r _=>r=gb (lv g):=by
  refine aC.of mixed vP ?_
  repeat' (first | (refine av.dec (fun _=>?_) (fun _=>?_)) | (refine av.eq (fun _=>?_) (fun _=>?_)) | (refine av.ne (fun _=>?_) (fun _=>?_)) | (refine av.split (fun _=>?_) (fun _=>?_)) | (simp (disch:=omega) only [↓wr,↓reduceIte,wq,ah,ag,aj,Nat.reduceEqDiff,Nat.reduceAdd,Nat.reduceLT,Nat.reduceLeDiff,reduceCtorEq,qm,aw,encS]))
  · simp[lv,show ¬ 1≤g.aA.length by omega]
  · simp[lv,show ¬ g.aA.length≤16 by omega]
  · have hle:g.aA.length≤16:=by omega
    refine ba.intro (fun k T _=>∃ i:Nat,i+k=g.aA.length∧rH g (g.aA.drop i) i=rH g g.aA 0∧T 1=.aT (aw g) 0∧T 3=gi i) g.aA.length ?_ ?_
    · exact ⟨0,by omega,rfl,rfl,rfl⟩
    · rintro k T H' ⟨i,hk,hi,h1,h3⟩
      simp (disch:=omega) only [↓wr,↓reduceIte,wq,ag,aj,Nat.reduceEqDiff,Nat.reduceAdd,Nat.reduceLT,reduceCtorEq,m5,h1,h3,aw,encS]
      refine av.dec (fun hc=>?_) (fun hc=>?_)
      · have hg2:g.aA[i]?=some (g.aA[i]'(by omega)):=List.getElem?_eq_getElem (by omega)
        rw[dJ (show i < g.aA.length by omega)] at hi
        generalize g.aA[i]'(by omega)=t at hg2 hi
        simp only[rH] at hi
        have hbad:pt g i t=false→gb false=gb (lv g):=fun e=>by rw[e,Bool.false_and] at hi; simp[lv,← hi]
        simp (disch:=omega) only [↓wr,↓reduceIte,wq,Nat.reduceEqDiff,Nat.reduceAdd,Nat.reduceLT,h1,h3,aw,encS,List.getElem?_map,hg2]
        refine aE.pure (EO t) (by kernel_rfl) ?_
        repeat' (first | (refine av.dec (fun _=>?_) (fun _=>?_)) | (refine av.eq (fun _=>?_) (fun _=>?_)) | (refine av.ne (fun _=>?_) (fun _=>?_)) | (refine av.split (fun _=>?_) (fun _=>?_)) | (simp (disch:=omega) only [↓wr,↓reduceIte,wq,ag,Nat.reduceEqDiff,Nat.reduceAdd,Nat.reduceLT,Nat.reduceLeDiff,reduceCtorEq,h1,h3,aw,encS,List.getElem?_map,hg2]))
        all_goals try (refine hbad ?_; simp[pt, *]; done)
        rename_i hnm
        refine aE.pure (Ob g hg t) (by kernel_rfl) ?_
        repeat' (first | (refine av.dec (fun _=>?_) (fun _=>?_)) | (refine av.eq (fun _=>?_) (fun _=>?_)) | (refine av.ne (fun _=>?_) (fun _=>?_)) | (refine av.split (fun _=>?_) (fun _=>?_)) | (simp (disch:=omega) only [↓wr,↓reduceIte,wq,ag,Nat.reduceEqDiff,Nat.reduceAdd,Nat.reduceLT,Nat.reduceLeDiff,reduceCtorEq,h1,h3,aw,encS,List.getElem?_map,hg2]))
        all_goals try (refine hbad ?_; simp[pt, *]; done)
        rename_i hno
        refine aE.pure (Ev g hg t) (by kernel_rfl) ?_
        repeat' (first | (refine av.dec (fun _=>?_) (fun _=>?_)) | (refine av.eq (fun _=>?_) (fun _=>?_)) | (refine av.ne (fun _=>?_) (fun _=>?_)) | (refine av.split (fun _=>?_) (fun _=>?_)) | (simp (disch:=omega) only [↓wr,↓reduceIte,wq,ag,Nat.reduceEqDiff,reduceCtorEq,h1,h3,aw,encS]))
        all_goals try (refine hbad ?_; simp[pt, *]; done)
        rename_i hte
        refine ⟨k - 1,by omega,i+1,by omega,?_,by first | rfl | exact ⟨rfl,rfl⟩ | exact ⟨rfl,rfl,rfl⟩⟩
        have:pt g i t=true:=by simp[pt,hnm,hno,show rN g t < 0 by omega]
        rw[this,Bool.true_and] at hi
        push_cast; exact hi
      · rw[List.drop_eq_nil_of_le (by omega)] at hi
        simp only[rH] at hi
        simp (disch:=omega) only [↓wr,↓reduceIte,wq,Nat.reduceEqDiff,reduceCtorEq]
        simp[lv,hle,show 1≤g.aA.length by omega,← hi]
theorem NL (g:ay) (hg:g.Ok):aD Tryz.prog 116 [.agg (aw g)] (gb (lv g)):=aD.val (fY g) (NN g hg)
def pb (g:ay) (prec s:Int):Bool:=lh g s && !(decide (0≤s) && prec == -1)
def iv (g:ay) (r:cR):Bool:=decide (r.right.length≤6) && decide (-1≤r.prec) && decide (r.prec < g.ax.length) && r.right.all (pb g r.prec)
theorem Hw (g:ay) (r:cR):∀ v∈[V.agg (aw g),V.agg (bP r)],Tree v:=by
  intro v hv; simp at hv
  rcases hv with rfl | rfl
  · exact bL _ (bU g)
  · exact bL _ (tP r)
set_option maxHeartbeats 1000000 in
theorem MO (g:ay) (r:cR) (hr:aL r.right∧∀ x∈r.right,bJ x) (H:View):aC Tryz.prog 117 [.agg (aw g),.agg (bP r)] H fun v _=>v=gb (iv g r):=by
  refine aC.of mixed vx ?_
  repeat' (first | (refine av.dec (fun _=>?_) (fun _=>?_)) | (refine av.eq (fun _=>?_) (fun _=>?_)) | (refine av.ne (fun _=>?_) (fun _=>?_)) | (refine av.split (fun _=>?_) (fun _=>?_)) | (simp (disch:=omega) only [↓wr,↓reduceIte,wq,ah,ag,aj,Nat.reduceEqDiff,Nat.reduceAdd,Nat.reduceLT,Nat.reduceLeDiff,Int.reduceNeg,reduceCtorEq,p8,aw,encS,bP,encI]))
  · simp[iv,show ¬ r.right.length≤6 by omega]
  · simp[iv,show ¬ -1≤r.prec by omega]
  · simp[iv,show ¬ r.prec < g.ax.length by omega]
  · have hle:r.right.length≤6:=by omega
    have hp1 : -1≤r.prec:=by omega
    have hp2:r.prec < g.ax.length:=by omega
    refine ba.intro (fun k T _=>∃ i:Nat,i+k=r.right.length∧(r.right.drop i).all (pb g r.prec)=r.right.all (pb g r.prec)∧T 2=.aT (aw g) 0∧T 3=.aT (bP r) 0∧T 5=gi i) r.right.length ?_ ?_
    · exact ⟨0,by omega,rfl,rfl,rfl,rfl⟩
    · rintro k T H' ⟨i,hk,hi,h2,h3,h5⟩
      simp (disch:=omega) only [↓wr,↓reduceIte,wq,ag,aj,Nat.reduceEqDiff,Nat.reduceAdd,Nat.reduceLT,Int.reduceNeg,reduceCtorEq,nD,h3,h5,bP,encI]
      refine av.dec (fun hc=>?_) (fun hc=>?_)
      · have hg2:r.right[i]?=some (r.right[i]'(by omega)):=List.getElem?_eq_getElem (by omega)
        rw[dJ (show i < r.right.length by omega)] at hi
        have hmem:r.right[i]'(by omega)∈r.right:=List.getElem_mem _
        generalize r.right[i]'(by omega)=t at hg2 hi hmem
        have hin:=hr.2 t hmem
        simp only[List.all_cons] at hi
        have hbad:pb g r.prec t=false→gb false=gb (iv g r):=fun e=>by rw[e,Bool.false_and] at hi; simp only[iv,← hi,Bool.and_false]
        have hok:pb g r.prec t=true→(r.right.drop (i+1)).all (pb g r.prec)=r.right.all (pb g r.prec):=fun e=>by rw[e,Bool.true_and] at hi; exact hi
        simp (disch:=omega) only [↓wr,↓reduceIte,wq,Nat.reduceEqDiff,Nat.reduceAdd,Nat.reduceLT,Nat.reduceLeDiff,Int.reduceNeg,h2,h3,h5,aw,encS,bP,encI,List.getElem?_map,hg2]
        refine aE.pure (Nd g t hin) (by kernel_rfl) ?_
        repeat' (first | (refine av.dec (fun _=>?_) (fun _=>?_)) | (refine av.eq (fun _=>?_) (fun _=>?_)) | (refine av.ne (fun _=>?_) (fun _=>?_)) | (refine av.split (fun _=>?_) (fun _=>?_)) | (simp (disch:=omega) only [↓wr,↓reduceIte,wq,ag,Nat.reduceEqDiff,Nat.reduceAdd,Nat.reduceLT,Int.reduceNeg,reduceCtorEq,h2,h3,h5,aw,encS,bP,encI,List.getElem?_map,hg2]))
        all_goals first
          | (refine hbad ?_; simp[pb, *]; done)
          | (refine ⟨k - 1,by omega,i+1,by omega,hok (by simp[pb, *]; done),by first | rfl | exact ⟨rfl,rfl⟩ | exact ⟨rfl,rfl,rfl⟩⟩)
          | skip
      · rw[List.drop_eq_nil_of_le (by omega)] at hi
        simp only[List.all_nil] at hi
        simp (disch:=omega) only [↓wr,↓reduceIte,wq,Nat.reduceEqDiff,reduceCtorEq]
        simp only[iv,hle,hp1,hp2,decide_true,Bool.true_and,← hi]
theorem NM (g:ay) (r:cR) (hr:aL r.right∧∀ x∈r.right,bJ x):aD Tryz.prog 117 [.agg (aw g),.agg (bP r)] (gb (iv g r)):=aD.val (Hw g r) (MO g r hr)
def iO (g:ay):List cR→Int→Bool
  | [],top=>top == (g.aA.length:Int) - 1
  | r :: l,top=>decide (0≤r.left) && decide (r.left≤top+1) && iv g r && iO g l (if r.left > top then r.left else top)
def bS (g:ay):Bool :=
  kG g && lv g && decide (1≤g.rules.length) && decide (g.rules.length≤40) && decide (0≤g.start) && decide (g.start < g.aA.length) && iO g g.rules (-1)
set_option maxHeartbeats 1000000 in
theorem KN (g:ay) (hg:g.Ok) (H:View):aC Tryz.prog 66 [.agg (aw g)] H fun r _=>r=gb (bS g):=by
  refine aC.of mixed uS ?_
  have hn:=hg.aA
  unfold aL at hn
  simp (disch:=omega) only [↓wr,↓reduceIte,wq,ah,Nat.reduceEqDiff,Nat.reduceAdd,Nat.reduceLeDiff,Int.reduceNeg,n0,aw,encS]
  refine aE.pure (Ke g hg) (by kernel_rfl) ?_
  repeat' (first | (refine av.dec (fun _=>?_) (fun _=>?_)) | (refine av.eq (fun _=>?_) (fun _=>?_)) | (refine av.ne (fun _=>?_) (fun _=>?_)) | (refine av.split (fun _=>?_) (fun _=>?_)) | (simp (disch:=omega) only [↓wr,↓reduceIte,wq,Nat.reduceEqDiff,Nat.reduceAdd,Nat.reduceLeDiff,Int.reduceNeg,reduceCtorEq]))
  · rename_i h1
    refine aE.pure (NL g hg) (by kernel_rfl) ?_
    repeat' (first | (refine av.dec (fun _=>?_) (fun _=>?_)) | (refine av.eq (fun _=>?_) (fun _=>?_)) | (refine av.ne (fun _=>?_) (fun _=>?_)) | (refine av.split (fun _=>?_) (fun _=>?_)) | (simp (disch:=omega) only [↓wr,↓reduceIte,wq,ag,aj,Nat.reduceEqDiff,Nat.reduceAdd,Nat.reduceLT,Int.reduceNeg,reduceCtorEq]))
    all_goals try (simp[bS, *]; done)
    all_goals try (simp[bS]; omega)
    rename_i h2 h3 h4 h5 h6
    have hle:g.rules.length≤40:=by omega
    have hpre:∀ b,iO g g.rules (-1)=b→gb b=gb (bS g):=fun b e=>by
      simp[bS,h1,h2,show 1≤g.rules.length by omega,hle,show 0≤g.start by omega,show g.start < g.aA.length by omega,e]
    refine ba.intro (fun k T _=>∃ (i:Nat) (w:Int),i+k=g.rules.length∧-1≤w∧w < i∧iO g (g.rules.drop i) w=iO g g.rules (-1)∧T 1=.aT (aw g) 0∧T 3=gi w∧T 4=gi i) g.rules.length ?_ ?_
    · exact ⟨0,-1,by omega,by omega,by omega,rfl,rfl,rfl,rfl⟩
    · rintro k T H' ⟨i,w,hk,hw1,hw2,hi,f1,f3,f4⟩
      simp (disch:=omega) only [↓wr,↓reduceIte,wq,ag,aj,Nat.reduceEqDiff,Nat.reduceAdd,Nat.reduceLT,Int.reduceNeg,l6,f1,f4,aw]
      refine av.dec (fun hc=>?_) (fun hc=>?_)
      · have hg2:g.rules[i]?=some (g.rules[i]'(by omega)):=List.getElem?_eq_getElem (by omega)
        rw[dJ (show i < g.rules.length by omega)] at hi
        have hmem:g.rules[i]'(by omega)∈g.rules:=List.getElem_mem _
        generalize g.rules[i]'(by omega)=t at hg2 hi hmem
        obtain ⟨⟨hl1,hl2⟩,hp,hr1,hr2⟩:=hg.aP t hmem
        simp only[iO] at hi
        simp (disch:=omega) only [↓wr,↓reduceIte,wq,ag,ab,Nat.reduceEqDiff,Nat.reduceAdd,Nat.reduceLT,Nat.reduceLeDiff,Int.reduceNeg,f1,f4,aw,encS,bP,encI,List.getElem?_map,hg2]
        intro m hm
        try simp (disch:=omega) only [↓wr,↓reduceIte,wq,ah,ag,aj,ab,ae,af,ai,isNil,Nat.reduceEqDiff,Nat.reduceAdd,Nat.reduceLT,Nat.reduceLeDiff,Int.reduceNeg,Int.reduceToNat,reduceCtorEq,f1,f3,f4]
        repeat' (first | (refine av.dec (fun _=>?_) (fun _=>?_)) | (refine av.eq (fun _=>?_) (fun _=>?_)) | (refine av.ne (fun _=>?_) (fun _=>?_)) | (refine av.split (fun _=>?_) (fun _=>?_)) | (simp (disch:=omega) only [↓wr,↓reduceIte,wq,ag,aj,Nat.reduceEqDiff,Nat.reduceAdd,Nat.reduceLT,Nat.reduceLeDiff,Int.reduceNeg,reduceCtorEq,f1,f3,f4,aw,encS]))
        all_goals try (refine hpre _ ?_; simp only[← hi]; simp; omega)
        rename_i e1 e2
        refine aE.pure (NM g t ⟨hr1,hr2⟩) (by kernel_rfl) ?_
        repeat' (first | (refine av.dec (fun _=>?_) (fun _=>?_)) | (refine av.eq (fun _=>?_) (fun _=>?_)) | (refine av.ne (fun _=>?_) (fun _=>?_)) | (refine av.split (fun _=>?_) (fun _=>?_)) | (simp (disch:=omega) only [↓wr,↓reduceIte,wq,ag,aj,Nat.reduceEqDiff,Nat.reduceAdd,Nat.reduceLT,Int.reduceNeg,reduceCtorEq,f1,f3,f4,aw,encS]))
        all_goals simp only[show 0≤t.left by omega,show t.left≤w+1 by omega,decide_true,Bool.true_and] at hi
        · rename_i e3 e4
          rw[e3,Bool.true_and,if_pos e4] at hi
          exact ⟨k - 1,by omega,i+1,_,by omega,by omega,by push_cast; omega,hi,by first | rfl | exact ⟨rfl,rfl⟩ | exact ⟨rfl,rfl,rfl⟩⟩
        · rename_i e3 e4
          rw[e3,Bool.true_and,if_neg e4] at hi
          exact ⟨k - 1,by omega,i+1,_,by omega,by omega,by push_cast; omega,hi,by first | rfl | exact ⟨rfl,rfl⟩ | exact ⟨rfl,rfl,rfl⟩⟩
        · rename_i e3
          rw[e3,Bool.false_and] at hi
          exact hpre _ hi.symm
      · rw[List.drop_eq_nil_of_le (by omega)] at hi
        simp only[iO] at hi
        simp (disch:=omega) only [↓wr,↓reduceIte,wq,ag,aj,Nat.reduceEqDiff,Nat.reduceAdd,Nat.reduceLT,reduceCtorEq,f1,f3,aw,encS]
        exact hpre _ hi.symm
  · rename_i h1; simp[bS,h1]
theorem iW (g:ay) (hg:g.Ok):aD Tryz.prog 66 [.agg (aw g)] (gb (bS g)):=aD.val (fY g) (KN g hg)
inductive b3 (α:Type) where
  | nil
  | node (v:α) (l r:b3 α)
noncomputable def b3.get {α:Type} (z:α) (t:b3 α):Nat→α :=
  b3.rec (motive:=fun _=>Nat→α) (fun _=>z) (fun v _ _ gl gr i=>Bool.rec (Bool.rec (gr (i / 2 - 1)) (gl (i / 2)) (Nat.beq (i % 2) 1)) v (Nat.beq i 0)) t
theorem b3.get_nil {α:Type} (z:α) (i:Nat):b3.get z .nil i=z:=rfl
theorem b3.OF {α:Type} (z v:α) (l r:b3 α) (i:Nat):b3.get z (.node v l r) i=match Nat.beq i 0 with
    | true=>v
    | false=>match Nat.beq (i % 2) 1 with
      | true=>b3.get z l (i / 2)
      | false=>b3.get z r (i / 2 - 1):=by
  change (Bool.rec (motive:=fun _=>α) _ _ _:α)=_
  cases Nat.beq i 0 with
  | true=>rfl
  | false=>cases Nat.beq (i % 2) 1 <;> rfl
def b3.val {α:Type} (z:α):b3 α→α
  | .nil=>z
  | .node v _ _=>v
def b3.left {α:Type} : b3 α→b3 α
  | .nil=>.nil
  | .node _ l _=>l
def b3.right {α:Type} : b3 α→b3 α
  | .nil=>.nil
  | .node _ _ r=>r
noncomputable def b3.put {α:Type} (z:α) (x:α) (d:Nat):b3 α→Nat→b3 α :=
  Nat.rec (motive:=fun _=>b3 α→Nat→b3 α) (fun t _=>t) (fun _ pd t i =>
    Bool.rec (Bool.rec (.node (t.val z) t.left (pd t.right (i / 2 - 1))) (.node (t.val z) (pd t.left (i / 2)) t.right) (Nat.beq (i % 2) 1)) (.node x t.left t.right) (Nat.beq i 0)) d
theorem b3.Po {α:Type} (z x:α) (d:Nat) (t:b3 α) (i:Nat):b3.put z x (d+1) t i=match Nat.beq i 0 with
    | true=>.node x t.left t.right
    | false=>match Nat.beq (i % 2) 1 with
      | true=>.node (t.val z) (b3.put z x d t.left (i / 2)) t.right
      | false=>.node (t.val z) t.left (b3.put z x d t.right (i / 2 - 1)):=by
  change (Bool.rec (motive:=fun _=>b3 α) _ _ _:b3 α)=_
  cases Nat.beq i 0 with
  | true=>rfl
  | false=>cases Nat.beq (i % 2) 1 <;> rfl
theorem b3.mI {α:Type} (z:α) (t:b3 α) (j:Nat):t.get z j=if j=0 then t.val z else if j % 2=1 then t.left.get z (j / 2) else t.right.get z (j / 2 - 1):=by
  cases t with
  | nil=>simp[b3.get_nil,b3.val,b3.left,b3.right]
  | node v l r =>
    simp only[b3.OF,b3.val,b3.left,b3.right]
    by_cases h:j=0
    · subst h; rfl
    · have:Nat.beq j 0=false:=by cases e:Nat.beq j 0 with | true=>exact absurd (Nat.eq_of_beq_eq_true e) h | false=>rfl
      rw[this,if_neg h]
      simp only
      by_cases h2:j % 2=1
      · have:Nat.beq (j % 2) 1=true:=by rw[h2]; rfl
        rw[this,if_pos h2]
      · have:Nat.beq (j % 2) 1=false:=by cases e:Nat.beq (j % 2) 1 with | true=>exact absurd (Nat.eq_of_beq_eq_true e) h2 | false=>rfl
        rw[this,if_neg h2]
theorem b3.l0 {α:Type} (z x:α):∀ (d:Nat) (t:b3 α) (i j:Nat),i+1 < 2 ^ d→(b3.put z x d t i).get z j=if j=i then x else t.get z j
  | 0,t,i,j,h=>by simp at h
  | d+1,t,i,j,h=>by
    rw[Nat.pow_succ] at h
    simp only[b3.Po]
    by_cases hi:i=0
    · subst hi
      have:Nat.beq 0 0=true:=rfl
      rw[this]
      simp only
      rw[b3.mI,b3.mI z t]
      simp only[b3.val,b3.left,b3.right]
      by_cases hj:j=0
      · rw[if_pos hj,if_pos hj]
      · rw[if_neg hj,if_neg hj,if_neg hj]
    · have:Nat.beq i 0=false:=by cases e:Nat.beq i 0 with | true=>exact absurd (Nat.eq_of_beq_eq_true e) hi | false=>rfl
      rw[this]
      simp only
      by_cases h2:i % 2=1
      · have:Nat.beq (i % 2) 1=true:=by rw[h2]; rfl
        rw[this]
        simp only
        rw[b3.mI,b3.mI z t]
        simp only[b3.val,b3.left,b3.right]
        by_cases hj:j=0
        · subst hj; rw[if_pos rfl,if_neg (fun e=>hi e.symm),if_pos rfl]
        · rw[if_neg hj,if_neg hj]
          by_cases hj2:j % 2=1
          · rw[if_pos hj2,if_pos hj2,b3.l0 z x d _ _ _ (by omega)]
            by_cases e:j=i
            · subst e; simp
            · rw[if_neg e,if_neg (by omega)]
          · rw[if_neg hj2,if_neg hj2,if_neg (fun e=>hj2 (by rw[e]; exact h2))]
      · have:Nat.beq (i % 2) 1=false:=by cases e:Nat.beq (i % 2) 1 with | true=>exact absurd (Nat.eq_of_beq_eq_true e) h2 | false=>rfl
        rw[this]
        simp only
        rw[b3.mI,b3.mI z t]
        simp only[b3.val,b3.left,b3.right]
        by_cases hj:j=0
        · subst hj; rw[if_pos rfl,if_neg (fun e=>hi e.symm),if_pos rfl]
        · rw[if_neg hj,if_neg hj]
          by_cases hj2:j % 2=1
          · rw[if_pos hj2,if_pos hj2,if_neg (fun e=>h2 (by rw[← e]; exact hj2))]
          · rw[if_neg hj2,if_neg hj2,b3.l0 z x d _ _ _ (by omega)]
            by_cases e:j=i
            · subst e; simp
            · rw[if_neg e,if_neg (by omega)]
abbrev deep:Nat:=13
structure ES where
  L:b3 V
  H:b3 cU
  n:Nat
  w:List Nat
noncomputable def ES.T (s:ES):Env:=s.L.get .any
noncomputable def ES.V (s:ES):View:=s.H.get .dead
noncomputable def ES.put (s:ES) (d:Option Nat) (v:Gv.V):ES:=match d with
  | some t=>⟨s.L.put .any v deep t,s.H,s.n,s.w⟩
  | none=>s
theorem ES.PG {s:ES} {d:Option Nat} {v:Gv.V} (h:∀ t,d=some t→t < 8000):(s.put d v).T=s.T.put d v:=by
  cases d with
  | none=>rfl
  | some t =>
    funext k
    have:=h t rfl
    simp only[ES.put,ES.T,Env.put]
    rw[b3.l0 _ _ _ _ _ _ (by simp[deep]; omega)]
noncomputable def GU (v:V) (aG:bq) (rd:List Nat) (s:ES):Option (V × ES × Rec):=match aG with
  | .none=>some (v,s,⟨rd,[],false,s.n,s.n⟩)
  | .new o=>match Nat.ble s.n 8000 with
    | true=>some (v,⟨s.L,s.H.put .dead o deep s.n,s.n+1,s.w⟩,⟨rd,[],false,s.n,s.n+1⟩)
    | false=>none
  | .fZ id o=>match Nat.ble id 8000 with
    | true=>some (v,⟨s.L,s.H.put .dead o deep id,s.n,id :: s.w⟩,⟨rd,[id],false,s.n,s.n⟩)
    | false=>none
  | .bo id o=>match Nat.ble s.n 8000,Nat.ble id 8000 with
    | true,true=>some (v,⟨s.L,(s.H.put .dead .dead deep id).put .dead o deep s.n,s.n+1,id :: s.w⟩,⟨rd,[id],false,s.n,s.n+1⟩)
    | _,_=>none
noncomputable def Sg (x:SX) (_:Program) (T:Env) (_:View) (_:Nat):Out:=some (x.at T,.none,[])
noncomputable def RL (c a b:SX) (_:Program) (T:Env) (_:View) (_:Nat):Out:=match c.at T with
  | .val (.bool t)=>some (if t then a.at T else b.at T,.none,[])
  | _=>none
noncomputable def RP (sz:Option Nat) (a:SX) (_:Program) (T:Env) (H:View) (_:Nat):Out:=wJ sz (a.at T) H
noncomputable def RC (sz:Nat) (a x:SX) (_:Program) (T:Env) (H:View) (_:Nat):Out:=Cp sz (a.at T) (x.at T) H
noncomputable def RX (off:Nat) (x:SX) (_:Program) (T:Env) (_:View) (_:Nat):Out:=zE off (x.at T)
noncomputable def Sw (sz:Nat) (x i:SX) (_:Program) (T:Env) (_:View) (_:Nat):Out:=Dj sz (x.at T) (i.at T)
noncomputable def SU (x:SX) (_:Program) (T:Env) (_:View) (_:Nat):Out:=(dq (x.at T)).map fun n=>(aj n,.none,[])
noncomputable def Rt (op:BinOp) (x y:SX) (_:Program) (T:Env) (_:View) (_:Nat):Out:=yh op (x.at T) (y.at T)
noncomputable def Sj (op:BinOp) (x y:SX) (_:Program) (T:Env) (_:View) (_:Nat):Out:=AT op (x.at T) (y.at T)
noncomputable def SS (x:SX) (_:Program) (T:Env) (_:View) (_:Nat):Out:=match x.at T with
  | .val (.bool t)=>some (.val (.bool (!t)),.none,[])
  | _=>none
noncomputable def SM (i:Nat) (x:SX) (_:Program) (T:Env) (_:View) (_:Nat):Out:=match x.at T with
  | .bf vs=>if i < vs.length then some (vs.getD i .any,.none,[]) else none
  | _=>none
noncomputable def RO (x:SX) (_:Program) (T:Env) (_:View) (_:Nat):Out:=match x.at T with
  | .ptr id i j=>some (.ptr id i j,.none,[])
  | .aT e j=>some (.aT e j,.none,[])
  | .fn f a b=>some (.fn f a b,.none,[])
  | _=>none
noncomputable def eI (s:SI):Program→Env→View→Nat→Out:=match s with
  | .bo x=>Sg x
  | .pick c a b=>RL c a b
  | .load sz a=>RP sz a
  | .store sz a x=>RC sz a x
  | .addr o x=>RX o x
  | .idx sz x i=>Sw sz x i
  | .len x=>SU x
  | .arith op x y=>Rt op x y
  | .jx op x y=>Sj op x y
  | .not x=>SS x
  | .ext i x=>SM i x
  | .AN x=>RO x
  | s=>fun P T H n=>sI P s T H n
theorem KJ (s:SI) (P:Program) (T:Env) (H:View) (n:Nat):eI s P T H n=sI P s T H n:=by
  cases s <;> rfl
abbrev gK:=FuncId→List V→ES→Option (V × ES)
noncomputable def Nx (P:Program) (s:SI) (e:ES):Option (V × ES × Rec):=match eI s P e.T e.V e.n with
  | some (v,aG,rd)=>GU v aG rd e
  | none=>none
noncomputable def LH (call:gK) (f:SX) (args:List SX) (e:ES):Option (V × ES × Rec):=match f.at e.T with
  | .fn g first cap=>match call g (first ++ args.map (SX.at e.T) ++ cap) e with
    | some (v,e')=>some (v,⟨e.L,e'.H,e'.n,e'.w ++ e.w⟩,⟨[],e'.w,true,e.n,e'.n⟩)
    | none=>none
  | _=>none
noncomputable def eB (P:Program) (call:gK) (b:SB):ES→Option (V × ES × Rec):=match b with
  | .op s=>Nx P s
  | .call f args=>LH call f args
noncomputable def I4 (P:Program) (call:gK):List (Option Nat × SB)→List Rec→ES→Option (ES × List Rec)
  | [],a,e=>some (e,a)
  | (d,b) :: r,a,e=>match eB P call b e with
    | some (v,e',c)=>I4 P call r (a ++ [c]) (e'.put d v)
    | none=>none
noncomputable def Px (e:ES):Rec:=⟨[],[],false,e.n,e.n⟩
noncomputable def wy:List (Option Nat × SB)→List Rec→ES→ES × List Rec
  | [],a,e=>(e,a)
  | (d,_) :: r,a,e=>wy r (a ++ [Px e]) (e.put d (.bf []))
noncomputable def Mv (P:Program) (call:gK) (ops:List (Option Nat × SB)) (want:Bool) (v:V) (a:List Rec) (e:ES):Option (ES × List Rec):=match v with
  | .val (.bool b)=>match xor b want with
    | true=>some (wy ops a e)
    | false=>I4 P call ops a e
  | .bf []=>some (wy ops a e)
  | _=>none
noncomputable def eG (P:Program) (call:gK) (g:SG) (a:List Rec) (e:ES):Option (ES × List Rec):=match g.guard with
  | none=>I4 P call g.ops a e
  | some (d,want)=>Mv P call g.ops want (e.T d) a e
noncomputable def LK (P:Program) (call:gK):List SG→List Rec→ES→Option (ES × List Rec)
  | [],a,e=>some (e,a)
  | g :: r,a,e=>match eG P call g a e with
    | some (e',a')=>LK P call r a' e'
    | none=>none
inductive DC where
  | skip
  | region (ps:List (Nat × Nat)) (gs:List SG)
  | seq (x y:DC)
  | cond (c:SX) (x y:DC)
  | block (id:Nat) (c:DC)
  | loop (c:DC)
  | exit (id:Nat)
  | ret
  deriving Inhabited
def M5 (recs:List Rec) (ps:List (Nat × Nat)):Bool:=ps.all fun (i,k)=>match recs[i]?,recs[k]? with
  | some a,some b=>Dn a b
  | _,_=>false
abbrev ER:=Option (Exit × ES)
abbrev xG:=DC→ES→ER
noncomputable def NR:ES→ER:=fun e=>some (.normal,e)
noncomputable def IJ (P:Program) (call:gK) (ps:List (Nat × Nat)) (gs:List SG) (e:ES):ER:=match LK P call gs [] e with
  | some (e',recs)=>match M5 recs ps with
    | true=>some (.normal,e')
    | false=>none
  | none=>none
noncomputable def Q1 (run:xG) (x y:DC) (e:ES):ER:=match run x e with
  | some (.normal,e')=>run y e'
  | r=>r
noncomputable def PJ (run:xG) (c:SX) (x y:DC) (e:ES):ER:=match c.at e.T with
  | .val (.bool true)=>run x e
  | .val (.bool false)=>run y e
  | _=>none
noncomputable def NH (run:xG) (id:Nat) (c:DC) (e:ES):ER:=match run c e with
  | some (r,e')=>some (pA id r,e')
  | none=>none
noncomputable def Pt (run:xG) (c:DC) (e:ES):ER:=match run c e with
  | some (.normal,e')=>run (.loop c) e'
  | r=>r
noncomputable def lM (P:Program) (call:gK) (run:xG) (c:DC):ES→ER:=match c with
  | .skip=>NR
  | .region ps gs=>IJ P call ps gs
  | .seq x y=>Q1 run x y
  | .cond c x y=>PJ run c x y
  | .block id c=>NH run id c
  | .loop c=>Pt run c
  | .exit id=>fun e=>some (.exit id,e)
  | .ret=>fun e=>some (.ret,e)
noncomputable def Pg (r:SR) (e:ES):Option V:=match r with
  | .tmp t=>some (e.T t)
  | .cell t sz=>match e.T t with
    | .ptr id i j=>match e.V id with
      | .arr _ es=>if i < es.length then lN sz (es.getD i []) j else none
      | _=>none
    | .aT e j=>lN sz e j
    | _=>none
noncomputable def wx:List SR→ES→Option (List V)
  | [],_=>some []
  | r :: l,e=>match Pg r e,wx l e with
    | some v,some vs=>some (v :: vs)
    | _,_=>none
noncomputable def mB:List V→Nat→b3 V→b3 V
  | [],_,t=>t
  | v :: vs,i,t=>mB vs (i+1) (t.put .any v deep i)
structure DF where
  code:DC
  res:List SR
  n:Nat
noncomputable def Q8 (l:List SR) (r:ER):Option (V × ES):=match r with
  | some (.ret,e)=>(wx l e).map fun vs=>(ah vs,e)
  | some (.normal,e)=>(wx l e).map fun vs=>(ah vs,e)
  | _=>none
noncomputable def Re (m:Nat) (r:Option (V × ES)):Option (V × ES):=match r with
  | some (v,e)=>some (v,⟨e.L,e.H,e.n,e.w.filter fun id=>Nat.blt id m⟩)
  | none=>none
noncomputable def QX (run:xG) (F:DF) (vs:List V) (e:ES):Option (V × ES):=match Nat.ble vs.length F.n,Nat.ble F.n 8000 with
  | true,true=>Re e.n (Q8 F.res (run F.code ⟨mB vs 0 .nil,e.H,e.n,[]⟩))
  | _,_=>none
abbrev zd:=FuncId→List V→View→Option V
noncomputable def E5 (P:Program) (jj:List (FuncId × DF)) (ext:zd) (run:xG) (g:FuncId) (vs:List V) (e:ES):Option (V × ES):=match ext g vs e.V with
  | some t=>some (t,⟨e.L,e.H,e.n,[]⟩)
  | none=>match jj.find? (fun p=>Nat.beq p.1 g) with
    | some (_,F)=>QX run F vs e
    | none=>none
noncomputable def HJ (P:Program) (jj:List (FuncId × DF)) (ext:zd):Nat→xG
  | 0=>fun _ _=>none
  | k+1=>lM P (E5 P jj ext (HJ P jj ext k)) (HJ P jj ext k)
def BG (all:List Oper) (ls:List Nat):List (Nat × Nat) :=
  let b:=eQ all []
  (ls.zipIdx.map fun (x,i)=>(ls.zipIdx.filter fun (y,k)=>decide (i < k) && !(ordered b i k || x == 0 || y == 0 || (decide (x≤1) && decide (y≤1)))).map fun (_,k)=>(i,k)).flatten
def GH (P:Program) (n:Nat) (fz:List Nat) (ops:List Oper) (draw:Bool):Option DC:=match dg P n ops ⟨fz,false⟩ ops with
  | none=>none
  | some l=>if !(group l).all tw then none else
    if draw then (if lx ops then some (.region (BG ops (l.map fun s=>iB P false s.b)) (group l)) else none) else some (.region [] (group l))
def iA (P:Program) (n:Nat) (fz:List Nat):Code→Option DC
  | .skip=>some .skip
  | .region _ ops draw=>GH P n fz ops.toList draw
  | .seq x y=>match iA P n fz x,iA P n fz y with
    | some a,some b=>some (.seq a b)
    | _,_=>none
  | .cond c x y=>match iA P n fz x,iA P n fz y with
    | some a,some b=>some (.cond (SX.of c) a b)
    | _,_=>none
  | .block id c=>(iA P n fz c).map (.block id)
  | .loop c=>(iA P n fz c).map .loop
  | .exit id=>some (.exit id)
  | .ret=>some .ret
  | _=>none
abbrev aB (l:List (Option Nat × SB)):DC:=.region [] [⟨none,l⟩]
def bM (P:Program) (f:FuncId) (fz:List Nat):Option DF:=match P.funcs[f]? with
  | some fn=>match fn.body with
    | some c=>match iA P fn.ntmps fz c,eY P fn.results.toList,dd P f with
      | some sc,some rs,true=>some ⟨sc,rs,fn.ntmps⟩
      | _,_,_=>none
    | none=>none
  | none=>none
end Gv
