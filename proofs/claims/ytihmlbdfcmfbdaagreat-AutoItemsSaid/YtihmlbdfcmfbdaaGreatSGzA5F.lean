/-
  Part 6 of the proof: what the machine does and what the functions answer.
  Conditions: those that each lemma names.
-/
import Derived.Test.YtihmlbdfcmfbdaaGreatSGzA5E
set_option linter.unusedSimpArgs false
set_option linter.unusedVariables false
set_option maxRecDepth 100000
namespace Gv
open Go Go.Proofs
structure Term where
  name:ByteArray
  level:Int
  assoc:Int
structure aN where
  left:Int
  right:List Int
  prec:Int
structure ao where
  aA:List Term
  aC:List ByteArray
  rules:List aN
  start:Int
instance:Inhabited Term:=⟨⟨.empty,0,0⟩⟩
instance:Inhabited aN:=⟨⟨0,[],0⟩⟩
def cU (t:Term):List V:=[gs t.name,gi t.level,gi t.assoc]
def bo (r:aN):List V:=[gi r.left,encI r.right,gi r.prec]
def encS (l:List ByteArray):V:=.aP (l.map fun s=>[gs s])
def ax (g:ao):List V:=[.aP (g.aA.map cU),encS g.aC,.aP (g.rules.map bo),gi g.start]
theorem fv {α:Type} (l:List α) (f:α→List V) (h:∀ x∈l,∀ v∈f x,Tree v):Tree (.aP (l.map f)):=by
  refine .aP _ fun i j hi hj=>?_
  simp only[List.length_map] at hi
  have e:(l.map f).getD i []=f l[i]:=by simp[List.getD_eq_getElem?_getD,hi]
  rw[e] at hj ⊢
  have e2:(f l[i]).getD j .any=(f l[i])[j]:=by simp[List.getD_eq_getElem?_getD,hj]
  rw[e2]
  exact h _ (List.getElem_mem _) _ (List.getElem_mem _)
theorem cg (cs:List V) (h:∀ v∈cs,Tree v):Tree (.agg cs):=by
  refine .agg _ fun i hi=>?_
  have e2:cs.getD i .any=cs[i]:=by simp[List.getD_eq_getElem?_getD,hi]
  rw[e2]; exact h _ (List.getElem_mem _)
theorem vf (l:List ByteArray):Tree (encS l):=fv _ _ fun x _ v hv=>by simp at hv; subst hv; exact .val _
theorem p7 (t:Term):∀ v∈cU t,Tree v:=by intro v hv; simp[cU] at hv; rcases hv with rfl | rfl | rfl <;> exact .val _
theorem fM (r:aN):∀ v∈bo r,Tree v:=by
  intro v hv; simp[bo] at hv; rcases hv with rfl | rfl | rfl
  · exact .val _
  · exact jc _
  · exact .val _
theorem c8 (g:ao):∀ v∈ax g,Tree v:=by
  intro v hv; simp[ax] at hv; rcases hv with rfl | rfl | rfl | rfl
  · exact fv _ _ fun x _=>p7 x
  · exact vf _
  · exact fv _ _ fun x _=>fM x
  · exact .val _
def bB (x:Int):Prop:=-9223372036854775808≤x∧x≤9223372036854775807
structure ao.Ok (g:ao):Prop where
  aA:bc g.aA
  aC:bc g.aC
  rules:bc g.rules
  start:bB g.start
  term:∀ t∈g.aA,bB t.level∧bB t.assoc
  aF:∀ r∈g.rules,bB r.left∧bB r.prec∧bc r.right∧∀ x∈r.right,bB x
def iB (g:ao) (s:Int):Bool:=if 0≤s then decide (s < g.aA.length) else decide (-1 - s < g.aC.length)
def oq:SF:=⟨.seq (al [bQ 2 0,aY 4 false]) <|
  .seq (.seq (al [aa 5 1,az 6 .geq 5 0]) <|
  .cond (.tmp 6) (.seq (al [aa 7 1,au 8 0 2,aw 9 8,aR 10 9,aS 11 .lss 7 10,aa 4 11]) <|
  .ret) (.skip)) <|
  .seq (al [aa 12 1,((some 13),.op (.arith .sub (.val (.val (.int .i64 (-1)))) (.tmp 12))),au 14 1 2,aw 15 14,aR 16 15,aS 17 .lss 13 16,aa 4 17]) <|
  .ret,
  [.tmp 4],18⟩
theorem sV:bf Tryz.prog 155 [2]=some oq:=by kernel_rfl
theorem M9 (g:ao) (s:Int) (hs:bB s) (H:View):aB Tryz.prog 155 [.agg (ax g),gi s] H fun r H'=>r=gb (iB g s)∧H'=H:=by
  refine aB.of mixed sV ?_
  obtain ⟨h1,h2⟩:=hs
  simp (disch:=omega) only [↓wr,↓reduceIte,wq,ah,ag,aj,ab,ae,af,ai,isNil,Nat.reduceEqDiff,Nat.reduceAdd,Nat.reduceLT,Nat.reduceLeDiff,Int.reduceNeg,Int.reduceToNat,reduceCtorEq,oq,ax,encS]
  refine av.dec (fun h=>?_) (fun h=>?_)
  · simp (disch:=omega) only [↓wr,↓reduceIte,wq,ah,ag,aj,ab,ae,af,ai,isNil,Nat.reduceEqDiff,Nat.reduceAdd,Nat.reduceLT,Nat.reduceLeDiff,Int.reduceNeg,Int.reduceToNat,reduceCtorEq]
    simp[iB,show (0:Int)≤s from h]
  · simp (disch:=omega) only [↓wr,↓reduceIte,wq,ah,ag,aj,ab,ae,af,ai,isNil,Nat.reduceEqDiff,Nat.reduceAdd,Nat.reduceLT,Nat.reduceLeDiff,Int.reduceNeg,Int.reduceToNat,reduceCtorEq]
    simp[iB,show ¬ (0:Int)≤s from h]
theorem Nt (g:ao) (s:Int) (hs:bB s):aE Tryz.prog 155 [.agg (ax g),gi s] (gb (iB g s)) :=
  aE.of (by
    intro v hv; simp at hv
    rcases hv with rfl | rfl
    · exact cg _ (c8 g)
    · exact .val _) ((M9 g s hs _).mono fun r H' h h' _=>by rw[h.1]; exact .tree _ (.val _))
def jV (g:ao):Bool:=decide (40 < g.aA.length) || decide (40 < g.aC.length) || decide (60 < g.rules.length) || g.rules.any fun r=>decide (20 < r.right.length)
def kA:SC :=
  .seq (.seq (al [aa 20 3,au 21 2 1,aw 22 21,aR 23 22,aS 24 .lss 20 23]) <|
  .cond (.tmp 24) (.skip) (.exit 0)) <|
  .seq (.block 1 (.seq (al [au 27 2 1,aw 28 27,aa 29 3,aZ 30 3 28 29,au 31 1 30,aw 32 31,aR 33 32,az 34 .gtr 33 20]) <|
  .cond (.tmp 34) (.seq (al [aY 2 true]) <|
  .ret) (.skip))) <|
  al [aa 25 3,az 26 .add 25 1,aa 3 26]
def lX:SF:=⟨.seq (al [bQ 1 0,aY 2 false]) <|
  .seq (.seq (.region false [⟨none,[au 4 0 1,aw 5 4,aR 6 5,az 7 .gtr 6 40,aa 8 7]⟩,⟨(some (8,false)),[au 9 1 1,aw 10 9,aR 11 10,az 12 .gtr 11 40]⟩,⟨none,[bC 13 8 12,aa 14 13]⟩,⟨(some (14,false)),[au 15 2 1,aw 16 15,aR 17 16,az 18 .gtr 17 60]⟩,⟨none,[bC 19 14 18]⟩]) <|
  .cond (.tmp 19) (.seq (al [aY 2 true]) <|
  .ret) (.skip)) <|
  .seq (.seq (al [aJ 3 0]) <|
  .block 0 (.loop kA)) <|
  .seq (al [aY 2 false]) <|
  .ret,
  [.tmp 2],35⟩
theorem qD:bf Tryz.prog 16 [1]=some lX:=by kernel_rfl
theorem KY (g:ao) (H:View):aB Tryz.prog 16 [.agg (ax g)] H fun r H'=>r=gb (jV g)∧H'=H:=by
  refine aB.of mixed qD ?_
  simp (disch:=omega) only [↓wr,↓reduceIte,wq,ah,ag,aj,ab,ae,af,ai,isNil,Nat.reduceEqDiff,Nat.reduceAdd,Nat.reduceLT,Nat.reduceLeDiff,Int.reduceNeg,Int.reduceToNat,reduceCtorEq,lX,ax,encS]
  refine av.dec (fun h1=>?_) (fun h1=>?_)
  · simp (disch:=omega) only [↓wr,↓reduceIte,wq,ah,ag,aj,ab,ae,af,ai,isNil,Nat.reduceEqDiff,Nat.reduceAdd,Nat.reduceLT,Nat.reduceLeDiff,Int.reduceNeg,Int.reduceToNat,reduceCtorEq]
    simp[jV,show 40 < g.aA.length by omega]
  · simp (disch:=omega) only [↓wr,↓reduceIte,wq,ah,ag,aj,ab,ae,af,ai,isNil,Nat.reduceEqDiff,Nat.reduceAdd,Nat.reduceLT,Nat.reduceLeDiff,Int.reduceNeg,Int.reduceToNat,reduceCtorEq]
    refine av.dec (fun h2=>?_) (fun h2=>?_)
    · simp (disch:=omega) only [↓wr,↓reduceIte,wq,ah,ag,aj,ab,ae,af,ai,isNil,Nat.reduceEqDiff,Nat.reduceAdd,Nat.reduceLT,Nat.reduceLeDiff,Int.reduceNeg,Int.reduceToNat,reduceCtorEq]
      simp[jV,show 40 < g.aC.length by omega]
    · simp (disch:=omega) only [↓wr,↓reduceIte,wq,ah,ag,aj,ab,ae,af,ai,isNil,Nat.reduceEqDiff,Nat.reduceAdd,Nat.reduceLT,Nat.reduceLeDiff,Int.reduceNeg,Int.reduceToNat,reduceCtorEq]
      refine av.dec (fun h3=>?_) (fun h3=>?_)
      · simp (disch:=omega) only [↓wr,↓reduceIte,wq,ah,ag,aj,ab,ae,af,ai,isNil,Nat.reduceEqDiff,Nat.reduceAdd,Nat.reduceLT,Nat.reduceLeDiff,Int.reduceNeg,Int.reduceToNat,reduceCtorEq]
        simp[jV,show 60 < g.rules.length by omega]
      · simp (disch:=omega) only [↓wr,↓reduceIte,wq,ah,ag,aj,ab,ae,af,ai,isNil,Nat.reduceEqDiff,Nat.reduceAdd,Nat.reduceLT,Nat.reduceLeDiff,Int.reduceNeg,Int.reduceToNat,reduceCtorEq]
        refine bH.intro (fun k T H'=>∃ i:Nat,i+k=g.rules.length∧(∀ r∈g.rules.take i,¬ 20 < r.right.length)∧T 1=.aX (ax g) 0∧T 3=gi i∧H'=H) g.rules.length ?_ ?_
        · exact ⟨0,by omega,by simp,rfl,rfl,rfl⟩
        · rintro k T H' ⟨i,hk,hi,e1,e3,rfl⟩
          simp (disch:=omega) only [↓wr,↓reduceIte,wq,ah,ag,aj,ab,ae,af,ai,isNil,Nat.reduceEqDiff,Nat.reduceAdd,Nat.reduceLT,Nat.reduceLeDiff,Int.reduceNeg,Int.reduceToNat,reduceCtorEq,kA,e1,e3,ax]
          refine av.dec (fun hc=>?_) (fun hc=>?_)
          · have hg:g.rules[i]?=some (g.rules[i]'(by omega)):=List.getElem?_eq_getElem (by omega)
            simp (disch:=omega) only [↓wr,↓reduceIte,wq,ah,ag,aj,ab,ae,af,ai,isNil,Nat.reduceEqDiff,Nat.reduceAdd,Nat.reduceLT,Nat.reduceLeDiff,Int.reduceNeg,Int.reduceToNat,reduceCtorEq,e1,e3,ax,bo,encI,List.getElem?_map,hg,Option.map_some]
            refine av.dec (fun hd=>?_) (fun hd=>?_)
            · simp (disch:=omega) only [↓wr,↓reduceIte,wq,ah,ag,aj,ab,ae,af,ai,isNil,Nat.reduceEqDiff,Nat.reduceAdd,Nat.reduceLT,Nat.reduceLeDiff,Int.reduceNeg,Int.reduceToNat,reduceCtorEq]
              have:g.rules.any (fun r=>decide (20 < r.right.length))=true:=by
                simp only[List.any_eq_true,decide_eq_true_eq]
                exact ⟨g.rules[i]'(by omega),List.getElem_mem _,by omega⟩
              simp[jV,this]
            · simp (disch:=omega) only [↓wr,↓reduceIte,wq,ah,ag,aj,ab,ae,af,ai,isNil,Nat.reduceEqDiff,Nat.reduceAdd,Nat.reduceLT,Nat.reduceLeDiff,Int.reduceNeg,Int.reduceToNat,reduceCtorEq,e1,e3]
              refine ⟨k - 1,by omega,i+1,by omega,?_,rfl,rfl⟩
              intro r hr
              rw[List.take_add_one,hg] at hr
              simp only[Option.toList_some,List.mem_append,List.mem_singleton] at hr
              rcases hr with hr | rfl
              · exact hi r hr
              · omega
          · simp (disch:=omega) only [↓wr,↓reduceIte,wq,ah,ag,aj,ab,ae,af,ai,isNil,Nat.reduceEqDiff,Nat.reduceAdd,Nat.reduceLT,Nat.reduceLeDiff,Int.reduceNeg,Int.reduceToNat,reduceCtorEq,e1,e3]
            have e:i=g.rules.length:=by omega
            rw[List.take_of_length_le (by omega)] at hi
            have:g.rules.any (fun r=>decide (20 < r.right.length))=false:=by
              simp only[List.any_eq_false,decide_eq_true_eq]; exact hi
            simp only[jV,this]
            simp; omega
def fB (l:List Int) (is:List Bool) (aA:Bool):Bool:=l.all fun s=>if 0≤s then aA else is.getD (-1 - s).toNat false
abbrev gy (x:Int):V:=.val (.int .u8 x)
def ry (c:Int):Bool:=(decide (97≤c) && decide (c≤122)) || (decide (65≤c) && decide (c≤90)) || c == 95
def kR (c:Int):Bool:=ry c || (decide (48≤c) && decide (c≤57)) || c == 46
def l5:SF:=⟨.seq (al [aY 2 false]) <|
  .seq (.region false [⟨none,[aa 3 0,((some 4),.op (.arith .geq (.tmp 3) (.val (.val (.int .u8 97))))),aa 5 4]⟩,⟨(some (5,true)),[aa 6 0,((some 7),.op (.arith .leq (.tmp 6) (.val (.val (.int .u8 122)))))]⟩,⟨none,[bz 8 5 7,aa 9 8]⟩,⟨(some (9,false)),[aa 10 0,((some 11),.op (.arith .geq (.tmp 10) (.val (.val (.int .u8 65))))),aa 12 11]⟩,⟨(some (12,true)),[aa 13 0,((some 14),.op (.arith .leq (.tmp 13) (.val (.val (.int .u8 90)))))]⟩,⟨(some (9,false)),[bz 15 12 14]⟩,⟨none,[bC 16 9 15,aa 17 16]⟩,⟨(some (17,false)),[aa 18 0,((some 19),.op (.arith .eql (.tmp 18) (.val (.val (.int .u8 95)))))]⟩,⟨none,[bC 20 17 19,aa 2 20]⟩]) <|
  .ret,
  [.tmp 2],21⟩
theorem qM:bf Tryz.prog 193 []=some l5:=by kernel_rfl
def lR:SF:=⟨.seq (al [aY 2 false]) <|
  .seq (.region false [⟨none,[aa 3 0,aH 4 193 [3],aa 5 4]⟩,⟨(some (5,false)),[aa 6 0,((some 7),.op (.arith .geq (.tmp 6) (.val (.val (.int .u8 48))))),aa 8 7]⟩,⟨(some (8,true)),[aa 9 0,((some 10),.op (.arith .leq (.tmp 9) (.val (.val (.int .u8 57)))))]⟩,⟨(some (5,false)),[bz 11 8 10]⟩,⟨none,[bC 12 5 11,aa 13 12]⟩,⟨(some (13,false)),[aa 14 0,((some 15),.op (.arith .eql (.tmp 14) (.val (.val (.int .u8 46)))))]⟩,⟨none,[bC 16 13 15,aa 2 16]⟩]) <|
  .ret,
  [.tmp 2],17⟩
theorem qJ:bf Tryz.prog 194 []=some lR:=by kernel_rfl
theorem KI (c:Int) (H:View):aB Tryz.prog 193 [gy c] H fun r H'=>r=gb (ry c)∧H'=H:=by
  refine aB.of mixed qM ?_
  repeat' (first | (refine av.dec (fun _=>?_) (fun _=>?_)) | (refine av.eq (fun _=>?_) (fun _=>?_)) | (refine av.ne (fun _=>?_) (fun _=>?_)) | (refine av.split (fun _=>?_) (fun _=>?_)) | (simp (disch:=omega) only [↓wr,↓reduceIte,wq,ah,ag,aj,ab,ae,af,ai,isNil,Nat.reduceEqDiff,Nat.reduceAdd,Nat.reduceLT,Nat.reduceLeDiff,Int.reduceNeg,Int.reduceToNat,reduceCtorEq,l5]))
  all_goals (congr 2; simp only[ry]; grind)
theorem Dr (c:Int):aE Tryz.prog 193 [gy c] (gb (ry c)) :=
  aE.of (by intro v hv; simp at hv; subst hv; exact .val _) ((KI c _).mono fun r H' h h' _=>by rw[h.1]; exact .tree _ (.val _))
theorem Lm (c:Int) (H:View):aB Tryz.prog 194 [gy c] H fun r H'=>r=gb (kR c)∧H'=H:=by
  refine aB.of mixed qJ ?_
  repeat' (first | (refine av.dec (fun _=>?_) (fun _=>?_)) | (refine av.eq (fun _=>?_) (fun _=>?_)) | (refine av.ne (fun _=>?_) (fun _=>?_)) | (refine av.split (fun _=>?_) (fun _=>?_)) | (simp (disch:=omega) only [↓wr,↓reduceIte,wq,ah,ag,aj,ab,ae,af,ai,isNil,Nat.reduceEqDiff,Nat.reduceAdd,Nat.reduceLT,Nat.reduceLeDiff,Int.reduceNeg,Int.reduceToNat,reduceCtorEq,lR]))
  refine aG.pure (Dr c) (by kernel_rfl) ?_
  repeat' (first | (refine av.dec (fun _=>?_) (fun _=>?_)) | (refine av.eq (fun _=>?_) (fun _=>?_)) | (refine av.ne (fun _=>?_) (fun _=>?_)) | (refine av.split (fun _=>?_) (fun _=>?_)) | (simp (disch:=omega) only [↓wr,↓reduceIte,wq,ah,ag,aj,ab,ae,af,ai,isNil,Nat.reduceEqDiff,Nat.reduceAdd,Nat.reduceLT,Nat.reduceLeDiff,Int.reduceNeg,Int.reduceToNat,reduceCtorEq]))
  all_goals (congr 2; simp only[kR]; grind)
theorem Kk (c:Int):aE Tryz.prog 194 [gy c] (gb (kR c)) :=
  aE.of (by intro v hv; simp at hv; subst hv; exact .val _) ((Lm c _).mono fun r H' h h' _=>by rw[h.1]; exact .tree _ (.val _))
def eW (l:List Int):Bool:=decide (0 < l.length) && decide (l.length≤20) && (match l with | c :: _=>ry c | []=>false) && l.all kR
def lG:SC :=
  .seq (.seq (al [aa 18 3,aa 19 0,((some 20),.op (.gB (.tmp 19))),aS 21 .lss 18 20]) <|
  .cond (.tmp 21) (.skip) (.exit 0)) <|
  .seq (.block 1 (.seq (al [aa 24 0,aa 25 3,((some 26),.op (.c5 (.tmp 24) (.tmp 25))),aH 27 194 [26],b7 28 27]) <|
  .cond (.tmp 28) (.seq (al [aY 2 false]) <|
  .ret) (.skip))) <|
  al [aa 22 3,az 23 .add 22 1,aa 3 23]
def ng:SF:=⟨.seq (al [aY 2 false]) <|
  .seq (.seq (.region false [⟨none,[aa 4 0,((some 5),.op (.gB (.tmp 4))),az 6 .eql 5 0,aa 7 6]⟩,⟨(some (7,false)),[aa 8 0,((some 9),.op (.gB (.tmp 8))),az 10 .gtr 9 20]⟩,⟨none,[bC 11 7 10,aa 12 11]⟩,⟨(some (12,false)),[aa 13 0,((some 14),.op (.c5 (.tmp 13) (.val (.val (.int .i64 0))))),aH 15 193 [14],b7 16 15]⟩,⟨none,[bC 17 12 16]⟩]) <|
  .cond (.tmp 17) (.seq (al [aY 2 false]) <|
  .ret) (.skip)) <|
  .seq (.seq (al [aJ 3 0]) <|
  .block 0 (.loop lG)) <|
  .seq (al [aY 2 true]) <|
  .ret,
  [.tmp 2],29⟩
theorem rn:bf Tryz.prog 154 []=some ng:=by kernel_rfl
theorem Jn (s:ByteArray) (H:View):aB Tryz.prog 154 [gs s] H fun r H'=>r=gb (eW (dZ s))∧H'=H:=by
  refine aB.of mixed rn ?_
  repeat' (first | (refine av.dec (fun _=>?_) (fun _=>?_)) | (refine av.eq (fun _=>?_) (fun _=>?_)) | (refine av.ne (fun _=>?_) (fun _=>?_)) | (refine av.split (fun _=>?_) (fun _=>?_)) | (simp (disch:=omega) only [↓wr,↓reduceIte,wq,ah,ag,aj,ab,ae,af,ai,isNil,Nat.reduceEqDiff,Nat.reduceAdd,Nat.reduceLT,Nat.reduceLeDiff,Int.reduceNeg,Int.reduceToNat,reduceCtorEq,ng,dA]))
  · rename_i h
    congr 2; simp[eW,show (dZ s).length=0 by omega]
  · rename_i h
    congr 2; simp[eW,show ¬ (dZ s).length≤20 by omega]
  · rename_i h1 h2
    cases hb:dZ s with
    | nil=>simp[hb] at h1
    | cons c l =>
      repeat' (first | (refine av.dec (fun _=>?_) (fun _=>?_)) | (refine av.eq (fun _=>?_) (fun _=>?_)) | (refine av.ne (fun _=>?_) (fun _=>?_)) | (refine av.split (fun _=>?_) (fun _=>?_)) | (simp (disch:=omega) only [↓wr,↓reduceIte,wq,ah,ag,aj,ab,ae,af,ai,isNil,Nat.reduceEqDiff,Nat.reduceAdd,Nat.reduceLT,Nat.reduceLeDiff,Int.reduceNeg,Int.reduceToNat,reduceCtorEq,hb,List.getElem?_cons_zero,dA]))
      refine aG.pure (Dr c) (by kernel_rfl) ?_
      repeat' (first | (refine av.dec (fun _=>?_) (fun _=>?_)) | (refine av.eq (fun _=>?_) (fun _=>?_)) | (refine av.ne (fun _=>?_) (fun _=>?_)) | (refine av.split (fun _=>?_) (fun _=>?_)) | (simp (disch:=omega) only [↓wr,↓reduceIte,wq,ah,ag,aj,ab,ae,af,ai,isNil,Nat.reduceEqDiff,Nat.reduceAdd,Nat.reduceLT,Nat.reduceLeDiff,Int.reduceNeg,Int.reduceToNat,reduceCtorEq,hb,List.getElem?_cons_zero,dA]))
      · rename_i hf
        refine bH.intro (fun k T H'=>∃ i:Nat,i+k=(c :: l).length∧((c :: l).take i).all kR=true∧T 0=gs s∧T 3=gi i∧H'=H) (c :: l).length ?_ ?_
        · exact ⟨0,by omega,by simp,rfl,rfl,rfl⟩
        · rintro k T H' ⟨i,hk,hi,h0,h3,rfl⟩
          rw[hb] at h1 h2
          simp (disch:=omega) only [↓wr,↓reduceIte,wq,ah,ag,aj,ab,ae,af,ai,isNil,Nat.reduceEqDiff,Nat.reduceAdd,Nat.reduceLT,Nat.reduceLeDiff,Int.reduceNeg,Int.reduceToNat,reduceCtorEq,lG,h0,h3,dA,hb]
          refine av.dec (fun hc=>?_) (fun hc=>?_)
          · simp only[List.length_cons] at hc hk h2
            have hg:(c :: l)[i]?=some ((c :: l)[i]'(by simp; omega)):=List.getElem?_eq_getElem (by simp; omega)
            have hm:(c :: l)[i]'(by simp; omega)∈c :: l:=List.getElem_mem _
            generalize (c :: l)[i]'(by simp; omega)=d at hg hm
            simp (disch:=omega) only [↓wr,↓reduceIte,wq,ah,ag,aj,ab,ae,af,ai,isNil,Nat.reduceEqDiff,Nat.reduceAdd,Nat.reduceLT,Nat.reduceLeDiff,Int.reduceNeg,Int.reduceToNat,reduceCtorEq,h0,h3,dA,hb,hg]
            refine aG.pure (Kk d) (by kernel_rfl) ?_
            repeat' (first | (refine av.dec (fun _=>?_) (fun _=>?_)) | (refine av.eq (fun _=>?_) (fun _=>?_)) | (refine av.ne (fun _=>?_) (fun _=>?_)) | (refine av.split (fun _=>?_) (fun _=>?_)) | (simp (disch:=omega) only [↓wr,↓reduceIte,wq,ah,ag,aj,ab,ae,af,ai,isNil,Nat.reduceEqDiff,Nat.reduceAdd,Nat.reduceLT,Nat.reduceLeDiff,Int.reduceNeg,Int.reduceToNat,reduceCtorEq,h0,h3,dA,hb,hg]))
            · rename_i hd
              refine ⟨k - 1,by omega,i+1,by omega,?_,rfl⟩
              rw[List.take_add_one,hg]
              simp only[Option.toList_some,List.all_append,hi,List.all_cons,hd,List.all_nil,Bool.and_self]
            · rename_i hd
              congr 2
              have:(c :: l).all kR=false:=by
                rw[List.all_eq_false]; exact ⟨d,hm,by simp[hd]⟩
              simp only[eW,this,Bool.and_false]
          · simp (disch:=omega) only [↓wr,↓reduceIte,wq,ah,ag,aj,ab,ae,af,ai,isNil,Nat.reduceEqDiff,Nat.reduceAdd,Nat.reduceLT,Nat.reduceLeDiff,Int.reduceNeg,Int.reduceToNat,reduceCtorEq,h0,h3]
            simp only[List.length_cons] at hc hk h2
            rw[List.take_of_length_le (by simp; omega)] at hi
            congr 2
            simp only[eW,hi,List.length_cons]
            simp[hf]; omega
      · rename_i hf
        congr 2; simp[eW,hf]
def j9:List Int→Bool
  | [a,b,c]=>a == 39 && c == 39 && decide (32≤b) && decide (b≤126) && b != 39 && b != 92
  | [a,b,c,d]=>a == 39 && d == 39 && b == 92 && (c == 110 || c == 116 || c == 92 || c == 39)
  | _=>false
theorem Ke {l:List Int} (h3:l.length≠3) (h4:l.length≠4):j9 l=false:=by
  match l,h3,h4 with
  | [],_,_=>rfl
  | [_],_,_=>rfl
  | [_,_],_,_=>rfl
  | [_,_,_],h3,_=>exact absurd rfl h3
  | [_,_,_,_],_,h4=>exact absurd rfl h4
  | _ :: _ :: _ :: _ :: _ :: _,_,_=>rfl
theorem Od {α:Type} {l:List α} (h:l.length=3):∃ a b c,l=[a,b,c]:=by
  match l,h with
  | [a,b,c],_=>exact ⟨a,b,c,rfl⟩
theorem Oz {α:Type} {l:List α} (h:l.length=4):∃ a b c d,l=[a,b,c,d]:=by
  match l,h with
  | [a,b,c,d],_=>exact ⟨a,b,c,d,rfl⟩
def kI:SF:=⟨.seq (al [aY 2 false]) <|
  .seq (.seq (al [aa 3 0,((some 4),.op (.gB (.tmp 3))),az 5 .eql 4 3]) <|
  .cond (.tmp 5) (.seq (.region false [⟨none,[aa 6 0,((some 7),.op (.c5 (.tmp 6) (.val (.val (.int .i64 0))))),((some 8),.op (.arith .eql (.tmp 7) (.val (.val (.int .u8 39))))),aa 9 8]⟩,⟨(some (9,true)),[aa 10 0,((some 11),.op (.c5 (.tmp 10) (.val (.val (.int .i64 2))))),((some 12),.op (.arith .eql (.tmp 11) (.val (.val (.int .u8 39)))))]⟩,⟨none,[bz 13 9 12,aa 14 13]⟩,⟨(some (14,true)),[aa 15 0,((some 16),.op (.c5 (.tmp 15) (.val (.val (.int .i64 1))))),((some 17),.op (.arith .geq (.tmp 16) (.val (.val (.int .u8 32)))))]⟩,⟨none,[bz 18 14 17,aa 19 18]⟩,⟨(some (19,true)),[aa 20 0,((some 21),.op (.c5 (.tmp 20) (.val (.val (.int .i64 1))))),((some 22),.op (.arith .leq (.tmp 21) (.val (.val (.int .u8 126)))))]⟩,⟨none,[bz 23 19 22,aa 24 23]⟩,⟨(some (24,true)),[aa 25 0,((some 26),.op (.c5 (.tmp 25) (.val (.val (.int .i64 1))))),((some 27),.op (.arith .neq (.tmp 26) (.val (.val (.int .u8 39)))))]⟩,⟨none,[bz 28 24 27,aa 29 28]⟩,⟨(some (29,true)),[aa 30 0,((some 31),.op (.c5 (.tmp 30) (.val (.val (.int .i64 1))))),((some 32),.op (.arith .neq (.tmp 31) (.val (.val (.int .u8 92)))))]⟩,⟨none,[bz 33 29 32,aa 2 33]⟩]) <|
  .ret) (.skip)) <|
  .seq (.region false [⟨none,[aa 34 0,((some 35),.op (.gB (.tmp 34))),az 36 .eql 35 4,aa 37 36]⟩,⟨(some (37,true)),[aa 38 0,((some 39),.op (.c5 (.tmp 38) (.val (.val (.int .i64 0))))),((some 40),.op (.arith .eql (.tmp 39) (.val (.val (.int .u8 39)))))]⟩,⟨none,[bz 41 37 40,aa 42 41]⟩,⟨(some (42,true)),[aa 43 0,((some 44),.op (.c5 (.tmp 43) (.val (.val (.int .i64 3))))),((some 45),.op (.arith .eql (.tmp 44) (.val (.val (.int .u8 39)))))]⟩,⟨none,[bz 46 42 45,aa 47 46]⟩,⟨(some (47,true)),[aa 48 0,((some 49),.op (.c5 (.tmp 48) (.val (.val (.int .i64 1))))),((some 50),.op (.arith .eql (.tmp 49) (.val (.val (.int .u8 92)))))]⟩,⟨none,[bz 51 47 50,aa 52 51]⟩,⟨(some (52,true)),[aa 53 0,((some 54),.op (.c5 (.tmp 53) (.val (.val (.int .i64 2))))),((some 55),.op (.arith .eql (.tmp 54) (.val (.val (.int .u8 110))))),aa 56 55]⟩,⟨(some (56,false)),[aa 57 0,((some 58),.op (.c5 (.tmp 57) (.val (.val (.int .i64 2))))),((some 59),.op (.arith .eql (.tmp 58) (.val (.val (.int .u8 116)))))]⟩,⟨(some (52,true)),[bC 60 56 59,aa 61 60]⟩,⟨(some (61,false)),[aa 62 0,((some 63),.op (.c5 (.tmp 62) (.val (.val (.int .i64 2))))),((some 64),.op (.arith .eql (.tmp 63) (.val (.val (.int .u8 92)))))]⟩,⟨(some (52,true)),[bC 65 61 64,aa 66 65]⟩,⟨(some (66,false)),[aa 67 0,((some 68),.op (.c5 (.tmp 67) (.val (.val (.int .i64 2))))),((some 69),.op (.arith .eql (.tmp 68) (.val (.val (.int .u8 39)))))]⟩,⟨(some (52,true)),[bC 70 66 69]⟩,⟨none,[bz 71 52 70,aa 2 71]⟩]) <|
  .ret,
  [.tmp 2],72⟩
theorem pL:bf Tryz.prog 192 []=some kI:=by kernel_rfl
def lQ:SF:=⟨.seq (al [aY 2 false]) <|
  .seq (.region false [⟨none,[aa 3 0,aH 4 154 [3],aa 5 4]⟩,⟨(some (5,false)),[aa 6 0,aH 7 192 [6]]⟩,⟨none,[bC 8 5 7,aa 2 8]⟩]) <|
  .ret,
  [.tmp 2],9⟩
theorem q4:bf Tryz.prog 151 []=some lQ:=by kernel_rfl
set_option maxHeartbeats 1000000 in
theorem Lh (s:ByteArray) (H:View):aB Tryz.prog 192 [gs s] H fun r H'=>r=gb (j9 (dZ s))∧H'=H:=by
  refine aB.of mixed pL ?_
  simp (disch:=omega) only [↓wr,↓reduceIte,wq,ah,ag,aj,ab,ae,af,ai,isNil,Nat.reduceEqDiff,Nat.reduceAdd,Nat.reduceLT,Nat.reduceLeDiff,Int.reduceNeg,Int.reduceToNat,reduceCtorEq,kI,dA]
  refine av.eq (fun h=>?_) (fun h=>?_)
  · obtain ⟨a,b,c,hb⟩:=Od (l:=dZ s) (by omega)
    repeat' (first | (refine av.dec (fun _=>?_) (fun _=>?_)) | (refine av.eq (fun _=>?_) (fun _=>?_)) | (refine av.ne (fun _=>?_) (fun _=>?_)) | (refine av.split (fun _=>?_) (fun _=>?_)) | (simp (disch:=omega) only [↓wr,↓reduceIte,wq,ah,ag,aj,ab,ae,af,ai,isNil,Nat.reduceEqDiff,Nat.reduceAdd,Nat.reduceLT,Nat.reduceLeDiff,Int.reduceNeg,Int.reduceToNat,reduceCtorEq,hb,List.getElem?_cons_zero,List.getElem?_cons_succ]))
    all_goals (congr 2; simp only[j9]; grind)
  · simp (disch:=omega) only [↓wr,↓reduceIte,wq,ah,ag,aj,ab,ae,af,ai,isNil,Nat.reduceEqDiff,Nat.reduceAdd,Nat.reduceLT,Nat.reduceLeDiff,Int.reduceNeg,Int.reduceToNat,reduceCtorEq,dA]
    refine av.eq (fun h4=>?_) (fun h4=>?_)
    · obtain ⟨a,b,c,d,hb⟩:=Oz (l:=dZ s) (by omega)
      repeat' (first | (refine av.dec (fun _=>?_) (fun _=>?_)) | (refine av.eq (fun _=>?_) (fun _=>?_)) | (refine av.ne (fun _=>?_) (fun _=>?_)) | (refine av.split (fun _=>?_) (fun _=>?_)) | (simp (disch:=omega) only [↓wr,↓reduceIte,wq,ah,ag,aj,ab,ae,af,ai,isNil,Nat.reduceEqDiff,Nat.reduceAdd,Nat.reduceLT,Nat.reduceLeDiff,Int.reduceNeg,Int.reduceToNat,reduceCtorEq,hb,List.getElem?_cons_zero,List.getElem?_cons_succ]))
      all_goals (congr 2; simp only[j9]; grind)
    · repeat' (first | (refine av.dec (fun _=>?_) (fun _=>?_)) | (refine av.eq (fun _=>?_) (fun _=>?_)) | (refine av.ne (fun _=>?_) (fun _=>?_)) | (refine av.split (fun _=>?_) (fun _=>?_)) | (simp (disch:=omega) only [↓wr,↓reduceIte,wq,ah,ag,aj,ab,ae,af,ai,isNil,Nat.reduceEqDiff,Nat.reduceAdd,Nat.reduceLT,Nat.reduceLeDiff,Int.reduceNeg,Int.reduceToNat,reduceCtorEq,dA]))
      rw[Ke (by omega) (by omega)]
theorem mn (s:ByteArray):∀ v∈[gs s],Tree v:=by intro v hv; simp at hv; subst hv; exact .val _
theorem AE (s:ByteArray):aE Tryz.prog 154 [gs s] (gb (eW (dZ s))) :=
  aE.of (mn s) ((Jn s _).mono fun r H' h h' _=>by rw[h.1]; exact .tree _ (.val _))
theorem KZ (s:ByteArray):aE Tryz.prog 192 [gs s] (gb (j9 (dZ s))) :=
  aE.of (mn s) ((Lh s _).mono fun r H' h h' _=>by rw[h.1]; exact .tree _ (.val _))
def nz (l:List Int):Bool:=eW l || j9 l
theorem GM (s:ByteArray) (H:View):aB Tryz.prog 151 [gs s] H fun r H'=>r=gb (nz (dZ s))∧H'=H:=by
  refine aB.of mixed q4 ?_
  simp (disch:=omega) only [↓wr,↓reduceIte,wq,ah,ag,aj,ab,ae,af,ai,isNil,Nat.reduceEqDiff,Nat.reduceAdd,Nat.reduceLT,Nat.reduceLeDiff,Int.reduceNeg,Int.reduceToNat,reduceCtorEq,lQ]
  refine aG.pure (AE s) (by kernel_rfl) ?_
  repeat' (first | (refine av.dec (fun _=>?_) (fun _=>?_)) | (refine av.eq (fun _=>?_) (fun _=>?_)) | (refine av.ne (fun _=>?_) (fun _=>?_)) | (refine av.split (fun _=>?_) (fun _=>?_)) | (simp (disch:=omega) only [↓wr,↓reduceIte,wq,ah,ag,aj,ab,ae,af,ai,isNil,Nat.reduceEqDiff,Nat.reduceAdd,Nat.reduceLT,Nat.reduceLeDiff,Int.reduceNeg,Int.reduceToNat,reduceCtorEq]))
  · rename_i h; simp[nz,h]
  · rename_i h
    refine aG.pure (KZ s) (by kernel_rfl) ?_
    repeat' (first | (refine av.dec (fun _=>?_) (fun _=>?_)) | (refine av.eq (fun _=>?_) (fun _=>?_)) | (refine av.ne (fun _=>?_) (fun _=>?_)) | (refine av.split (fun _=>?_) (fun _=>?_)) | (simp (disch:=omega) only [↓wr,↓reduceIte,wq,ah,ag,aj,ab,ae,af,ai,isNil,Nat.reduceEqDiff,Nat.reduceAdd,Nat.reduceLT,Nat.reduceLeDiff,Int.reduceNeg,Int.reduceToNat,reduceCtorEq]))
    simp[nz,h]
theorem G3 (s:ByteArray):aE Tryz.prog 151 [gs s] (gb (nz (dZ s))) :=
  aE.of (mn s) ((GM s _).mono fun r H' h h' _=>by rw[h.1]; exact .tree _ (.val _))
def kS (s:ByteArray):List ByteArray→Int→Int
  | [],_=>-1
  | x :: l,i=>if gu x s=true then i else kS s l (i+1)
def j4 (g:ao) (s:ByteArray):Int:=kS s (g.aA.map Term.name) 0
def um (g:ao) (s:ByteArray):Int:=kS s g.aC 0
theorem fk {α:Type} {l:List α} {i:Nat} (h:i < l.length):l.drop i=l[i] :: l.drop (i+1):=List.drop_eq_getElem_cons h
theorem C2 (g:ao) (s:ByteArray):∀ v∈[V.agg (ax g),gs s],Tree v:=by
  intro v hv; simp at hv
  rcases hv with rfl | rfl
  · exact cg _ (c8 g)
  · exact .val _
theorem jj (g:ao):∀ v∈[V.agg (ax g)],Tree v:=by intro v hv; simp at hv; subst hv; exact cg _ (c8 g)
theorem Ej (g:ao) (x:Int):∀ v∈[V.agg (ax g),gi x],Tree v:=by
  intro v hv; simp at hv
  rcases hv with rfl | rfl
  · exact cg _ (c8 g)
  · exact .val _
theorem aE.val {P:Program} {f:FuncId} {vs:List V} {x:Value} (ht:∀ v∈vs,Tree v) (h:∀ H,aB P f vs H fun r _=>r=.val x):aE P f vs (.val x) :=
  aE.of ht ((h _).mono fun r H' e h' _=>by rw[e]; exact .tree _ (.val _))
def lu:SC :=
  .seq (.seq (al [aa 6 5,au 7 0 2,aw 8 7,aR 9 8,aS 10 .lss 6 9]) <|
  .cond (.tmp 10) (.skip) (.exit 0)) <|
  .seq (.block 1 (.seq (al [au 13 0 2,aw 14 13,aa 15 5,aZ 16 3 14 15,au 17 0 16,aw 18 17,aa 19 1,((some 20),.op (.iO .eql (.tmp 18) (.tmp 19)))]) <|
  .cond (.tmp 20) (.seq (al [aa 21 5,aa 4 21]) <|
  .ret) (.skip))) <|
  al [aa 11 5,az 12 .add 11 1,aa 5 12]
def nt:SF:=⟨.seq (al [bQ 2 0,aJ 4 0]) <|
  .seq (.seq (al [aJ 5 0]) <|
  .block 0 (.loop lu)) <|
  .seq (al [aJ 4 (-1)]) <|
  .ret,
  [.tmp 4],22⟩
theorem q6:bf Tryz.prog 152 [2]=some nt:=by kernel_rfl
def lN:SC :=
  .seq (.seq (al [aa 6 5,au 7 1 2,aw 8 7,aR 9 8,aS 10 .lss 6 9]) <|
  .cond (.tmp 10) (.skip) (.exit 0)) <|
  .seq (.block 1 (.seq (al [au 13 1 2,aw 14 13,aa 15 5,aZ 16 1 14 15,aw 17 16,aa 18 1,((some 19),.op (.iO .eql (.tmp 17) (.tmp 18)))]) <|
  .cond (.tmp 19) (.seq (al [aa 20 5,aa 4 20]) <|
  .ret) (.skip))) <|
  al [aa 11 5,az 12 .add 11 1,aa 5 12]
def oo:SF:=⟨.seq (al [bQ 2 0,aJ 4 0]) <|
  .seq (.seq (al [aJ 5 0]) <|
  .block 0 (.loop lN)) <|
  .seq (al [aJ 4 (-1)]) <|
  .ret,
  [.tmp 4],21⟩
theorem tw:bf Tryz.prog 139 [2]=some oo:=by kernel_rfl
def kH:SC :=
  .seq (.seq (al [aa 8 6,au 9 0 2,aw 10 9,aR 11 10,aS 12 .lss 8 11]) <|
  .cond (.tmp 12) (.skip) (.exit 0)) <|
  .seq (.block 1 (.seq (.region false [⟨none,[au 15 0 2,aw 16 15,aa 17 6,aZ 18 3 16 17,aK 19 3 18,((some 7),.op (.alloc [(.val (.string ⟨#[]⟩)),(.val (.int .i64 0)),(.val (.int .i64 0))])),(none,.op (.store 3 (.tmp 7) (.tmp 19)))]⟩]) <|
  .seq (.seq (al [au 20 1 7,aw 21 20,aa 22 1,aS 23 .neq 21 22]) <|
  .cond (.tmp 23) (.exit 1) (.skip)) <|
  .seq (.seq (.region false [⟨none,[aa 24 5,az 25 .neq 24 0,aa 26 25]⟩,⟨(some (26,true)),[aa 27 5,au 28 2 7,aw 29 28,aS 30 .neq 27 29]⟩,⟨none,[bz 31 26 30]⟩]) <|
  .cond (.tmp 31) (.seq (al [aY 4 false]) <|
  .ret) (.skip)) <|
  al [au 32 2 7,aw 33 32,aa 5 33])) <|
  al [aa 13 6,az 14 .add 13 1,aa 6 14]
def lW:SF:=⟨.seq (al [bQ 2 0,aY 4 false]) <|
  .seq (al [aJ 5 0]) <|
  .seq (.seq (al [aJ 6 0]) <|
  .block 0 (.loop kH)) <|
  .seq (al [aa 34 5,az 35 .neq 34 0,aa 4 35]) <|
  .ret,
  [.tmp 4],36⟩
theorem qQ:bf Tryz.prog 153 [2]=some lW:=by kernel_rfl
theorem HL (g:ao) (hg:g.Ok) (s:ByteArray) (H:View):aB Tryz.prog 152 [.agg (ax g),gs s] H fun r _=>r=gi (j4 g s):=by
  refine aB.of mixed q6 ?_
  have hs:g.aA.length < 4611686018427387904:=hg.aA
  simp (disch:=omega) only [↓wr,↓reduceIte,wq,ah,ag,aj,ab,ae,af,ai,isNil,Nat.reduceEqDiff,Nat.reduceAdd,Nat.reduceLT,Nat.reduceLeDiff,Int.reduceNeg,Int.reduceToNat,reduceCtorEq,nt,ax,encS]
  refine bH.intro (fun k T _=>∃ i:Nat,i+k=g.aA.length∧kS s ((g.aA.drop i).map Term.name) i=j4 g s∧T 1=gs s∧T 2=.aX (ax g) 0∧T 5=gi i) g.aA.length ?_ ?_
  · exact ⟨0,by omega,rfl,rfl,rfl,rfl⟩
  · rintro k T H' ⟨i,hk,hi,h1,h2,h5⟩
    simp (disch:=omega) only [↓wr,↓reduceIte,wq,ah,ag,aj,ab,ae,af,ai,isNil,Nat.reduceEqDiff,Nat.reduceAdd,Nat.reduceLT,Nat.reduceLeDiff,Int.reduceNeg,Int.reduceToNat,reduceCtorEq,lu,h1,h2,h5,ax]
    refine av.dec (fun hc=>?_) (fun hc=>?_)
    · have hg2:g.aA[i]?=some (g.aA[i]'(by omega)):=List.getElem?_eq_getElem (by omega)
      rw[fk (show i < g.aA.length by omega)] at hi
      generalize g.aA[i]'(by omega)=t at hg2 hi
      simp only[List.map_cons,kS] at hi
      simp (disch:=omega) only [↓wr,↓reduceIte,wq,ah,ag,aj,ab,ae,af,ai,isNil,Nat.reduceEqDiff,Nat.reduceAdd,Nat.reduceLT,Nat.reduceLeDiff,Int.reduceNeg,Int.reduceToNat,reduceCtorEq,h1,h2,h5,ax,cU,List.getElem?_map,hg2,Option.map_some]
      refine av.split (fun hd=>?_) (fun hd=>?_)
      · rw[if_pos hd] at hi
        simp (disch:=omega) only [↓wr,↓reduceIte,wq,ah,ag,aj,ab,ae,af,ai,isNil,Nat.reduceEqDiff,Nat.reduceAdd,Nat.reduceLT,Nat.reduceLeDiff,Int.reduceNeg,Int.reduceToNat,reduceCtorEq,h1,h2,h5]
        rw[hi]
      · rw[hd,if_neg (by simp)] at hi
        simp (disch:=omega) only [↓wr,↓reduceIte,wq,ah,ag,aj,ab,ae,af,ai,isNil,Nat.reduceEqDiff,Nat.reduceAdd,Nat.reduceLT,Nat.reduceLeDiff,Int.reduceNeg,Int.reduceToNat,reduceCtorEq,h1,h2,h5]
        exact ⟨k - 1,by omega,i+1,by omega,by push_cast; exact hi,rfl,rfl⟩
    · rw[List.drop_eq_nil_of_le (by omega)] at hi
      simp only[List.map_nil,kS] at hi
      simp (disch:=omega) only [↓wr,↓reduceIte,wq,ah,ag,aj,ab,ae,af,ai,isNil,Nat.reduceEqDiff,Nat.reduceAdd,Nat.reduceLT,Nat.reduceLeDiff,Int.reduceNeg,Int.reduceToNat,reduceCtorEq,h1,h2,h5]
      rw[hi]
theorem AG (g:ao) (hg:g.Ok) (s:ByteArray):aE Tryz.prog 152 [.agg (ax g),gs s] (gi (j4 g s)):=aE.val (C2 g s) (HL g hg s)
theorem K4 (g:ao) (hg:g.Ok) (s:ByteArray) (H:View):aB Tryz.prog 139 [.agg (ax g),gs s] H fun r _=>r=gi (um g s):=by
  refine aB.of mixed tw ?_
  have hs:g.aC.length < 4611686018427387904:=hg.aC
  simp (disch:=omega) only [↓wr,↓reduceIte,wq,ah,ag,aj,ab,ae,af,ai,isNil,Nat.reduceEqDiff,Nat.reduceAdd,Nat.reduceLT,Nat.reduceLeDiff,Int.reduceNeg,Int.reduceToNat,reduceCtorEq,oo,ax,encS]
  refine bH.intro (fun k T _=>∃ i:Nat,i+k=g.aC.length∧kS s (g.aC.drop i) i=um g s∧T 1=gs s∧T 2=.aX (ax g) 0∧T 5=gi i) g.aC.length ?_ ?_
  · exact ⟨0,by omega,rfl,rfl,rfl,rfl⟩
  · rintro k T H' ⟨i,hk,hi,h1,h2,h5⟩
    simp (disch:=omega) only [↓wr,↓reduceIte,wq,ah,ag,aj,ab,ae,af,ai,isNil,Nat.reduceEqDiff,Nat.reduceAdd,Nat.reduceLT,Nat.reduceLeDiff,Int.reduceNeg,Int.reduceToNat,reduceCtorEq,lN,h1,h2,h5,ax,encS]
    refine av.dec (fun hc=>?_) (fun hc=>?_)
    · have hg2:g.aC[i]?=some (g.aC[i]'(by omega)):=List.getElem?_eq_getElem (by omega)
      rw[fk (show i < g.aC.length by omega)] at hi
      generalize g.aC[i]'(by omega)=t at hg2 hi
      simp only[List.map_cons,kS] at hi
      simp (disch:=omega) only [↓wr,↓reduceIte,wq,ah,ag,aj,ab,ae,af,ai,isNil,Nat.reduceEqDiff,Nat.reduceAdd,Nat.reduceLT,Nat.reduceLeDiff,Int.reduceNeg,Int.reduceToNat,reduceCtorEq,h1,h2,h5,ax,encS,List.getElem?_map,hg2,Option.map_some]
      refine av.split (fun hd=>?_) (fun hd=>?_)
      · rw[if_pos hd] at hi
        simp (disch:=omega) only [↓wr,↓reduceIte,wq,ah,ag,aj,ab,ae,af,ai,isNil,Nat.reduceEqDiff,Nat.reduceAdd,Nat.reduceLT,Nat.reduceLeDiff,Int.reduceNeg,Int.reduceToNat,reduceCtorEq,h1,h2,h5]
        rw[hi]
      · rw[hd,if_neg (by simp)] at hi
        simp (disch:=omega) only [↓wr,↓reduceIte,wq,ah,ag,aj,ab,ae,af,ai,isNil,Nat.reduceEqDiff,Nat.reduceAdd,Nat.reduceLT,Nat.reduceLeDiff,Int.reduceNeg,Int.reduceToNat,reduceCtorEq,h1,h2,h5]
        exact ⟨k - 1,by omega,i+1,by omega,by push_cast; exact hi,rfl,rfl⟩
    · rw[List.drop_eq_nil_of_le (by omega)] at hi
      simp only[List.map_nil,kS] at hi
      simp (disch:=omega) only [↓wr,↓reduceIte,wq,ah,ag,aj,ab,ae,af,ai,isNil,Nat.reduceEqDiff,Nat.reduceAdd,Nat.reduceLT,Nat.reduceLeDiff,Int.reduceNeg,Int.reduceToNat,reduceCtorEq,h1,h2,h5]
      rw[hi]
theorem Kd (g:ao) (hg:g.Ok) (s:ByteArray):aE Tryz.prog 139 [.agg (ax g),gs s] (gi (um g s)):=aE.val (C2 g s) (K4 g hg s)
def gM (n:Int):List Term→Int→Option Int
  | [],way=>some way
  | t :: r,way=>if t.level=n then (if way≠0∧way≠t.assoc then none else gM n r t.assoc) else gM n r way
def fE (l:List Term) (n:Int):Bool:=match gM n l 0 with
  | some w=>w != 0
  | none=>false
theorem Gn (g:ao) (hg:g.Ok) (n:Int) (H:View):aB Tryz.prog 153 [.agg (ax g),gi n] H fun r _=>r=gb (fE g.aA n):=by
  refine aB.of mixed qQ ?_
  have hs:g.aA.length < 4611686018427387904:=hg.aA
  simp (disch:=omega) only [↓wr,↓reduceIte,wq,ah,ag,aj,ab,ae,af,ai,isNil,Nat.reduceEqDiff,Nat.reduceAdd,Nat.reduceLT,Nat.reduceLeDiff,Int.reduceNeg,Int.reduceToNat,reduceCtorEq,lW,ax,encS]
  refine bH.intro (fun k T _=>∃ (i:Nat) (w:Int),i+k=g.aA.length∧gM n (g.aA.drop i) w=gM n g.aA 0∧T 1=gi n∧T 2=.aX (ax g) 0∧T 5=gi w∧T 6=gi i) g.aA.length ?_ ?_
  · exact ⟨0,0,by omega,rfl,rfl,rfl,rfl,rfl⟩
  · rintro k T H' ⟨i,w,hk,hi,h1,h2,h5,h6⟩
    simp (disch:=omega) only [↓wr,↓reduceIte,wq,ah,ag,aj,ab,ae,af,ai,isNil,Nat.reduceEqDiff,Nat.reduceAdd,Nat.reduceLT,Nat.reduceLeDiff,Int.reduceNeg,Int.reduceToNat,reduceCtorEq,kH,h1,h2,h5,h6,ax]
    refine av.dec (fun hc=>?_) (fun hc=>?_)
    · have hg2:g.aA[i]?=some (g.aA[i]'(by omega)):=List.getElem?_eq_getElem (by omega)
      rw[fk (show i < g.aA.length by omega)] at hi
      generalize g.aA[i]'(by omega)=t at hg2 hi
      simp only[gM] at hi
      simp (disch:=omega) only [↓wr,↓reduceIte,wq,ah,ag,aj,ab,ae,af,ai,isNil,Nat.reduceEqDiff,Nat.reduceAdd,Nat.reduceLT,Nat.reduceLeDiff,Int.reduceNeg,Int.reduceToNat,reduceCtorEq,h1,h2,h5,h6,ax,cU,List.getElem?_map,hg2,Option.map_some]
      intro m hm
      try simp (disch:=omega) only [↓wr,↓reduceIte,wq,ah,ag,aj,ab,ae,af,ai,isNil,Nat.reduceEqDiff,Nat.reduceAdd,Nat.reduceLT,Nat.reduceLeDiff,Int.reduceNeg,Int.reduceToNat,reduceCtorEq,h1,h2,h5,h6]
      refine av.ne (fun hd=>?_) (fun hd=>?_)
      · rw[if_neg hd] at hi
        simp (disch:=omega) only [↓wr,↓reduceIte,wq,ah,ag,aj,ab,ae,af,ai,isNil,Nat.reduceEqDiff,Nat.reduceAdd,Nat.reduceLT,Nat.reduceLeDiff,Int.reduceNeg,Int.reduceToNat,reduceCtorEq,h1,h2,h5,h6]
        exact ⟨k - 1,by omega,i+1,w,by omega,hi,by first | rfl | exact ⟨rfl,rfl⟩ | exact ⟨rfl,rfl,rfl⟩⟩
      · rw[if_pos hd] at hi
        repeat' (first | (refine av.dec (fun _=>?_) (fun _=>?_)) | (refine av.eq (fun _=>?_) (fun _=>?_)) | (refine av.ne (fun _=>?_) (fun _=>?_)) | (refine av.split (fun _=>?_) (fun _=>?_)) | (simp (disch:=omega) only [↓wr,↓reduceIte,wq,ah,ag,aj,ab,ae,af,ai,isNil,Nat.reduceEqDiff,Nat.reduceAdd,Nat.reduceLT,Nat.reduceLeDiff,Int.reduceNeg,Int.reduceToNat,reduceCtorEq,h1,h2,h5,h6]))
        · rename_i a b
          rw[if_pos ⟨a,b⟩] at hi
          simp only[fE,← hi]
        · rename_i a b
          rw[if_neg (fun e=>e.2 b)] at hi
          exact ⟨k - 1,by omega,i+1,_,by omega,hi,by first | rfl | exact ⟨rfl,rfl⟩ | exact ⟨rfl,rfl,rfl⟩⟩
        · rename_i a
          rw[if_neg (fun e=>e.1 a)] at hi
          exact ⟨k - 1,by omega,i+1,_,by omega,hi,by first | rfl | exact ⟨rfl,rfl⟩ | exact ⟨rfl,rfl,rfl⟩⟩
    · rw[List.drop_eq_nil_of_le (by omega)] at hi
      simp only[gM] at hi
      simp (disch:=omega) only [↓wr,↓reduceIte,wq,ah,ag,aj,ab,ae,af,ai,isNil,Nat.reduceEqDiff,Nat.reduceAdd,Nat.reduceLT,Nat.reduceLeDiff,Int.reduceNeg,Int.reduceToNat,reduceCtorEq,h1,h2,h5,h6]
      simp only[fE,← hi]
theorem Hn (g:ao) (hg:g.Ok) (n:Int):aE Tryz.prog 153 [.agg (ax g),gi n] (gb (fE g.aA n)):=aE.val (Ej g n) (Gn g hg n)
def oI (g:ao) (t:Term):Bool:=(List.range t.level.toNat).all fun k=>fE g.aA ((k:Int)+1)
def iM (g:ao) (i:Int) (t:Term):Bool :=
  nz (dZ t.name) && (j4 g t.name == i) && decide (0≤t.level) && decide (t.level≤24) && decide (0≤t.assoc) && decide (t.assoc≤3) && ((t.level == 0) == (t.assoc == 0)) && oI g t
def im (g:ao):List Term→Int→Bool
  | [],_=>true
  | t :: r,i=>iM g i t && im g r (i+1)
def ix (g:ao):Bool:=decide (g.aA.length≤24) && im g g.aA 0
def kr:SC :=
  .seq (.seq (al [aa 63 5,au 64 1 4,aw 65 64,aS 66 .leq 63 65]) <|
  .cond (.tmp 66) (.skip) (.exit 2)) <|
  .seq (.block 3 (.seq (al [aK 69 4 1,aa 70 5,aH 71 153 [69,70],b7 72 71]) <|
  .cond (.tmp 72) (.seq (al [aY 2 false]) <|
  .ret) (.skip))) <|
  al [aa 67 5,az 68 .add 67 1,aa 5 68]
def kG:SC :=
  .seq (.seq (al [aa 10 3,au 11 0 1,aw 12 11,aR 13 12,aS 14 .lss 10 13]) <|
  .cond (.tmp 14) (.skip) (.exit 0)) <|
  .seq (.block 1 (.seq (.region false [⟨none,[au 17 0 1,aw 18 17,aa 19 3,aZ 20 3 18 19,aK 21 3 20,((some 4),.op (.alloc [(.val (.string ⟨#[]⟩)),(.val (.int .i64 0)),(.val (.int .i64 0))])),(none,.op (.store 3 (.tmp 4) (.tmp 21)))]⟩]) <|
  .seq (.seq (.region false [⟨none,[au 22 0 4,aw 23 22,aH 24 151 [23],b7 25 24,aa 26 25]⟩,⟨(some (26,false)),[aK 27 4 1,au 28 0 4,aw 29 28,aH 30 152 [27,29],aa 31 3,aS 32 .neq 30 31]⟩,⟨none,[bC 33 26 32,aa 34 33]⟩,⟨(some (34,false)),[au 35 1 4,aw 36 35,az 37 .lss 36 0]⟩,⟨none,[bC 38 34 37,aa 39 38]⟩,⟨(some (39,false)),[au 40 1 4,aw 41 40,az 42 .gtr 41 24]⟩,⟨none,[bC 43 39 42,aa 44 43]⟩,⟨(some (44,false)),[au 45 2 4,aw 46 45,az 47 .lss 46 0]⟩,⟨none,[bC 48 44 47,aa 49 48]⟩,⟨(some (49,false)),[au 50 2 4,aw 51 50,az 52 .gtr 51 3]⟩,⟨none,[bC 53 49 52,aa 54 53]⟩,⟨(some (54,false)),[au 55 1 4,aw 56 55,az 57 .eql 56 0,au 58 2 4,aw 59 58,az 60 .eql 59 0,((some 61),.op (.beq false (.tmp 57) (.tmp 60)))]⟩,⟨none,[bC 62 54 61]⟩]) <|
  .cond (.tmp 62) (.seq (al [aY 2 false]) <|
  .ret) (.skip)) <|
  .seq (al [aJ 5 1]) <|
  .block 2 (.loop kr))) <|
  al [aa 15 3,az 16 .add 15 1,aa 3 16]
def lV:SF:=⟨.seq (al [bQ 1 0,aY 2 false]) <|
  .seq (.seq (al [au 6 0 1,aw 7 6,aR 8 7,az 9 .gtr 8 24]) <|
  .cond (.tmp 9) (.seq (al [aY 2 false]) <|
  .ret) (.skip)) <|
  .seq (.seq (al [aJ 3 0]) <|
  .block 0 (.loop kG)) <|
  .seq (al [aY 2 true]) <|
  .ret,
  [.tmp 2],73⟩
theorem qR:bf Tryz.prog 104 [1]=some lV:=by kernel_rfl
def lj:SC :=
  .seq (.seq (al [aa 14 3,au 15 1 1,aw 16 15,aR 17 16,aS 18 .lss 14 17]) <|
  .cond (.tmp 18) (.skip) (.exit 0)) <|
  .seq (.block 1 (.seq (.region false [⟨none,[au 21 1 1,aw 22 21,aa 23 3,aZ 24 1 22 23,aw 25 24,aH 26 154 [25],b7 27 26,aa 28 27]⟩,⟨(some (28,false)),[aK 29 4 1,au 30 1 1,aw 31 30,aa 32 3,aZ 33 1 31 32,aw 34 33,aH 35 139 [29,34],aa 36 3,aS 37 .neq 35 36]⟩,⟨none,[bC 38 28 37,aa 39 38]⟩,⟨(some (39,false)),[aK 40 4 1,au 41 1 1,aw 42 41,aa 43 3,aZ 44 1 42 43,aw 45 44,aH 46 152 [40,45],az 47 .geq 46 0]⟩,⟨none,[bC 48 39 47]⟩]) <|
  .cond (.tmp 48) (.seq (al [aY 2 false]) <|
  .ret) (.skip))) <|
  al [aa 19 3,az 20 .add 19 1,aa 3 20]
def nA:SF:=⟨.seq (al [bQ 1 0,aY 2 false]) <|
  .seq (.seq (.region false [⟨none,[au 4 1 1,aw 5 4,aR 6 5,az 7 .lss 6 1,aa 8 7]⟩,⟨(some (8,false)),[au 9 1 1,aw 10 9,aR 11 10,az 12 .gtr 11 16]⟩,⟨none,[bC 13 8 12]⟩]) <|
  .cond (.tmp 13) (.seq (al [aY 2 false]) <|
  .ret) (.skip)) <|
  .seq (.seq (al [aJ 3 0]) <|
  .block 0 (.loop lj)) <|
  .seq (al [aY 2 true]) <|
  .ret,
  [.tmp 2],49⟩
theorem rN:bf Tryz.prog 105 [1]=some nA:=by kernel_rfl
def kW:SC :=
  .seq (.seq (al [aa 23 5,au 24 1 3,aw 25 24,aR 26 25,aS 27 .lss 23 26]) <|
  .cond (.tmp 27) (.skip) (.exit 0)) <|
  .seq (.block 1 (.seq (.region false [⟨none,[aK 30 4 2,au 31 1 3,aw 32 31,aa 33 5,aZ 34 1 32 33,aw 35 34,aH 36 155 [30,35],b7 37 36,aa 38 37]⟩,⟨(some (38,false)),[au 39 1 3,aw 40 39,aa 41 5,aZ 42 1 40 41,aw 43 42,az 44 .geq 43 0,aa 45 44]⟩,⟨(some (45,true)),[au 46 2 3,aw 47 46,az 48 .eql 47 (-1)]⟩,⟨(some (38,false)),[bz 49 45 48]⟩,⟨none,[bC 50 38 49]⟩]) <|
  .cond (.tmp 50) (.seq (al [aY 4 false]) <|
  .ret) (.skip))) <|
  al [aa 28 5,az 29 .add 28 1,aa 5 29]
def nB:SF:=⟨.seq (al [bQ 2 0,bQ 3 1,aY 4 false]) <|
  .seq (.seq (.region false [⟨none,[au 6 1 3,aw 7 6,aR 8 7,az 9 .gtr 8 6,aa 10 9]⟩,⟨(some (10,false)),[au 11 2 3,aw 12 11,az 13 .lss 12 (-1)]⟩,⟨none,[bC 14 10 13,aa 15 14]⟩,⟨(some (15,false)),[au 16 2 3,aw 17 16,au 18 0 2,aw 19 18,aR 20 19,aS 21 .geq 17 20]⟩,⟨none,[bC 22 15 21]⟩]) <|
  .cond (.tmp 22) (.seq (al [aY 4 false]) <|
  .ret) (.skip)) <|
  .seq (.seq (al [aJ 5 0]) <|
  .block 0 (.loop kW)) <|
  .seq (al [aY 4 true]) <|
  .ret,
  [.tmp 4],51⟩
theorem rl:bf Tryz.prog 106 [2,3]=some nB:=by kernel_rfl
def ko:SC :=
  .seq (.seq (al [aa 39 4,au 40 2 1,aw 41 40,aR 42 41,aS 43 .lss 39 42]) <|
  .cond (.tmp 43) (.skip) (.exit 0)) <|
  .seq (.block 1 (.seq (al [au 46 2 1,aw 47 46,aa 48 4,aZ 49 3 47 48,aK 50 3 49,((some 5),.op (.alloc [(.val (.int .i64 0)),(.emp 1),(.val (.int .i64 0))])),(none,.op (.store 3 (.tmp 5) (.tmp 50)))]) <|
  .seq (.seq (.region false [⟨none,[au 51 0 5,aw 52 51,az 53 .lss 52 0,aa 54 53]⟩,⟨(some (54,false)),[au 55 0 5,aw 56 55,aa 57 3,az 58 .add 57 1,aS 59 .gtr 56 58]⟩,⟨none,[bC 60 54 59,aa 61 60]⟩,⟨(some (61,false)),[aK 62 4 1,aK 63 3 5,aH 64 106 [62,63],b7 65 64]⟩,⟨none,[bC 66 61 65]⟩]) <|
  .cond (.tmp 66) (.seq (al [aY 2 false]) <|
  .ret) (.skip)) <|
  .seq (al [au 67 0 5,aw 68 67,aa 69 3,aS 70 .gtr 68 69]) <|
  .cond (.tmp 70) (al [au 71 0 5,aw 72 71,aa 3 72]) (.skip))) <|
  al [aa 44 4,az 45 .add 44 1,aa 4 45]
def lP:SF:=⟨.seq (al [bQ 1 0,aY 2 false]) <|
  .seq (.seq (.region false [⟨none,[aK 6 4 1,aH 7 104 [6],b7 8 7,aa 9 8]⟩,⟨(some (9,false)),[aK 10 4 1,aH 11 105 [10],b7 12 11]⟩,⟨none,[bC 13 9 12,aa 14 13]⟩,⟨(some (14,false)),[au 15 2 1,aw 16 15,aR 17 16,az 18 .lss 17 1]⟩,⟨none,[bC 19 14 18,aa 20 19]⟩,⟨(some (20,false)),[au 21 2 1,aw 22 21,aR 23 22,az 24 .gtr 23 40]⟩,⟨none,[bC 25 20 24,aa 26 25]⟩,⟨(some (26,false)),[au 27 3 1,aw 28 27,az 29 .lss 28 0]⟩,⟨none,[bC 30 26 29,aa 31 30]⟩,⟨(some (31,false)),[au 32 3 1,aw 33 32,au 34 1 1,aw 35 34,aR 36 35,aS 37 .geq 33 36]⟩,⟨none,[bC 38 31 37]⟩]) <|
  .cond (.tmp 38) (.seq (al [aY 2 false]) <|
  .ret) (.skip)) <|
  .seq (al [aJ 3 (-1)]) <|
  .seq (.seq (al [aJ 4 0]) <|
  .block 0 (.loop ko)) <|
  .seq (al [aa 73 3,au 74 1 1,aw 75 74,aR 76 75,az 77 .sub 76 1,aS 78 .eql 73 77,aa 2 78]) <|
  .ret,
  [.tmp 2],79⟩
theorem qC:bf Tryz.prog 54 [1]=some lP:=by kernel_rfl
set_option maxHeartbeats 2000000 in
theorem Gz (g:ao) (hg:g.Ok) (H:View):aB Tryz.prog 104 [.agg (ax g)] H fun r _=>r=gb (ix g):=by
  refine aB.of mixed qR ?_
  simp (disch:=omega) only [↓wr,↓reduceIte,wq,ah,ag,aj,ab,ae,af,ai,isNil,Nat.reduceEqDiff,Nat.reduceAdd,Nat.reduceLT,Nat.reduceLeDiff,Int.reduceNeg,Int.reduceToNat,reduceCtorEq,lV,ax,encS]
  refine av.dec (fun h=>?_) (fun h=>?_)
  · simp (disch:=omega) only [↓wr,↓reduceIte,wq,ah,ag,aj,ab,ae,af,ai,isNil,Nat.reduceEqDiff,Nat.reduceAdd,Nat.reduceLT,Nat.reduceLeDiff,Int.reduceNeg,Int.reduceToNat,reduceCtorEq]
    simp[ix,show ¬ g.aA.length≤24 by omega]
  · have hle:g.aA.length≤24:=by omega
    simp (disch:=omega) only [↓wr,↓reduceIte,wq,ah,ag,aj,ab,ae,af,ai,isNil,Nat.reduceEqDiff,Nat.reduceAdd,Nat.reduceLT,Nat.reduceLeDiff,Int.reduceNeg,Int.reduceToNat,reduceCtorEq]
    refine bH.intro (fun k T _=>∃ i:Nat,i+k=g.aA.length∧im g (g.aA.drop i) i=im g g.aA 0∧T 1=.aX (ax g) 0∧T 3=gi i) g.aA.length ?_ ?_
    · exact ⟨0,by omega,rfl,rfl,rfl⟩
    · rintro k T H' ⟨i,hk,hi,h1,h3⟩
      simp (disch:=omega) only [↓wr,↓reduceIte,wq,ah,ag,aj,ab,ae,af,ai,isNil,Nat.reduceEqDiff,Nat.reduceAdd,Nat.reduceLT,Nat.reduceLeDiff,Int.reduceNeg,Int.reduceToNat,reduceCtorEq,kG,h1,h3,ax]
      refine av.dec (fun hc=>?_) (fun hc=>?_)
      · have hg2:g.aA[i]?=some (g.aA[i]'(by omega)):=List.getElem?_eq_getElem (by omega)
        rw[fk (show i < g.aA.length by omega)] at hi
        have hmem:g.aA[i]'(by omega)∈g.aA:=List.getElem_mem _
        generalize g.aA[i]'(by omega)=t at hg2 hi hmem
        obtain ⟨⟨hl1,hl2⟩,⟨ha1,ha2⟩⟩:=hg.term t hmem
        simp only[im] at hi
        have hbad:iM g i t=false→gb false=gb (ix g):=fun e=>by rw[e,Bool.false_and] at hi; simp[ix,← hi]
        simp (disch:=omega) only [↓wr,↓reduceIte,wq,ah,ag,aj,ab,ae,af,ai,isNil,Nat.reduceEqDiff,Nat.reduceAdd,Nat.reduceLT,Nat.reduceLeDiff,Int.reduceNeg,Int.reduceToNat,reduceCtorEq,h1,h3,ax,cU,List.getElem?_map,hg2,Option.map_some]
        intro m hm
        try simp (disch:=omega) only [↓wr,↓reduceIte,wq,ah,ag,aj,ab,ae,af,ai,isNil,Nat.reduceEqDiff,Nat.reduceAdd,Nat.reduceLT,Nat.reduceLeDiff,Int.reduceNeg,Int.reduceToNat,reduceCtorEq,h1,h3]
        refine aG.pure (G3 t.name) (by kernel_rfl) ?_
        repeat' (first | (refine av.dec (fun _=>?_) (fun _=>?_)) | (refine av.eq (fun _=>?_) (fun _=>?_)) | (refine av.ne (fun _=>?_) (fun _=>?_)) | (refine av.split (fun _=>?_) (fun _=>?_)) | (simp (disch:=omega) only [↓wr,↓reduceIte,wq,ah,ag,aj,ab,ae,af,ai,isNil,Nat.reduceEqDiff,Nat.reduceAdd,Nat.reduceLT,Nat.reduceLeDiff,Int.reduceNeg,Int.reduceToNat,reduceCtorEq,h1,h3,ax]))
        all_goals try (refine hbad ?_; simp[iM, *]; done)
        rename_i hnm
        refine aG.pure (AG g hg t.name) (by kernel_rfl) ?_
        repeat' (first | (refine av.dec (fun _=>?_) (fun _=>?_)) | (refine av.eq (fun _=>?_) (fun _=>?_)) | (refine av.ne (fun _=>?_) (fun _=>?_)) | (refine av.split (fun _=>?_) (fun _=>?_)) | (simp (disch:=omega) only [↓wr,↓reduceIte,wq,ah,ag,aj,ab,ae,af,ai,isNil,Nat.reduceEqDiff,Nat.reduceAdd,Nat.reduceLT,Nat.reduceLeDiff,Int.reduceNeg,Int.reduceToNat,reduceCtorEq,h1,h3,ax]))
        all_goals try (refine hbad ?_; simp[iM, *]; done)
        all_goals try (refine hbad ?_; simp[iM]; grind)
        rename_i e1 e2 e3 e4 e5 e6
        have hpre:iM g i t=oI g t:=by
          have e6':((t.level == 0) == (t.assoc == 0))=true:=by simpa using e6
          simp[iM,hnm,e1,e6',show (0:Int)≤t.level by omega,show t.level≤24 by omega,show (0:Int)≤t.assoc by omega,show t.assoc≤3 by omega]
        refine bH.intro (fun k' T H''=>∃ j:Nat,1≤j∧j+k'=t.level.toNat+1∧(∀ q:Nat,q+1 < j→fE g.aA ((q:Int)+1)=true)∧T 1=.aX (ax g) 0∧T 3=gi i∧T 4=.ptr m 0 0∧H'' m=.arr 3 [[gs t.name,gi t.level,gi t.assoc]]∧T 5=gi j) t.level.toNat ?_ ?_
        · refine ⟨1,by omega,by omega,fun q hq=>by omega,?_⟩
          simp (disch:=omega) only [↓wr,↓reduceIte,wq,ah,ag,aj,ab,ae,af,ai,isNil,Nat.reduceEqDiff,Nat.reduceAdd,Nat.reduceLT,Nat.reduceLeDiff,Int.reduceNeg,Int.reduceToNat,reduceCtorEq,h1,h3,ax]
          rfl
        · rintro k' T' H'' ⟨j,hj1,hj2,hj3,f1,f3,f4,fm,f5⟩
          simp (disch:=omega) only [↓wr,↓reduceIte,wq,ah,ag,aj,ab,ae,af,ai,isNil,Nat.reduceEqDiff,Nat.reduceAdd,Nat.reduceLT,Nat.reduceLeDiff,Int.reduceNeg,Int.reduceToNat,reduceCtorEq,kr,f1,f3,f4,f5,fm]
          refine av.dec (fun hd=>?_) (fun hd=>?_)
          · simp (disch:=omega) only [↓wr,↓reduceIte,wq,ah,ag,aj,ab,ae,af,ai,isNil,Nat.reduceEqDiff,Nat.reduceAdd,Nat.reduceLT,Nat.reduceLeDiff,Int.reduceNeg,Int.reduceToNat,reduceCtorEq,f1,f3,f4,f5,fm,ax]
            refine aG.pure (Hn g hg j) (by kernel_rfl) ?_
            repeat' (first | (refine av.dec (fun _=>?_) (fun _=>?_)) | (refine av.eq (fun _=>?_) (fun _=>?_)) | (refine av.ne (fun _=>?_) (fun _=>?_)) | (refine av.split (fun _=>?_) (fun _=>?_)) | (simp (disch:=omega) only [↓wr,↓reduceIte,wq,ah,ag,aj,ab,ae,af,ai,isNil,Nat.reduceEqDiff,Nat.reduceAdd,Nat.reduceLT,Nat.reduceLeDiff,Int.reduceNeg,Int.reduceToNat,reduceCtorEq,f1,f3,f4,f5,fm,ax]))
            · rename_i hb
              refine ⟨k' - 1,by omega,j+1,by omega,by omega,fun q hq=>?_,by first | rfl | exact ⟨rfl,rfl⟩ | exact ⟨rfl,rfl,rfl⟩⟩
              by_cases e:q+1=j
              · have:(q:Int)+1=j:=by omega
                rw[this]; exact hb
              · exact hj3 q (by omega)
            · rename_i hb
              refine hbad ?_
              rw[hpre,oI,List.all_eq_false]
              refine ⟨j - 1,by simp; omega,?_⟩
              have:((j - 1:Nat):Int)+1=j:=by omega
              rw[this,hb]; simp
          · simp (disch:=omega) only [↓wr,↓reduceIte,wq,ah,ag,aj,ab,ae,af,ai,isNil,Nat.reduceEqDiff,Nat.reduceAdd,Nat.reduceLT,Nat.reduceLeDiff,Int.reduceNeg,Int.reduceToNat,reduceCtorEq,f1,f3,f4,f5,fm]
            refine ⟨k - 1,by omega,i+1,by omega,?_,by first | rfl | exact ⟨rfl,rfl⟩ | exact ⟨rfl,rfl,rfl⟩⟩
            have hlv:oI g t=true:=by
              rw[oI,List.all_eq_true]
              intro q hq
              exact hj3 q (by simp at hq; omega)
            rw[hpre,hlv,Bool.true_and] at hi
            push_cast; exact hi
      · rw[List.drop_eq_nil_of_le (by omega)] at hi
        simp only[im] at hi
        simp (disch:=omega) only [↓wr,↓reduceIte,wq,ah,ag,aj,ab,ae,af,ai,isNil,Nat.reduceEqDiff,Nat.reduceAdd,Nat.reduceLT,Nat.reduceLeDiff,Int.reduceNeg,Int.reduceToNat,reduceCtorEq,h1,h3]
        simp[ix,hle,← hi]
theorem Hx (g:ao) (hg:g.Ok):aE Tryz.prog 104 [.agg (ax g)] (gb (ix g)):=aE.val (jj g) (Gz g hg)
def jL (g:ao) (i:Int) (s:ByteArray):Bool:=eW (dZ s) && (um g s == i) && decide (j4 g s < 0)
def oH (g:ao):List ByteArray→Int→Bool
  | [],_=>true
  | s :: r,i=>jL g i s && oH g r (i+1)
def jd (g:ao):Bool:=decide (1≤g.aC.length) && decide (g.aC.length≤16) && oH g g.aC 0
set_option maxHeartbeats 1000000 in
theorem Im (g:ao) (hg:g.Ok) (H:View):aB Tryz.prog 105 [.agg (ax g)] H fun r _=>r=gb (jd g):=by
  refine aB.of mixed rN ?_
  repeat' (first | (refine av.dec (fun _=>?_) (fun _=>?_)) | (refine av.eq (fun _=>?_) (fun _=>?_)) | (refine av.ne (fun _=>?_) (fun _=>?_)) | (refine av.split (fun _=>?_) (fun _=>?_)) | (simp (disch:=omega) only [↓wr,↓reduceIte,wq,ah,ag,aj,ab,ae,af,ai,isNil,Nat.reduceEqDiff,Nat.reduceAdd,Nat.reduceLT,Nat.reduceLeDiff,Int.reduceNeg,Int.reduceToNat,reduceCtorEq,nA,ax,encS]))
  · simp[jd,show ¬ 1≤g.aC.length by omega]
  · simp[jd,show ¬ g.aC.length≤16 by omega]
  · have hle:g.aC.length≤16:=by omega
    refine bH.intro (fun k T _=>∃ i:Nat,i+k=g.aC.length∧oH g (g.aC.drop i) i=oH g g.aC 0∧T 1=.aX (ax g) 0∧T 3=gi i) g.aC.length ?_ ?_
    · exact ⟨0,by omega,rfl,rfl,rfl⟩
    · rintro k T H' ⟨i,hk,hi,h1,h3⟩
      simp (disch:=omega) only [↓wr,↓reduceIte,wq,ah,ag,aj,ab,ae,af,ai,isNil,Nat.reduceEqDiff,Nat.reduceAdd,Nat.reduceLT,Nat.reduceLeDiff,Int.reduceNeg,Int.reduceToNat,reduceCtorEq,lj,h1,h3,ax,encS]
      refine av.dec (fun hc=>?_) (fun hc=>?_)
      · have hg2:g.aC[i]?=some (g.aC[i]'(by omega)):=List.getElem?_eq_getElem (by omega)
        rw[fk (show i < g.aC.length by omega)] at hi
        generalize g.aC[i]'(by omega)=t at hg2 hi
        simp only[oH] at hi
        have hbad:jL g i t=false→gb false=gb (jd g):=fun e=>by rw[e,Bool.false_and] at hi; simp[jd,← hi]
        simp (disch:=omega) only [↓wr,↓reduceIte,wq,ah,ag,aj,ab,ae,af,ai,isNil,Nat.reduceEqDiff,Nat.reduceAdd,Nat.reduceLT,Nat.reduceLeDiff,Int.reduceNeg,Int.reduceToNat,reduceCtorEq,h1,h3,ax,encS,List.getElem?_map,hg2,Option.map_some]
        refine aG.pure (AE t) (by kernel_rfl) ?_
        repeat' (first | (refine av.dec (fun _=>?_) (fun _=>?_)) | (refine av.eq (fun _=>?_) (fun _=>?_)) | (refine av.ne (fun _=>?_) (fun _=>?_)) | (refine av.split (fun _=>?_) (fun _=>?_)) | (simp (disch:=omega) only [↓wr,↓reduceIte,wq,ah,ag,aj,ab,ae,af,ai,isNil,Nat.reduceEqDiff,Nat.reduceAdd,Nat.reduceLT,Nat.reduceLeDiff,Int.reduceNeg,Int.reduceToNat,reduceCtorEq,h1,h3,ax,encS,List.getElem?_map,hg2,Option.map_some]))
        all_goals try (refine hbad ?_; simp[jL, *]; done)
        rename_i hnm
        refine aG.pure (Kd g hg t) (by kernel_rfl) ?_
        repeat' (first | (refine av.dec (fun _=>?_) (fun _=>?_)) | (refine av.eq (fun _=>?_) (fun _=>?_)) | (refine av.ne (fun _=>?_) (fun _=>?_)) | (refine av.split (fun _=>?_) (fun _=>?_)) | (simp (disch:=omega) only [↓wr,↓reduceIte,wq,ah,ag,aj,ab,ae,af,ai,isNil,Nat.reduceEqDiff,Nat.reduceAdd,Nat.reduceLT,Nat.reduceLeDiff,Int.reduceNeg,Int.reduceToNat,reduceCtorEq,h1,h3,ax,encS,List.getElem?_map,hg2,Option.map_some]))
        all_goals try (refine hbad ?_; simp[jL, *]; done)
        rename_i hno
        refine aG.pure (AG g hg t) (by kernel_rfl) ?_
        repeat' (first | (refine av.dec (fun _=>?_) (fun _=>?_)) | (refine av.eq (fun _=>?_) (fun _=>?_)) | (refine av.ne (fun _=>?_) (fun _=>?_)) | (refine av.split (fun _=>?_) (fun _=>?_)) | (simp (disch:=omega) only [↓wr,↓reduceIte,wq,ah,ag,aj,ab,ae,af,ai,isNil,Nat.reduceEqDiff,Nat.reduceAdd,Nat.reduceLT,Nat.reduceLeDiff,Int.reduceNeg,Int.reduceToNat,reduceCtorEq,h1,h3,ax,encS]))
        all_goals try (refine hbad ?_; simp[jL, *]; done)
        rename_i hte
        refine ⟨k - 1,by omega,i+1,by omega,?_,by first | rfl | exact ⟨rfl,rfl⟩ | exact ⟨rfl,rfl,rfl⟩⟩
        have:jL g i t=true:=by simp[jL,hnm,hno,show j4 g t < 0 by omega]
        rw[this,Bool.true_and] at hi
        push_cast; exact hi
      · rw[List.drop_eq_nil_of_le (by omega)] at hi
        simp only[oH] at hi
        simp (disch:=omega) only [↓wr,↓reduceIte,wq,ah,ag,aj,ab,ae,af,ai,isNil,Nat.reduceEqDiff,Nat.reduceAdd,Nat.reduceLT,Nat.reduceLeDiff,Int.reduceNeg,Int.reduceToNat,reduceCtorEq,h1,h3]
        simp[jd,hle,show 1≤g.aC.length by omega,← hi]
theorem HY (g:ao) (hg:g.Ok):aE Tryz.prog 105 [.agg (ax g)] (gb (jd g)):=aE.val (jj g) (Im g hg)
def kf (g:ao) (prec s:Int):Bool:=iB g s && !(decide (0≤s) && prec == -1)
def fX (g:ao) (r:aN):Bool:=decide (r.right.length≤6) && decide (-1≤r.prec) && decide (r.prec < g.aA.length) && r.right.all (kf g r.prec)
theorem Ed (g:ao) (r:aN):∀ v∈[V.agg (ax g),V.agg (bo r)],Tree v:=by
  intro v hv; simp at hv
  rcases hv with rfl | rfl
  · exact cg _ (c8 g)
  · exact cg _ (fM r)
set_option maxHeartbeats 1000000 in
theorem I3 (g:ao) (r:aN) (hr:bc r.right∧∀ x∈r.right,bB x) (H:View):aB Tryz.prog 106 [.agg (ax g),.agg (bo r)] H fun v _=>v=gb (fX g r):=by
  refine aB.of mixed rl ?_
  repeat' (first | (refine av.dec (fun _=>?_) (fun _=>?_)) | (refine av.eq (fun _=>?_) (fun _=>?_)) | (refine av.ne (fun _=>?_) (fun _=>?_)) | (refine av.split (fun _=>?_) (fun _=>?_)) | (simp (disch:=omega) only [↓wr,↓reduceIte,wq,ah,ag,aj,ab,ae,af,ai,isNil,Nat.reduceEqDiff,Nat.reduceAdd,Nat.reduceLT,Nat.reduceLeDiff,Int.reduceNeg,Int.reduceToNat,reduceCtorEq,nB,ax,encS,bo,encI]))
  · simp[fX,show ¬ r.right.length≤6 by omega]
  · simp[fX,show ¬ -1≤r.prec by omega]
  · simp[fX,show ¬ r.prec < g.aA.length by omega]
  · have hle:r.right.length≤6:=by omega
    have hp1 : -1≤r.prec:=by omega
    have hp2:r.prec < g.aA.length:=by omega
    refine bH.intro (fun k T _=>∃ i:Nat,i+k=r.right.length∧(r.right.drop i).all (kf g r.prec)=r.right.all (kf g r.prec)∧T 2=.aX (ax g) 0∧T 3=.aX (bo r) 0∧T 5=gi i) r.right.length ?_ ?_
    · exact ⟨0,by omega,rfl,rfl,rfl,rfl⟩
    · rintro k T H' ⟨i,hk,hi,h2,h3,h5⟩
      simp (disch:=omega) only [↓wr,↓reduceIte,wq,ah,ag,aj,ab,ae,af,ai,isNil,Nat.reduceEqDiff,Nat.reduceAdd,Nat.reduceLT,Nat.reduceLeDiff,Int.reduceNeg,Int.reduceToNat,reduceCtorEq,kW,h2,h3,h5,bo,encI]
      refine av.dec (fun hc=>?_) (fun hc=>?_)
      · have hg2:r.right[i]?=some (r.right[i]'(by omega)):=List.getElem?_eq_getElem (by omega)
        rw[fk (show i < r.right.length by omega)] at hi
        have hmem:r.right[i]'(by omega)∈r.right:=List.getElem_mem _
        generalize r.right[i]'(by omega)=t at hg2 hi hmem
        have hin:=hr.2 t hmem
        simp only[List.all_cons] at hi
        have hbad:kf g r.prec t=false→gb false=gb (fX g r):=fun e=>by rw[e,Bool.false_and] at hi; simp only[fX,← hi,Bool.and_false]
        have hok:kf g r.prec t=true→(r.right.drop (i+1)).all (kf g r.prec)=r.right.all (kf g r.prec):=fun e=>by rw[e,Bool.true_and] at hi; exact hi
        simp (disch:=omega) only [↓wr,↓reduceIte,wq,ah,ag,aj,ab,ae,af,ai,isNil,Nat.reduceEqDiff,Nat.reduceAdd,Nat.reduceLT,Nat.reduceLeDiff,Int.reduceNeg,Int.reduceToNat,reduceCtorEq,h2,h3,h5,ax,encS,bo,encI,List.getElem?_map,hg2,Option.map_some]
        refine aG.pure (Nt g t hin) (by kernel_rfl) ?_
        repeat' (first | (refine av.dec (fun _=>?_) (fun _=>?_)) | (refine av.eq (fun _=>?_) (fun _=>?_)) | (refine av.ne (fun _=>?_) (fun _=>?_)) | (refine av.split (fun _=>?_) (fun _=>?_)) | (simp (disch:=omega) only [↓wr,↓reduceIte,wq,ah,ag,aj,ab,ae,af,ai,isNil,Nat.reduceEqDiff,Nat.reduceAdd,Nat.reduceLT,Nat.reduceLeDiff,Int.reduceNeg,Int.reduceToNat,reduceCtorEq,h2,h3,h5,ax,encS,bo,encI,List.getElem?_map,hg2,Option.map_some]))
        all_goals first
          | (refine hbad ?_; simp[kf, *]; done)
          | (refine ⟨k - 1,by omega,i+1,by omega,hok (by simp[kf, *]; done),by first | rfl | exact ⟨rfl,rfl⟩ | exact ⟨rfl,rfl,rfl⟩⟩)
          | skip
      · rw[List.drop_eq_nil_of_le (by omega)] at hi
        simp only[List.all_nil] at hi
        simp (disch:=omega) only [↓wr,↓reduceIte,wq,ah,ag,aj,ab,ae,af,ai,isNil,Nat.reduceEqDiff,Nat.reduceAdd,Nat.reduceLT,Nat.reduceLeDiff,Int.reduceNeg,Int.reduceToNat,reduceCtorEq,h2,h3,h5]
        simp only[fX,hle,hp1,hp2,decide_true,Bool.true_and,← hi]
theorem IT (g:ao) (r:aN) (hr:bc r.right∧∀ x∈r.right,bB x):aE Tryz.prog 106 [.agg (ax g),.agg (bo r)] (gb (fX g r)):=aE.val (Ed g r) (I3 g r hr)
def fC (g:ao):List aN→Int→Bool
  | [],top=>top == (g.aC.length:Int) - 1
  | r :: l,top=>decide (0≤r.left) && decide (r.left≤top+1) && fX g r && fC g l (if r.left > top then r.left else top)
def bt (g:ao):Bool :=
  ix g && jd g && decide (1≤g.rules.length) && decide (g.rules.length≤40) && decide (0≤g.start) && decide (g.start < g.aC.length) && fC g g.rules (-1)
set_option maxHeartbeats 1000000 in
theorem Ha (g:ao) (hg:g.Ok) (H:View):aB Tryz.prog 54 [.agg (ax g)] H fun r _=>r=gb (bt g):=by
  refine aB.of mixed qC ?_
  have hn:=hg.aC
  unfold bc at hn
  simp (disch:=omega) only [↓wr,↓reduceIte,wq,ah,ag,aj,ab,ae,af,ai,isNil,Nat.reduceEqDiff,Nat.reduceAdd,Nat.reduceLT,Nat.reduceLeDiff,Int.reduceNeg,Int.reduceToNat,reduceCtorEq,lP,ax,encS]
  refine aG.pure (Hx g hg) (by kernel_rfl) ?_
  repeat' (first | (refine av.dec (fun _=>?_) (fun _=>?_)) | (refine av.eq (fun _=>?_) (fun _=>?_)) | (refine av.ne (fun _=>?_) (fun _=>?_)) | (refine av.split (fun _=>?_) (fun _=>?_)) | (simp (disch:=omega) only [↓wr,↓reduceIte,wq,ah,ag,aj,ab,ae,af,ai,isNil,Nat.reduceEqDiff,Nat.reduceAdd,Nat.reduceLT,Nat.reduceLeDiff,Int.reduceNeg,Int.reduceToNat,reduceCtorEq,ax,encS]))
  · rename_i h1
    refine aG.pure (HY g hg) (by kernel_rfl) ?_
    repeat' (first | (refine av.dec (fun _=>?_) (fun _=>?_)) | (refine av.eq (fun _=>?_) (fun _=>?_)) | (refine av.ne (fun _=>?_) (fun _=>?_)) | (refine av.split (fun _=>?_) (fun _=>?_)) | (simp (disch:=omega) only [↓wr,↓reduceIte,wq,ah,ag,aj,ab,ae,af,ai,isNil,Nat.reduceEqDiff,Nat.reduceAdd,Nat.reduceLT,Nat.reduceLeDiff,Int.reduceNeg,Int.reduceToNat,reduceCtorEq,ax,encS]))
    all_goals try (simp[bt, *]; done)
    all_goals try (simp[bt]; omega)
    rename_i h2 h3 h4 h5 h6
    have hle:g.rules.length≤40:=by omega
    have hpre:∀ b,fC g g.rules (-1)=b→gb b=gb (bt g):=fun b e=>by
      simp[bt,h1,h2,show 1≤g.rules.length by omega,hle,show 0≤g.start by omega,show g.start < g.aC.length by omega,e]
    refine bH.intro (fun k T _=>∃ (i:Nat) (w:Int),i+k=g.rules.length∧-1≤w∧w < i∧fC g (g.rules.drop i) w=fC g g.rules (-1)∧T 1=.aX (ax g) 0∧T 3=gi w∧T 4=gi i) g.rules.length ?_ ?_
    · exact ⟨0,-1,by omega,by omega,by omega,rfl,rfl,rfl,rfl⟩
    · rintro k T H' ⟨i,w,hk,hw1,hw2,hi,f1,f3,f4⟩
      simp (disch:=omega) only [↓wr,↓reduceIte,wq,ah,ag,aj,ab,ae,af,ai,isNil,Nat.reduceEqDiff,Nat.reduceAdd,Nat.reduceLT,Nat.reduceLeDiff,Int.reduceNeg,Int.reduceToNat,reduceCtorEq,ko,f1,f3,f4,ax]
      refine av.dec (fun hc=>?_) (fun hc=>?_)
      · have hg2:g.rules[i]?=some (g.rules[i]'(by omega)):=List.getElem?_eq_getElem (by omega)
        rw[fk (show i < g.rules.length by omega)] at hi
        have hmem:g.rules[i]'(by omega)∈g.rules:=List.getElem_mem _
        generalize g.rules[i]'(by omega)=t at hg2 hi hmem
        obtain ⟨⟨hl1,hl2⟩,hp,hr1,hr2⟩:=hg.aF t hmem
        simp only[fC] at hi
        simp (disch:=omega) only [↓wr,↓reduceIte,wq,ah,ag,aj,ab,ae,af,ai,isNil,Nat.reduceEqDiff,Nat.reduceAdd,Nat.reduceLT,Nat.reduceLeDiff,Int.reduceNeg,Int.reduceToNat,reduceCtorEq,f1,f3,f4,ax,encS,bo,encI,List.getElem?_map,hg2,Option.map_some]
        intro m hm
        try simp (disch:=omega) only [↓wr,↓reduceIte,wq,ah,ag,aj,ab,ae,af,ai,isNil,Nat.reduceEqDiff,Nat.reduceAdd,Nat.reduceLT,Nat.reduceLeDiff,Int.reduceNeg,Int.reduceToNat,reduceCtorEq,f1,f3,f4]
        repeat' (first | (refine av.dec (fun _=>?_) (fun _=>?_)) | (refine av.eq (fun _=>?_) (fun _=>?_)) | (refine av.ne (fun _=>?_) (fun _=>?_)) | (refine av.split (fun _=>?_) (fun _=>?_)) | (simp (disch:=omega) only [↓wr,↓reduceIte,wq,ah,ag,aj,ab,ae,af,ai,isNil,Nat.reduceEqDiff,Nat.reduceAdd,Nat.reduceLT,Nat.reduceLeDiff,Int.reduceNeg,Int.reduceToNat,reduceCtorEq,f1,f3,f4,ax,encS,bo,encI]))
        all_goals try (refine hpre _ ?_; simp only[← hi]; simp; omega)
        rename_i e1 e2
        refine aG.pure (IT g t ⟨hr1,hr2⟩) (by kernel_rfl) ?_
        repeat' (first | (refine av.dec (fun _=>?_) (fun _=>?_)) | (refine av.eq (fun _=>?_) (fun _=>?_)) | (refine av.ne (fun _=>?_) (fun _=>?_)) | (refine av.split (fun _=>?_) (fun _=>?_)) | (simp (disch:=omega) only [↓wr,↓reduceIte,wq,ah,ag,aj,ab,ae,af,ai,isNil,Nat.reduceEqDiff,Nat.reduceAdd,Nat.reduceLT,Nat.reduceLeDiff,Int.reduceNeg,Int.reduceToNat,reduceCtorEq,f1,f3,f4,ax,encS,bo,encI]))
        all_goals simp only[show 0≤t.left by omega,show t.left≤w+1 by omega,decide_true,Bool.true_and] at hi
        · rename_i e3 e4
          rw[e3,Bool.true_and,if_pos e4] at hi
          exact ⟨k - 1,by omega,i+1,_,by omega,by omega,by push_cast; omega,hi,by first | rfl | exact ⟨rfl,rfl⟩ | exact ⟨rfl,rfl,rfl⟩⟩
        · rename_i e3 e4
          rw[e3,Bool.true_and,if_neg e4] at hi
          exact ⟨k - 1,by omega,i+1,_,by omega,by omega,by push_cast; omega,hi,by first | rfl | exact ⟨rfl,rfl⟩ | exact ⟨rfl,rfl,rfl⟩⟩
        · rename_i e3
          rw[e3,Bool.false_and] at hi
          exact hpre _ hi.symm
      · rw[List.drop_eq_nil_of_le (by omega)] at hi
        simp only[fC] at hi
        simp (disch:=omega) only [↓wr,↓reduceIte,wq,ah,ag,aj,ab,ae,af,ai,isNil,Nat.reduceEqDiff,Nat.reduceAdd,Nat.reduceLT,Nat.reduceLeDiff,Int.reduceNeg,Int.reduceToNat,reduceCtorEq,f1,f3,f4,ax,encS]
        exact hpre _ hi.symm
  · rename_i h1; simp[bt,h1]
theorem GY (g:ao) (hg:g.Ok):aE Tryz.prog 54 [.agg (ax g)] (gb (bt g)):=aE.val (jj g) (Ha g hg)
inductive bS (α:Type) where
  | nil
  | node (v:α) (l r:bS α)
noncomputable def bS.get {α:Type} (z:α) (t:bS α):Nat→α :=
  bS.rec (motive:=fun _=>Nat→α) (fun _=>z) (fun v _ _ gl gr i=>Bool.rec (Bool.rec (gr (i / 2 - 1)) (gl (i / 2)) (Nat.beq (i % 2) 1)) v (Nat.beq i 0)) t
theorem bS.get_nil {α:Type} (z:α) (i:Nat):bS.get z .nil i=z:=rfl
theorem bS.K5 {α:Type} (z v:α) (l r:bS α) (i:Nat):bS.get z (.node v l r) i=match Nat.beq i 0 with
    | true=>v
    | false=>match Nat.beq (i % 2) 1 with
      | true=>bS.get z l (i / 2)
      | false=>bS.get z r (i / 2 - 1):=by
  change (Bool.rec (motive:=fun _=>α) _ _ _:α)=_
  cases Nat.beq i 0 with
  | true=>rfl
  | false=>cases Nat.beq (i % 2) 1 <;> rfl
def bS.val {α:Type} (z:α):bS α→α
  | .nil=>z
  | .node v _ _=>v
def bS.left {α:Type} : bS α→bS α
  | .nil=>.nil
  | .node _ l _=>l
def bS.right {α:Type} : bS α→bS α
  | .nil=>.nil
  | .node _ _ r=>r
noncomputable def bS.put {α:Type} (z:α) (x:α) (d:Nat):bS α→Nat→bS α :=
  Nat.rec (motive:=fun _=>bS α→Nat→bS α) (fun t _=>t) (fun _ pd t i =>
    Bool.rec (Bool.rec (.node (t.val z) t.left (pd t.right (i / 2 - 1))) (.node (t.val z) (pd t.left (i / 2)) t.right) (Nat.beq (i % 2) 1)) (.node x t.left t.right) (Nat.beq i 0)) d
theorem bS.Kw {α:Type} (z x:α) (d:Nat) (t:bS α) (i:Nat):bS.put z x (d+1) t i=match Nat.beq i 0 with
    | true=>.node x t.left t.right
    | false=>match Nat.beq (i % 2) 1 with
      | true=>.node (t.val z) (bS.put z x d t.left (i / 2)) t.right
      | false=>.node (t.val z) t.left (bS.put z x d t.right (i / 2 - 1)):=by
  change (Bool.rec (motive:=fun _=>bS α) _ _ _:bS α)=_
  cases Nat.beq i 0 with
  | true=>rfl
  | false=>cases Nat.beq (i % 2) 1 <;> rfl
theorem bS.kN {α:Type} (z:α) (t:bS α) (j:Nat):t.get z j=if j=0 then t.val z else if j % 2=1 then t.left.get z (j / 2) else t.right.get z (j / 2 - 1):=by
  cases t with
  | nil=>simp[bS.get_nil,bS.val,bS.left,bS.right]
  | node v l r =>
    simp only[bS.K5,bS.val,bS.left,bS.right]
    by_cases h:j=0
    · subst h; rfl
    · have:Nat.beq j 0=false:=by cases e:Nat.beq j 0 with | true=>exact absurd (Nat.eq_of_beq_eq_true e) h | false=>rfl
      rw[this,if_neg h]
      simp only
      by_cases h2:j % 2=1
      · have:Nat.beq (j % 2) 1=true:=by rw[h2]; rfl
        rw[this,if_pos h2]
      · have:Nat.beq (j % 2) 1=false:=by cases e:Nat.beq (j % 2) 1 with | true=>exact absurd (Nat.eq_of_beq_eq_true e) h2 | false=>rfl
        rw[this,if_neg h2]
theorem bS.kM {α:Type} (z x:α):∀ (d:Nat) (t:bS α) (i j:Nat),i+1 < 2 ^ d→(bS.put z x d t i).get z j=if j=i then x else t.get z j
  | 0,t,i,j,h=>by simp at h
  | d+1,t,i,j,h=>by
    rw[Nat.pow_succ] at h
    simp only[bS.Kw]
    by_cases hi:i=0
    · subst hi
      have:Nat.beq 0 0=true:=rfl
      rw[this]
      simp only
      rw[bS.kN,bS.kN z t]
      simp only[bS.val,bS.left,bS.right]
      by_cases hj:j=0
      · rw[if_pos hj,if_pos hj]
      · rw[if_neg hj,if_neg hj,if_neg hj]
    · have:Nat.beq i 0=false:=by cases e:Nat.beq i 0 with | true=>exact absurd (Nat.eq_of_beq_eq_true e) hi | false=>rfl
      rw[this]
      simp only
      by_cases h2:i % 2=1
      · have:Nat.beq (i % 2) 1=true:=by rw[h2]; rfl
        rw[this]
        simp only
        rw[bS.kN,bS.kN z t]
        simp only[bS.val,bS.left,bS.right]
        by_cases hj:j=0
        · subst hj; rw[if_pos rfl,if_neg (fun e=>hi e.symm),if_pos rfl]
        · rw[if_neg hj,if_neg hj]
          by_cases hj2:j % 2=1
          · rw[if_pos hj2,if_pos hj2,bS.kM z x d _ _ _ (by omega)]
            by_cases e:j=i
            · subst e; simp
            · rw[if_neg e,if_neg (by omega)]
          · rw[if_neg hj2,if_neg hj2,if_neg (fun e=>hj2 (by rw[e]; exact h2))]
      · have:Nat.beq (i % 2) 1=false:=by cases e:Nat.beq (i % 2) 1 with | true=>exact absurd (Nat.eq_of_beq_eq_true e) h2 | false=>rfl
        rw[this]
        simp only
        rw[bS.kN,bS.kN z t]
        simp only[bS.val,bS.left,bS.right]
        by_cases hj:j=0
        · subst hj; rw[if_pos rfl,if_neg (fun e=>hi e.symm),if_pos rfl]
        · rw[if_neg hj,if_neg hj]
          by_cases hj2:j % 2=1
          · rw[if_pos hj2,if_pos hj2,if_neg (fun e=>h2 (by rw[← e]; exact hj2))]
          · rw[if_neg hj2,if_neg hj2,bS.kM z x d _ _ _ (by omega)]
            by_cases e:j=i
            · subst e; simp
            · rw[if_neg e,if_neg (by omega)]
abbrev deep:Nat:=13
structure ES where
  L:bS V
  H:bS bM
  n:Nat
  w:List Nat
noncomputable def ES.T (s:ES):Env:=s.L.get .any
noncomputable def ES.V (s:ES):View:=s.H.get .dead
noncomputable def ES.put (s:ES) (d:Option Nat) (v:Gv.V):ES:=match d with
  | some t=>⟨s.L.put .any v deep t,s.H,s.n,s.w⟩
  | none=>s
theorem ES.LF {s:ES} {d:Option Nat} {v:Gv.V} (h:∀ t,d=some t→t < 8000):(s.put d v).T=s.T.put d v:=by
  cases d with
  | none=>rfl
  | some t =>
    funext k
    have:=h t rfl
    simp only[ES.put,ES.T,Env.put]
    rw[bS.kM _ _ _ _ _ _ (by simp[deep]; omega)]
noncomputable def CS (v:V) (eff:bb) (rd:List Nat) (s:ES):Option (V × ES × Rec):=match eff with
  | .none=>some (v,s,⟨rd,[],false,s.n,s.n⟩)
  | .new o=>match Nat.ble s.n 8000 with
    | true=>some (v,⟨s.L,s.H.put .dead o deep s.n,s.n+1,s.w⟩,⟨rd,[],false,s.n,s.n+1⟩)
    | false=>none
  | .eF id o=>match Nat.ble id 8000 with
    | true=>some (v,⟨s.L,s.H.put .dead o deep id,s.n,id :: s.w⟩,⟨rd,[id],false,s.n,s.n⟩)
    | false=>none
  | .bk id o=>match Nat.ble s.n 8000,Nat.ble id 8000 with
    | true,true=>some (v,⟨s.L,(s.H.put .dead .dead deep id).put .dead o deep s.n,s.n+1,id :: s.w⟩,⟨rd,[id],false,s.n,s.n+1⟩)
    | _,_=>none
noncomputable def OE (x:SX) (_:Program) (T:Env) (_:View) (_:Nat):Out:=some (x.at T,.none,[])
noncomputable def Nv (c a b:SX) (_:Program) (T:Env) (_:View) (_:Nat):Out:=match c.at T with
  | .val (.bool t)=>some (if t then a.at T else b.at T,.none,[])
  | _=>none
noncomputable def NQ (sz:Option Nat) (a:SX) (_:Program) (T:Env) (H:View) (_:Nat):Out:=sE sz (a.at T) H
noncomputable def Nr (sz:Nat) (a x:SX) (_:Program) (T:Env) (H:View) (_:Nat):Out:=zn sz (a.at T) (x.at T) H
noncomputable def NH (off:Nat) (x:SX) (_:Program) (T:Env) (_:View) (_:Nat):Out:=vN off (x.at T)
noncomputable def Ox (sz:Nat) (x i:SX) (_:Program) (T:Env) (_:View) (_:Nat):Out:=zP sz (x.at T) (i.at T)
noncomputable def Oi (x:SX) (_:Program) (T:Env) (_:View) (_:Nat):Out:=(cF (x.at T)).map fun n=>(aj n,.none,[])
noncomputable def M5 (op:BinOp) (x y:SX) (_:Program) (T:Env) (_:View) (_:Nat):Out:=vr op (x.at T) (y.at T)
noncomputable def NY (op:BinOp) (x y:SX) (_:Program) (T:Env) (_:View) (_:Nat):Out:=w9 op (x.at T) (y.at T)
noncomputable def OB (x:SX) (_:Program) (T:Env) (_:View) (_:Nat):Out:=match x.at T with
  | .val (.bool t)=>some (.val (.bool (!t)),.none,[])
  | _=>none
noncomputable def N3 (i:Nat) (x:SX) (_:Program) (T:Env) (_:View) (_:Nat):Out:=match x.at T with
  | .bg vs=>if i < vs.length then some (vs.getD i .any,.none,[]) else none
  | _=>none
noncomputable def Nu (x:SX) (_:Program) (T:Env) (_:View) (_:Nat):Out:=match x.at T with
  | .ptr id i j=>some (.ptr id i j,.none,[])
  | .aX e j=>some (.aX e j,.none,[])
  | .fn f a b=>some (.fn f a b,.none,[])
  | _=>none
noncomputable def eI (s:SI):Program→Env→View→Nat→Out:=match s with
  | .bk x=>OE x
  | .pick c a b=>Nv c a b
  | .load sz a=>NQ sz a
  | .store sz a x=>Nr sz a x
  | .addr o x=>NH o x
  | .idx sz x i=>Ox sz x i
  | .len x=>Oi x
  | .arith op x y=>M5 op x y
  | .iO op x y=>NY op x y
  | .not x=>OB x
  | .ext i x=>N3 i x
  | .xk x=>Nu x
  | s=>fun P T H n=>sI P s T H n
theorem Hc (s:SI) (P:Program) (T:Env) (H:View) (n:Nat):eI s P T H n=sI P s T H n:=by
  cases s <;> rfl
abbrev fS:=FuncId→List V→ES→Option (V × ES)
noncomputable def HF (P:Program) (s:SI) (e:ES):Option (V × ES × Rec):=match eI s P e.T e.V e.n with
  | some (v,eff,rd)=>CS v eff rd e
  | none=>none
noncomputable def Jx (call:fS) (f:SX) (args:List SX) (e:ES):Option (V × ES × Rec):=match f.at e.T with
  | .fn g first cap=>match call g (first ++ args.map (SX.at e.T) ++ cap) e with
    | some (v,e')=>some (v,⟨e.L,e'.H,e'.n,e'.w ++ e.w⟩,⟨[],e'.w,true,e.n,e'.n⟩)
    | none=>none
  | _=>none
noncomputable def eB (P:Program) (call:fS) (b:SB):ES→Option (V × ES × Rec):=match b with
  | .op s=>HF P s
  | .call f args=>Jx call f args
noncomputable def EY (P:Program) (call:fS):List (Option Nat × SB)→List Rec→ES→Option (ES × List Rec)
  | [],a,e=>some (e,a)
  | (d,b) :: r,a,e=>match eB P call b e with
    | some (v,e',c)=>EY P call r (a ++ [c]) (e'.put d v)
    | none=>none
noncomputable def LK (e:ES):Rec:=⟨[],[],false,e.n,e.n⟩
noncomputable def sw:List (Option Nat × SB)→List Rec→ES→ES × List Rec
  | [],a,e=>(e,a)
  | (d,_) :: r,a,e=>sw r (a ++ [LK e]) (e.put d (.bg []))
noncomputable def Jr (P:Program) (call:fS) (ops:List (Option Nat × SB)) (want:Bool) (v:V) (a:List Rec) (e:ES):Option (ES × List Rec):=match v with
  | .val (.bool b)=>match xor b want with
    | true=>some (sw ops a e)
    | false=>EY P call ops a e
  | .bg []=>some (sw ops a e)
  | _=>none
noncomputable def eG (P:Program) (call:fS) (g:SG) (a:List Rec) (e:ES):Option (ES × List Rec):=match g.guard with
  | none=>EY P call g.ops a e
  | some (d,want)=>Jr P call g.ops want (e.T d) a e
noncomputable def HW (P:Program) (call:fS):List SG→List Rec→ES→Option (ES × List Rec)
  | [],a,e=>some (e,a)
  | g :: r,a,e=>match eG P call g a e with
    | some (e',a')=>HW P call r a' e'
    | none=>none
inductive DC where
  | skip
  | region (ps:List (Nat × Nat)) (gs:List SG)
  | seq (x y:DC)
  | cond (c:SX) (x y:DC)
  | block (id:Nat) (c:DC)
  | loop (c:DC)
  | exit (id:Nat)
  | ret
  deriving Inhabited
def I1 (recs:List Rec) (ps:List (Nat × Nat)):Bool:=ps.all fun (i,k)=>match recs[i]?,recs[k]? with
  | some a,some b=>Ao a b
  | _,_=>false
abbrev ER:=Option (Exit × ES)
abbrev tB:=DC→ES→ER
noncomputable def J2:ES→ER:=fun e=>some (.normal,e)
noncomputable def FG (P:Program) (call:fS) (ps:List (Nat × Nat)) (gs:List SG) (e:ES):ER:=match HW P call gs [] e with
  | some (e',recs)=>match I1 recs ps with
    | true=>some (.normal,e')
    | false=>none
  | none=>none
noncomputable def MN (run:tB) (x y:DC) (e:ES):ER:=match run x e with
  | some (.normal,e')=>run y e'
  | r=>r
noncomputable def LV (run:tB) (c:SX) (x y:DC) (e:ES):ER:=match c.at e.T with
  | .val (.bool true)=>run x e
  | .val (.bool false)=>run y e
  | _=>none
noncomputable def HT (run:tB) (id:Nat) (c:DC) (e:ES):ER:=match run c e with
  | some (r,e')=>some (mP id r,e')
  | none=>none
noncomputable def LL (run:tB) (c:DC) (e:ES):ER:=match run c e with
  | some (.normal,e')=>run (.loop c) e'
  | r=>r
noncomputable def j3 (P:Program) (call:fS) (run:tB) (c:DC):ES→ER:=match c with
  | .skip=>J2
  | .region ps gs=>FG P call ps gs
  | .seq x y=>MN run x y
  | .cond c x y=>LV run c x y
  | .block id c=>HT run id c
  | .loop c=>LL run c
  | .exit id=>fun e=>some (.exit id,e)
  | .ret=>fun e=>some (.ret,e)
noncomputable def Lf (r:SR) (e:ES):Option V:=match r with
  | .tmp t=>some (e.T t)
  | .cell t sz=>match e.T t with
    | .ptr id i j=>match e.V id with
      | .arr _ es=>if i < es.length then j5 sz (es.getD i []) j else none
      | _=>none
    | .aX e j=>j5 sz e j
    | _=>none
noncomputable def sC:List SR→ES→Option (List V)
  | [],_=>some []
  | r :: l,e=>match Lf r e,sC l e with
    | some v,some vs=>some (v :: vs)
    | _,_=>none
noncomputable def ky:List V→Nat→bS V→bS V
  | [],_,t=>t
  | v :: vs,i,t=>ky vs (i+1) (t.put .any v deep i)
structure DF where
  code:DC
  res:List SR
  n:Nat
noncomputable def Ng (l:List SR) (r:ER):Option (V × ES):=match r with
  | some (.ret,e)=>(sC l e).map fun vs=>(ah vs,e)
  | some (.normal,e)=>(sC l e).map fun vs=>(ah vs,e)
  | _=>none
noncomputable def MH (m:Nat) (r:Option (V × ES)):Option (V × ES):=match r with
  | some (v,e)=>some (v,⟨e.L,e.H,e.n,e.w.filter fun id=>Nat.blt id m⟩)
  | none=>none
noncomputable def Nk (run:tB) (F:DF) (vs:List V) (e:ES):Option (V × ES):=match Nat.ble vs.length F.n,Nat.ble F.n 8000 with
  | true,true=>MH e.n (Ng F.res (run F.code ⟨ky vs 0 .nil,e.H,e.n,[]⟩))
  | _,_=>none
abbrev vt:=FuncId→List V→View→Option V
noncomputable def B9 (P:Program) (tab:List (FuncId × DF)) (ext:vt) (run:tB) (g:FuncId) (vs:List V) (e:ES):Option (V × ES):=match ext g vs e.V with
  | some t=>some (t,⟨e.L,e.H,e.n,[]⟩)
  | none=>match tab.find? (fun p=>Nat.beq p.1 g) with
    | some (_,F)=>Nk run F vs e
    | none=>none
noncomputable def Dv (P:Program) (tab:List (FuncId × DF)) (ext:vt):Nat→tB
  | 0=>fun _ _=>none
  | k+1=>j3 P (B9 P tab ext (Dv P tab ext k)) (Dv P tab ext k)
def zd (all:List Oper) (ls:List Nat):List (Nat × Nat) :=
  let b:=ej all []
  (ls.zipIdx.map fun (x,i)=>(ls.zipIdx.filter fun (y,k)=>decide (i < k) && !(ordered b i k || x == 0 || y == 0 || (decide (x≤1) && decide (y≤1)))).map fun (_,k)=>(i,k)).flatten
def D2 (P:Program) (n:Nat) (fz:List Nat) (ops:List Oper) (draw:Bool):Option DC:=match cT P n ops ⟨fz,false⟩ ops with
  | none=>none
  | some l=>if !(group l).all qq then none else
    if draw then (if jU ops then some (.region (zd ops (l.map fun s=>gH P false s.b)) (group l)) else none) else some (.region [] (group l))
def gI (P:Program) (n:Nat) (fz:List Nat):Code→Option DC
  | .skip=>some .skip
  | .region _ ops draw=>D2 P n fz ops.toList draw
  | .seq x y=>match gI P n fz x,gI P n fz y with
    | some a,some b=>some (.seq a b)
    | _,_=>none
  | .cond c x y=>match gI P n fz x,gI P n fz y with
    | some a,some b=>some (.cond (SX.of c) a b)
    | _,_=>none
  | .block id c=>(gI P n fz c).map (.block id)
  | .loop c=>(gI P n fz c).map .loop
  | .exit id=>some (.exit id)
  | .ret=>some .ret
  | _=>none
abbrev ak (l:List (Option Nat × SB)):DC:=.region [] [⟨none,l⟩]
def aT (P:Program) (f:FuncId) (fz:List Nat):Option DF:=match P.funcs[f]? with
  | some fn=>match fn.body with
    | some c=>match gI P fn.ntmps fz c,er P fn.results.toList,cM P f with
      | some sc,some rs,true=>some ⟨sc,rs,fn.ntmps⟩
      | _,_,_=>none
    | none=>none
  | none=>none
end Gv
