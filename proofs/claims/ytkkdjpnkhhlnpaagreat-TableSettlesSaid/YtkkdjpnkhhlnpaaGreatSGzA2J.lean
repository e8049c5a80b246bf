/-
  Part 10 of the proof: what the machine does and what the functions answer.
  Conditions: those that each lemma names.
-/
import Derived.Test.YtkkdjpnkhhlnpaaGreatSGzA2I
set_option linter.unusedSimpArgs false
set_option linter.unusedVariables false
set_option maxRecDepth 100000
namespace Gv
open Go Go.Proofs
theorem bk.ec {P:Program} {f:FuncId} {h:ay} (h1:bk P f [.emp 1] h (.emp 1) h) (h2:bk P f [.emp 2] h (.emp 2) h) (h3:bk P f [.cn] h (.emp 2) h):bk P f [.aS []] h (.emp 0) h:=by
  refine ⟨Nat.le_refl _,fun Z μ F w xs hrel hr hfree=>?_⟩
  obtain ⟨hl,hv⟩:=hrel
  obtain ⟨x,rfl⟩:∃ x,xs=[x]:=by
    match xs,hl with
    | [x],_=>exact ⟨x,rfl⟩
  have h0:au Z μ w.heap (.aS []) x:=hv 0 (by simp)
  have one:∀ v,au Z μ w.heap v x→dm Z μ w.heap [v] [x]:=fun v h=>⟨rfl,fun i hi=>by
    simp at hi; subst hi; exact h⟩
  have weak:∀ k,bk P f [if k=3 then .cn else .emp k] h (if k=3 then .emp 2 else .emp k) h→au Z μ w.heap (if k=3 then .cn else .emp k) x→Calls P f [x].toArray w fun e w'=>∃ x Z' μ',e=.returned x∧au Z' μ' w'.heap (.emp 0) x∧dW Z' μ' w'.heap (cat h F)∧Ext Z μ w h.length Z' μ' w'∧(∀ id,id < h.length∨h.length≤id→μ' id=μ id):=by
    intro k hk hx
    refine (hk.2 Z μ F w [x] (one _ hx) hr hfree).mono ?_
    rintro e w' ⟨y,Z',μ',rfl,hy,rest⟩
    refine ⟨y,Z',μ',rfl,?_,rest⟩
    have:∀ k',au Z' μ' w'.heap (.emp k') y→au Z' μ' w'.heap (.emp 0) y:=fun k' h=>by
      cases h with | emp _ a _ _=>exact .emp 0 a (by simp) (by simp)
    split at hy <;> exact this _ hy
  rcases AF h0 with ⟨_,a,cap,rfl,hz⟩ | ⟨b,off,esz,cap,c,rfl,_,_,_⟩
  · cases a with
    | none =>
      have:=hz rfl
      subst this
      exact weak 1 (by simpa using h1) (.emp 1 none (by simp) (by simp))
    | some a =>
      cases cap with
      | zero=>exact weak 2 (by simpa using h2) (.emp 2 (some a) (by simp) (by simp))
      | succ c=>exact weak 3 (by simpa using h3) (.cn a (c+1))
  · cases cap with
    | zero=>exact weak 2 (by simpa using h2) (.emp 2 (some ⟨b,off,none⟩) (by simp) (by simp))
    | succ c=>exact weak 3 (by simpa using h3) (.cn ⟨b,off,none⟩ (c+1))
def rz (sz:Nat) (es:List (List V)) (H:View) (K:V→View→Prop):Prop :=
  (es=[]→∀ k,K (.emp k) H)∧(es≠[]→∀ n,H n=.dead→K (.sl n 0 es.length sz) (H.set n (.arr sz es)))
def bG:SF:=⟨.seq (ao [((some 2),.op (.aV (.val (.emp 1))))]) <|
  .seq (.seq (ao [aa 3 0,((some 4),.op (.nil true 0 (.tmp 3) (.val (.emp 1))))]) <|
  .cond (.tmp 4) (.seq (ao [((some 2),.op (.aV (.val (.emp 1))))]) <|
  .ret) (.skip)) <|
  .seq (ao [((some 5),.op (.aV (.val (.emp 2)))),aa 6 0,((some 7),.op (.app 1 16 (.tmp 5) (.tmp 6))),aa 2 7]) <|
  .ret,
  [.tmp 2],8⟩
theorem bU:bb Tryz.prog 107 []=some bG:=by kernel_rfl
def cl:SF:=⟨.seq (ao [((some 2),.op (.aV (.val (.emp 1))))]) <|
  .seq (.seq (ao [aa 3 0,((some 4),.op (.nil true 0 (.tmp 3) (.val (.emp 1))))]) <|
  .cond (.tmp 4) (.seq (ao [((some 2),.op (.aV (.val (.emp 1))))]) <|
  .ret) (.skip)) <|
  .seq (ao [((some 5),.op (.aV (.val (.emp 2)))),aa 6 0,((some 7),.op (.app 1 8 (.tmp 5) (.tmp 6))),aa 2 7]) <|
  .ret,
  [.tmp 2],8⟩
theorem cy:bb Tryz.prog 178 []=some cl:=by kernel_rfl
def br:SF:=⟨.seq (ao [((some 2),.op (.aV (.val (.emp 1))))]) <|
  .seq (.seq (ao [aa 3 0,((some 4),.op (.nil true 0 (.tmp 3) (.val (.emp 1))))]) <|
  .cond (.tmp 4) (.seq (ao [((some 2),.op (.aV (.val (.emp 1))))]) <|
  .ret) (.skip)) <|
  .seq (ao [((some 5),.op (.aV (.val (.emp 2)))),aa 6 0,((some 7),.op (.app 3 32 (.tmp 5) (.tmp 6))),aa 2 7]) <|
  .ret,
  [.tmp 2],8⟩
theorem bD:bb Tryz.prog 176 []=some br:=by kernel_rfl
theorem aA.tree {P:Program} {f:FuncId} {vs:List V} {t:V} (hv:∀ v∈vs,Tree v) (ht:Tree t) (h:∀ H,aD P f vs H fun r _=>r=t):aA P f vs t :=
  aA.of hv ((h _).mono fun r H' e h' _=>by rw[e]; exact .tree _ ht)
theorem nN {H:View} : bF H .cn=some ([],[]):=id rfl
theorem gG {H:View} (sz bytes k:Nat) (K:V→View→Prop) (w:bP (H,K)):lV sz bytes (.emp k) [] H K w=K (.emp k) H:=propext Iff.rfl
theorem EB (l:List ByteArray) (hl:l.length≤100000) (H:View) (K:V→View→Prop) (hk:rz 1 (l.map fun s=>[gs s]) H K):aD Tryz.prog 107 [encS l] H K:=by
  cases l with
  | nil =>
    have hp:∀ v t,Tree v→Tree t→(∀ H,aD Tryz.prog 107 [v] H fun r _=>r=t)→aA Tryz.prog 107 [v] t:=fun v t hv ht h=>aA.tree (by intro x hx; simp at hx; subst hx; exact hv) ht h
    have h1:=hp (.emp 1) (.emp 1) (.emp 1) (.emp 1) (fun H=>by
      refine aD.of mixed bU ?_
      simp (disch:=omega) only [↓wr,↓reduceIte,wq,ai,ah,an,ab,ae,ag,aj,isNil,Nat.reduceEqDiff,Nat.reduceAdd,Nat.reduceLT,Nat.reduceLeDiff,Int.reduceNeg,Int.reduceToNat,reduceCtorEq,bG])
    have h2:=hp (.emp 2) (.emp 2) (.emp 2) (.emp 2) (fun H=>by
      refine aD.of mixed bU ?_
      simp (disch:=omega) only [↓wr,↓reduceIte,wq,ai,ah,an,ab,ae,ag,aj,isNil,Nat.reduceEqDiff,Nat.reduceAdd,Nat.reduceLT,Nat.reduceLeDiff,Int.reduceNeg,Int.reduceToNat,reduceCtorEq,bG,gG,List.isEmpty_nil])
    have h3:=hp .cn (.emp 2) .cn (.emp 2) (fun H=>by
      refine aD.of mixed bU ?_
      simp (disch:=omega) only [↓wr,↓reduceIte,wq,ai,ah,an,ab,ae,ag,aj,isNil,Nat.reduceEqDiff,Nat.reduceAdd,Nat.reduceLT,Nat.reduceLeDiff,Int.reduceNeg,Int.reduceToNat,reduceCtorEq,bG,nN,gG,List.isEmpty_nil])
    refine ⟨by kernel_rfl,?_⟩
    rintro h rfl
    exact ⟨.emp 0,h,bk.ec (bk.en h1 h) (bk.en h2 h) (bk.en h3 h),.refl _,hk.1 rfl 0⟩
  | cons x r =>
    refine aD.of mixed bU ?_
    simp only[List.length_cons] at hl
    simp (disch:=omega) only [↓wr,↓reduceIte,wq,ai,ah,an,ab,ae,ag,aj,isNil,Nat.reduceEqDiff,Nat.reduceAdd,Nat.reduceLT,Nat.reduceLeDiff,Int.reduceNeg,Int.reduceToNat,reduceCtorEq,bG,encS]
    refine ⟨?_,?_,?_⟩
    · simp[List.all_map,encS,aP]
    · unfold aW; simp; omega
    · intro n hn
      have:=hk.2 (by simp) n hn
      simp (disch:=omega) only [↓wr,↓reduceIte,wq,ai,ah,an,ab,ae,ag,aj,isNil,Nat.reduceEqDiff,Nat.reduceAdd,Nat.reduceLT,Nat.reduceLeDiff,Int.reduceNeg,Int.reduceToNat,reduceCtorEq]
      simpa [bN] using this
theorem DO (l:List Int) (hl:l.length≤100000) (H:View) (K:V→View→Prop) (hk:rz 1 (l.map fun s=>[gi s]) H K):aD Tryz.prog 178 [encI l] H K:=by
  cases l with
  | nil =>
    have hp:∀ v t,Tree v→Tree t→(∀ H,aD Tryz.prog 178 [v] H fun r _=>r=t)→aA Tryz.prog 178 [v] t:=fun v t hv ht h=>aA.tree (by intro x hx; simp at hx; subst hx; exact hv) ht h
    have h1:=hp (.emp 1) (.emp 1) (.emp 1) (.emp 1) (fun H=>by
      refine aD.of mixed cy ?_
      simp (disch:=omega) only [↓wr,↓reduceIte,wq,ai,ah,an,ab,ae,ag,aj,isNil,Nat.reduceEqDiff,Nat.reduceAdd,Nat.reduceLT,Nat.reduceLeDiff,Int.reduceNeg,Int.reduceToNat,reduceCtorEq,cl])
    have h2:=hp (.emp 2) (.emp 2) (.emp 2) (.emp 2) (fun H=>by
      refine aD.of mixed cy ?_
      simp (disch:=omega) only [↓wr,↓reduceIte,wq,ai,ah,an,ab,ae,ag,aj,isNil,Nat.reduceEqDiff,Nat.reduceAdd,Nat.reduceLT,Nat.reduceLeDiff,Int.reduceNeg,Int.reduceToNat,reduceCtorEq,cl,gG,List.isEmpty_nil])
    have h3:=hp .cn (.emp 2) .cn (.emp 2) (fun H=>by
      refine aD.of mixed cy ?_
      simp (disch:=omega) only [↓wr,↓reduceIte,wq,ai,ah,an,ab,ae,ag,aj,isNil,Nat.reduceEqDiff,Nat.reduceAdd,Nat.reduceLT,Nat.reduceLeDiff,Int.reduceNeg,Int.reduceToNat,reduceCtorEq,cl,nN,gG,List.isEmpty_nil])
    refine ⟨by kernel_rfl,?_⟩
    rintro h rfl
    exact ⟨.emp 0,h,bk.ec (bk.en h1 h) (bk.en h2 h) (bk.en h3 h),.refl _,hk.1 rfl 0⟩
  | cons x r =>
    refine aD.of mixed cy ?_
    simp only[List.length_cons] at hl
    simp (disch:=omega) only [↓wr,↓reduceIte,wq,ai,ah,an,ab,ae,ag,aj,isNil,Nat.reduceEqDiff,Nat.reduceAdd,Nat.reduceLT,Nat.reduceLeDiff,Int.reduceNeg,Int.reduceToNat,reduceCtorEq,cl,encI]
    refine ⟨?_,?_,?_⟩
    · simp[List.all_map,encI,aP]
    · unfold aW; simp; omega
    · intro n hn
      have:=hk.2 (by simp) n hn
      simp (disch:=omega) only [↓wr,↓reduceIte,wq,ai,ah,an,ab,ae,ag,aj,isNil,Nat.reduceEqDiff,Nat.reduceAdd,Nat.reduceLT,Nat.reduceLeDiff,Int.reduceNeg,Int.reduceToNat,reduceCtorEq]
      simpa [bN] using this
theorem Dr (l:List Term) (hl:l.length≤100000) (H:View) (K:V→View→Prop) (hk:rz 3 (l.map bN) H K):aD Tryz.prog 176 [cm l] H K:=by
  cases l with
  | nil =>
    have hp:∀ v t,Tree v→Tree t→(∀ H,aD Tryz.prog 176 [v] H fun r _=>r=t)→aA Tryz.prog 176 [v] t:=fun v t hv ht h=>aA.tree (by intro x hx; simp at hx; subst hx; exact hv) ht h
    have h1:=hp (.emp 1) (.emp 1) (.emp 1) (.emp 1) (fun H=>by
      refine aD.of mixed bD ?_
      simp (disch:=omega) only [↓wr,↓reduceIte,wq,ai,ah,an,ab,ae,ag,aj,isNil,Nat.reduceEqDiff,Nat.reduceAdd,Nat.reduceLT,Nat.reduceLeDiff,Int.reduceNeg,Int.reduceToNat,reduceCtorEq,br])
    have h2:=hp (.emp 2) (.emp 2) (.emp 2) (.emp 2) (fun H=>by
      refine aD.of mixed bD ?_
      simp (disch:=omega) only [↓wr,↓reduceIte,wq,ai,ah,an,ab,ae,ag,aj,isNil,Nat.reduceEqDiff,Nat.reduceAdd,Nat.reduceLT,Nat.reduceLeDiff,Int.reduceNeg,Int.reduceToNat,reduceCtorEq,br,gG,List.isEmpty_nil])
    have h3:=hp .cn (.emp 2) .cn (.emp 2) (fun H=>by
      refine aD.of mixed bD ?_
      simp (disch:=omega) only [↓wr,↓reduceIte,wq,ai,ah,an,ab,ae,ag,aj,isNil,Nat.reduceEqDiff,Nat.reduceAdd,Nat.reduceLT,Nat.reduceLeDiff,Int.reduceNeg,Int.reduceToNat,reduceCtorEq,br,nN,gG,List.isEmpty_nil])
    refine ⟨by kernel_rfl,?_⟩
    rintro h rfl
    exact ⟨.emp 0,h,bk.ec (bk.en h1 h) (bk.en h2 h) (bk.en h3 h),.refl _,hk.1 rfl 0⟩
  | cons x r =>
    refine aD.of mixed bD ?_
    simp only[List.length_cons] at hl
    simp (disch:=omega) only [↓wr,↓reduceIte,wq,ai,ah,an,ab,ae,ag,aj,isNil,Nat.reduceEqDiff,Nat.reduceAdd,Nat.reduceLT,Nat.reduceLeDiff,Int.reduceNeg,Int.reduceToNat,reduceCtorEq,br,cm,bN]
    refine ⟨?_,?_,?_⟩
    · simp[List.all_map,cm,bN,aP]
    · unfold aW; simp; omega
    · intro n hn
      have:=hk.2 (by simp) n hn
      simp (disch:=omega) only [↓wr,↓reduceIte,wq,ai,ah,an,ab,ae,ag,aj,isNil,Nat.reduceEqDiff,Nat.reduceAdd,Nat.reduceLT,Nat.reduceLeDiff,Int.reduceNeg,Int.reduceToNat,reduceCtorEq]
      simpa [bN] using this
theorem rz.own {sz:Nat} {es:List (List V)} {H:View} : rz sz es H fun r H'=>bj H' r sz es∧hZ H H' r :=
  ⟨fun he k=>⟨by rw[he]; exact .nil,.emp⟩,fun _ n hn=>⟨.new,.new hn⟩⟩
theorem CZ (l:List ByteArray) (hl:l.length≤100000) (H:View):aD Tryz.prog 107 [encS l] H fun r H'=>bj H' r 1 (l.map fun s=>[gs s])∧hZ H H' r:=EB l hl H _ .own
theorem Ei (l:List Int) (hl:l.length≤100000) (H:View):aD Tryz.prog 178 [encI l] H fun r H'=>bj H' r 1 (l.map fun s=>[gi s])∧hZ H H' r:=DO l hl H _ .own
theorem EH (l:List Term) (hl:l.length≤100000) (H:View):aD Tryz.prog 176 [cm l] H fun r H'=>bj H' r 3 (l.map bN)∧hZ H H' r:=Dr l hl H _ .own
def hO (g:aE):List aZ→Int→Bool
  | [],next=>next == g.aK.length
  | r :: l,next=>decide (0≤r.left) && decide (r.left≤next) && eM g r && hO g l (if r.left+1 > next then r.left+1 else next)
def mj (g:aE):List ByteArray:=g.aK ++ g.az.map Term.name
def lg (g:aE):Bool :=
  mJ g.az && (decide ((1:Int)≤g.aK.length) && decide ((g.aK.length:Int)≤16)) && (decide ((1:Int)≤g.rules.length) && decide ((g.rules.length:Int)≤40)) && decide (names (mj g)).Nodup && (decide (0≤g.start) && decide (g.start≤(g.aK.length:Int) - 1)) &&
    !(g.aK.any fun s=>!dy (cW s)) && hO g g.rules 0
theorem yS {l:List ByteArray} : ∀ e∈(l.map fun s=>[gs s]),∀ v∈e,Tree v:=by
  intro e he v hv
  obtain ⟨a,_,rfl⟩:=List.mem_map.1 he
  rw[List.mem_singleton] at hv
  subst hv
  exact .val _
set_option maxHeartbeats 4000000 in
theorem Dv (g:aE) (hg:g.Ok) (hs:g.aK.length+g.az.length≤1000) (H:View):aD Tryz.prog 64 [.agg (aw g)] H fun r _=>r=gb (lg g):=by
  refine aD.of mixed vP ?_
  have hn:=hg.aK
  have ht:=hg.az
  have hr:=hg.rules
  unfold bd at hn ht hr
  simp (disch:=omega) only [↓wr,↓reduceIte,wq,ai,ah,an,ab,ae,ag,aj,isNil,Nat.reduceEqDiff,Nat.reduceAdd,Nat.reduceLT,Nat.reduceLeDiff,Int.reduceNeg,Int.reduceToNat,reduceCtorEq,s7,aw,encS]
  refine aJ.yT ((CZ g.aK (by omega) H).mono ?_)
  rintro u H1 ⟨hu,hf⟩
  simp (disch:=omega) only [↓wr,↓reduceIte,wq,ai,ah,an,ab,ae,ag,aj,isNil,Nat.reduceEqDiff,Nat.reduceAdd,Nat.reduceLT,Nat.reduceLeDiff,Int.reduceNeg,Int.reduceToNat,reduceCtorEq,aw,encS]
  refine bJ.up g.az.length (fun i T H=>T 1=.aQ (aw g) 0∧(∃ u,T 3=u∧bj H u 1 ((g.aK ++ (g.az.take i).map Term.name).map fun s=>[gs s]))∧T 13=cm g.az∧T 14=gi g.az.length∧T 15=gi i) ?_ ?_
  · exact ⟨rfl,⟨u,rfl,by simpa using hu⟩,rfl,rfl,rfl⟩
  rintro i k T H' hk ⟨h1,⟨u,h3,hu⟩,h13,h14,h15⟩
  simp (disch:=omega) only [↓wr,↓reduceIte,wq,ai,ah,an,ab,ae,ag,aj,isNil,Nat.reduceEqDiff,Nat.reduceAdd,Nat.reduceLT,Nat.reduceLeDiff,Int.reduceNeg,Int.reduceToNat,reduceCtorEq,qo,h1,h13,h14,h15,cm]
  refine ar.dec (fun hc=>?_) (fun hc=>?_)
  · have hg2:g.az[i]?=some (g.az[i]'(by omega)):=List.getElem?_eq_getElem (by omega)
    have htk:(g.az.take (i+1)).map Term.name=(g.az.take i).map Term.name ++ [(g.az[i]'(by omega)).name]:=by
      rw[List.take_add_one,hg2,List.map_append]; rfl
    generalize g.az[i]'(by omega)=t at hg2 htk
    simp (disch:=omega) only [↓wr,↓reduceIte,wq,ai,ah,an,ab,ae,ag,aj,isNil,Nat.reduceEqDiff,Nat.reduceAdd,Nat.reduceLT,Nat.reduceLeDiff,Int.reduceNeg,Int.reduceToNat,reduceCtorEq,h1,h3,h13,h14,h15,cm,bN,List.getElem?_map,hg2]
    intro b hb
    try simp (disch:=omega) only [↓wr,↓reduceIte,wq,ai,ah,an,ab,ae,ag,aj,isNil,Nat.reduceEqDiff,Nat.reduceAdd,Nat.reduceLT,Nat.reduceLeDiff,Int.reduceNeg,Int.reduceToNat,reduceCtorEq,h1,h3,h13,h14,h15,set_set]
    intro m hm
    have hmb:=(dC hm dG).1
    have hm:=(dC (dC hm dG).2 dG).2
    try simp (disch:=omega) only [↓wr,↓reduceIte,wq,ai,ah,an,ab,ae,ag,aj,isNil,Nat.reduceEqDiff,Nat.reduceAdd,Nat.reduceLT,Nat.reduceLeDiff,Int.reduceNeg,Int.reduceToNat,reduceCtorEq,h1,h3,h13,h14,h15,g9]
    have hl:((g.aK ++ (g.az.take i).map Term.name).map fun s=>[gs s]).length≤1000:=by simp; omega
    refine rD (((hu.fresh hb).other (hu.ne hb)).fresh (by simp[View.set,hm,hmb])) (by simp) (by simp[aP]) (by unfold aW; simp at hl ⊢; omega) (by unfold aW; simp at hl ⊢; omega) ?_
    intro u' H2 hu' _
    simp (disch:=omega) only [↓wr,↓reduceIte,wq,ai,ah,an,ab,ae,ag,aj,isNil,Nat.reduceEqDiff,Nat.reduceAdd,Nat.reduceLT,Nat.reduceLeDiff,Int.reduceNeg,Int.reduceToNat,reduceCtorEq,h1,h3,h13,h14,h15]
    refine ca hk (by omega) ⟨h1,⟨u',rfl,?_⟩,h13,h14,rfl⟩
    rw[htk]
    simpa using hu'
  · rw[List.take_of_length_le (by omega)] at hu
    have hal:H'=H':=rfl
    have hall:(mj g).length≤1000:=by simp[mj]; omega
    repeat' (first | (refine ar.dec (fun _=>?_) (fun _=>?_)) | (refine ar.eq (fun _=>?_) (fun _=>?_)) | (refine ar.ne (fun _=>?_) (fun _=>?_)) | (refine ar.split (fun _=>?_) (fun _=>?_)) | (refine aJ.pure (Ek g.az hg.az) (by kernel_rfl) ?_) | (refine aJ.pure (lX _ _ _) (by kernel_rfl) ?_) | (refine aJ.Ic (E8 (mj g) hall) (by kernel_rfl) (.val _) ⟨fN.own hu yS,trivial⟩ ?_) | (simp (disch:=omega) only [↓wr,↓reduceIte,wq,ai,ah,an,ab,ae,ag,aj,isNil,Nat.reduceEqDiff,Nat.reduceAdd,Nat.reduceLT,Nat.reduceLeDiff,Int.reduceNeg,Int.reduceToNat,reduceCtorEq,h1,h3,h13,h14,h15,aw,encS]))
    all_goals try (simp[lg, *]; done)
    rename_i e1 e2 e3 e4 e5
    refine aJ.pure (tH g.aK hg.aK 112 [] (by simp) (fun s=>!dy (cW s)) (fun x _=>Cr x) (by kernel_rfl)) (by kernel_rfl) ?_
    repeat' (first | (refine ar.dec (fun _=>?_) (fun _=>?_)) | (refine ar.eq (fun _=>?_) (fun _=>?_)) | (refine ar.ne (fun _=>?_) (fun _=>?_)) | (refine ar.split (fun _=>?_) (fun _=>?_)) | (simp (disch:=omega) only [↓wr,↓reduceIte,wq,ai,ah,an,ab,ae,ag,aj,isNil,Nat.reduceEqDiff,Nat.reduceAdd,Nat.reduceLT,Nat.reduceLeDiff,Int.reduceNeg,Int.reduceToNat,reduceCtorEq,h1,h3,h13,h14,h15,aw,encS]))
    all_goals try (simp[lg, *]; done)
    rename_i e6
    have hle:g.rules.length≤40:=by simp at e3; omega
    have hpre:∀ b,hO g g.rules 0=b→gb b=gb (lg g):=fun b e=>by
      simp only[lg,e1,e2,e3,e4,e5,e6,e,decide_true,Bool.true_and,Bool.not_false]
    refine bJ.up g.rules.length (fun i T _=>∃ w:Int,0≤w∧w≤i∧hO g (g.rules.drop i) w=hO g g.rules 0∧T 1=.aQ (aw g) 0∧T 6=gi w∧T 62=.aS (g.rules.map aY)∧T 63=gi g.rules.length∧T 64=gi i) ?_ ?_
    · exact ⟨0,by omega,by omega,rfl,h1,rfl,rfl,rfl,rfl⟩
    rintro i k T H' hk ⟨w,hw1,hw2,hi,h1,h6,h62,h63,h64⟩
    simp (disch:=omega) only [↓wr,↓reduceIte,wq,ai,ah,an,ab,ae,ag,aj,isNil,Nat.reduceEqDiff,Nat.reduceAdd,Nat.reduceLT,Nat.reduceLeDiff,Int.reduceNeg,Int.reduceToNat,reduceCtorEq,qg,h1,h6,h62,h63,h64,aw]
    refine ar.dec (fun hc=>?_) (fun hc=>?_)
    · have hg2:g.rules[i]?=some (g.rules[i]'(by omega)):=List.getElem?_eq_getElem (by omega)
      rw[dS (show i < g.rules.length by omega)] at hi
      have hmem:g.rules[i]'(by omega)∈g.rules:=List.getElem_mem _
      generalize g.rules[i]'(by omega)=t at hg2 hi hmem
      obtain ⟨⟨hl1,hl2⟩,hp,hr1,hr2⟩:=hg.bg t hmem
      simp only[hO] at hi
      simp (disch:=omega) only [↓wr,↓reduceIte,wq,ai,ah,an,ab,ae,ag,aj,isNil,Nat.reduceEqDiff,Nat.reduceAdd,Nat.reduceLT,Nat.reduceLeDiff,Int.reduceNeg,Int.reduceToNat,reduceCtorEq,h1,h6,h62,h63,h64,aY,encI,List.getElem?_map,hg2]
      intro b hb
      repeat' (first | (refine ar.dec (fun _=>?_) (fun _=>?_)) | (refine ar.eq (fun _=>?_) (fun _=>?_)) | (refine ar.ne (fun _=>?_) (fun _=>?_)) | (refine ar.split (fun _=>?_) (fun _=>?_)) | (refine aJ.pure (lX _ _ _) (by kernel_rfl) ?_) | (refine aJ.pure (E4 g t hg ⟨hr1,hr2⟩) (by kernel_rfl) ?_) | (simp (disch:=omega) only [↓wr,↓reduceIte,wq,ai,ah,an,ab,ae,ag,aj,isNil,Nat.reduceEqDiff,Nat.reduceAdd,Nat.reduceLT,Nat.reduceLeDiff,Int.reduceNeg,Int.reduceToNat,reduceCtorEq,h1,h6,h62,h63,h64,aw,aY,encI,encS,set_set]))
      · rename_i e7 e8
        have e7':0≤t.left∧t.left≤w:=by simpa using e7
        rw[e7,e8,Bool.true_and,Bool.true_and] at hi
        have hw:IntKind.wrap .i64 (t.left+1)=t.left+1:=wrap64 (by omega) (by omega)
        refine ca hk (by omega) ⟨_,by split <;> omega,by split <;> (push_cast; omega),hi,h1,?_,h62,h63,rfl⟩
        show gi (if IntKind.wrap .i64 (t.left+1) > w then IntKind.wrap .i64 (t.left+1) else w)=_
        rw[hw]
      · rename_i e7 e8
        rw[e8,Bool.and_false,Bool.false_and] at hi
        exact hpre _ hi.symm
      · rename_i e7
        rw[e7,Bool.false_and,Bool.false_and] at hi
        exact hpre _ hi.symm
    · rw[List.drop_eq_nil_of_le (by omega)] at hi
      simp only[hO] at hi
      simp (disch:=omega) only [↓wr,↓reduceIte,wq,ai,ah,an,ab,ae,ag,aj,isNil,Nat.reduceEqDiff,Nat.reduceAdd,Nat.reduceLT,Nat.reduceLeDiff,Int.reduceNeg,Int.reduceToNat,reduceCtorEq,h1,h6,h62,h63,h64,aw,encS]
      exact hpre _ hi.symm
theorem Cn (g:aE) (hg:g.Ok) (hs:g.aK.length+g.az.length≤1000):aA Tryz.prog 64 [.agg (aw g)] (gb (lg g)):=aA.val (fF g) (Dv g hg hs)
theorem zo (g:aE):∀ (l:List aZ) (next:Int),hO g l next=eP g l (next - 1)
  | [],next=>by
    simp only[hO,eP]
    rw[Bool.eq_iff_iff]; simp
  | r :: l,next=>by
    simp only[hO,eP,zo g l]
    have e1:(if r.left+1 > next then r.left+1 else next) - 1=if r.left > next - 1 then r.left else next - 1:=by
      split <;> split <;> omega
    have e2:next - 1+1=next:=by omega
    rw[e1,e2]
theorem rB (s:ByteArray):∀ (l:List ByteArray) (i:Int),0≤i→(jl s l i < 0∧s ∉ l)∨∃ k:Nat,jl s l i=i+k∧l[k]?=some s∧∀ j < k,l[j]?≠some s
  | [],i,h=>.inl ⟨by simp[jl],by simp⟩
  | x :: l,i,h=>by
    have hx:ey x s=true↔x=s:=by
      unfold ey
      rw[beq_iff_eq]
      constructor
      · intro e; cases x; cases s; simp at e; simp[e]
      · rintro rfl; rfl
    simp only[jl]
    by_cases e:x=s
    · rw[if_pos (hx.2 e)]
      exact .inr ⟨0,by simp,by simp[e],by simp⟩
    · rw[if_neg (fun h=>e (hx.1 h))]
      rcases rB s l (i+1) (by omega) with ⟨h1,h2⟩ | ⟨k,h1,h2,h3⟩
      · exact .inl ⟨h1,by simp[h2,Ne.symm e]⟩
      · refine .inr ⟨k+1,by rw[h1]; push_cast; omega,by simpa using h2,fun j hj=>?_⟩
        cases j with
        | zero=>simp[e]
        | succ j=>simpa using h3 j (by omega)
theorem xi (l:List ByteArray):(∀ (k:Nat) (s:ByteArray),l[k]?=some s→jl s l 0=k)↔l.Nodup:=by
  constructor
  · intro h
    rw[List.nodup_iff_pairwise_ne,List.pairwise_iff_getElem]
    intro i j hi hj hij e
    have h1:=h i l[i] (by simp[hi])
    have h2:=h j l[j] (by simp[hj])
    rw[e] at h1
    omega
  · intro hn k s hk
    rcases rB s l 0 (by omega) with ⟨_,h2⟩ | ⟨j,h1,h2,h3⟩
    · exact absurd (List.mem_of_getElem? hk) h2
    · have hj:j < l.length:=by
        rcases Nat.lt_or_ge j l.length with h | h
        · exact h
        · simp[List.getElem?_eq_none h] at h2
      have hk':k < l.length:=by
        rcases Nat.lt_or_ge k l.length with h | h
        · exact h
        · simp[List.getElem?_eq_none h] at hk
      have:j=k:=(List.getElem_inj hn).1 (by
        rw[List.getElem?_eq_getElem hj] at h2; rw[List.getElem?_eq_getElem hk'] at hk
        simp at h2 hk; rw[h2,hk])
      rw[h1,this]; simp
theorem bytes_inj {a b:ByteArray} : a.data.toList=b.data.toList↔a=b:=by
  constructor
  · intro h; cases a; cases b; simp at h; simp[h]
  · rintro rfl; rfl
theorem D9 {l:List ByteArray} : (names l).Nodup↔l.Nodup:=by
  unfold names
  rw[List.nodup_iff_pairwise_ne,List.pairwise_map,List.nodup_iff_pairwise_ne]
  constructor
  · exact fun h=>h.imp fun h e=>h (bytes_inj.2 e)
  · exact fun h=>h.imp fun h e=>h (bytes_inj.1 e)
theorem m3 {α:Type} [BEq α] [LawfulBEq α]:∀ (l m:List α),l.Nodup→(∀ x∈l,x∈m)→l.length≤m.length
  | [],m,_,_=>by simp
  | x :: l,m,hn,hs=>by
    rw[List.nodup_cons] at hn
    have hx:x∈m:=hs x (by simp)
    have:=m3 l (m.erase x) hn.2 (fun y hy=>by
      have hne:y≠x:=by rintro rfl; exact hn.1 hy
      exact (List.mem_erase_of_ne hne).2 (hs y (by simp[hy])))
    rw[List.length_erase_of_mem hx] at this
    have:0 < m.length:=List.length_pos_of_mem hx
    simp only[List.length_cons]
    omega
def hU (n:Nat):List Int:=(List.range n).map fun (k:Nat)=>(k:Int)+1
theorem pf {n:Nat} {x:Int} : x∈hU n↔1≤x∧x≤n:=by
  simp only[hU,List.mem_map,List.mem_range]
  constructor
  · rintro ⟨k,hk,rfl⟩; omega
  · rintro ⟨h1,h2⟩; exact ⟨(x - 1).toNat,by omega,by omega⟩
theorem yq (n:Nat):(hU n).Nodup:=by
  rw[hU,List.nodup_iff_pairwise_ne,List.pairwise_map]
  exact (List.nodup_range (n:=n)).imp fun h e=>h (by omega)
theorem GN {l:List Int} {n:Nat} (hn:l.Nodup) (hs:∀ x∈l,1≤x∧x≤n) (hl:l.length=n) {x:Int} (h1:1≤x) (h2:x≤n):x∈l:=by
  refine Classical.byContradiction fun hx=>?_
  have:=m3 (x :: l) (hU n) (List.nodup_cons.2 ⟨hx,hn⟩) (fun y hy=>by
    rw[pf]
    rcases List.mem_cons.1 hy with rfl | hy
    · exact ⟨h1,h2⟩
    · exact hs y hy)
  simp[hU] at this
  omega
theorem pQ (n:Int):∀ (l:List Term) (w:Int),w≠0→eR n l w=if (∀ t∈l,t.level=n→t.assoc=w) then some w else none
  | [],w,_=>by simp[eR]
  | t :: r,w,hw=>by
    simp only[eR]
    by_cases ht:t.level=n
    · rw[if_pos ht]
      by_cases ha:w=t.assoc
      · rw[if_neg (by simp[ha]),← ha,pQ n r w hw]
        congr 1
        simp[ht,ha]
      · rw[if_pos ⟨hw,ha⟩,if_neg (fun h=>ha (h t (by simp) ht).symm)]
    · rw[if_neg ht,pQ n r w hw]
      congr 1
      simp[ht]
theorem vi (n:Int):∀ (l:List Term),(∀ t∈l,t.level=n→t.assoc≠0)→(dI l n=true↔∃ a,(∃ t∈l,t.level=n)∧∀ t∈l,t.level=n→t.assoc=a)
  | [],_=>by simp[dI,eR]
  | t :: r,h=>by
    by_cases ht:t.level=n
    · have ha:=h t (by simp) ht
      have e:dI (t :: r) n=match (if (∀ u∈r,u.level=n→u.assoc=t.assoc) then some t.assoc else none) with | some w=>w != 0 | none=>false:=by
        simp only[dI,eR]
        rw[if_pos ht,if_neg (by simp),pQ n r _ ha]
        rfl
      rw[e]
      by_cases hr:∀ u∈r,u.level=n→u.assoc=t.assoc
      · rw[if_pos hr]
        simp only[bne_iff_ne,ne_eq,ha,not_false_eq_true,true_iff]
        refine ⟨t.assoc,⟨t,by simp,ht⟩,fun u hu hl=>?_⟩
        rcases List.mem_cons.1 hu with rfl | hu
        · rfl
        · exact hr u hu hl
      · rw[if_neg hr]
        simp only[Bool.false_eq_true,false_iff]
        rintro ⟨a,_,h2⟩
        exact hr fun u hu hl=>(h2 u (by simp[hu]) hl).trans (h2 t (by simp) ht).symm
    · have ih:=vi n r (fun u hu=>h u (by simp[hu]))
      have e:dI (t :: r) n=dI r n:=by
        simp only[dI,eR,if_neg ht]
      rw[e,ih]
      constructor
      · rintro ⟨a,⟨u,hu,hl⟩,h2⟩
        refine ⟨a,⟨u,by simp[hu],hl⟩,fun v hv hl=>?_⟩
        rcases List.mem_cons.1 hv with rfl | hv
        · exact absurd hl ht
        · exact h2 v hv hl
      · rintro ⟨a,⟨u,hu,hl⟩,h2⟩
        rcases List.mem_cons.1 hu with rfl | hu
        · exact absurd hl ht
        · exact ⟨a,⟨u,hu,hl⟩,fun v hv=>h2 v (by simp[hv])⟩
def oM (l:List Term):Prop:=∀ t∈l,∀ u∈l,t.level=u.level→t.level≠0→t.assoc=u.assoc
theorem yW {κ β:Type} [BEq κ] [LawfulBEq κ] {k:κ} {v:β} : ∀ {a:List (κ × β)},(a.map (·.1)).Nodup→((fL k v a).map (·.1)).Nodup∧∀ x,x∈(fL k v a).map (·.1)↔x=k∨x∈a.map (·.1)
  | [],_=>by simp[fL]
  | y :: a,h=>by
    simp only[List.map_cons,List.nodup_cons] at h
    obtain ⟨h1,h2⟩:=yW (k:=k) (v:=v) h.2
    simp only[fL]
    by_cases e:k=y.1
    · simp only[e,beq_self_eq_true,if_true,List.map_cons,List.nodup_cons]
      refine ⟨h,fun x=>by simp[e]⟩
    · have:(k == y.1)=false:=by simp[e]
      rw[this]
      simp only[Bool.false_eq_true,if_false,List.map_cons,List.nodup_cons,List.mem_cons]
      refine ⟨⟨fun hm=>?_,h1⟩,fun x=>?_⟩
      · rcases (h2 _).1 hm with e' | hm
        · exact e e'.symm
        · exact h.1 hm
      · rw[h2]
        constructor
        · rintro (h | h | h) <;> simp[h]
        · rintro (h | h | h) <;> simp[h]
theorem r6:∀ (l:List Term) (a:List (Int × Int)) (top:Int),(∀ t∈l,t.level≠0→t.assoc≠0)→(∀ n v,cd a n=some v→v≠0)→(a.map (·.1)).Nodup →
    match ij l a top with
    | some (a',top')=>oM l∧(∀ t∈l,∀ v,t.level≠0→cd a t.level=some v→t.assoc=v)∧(a'.map (·.1)).Nodup∧(∀ n,n∈a'.map (·.1)↔n∈a.map (·.1)∨(n≠0∧∃ t∈l,t.level=n)) ∧
        top≤top'∧(∀ t∈l,t.level≠0→t.level≤top')∧(top'=top∨∃ t∈l,t.level=top'∧t.level≠0)
    | none=>¬ (oM l∧∀ t∈l,∀ v,t.level≠0→cd a t.level=some v→t.assoc=v)
  | [],a,top,_,_,hn=>by
    simp only[ij]
    exact ⟨fun t ht=>by simp at ht,fun t ht=>by simp at ht,hn,fun n=>by simp,by omega,fun t ht=>by simp at ht,by simp⟩
  | t :: r,a,top,h0,hv,hn=>by
    have h0r:∀ u∈r,u.level≠0→u.assoc≠0:=fun u hu=>h0 u (by simp[hu])
    simp only[ij]
    by_cases ht:t.level=0
    · rw[if_pos ht]
      have ih:=r6 r a top h0r hv hn
      have one:oM (t :: r)↔oM r:=by
        constructor
        · exact fun h u hu w hw=>h u (by simp[hu]) w (by simp[hw])
        · intro h u hu w hw e hz
          rcases List.mem_cons.1 hu with rfl | hu
          · exact absurd ht hz
          · rcases List.mem_cons.1 hw with rfl | hw
            · exact absurd (e.trans ht) hz
            · exact h u hu w hw e hz
      have con:(∀ u∈t :: r,∀ v,u.level≠0→cd a u.level=some v→u.assoc=v)↔∀ u∈r,∀ v,u.level≠0→cd a u.level=some v→u.assoc=v:=by
        simp[ht]
      have mem:∀ n,(n≠0∧∃ u∈t :: r,u.level=n)↔(n≠0∧∃ u∈r,u.level=n):=fun n=>by
        constructor
        · rintro ⟨h1,u,hu,rfl⟩
          rcases List.mem_cons.1 hu with rfl | hu
          · exact absurd ht h1
          · exact ⟨h1,u,hu,rfl⟩
        · rintro ⟨h1,u,hu,rfl⟩; exact ⟨h1,u,by simp[hu],rfl⟩
      cases hs:ij r a top with
      | none=>rw[hs] at ih; rw[one,con]; exact ih
      | some x =>
        obtain ⟨a',top'⟩:=x
        rw[hs] at ih
        obtain ⟨i1,i2,i3,i4,i5,i6,i7⟩:=ih
        refine ⟨one.2 i1,con.2 i2,i3,fun n=>by rw[i4,mem],i5,?_,?_⟩
        · intro u hu hz
          rcases List.mem_cons.1 hu with rfl | hu
          · exact absurd ht hz
          · exact i6 u hu hz
        · rcases i7 with h | ⟨u,hu,h⟩
          · exact .inl h
          · exact .inr ⟨u,by simp[hu],h⟩
    · rw[if_neg ht]
      have ha:=h0 t (by simp) ht
      by_cases hc:(cd a t.level).getD 0≠0∧(cd a t.level).getD 0≠t.assoc
      · rw[if_pos hc]
        simp only
        rintro ⟨_,h2⟩
        cases hp:cd a t.level with
        | none=>simp[hp] at hc
        | some v =>
          have:=h2 t (by simp) v ht hp
          simp[hp] at hc
          exact hc.2 this.symm
      · rw[if_neg hc]
        have hcon:∀ v,cd a t.level=some v→t.assoc=v:=fun v hp=>by
          have:=hv _ _ hp
          simp[hp] at hc
          exact (hc this).symm
        have hput:∀ n,cd (fL t.level t.assoc a) n=if n=t.level then some t.assoc else cd a n:=fun n=>by
          rw[zh]; simp
        have hk:=yW (k:=t.level) (v:=t.assoc) hn
        have ih:=r6 r (fL t.level t.assoc a) (if t.level > top then t.level else top) h0r (fun n v hp=>by
          rw[hput] at hp
          split at hp
          · simp at hp; rw[← hp]; exact ha
          · exact hv n v hp) hk.1
        have both:(oM (t :: r)∧∀ u∈t :: r,∀ v,u.level≠0→cd a u.level=some v→u.assoc=v)↔(oM r∧∀ u∈r,∀ v,u.level≠0→cd (fL t.level t.assoc a) u.level=some v→u.assoc=v):=by
          constructor
          · rintro ⟨h1,h2⟩
            refine ⟨fun u hu w hw=>h1 u (by simp[hu]) w (by simp[hw]),fun u hu v hz hp=>?_⟩
            rw[hput] at hp
            split at hp
            · rename_i e
              simp at hp; rw[← hp]
              exact h1 u (by simp[hu]) t (by simp) e hz
            · exact h2 u (by simp[hu]) v hz hp
          · rintro ⟨h1,h2⟩
            have h3:∀ u∈r,u.level=t.level→u.assoc=t.assoc:=fun u hu e=>h2 u hu t.assoc (by rw[e]; exact ht) (by rw[hput,if_pos e])
            refine ⟨fun u hu w hw e hz=>?_,fun u hu v hz hp=>?_⟩
            · rcases List.mem_cons.1 hu with e1 | hu2
              · rcases List.mem_cons.1 hw with e2 | hw2
                · rw[e1,e2]
                · rw[e1] at e ⊢
                  exact (h3 w hw2 e.symm).symm
              · rcases List.mem_cons.1 hw with e2 | hw2
                · rw[e2] at e ⊢
                  exact h3 u hu2 e
                · exact h1 u hu2 w hw2 e hz
            · rcases List.mem_cons.1 hu with rfl | hu
              · exact hcon v hp
              · by_cases e:u.level=t.level
                · rw[h3 u hu e]; exact hcon v (by rw[← e]; exact hp)
                · exact h2 u hu v hz (by rw[hput,if_neg e]; exact hp)
        have htop:top≤(if t.level > top then t.level else top)∧t.level≤(if t.level > top then t.level else top):=by split <;> omega
        cases hs:ij r (fL t.level t.assoc a) (if t.level > top then t.level else top) with
        | none=>rw[hs] at ih; simp only; rw[both]; exact ih
        | some x =>
          obtain ⟨a',top'⟩:=x
          rw[hs] at ih
          obtain ⟨i1,i2,i3,i4,i5,i6,i7⟩:=ih
          obtain ⟨b1,b2⟩:=both.2 ⟨i1,i2⟩
          refine ⟨b1,b2,i3,fun n=>?_,by omega,?_,?_⟩
          · rw[i4,hk.2]
            constructor
            · rintro ((rfl | h) | ⟨h1,u,hu,h⟩)
              · exact .inr ⟨ht,t,by simp,rfl⟩
              · exact .inl h
              · exact .inr ⟨h1,u,by simp[hu],h⟩
            · rintro (h | ⟨h1,u,hu,h⟩)
              · exact .inl (.inr h)
              · rcases List.mem_cons.1 hu with rfl | hu
                · exact .inl (.inl h.symm)
                · exact .inr ⟨h1,u,hu,h⟩
          · intro u hu hz
            rcases List.mem_cons.1 hu with rfl | hu
            · omega
            · exact i6 u hu hz
          · rcases i7 with h | ⟨u,hu,h⟩
            · by_cases e:t.level > top
              · rw[if_pos e] at h; exact .inr ⟨t,by simp,h.symm,ht⟩
              · rw[if_neg e] at h; exact .inl h
            · exact .inr ⟨u,by simp[hu],h⟩
theorem uq (l:List Term) (h:∀ t∈l,gQ t=true):l8 l=true↔∀ t∈l,∀ n:Int,1≤n→n≤t.level→dI l n=true:=by
  have hb:∀ t∈l,0≤t.level∧(t.level≠0→t.assoc≠0):=fun t ht=>by
    have:=h t ht
    simp only[gQ,Bool.and_eq_true,decide_eq_true_eq,beq_iff_eq] at this
    refine ⟨this.1.1.1.1.2,fun h1 h2=>?_⟩
    have e:=this.2
    simp[h1,h2] at e
  have hs:=r6 l [] 0 (fun t ht=>(hb t ht).2) (by simp[cd]) (by simp)
  have hL:∀ n:Int,1≤n→(dI l n=true↔∃ a,(∃ t∈l,t.level=n)∧∀ t∈l,t.level=n→t.assoc=a):=fun n hn=>vi n l (fun t ht e=>(hb t ht).2 (by omega))
  unfold l8
  cases hx:ij l [] 0 with
  | none =>
    rw[hx] at hs
    simp only[Bool.false_eq_true,false_iff]
    intro hall
    refine hs ⟨fun t ht u hu e hz=>?_,fun t ht v _ hp=>by simp[cd] at hp⟩
    have h1:=hb t ht
    obtain ⟨a,_,h2⟩:=(hL t.level (by omega)).1 (hall t ht t.level (by omega) (by omega))
    exact (h2 t ht rfl).trans (h2 u hu e.symm).symm
  | some x =>
    obtain ⟨a,top⟩:=x
    rw[hx] at hs
    obtain ⟨i1,_,i3,i4,i5,i6,i7⟩:=hs
    simp only[beq_iff_eq]
    have hmem:∀ n,n∈a.map (·.1)↔n≠0∧∃ t∈l,t.level=n:=fun n=>by rw[i4]; simp
    have hin:∀ x∈a.map (·.1),1≤x∧x≤(top.toNat:Int):=fun x hx=>by
      obtain ⟨h1,t,ht,rfl⟩:=(hmem x).1 hx
      have:=(hb t ht).1
      have:=i6 t ht h1
      omega
    constructor
    · intro hlen t ht n hn1 hn2
      have htop:t.level≤top:=i6 t ht (by omega)
      have hm:=GN i3 hin (by simp; omega) hn1 (show n≤(top.toNat:Int) by omega)
      obtain ⟨hz,u,hu,rfl⟩:=(hmem n).1 hm
      exact (hL _ hn1).2 ⟨u.assoc,⟨u,hu,rfl⟩,fun w hw e=>i1 w hw u hu e (by omega)⟩
    · intro hall
      have h1:a.length≤top.toNat:=by
        have:=m3 _ (hU top.toNat) i3 (fun x hx=>pf.2 (hin x hx))
        simpa [hU] using this
      have h2:top.toNat≤a.length:=by
        rcases i7 with e | ⟨t,ht,e,hz⟩
        · subst e; simp
        · have:=m3 (hU top.toNat) (a.map (·.1)) (yq _) (fun x hx=>by
            rw[pf] at hx
            have:=(hb t ht).1
            obtain ⟨_,⟨u,hu,hl⟩,_⟩:=(hL x hx.1).1 (hall t ht x hx.1 (by omega))
            exact (hmem x).2 ⟨by omega,u,hu,hl⟩)
          simpa [hU] using this
      omega
theorem ug (g:aE):∀ (l:List Term) (i:Int),iY g l i=true↔∀ (k:Nat) (t:Term),l[k]?=some t→gE g (i+k) t=true
  | [],i=>by simp[iY]
  | t :: r,i=>by
    simp only[iY,Bool.and_eq_true,ug g r (i+1)]
    constructor
    · rintro ⟨h1,h2⟩ k u hk
      cases k with
      | zero=>simp at hk; subst hk; simpa using h1
      | succ k =>
        have:=h2 k u (by simpa using hk)
        rw[show i+((k+1:Nat):Int)=i+1+k by push_cast; omega]; exact this
    · intro h
      refine ⟨by simpa using h 0 t rfl,fun k u hk=>?_⟩
      have:=h (k+1) u (by simpa using hk)
      rw[show i+1+(k:Int)=i+((k+1:Nat):Int) by push_cast; omega]; exact this
theorem xk (g:aE):∀ (l:List ByteArray) (i:Int),lN g l i=true↔∀ (k:Nat) (s:ByteArray),l[k]?=some s→j3 g (i+k) s=true
  | [],i=>by simp[lN]
  | t :: r,i=>by
    simp only[lN,Bool.and_eq_true,xk g r (i+1)]
    constructor
    · rintro ⟨h1,h2⟩ k u hk
      cases k with
      | zero=>simp at hk; subst hk; simpa using h1
      | succ k =>
        have:=h2 k u (by simpa using hk)
        rw[show i+((k+1:Nat):Int)=i+1+k by push_cast; omega]; exact this
    · intro h
      refine ⟨by simpa using h 0 t rfl,fun k u hk=>?_⟩
      have:=h (k+1) u (by simpa using hk)
      rw[show i+1+(k:Int)=i+((k+1:Nat):Int) by push_cast; omega]; exact this
theorem w9 (g:aE) (s:ByteArray):lM g s < 0↔s ∉ g.az.map Term.name:=by
  unfold lM
  rcases rB s (g.az.map Term.name) 0 (by omega) with ⟨h1,h2⟩ | ⟨k,h1,h2,_⟩
  · exact ⟨fun _=>h2,fun _=>h1⟩
  · constructor
    · intro h; omega
    · intro h; exact absurd (List.mem_of_getElem? h2) h
theorem xC (g:aE) (t:Term):mW g t=true↔∀ n:Int,1≤n→n≤t.level→dI g.az n=true:=by
  simp only[mW,List.all_eq_true,List.mem_range]
  constructor
  · intro h n h1 h2
    have:=h (n - 1).toNat (by omega)
    rwa [show (((n - 1).toNat:Nat):Int)+1=n by omega] at this
  · intro h k hk
    exact h _ (by omega) (by omega)
theorem Cl (g:aE):lg g=bo g:=by
  rw[Bool.eq_iff_iff]
  simp only[lg,bo,gM,hD,mJ,Bool.and_eq_true,decide_eq_true_eq,ug,xk,zo,List.all_eq_true,Bool.not_eq_true',List.any_eq_false,Bool.not_eq_true,D9,mj,List.nodup_append,Int.zero_add,Int.zero_sub,Bool.not_not]
  have hT:(∀ (k:Nat) (t:Term),g.az[k]?=some t→gE g k t=true)↔(∀ t∈g.az,gQ t=true)∧(g.az.map Term.name).Nodup∧(∀ t∈g.az,mW g t=true):=by
    rw[← xi]
    constructor
    · intro h
      have h':∀ t∈g.az,∃ k:Nat,g.az[k]?=some t:=fun t ht=>List.getElem?_of_mem ht
      refine ⟨fun t ht=>?_,fun k s hk=>?_,fun t ht=>?_⟩
      · obtain ⟨k,hk⟩:=h' t ht
        have:=h k t hk
        simp only[gE,gQ,Bool.and_eq_true,decide_eq_true_eq] at this ⊢
        simp[this]
      · rw[List.getElem?_map,Option.map_eq_some_iff] at hk
        obtain ⟨t,hk,rfl⟩:=hk
        have:=h k t hk
        simp only[gE,Bool.and_eq_true,beq_iff_eq] at this
        exact this.1.1.1.1.1.1.2
      · obtain ⟨k,hk⟩:=h' t ht
        have:=h k t hk
        simp only[gE,Bool.and_eq_true] at this
        exact this.2
    · rintro ⟨h1,h2,h3⟩ k t hk
      have hm:=List.mem_of_getElem? hk
      have a:=h1 t hm
      have b:=h2 k t.name (by rw[List.getElem?_map,hk]; rfl)
      have c:=h3 t hm
      simp only[gE,gQ,lM,Bool.and_eq_true,decide_eq_true_eq] at a ⊢
      simp[a,b,c]
  have hN:(∀ (k:Nat) (s:ByteArray),g.aK[k]?=some s→j3 g k s=true)↔(∀ s∈g.aK,dy (cW s)=true)∧g.aK.Nodup∧(∀ s∈g.aK,s ∉ g.az.map Term.name):=by
    rw[← xi]
    constructor
    · intro h
      have h':∀ t∈g.aK,∃ k:Nat,g.aK[k]?=some t:=fun t ht=>List.getElem?_of_mem ht
      refine ⟨fun t ht=>?_,fun k s hk=>?_,fun t ht=>?_⟩
      · obtain ⟨k,hk⟩:=h' t ht
        have:=h k t hk
        simp only[j3,Bool.and_eq_true] at this
        exact this.1.1
      · have:=h k s hk
        simp only[j3,vO,Bool.and_eq_true,beq_iff_eq] at this
        exact this.1.2
      · obtain ⟨k,hk⟩:=h' t ht
        have:=h k t hk
        simp only[j3,Bool.and_eq_true,decide_eq_true_eq] at this
        exact (w9 g t).1 this.2
    · rintro ⟨h1,h2,h3⟩ k s hk
      have hm:=List.mem_of_getElem? hk
      have a:=h1 s hm
      have b:=h2 k s hk
      have c:=(w9 g s).2 (h3 s hm)
      simp[j3,vO,a,b,c]
  rw[hT,hN]
  constructor
  · rintro ⟨⟨⟨⟨⟨⟨⟨⟨t1,t2⟩,t3⟩,n1,n2⟩,r1,r2⟩,a1,a2,a3⟩,s1,s2⟩,n3⟩,ru⟩
    have hl:=(uq g.az t1).1 t3
    exact ⟨⟨⟨⟨⟨⟨⟨t2,t1,a2,fun t ht=>(xC g t).2 (hl t ht)⟩,⟨by omega,by omega⟩,fun s hs=>by simpa using n3 s hs,a1,fun s hs hm=>a3 s hs s hm rfl⟩,by omega⟩,by omega⟩,s1⟩,by omega⟩,ru⟩
  · rintro ⟨⟨⟨⟨⟨⟨⟨t2,t1,a2,t3⟩,⟨n1,n2⟩,n3,a1,a3⟩,r1⟩,r2⟩,s1⟩,s2⟩,ru⟩
    have hl:=(uq g.az t1).2 (fun t ht=>(xC g t).1 (t3 t ht))
    exact ⟨⟨⟨⟨⟨⟨⟨⟨t1,t2⟩,hl⟩,by omega,by omega⟩,by omega,by omega⟩,a1,a2,fun s hs u hu e=>a3 s hs (e ▸ hu)⟩,s1,by omega⟩,fun s hs=>by simp[n3 s hs]⟩,ru⟩
theorem iC (g:aE) (hg:g.Ok) (hs:g.aK.length+g.az.length≤1000):aA Tryz.prog 64 [.agg (aw g)] (gb (bo g)):=by
  rw[← Cl]; exact Cn g hg hs
def uf (n:Nat) (r:aZ):Prop:=cU r.left∧0≤r.left∧r.left < n∧r.right.length≤6∧∀ s∈r.right,cU s∧(s < 0→-1 - s < n)
theorem aE.yg.rK {g:aE} (hg:g.Ok) (h:g.yg) {r:aZ} (hr:r∈g.rules):uf g.aK.length r :=
  ⟨(hg.bg r hr).1,(h.left r hr).1,(h.left r hr).2,h.right r hr,fun s hs=>⟨(hg.bg r hr).2.2.2 s hs,fun hn=>h.neg hr hs hn⟩⟩
def qk:SF:=⟨.seq (ao [aM 2 false]) <|
  .seq (ao [aa 3 0,aq 4 .geq 3 0,aa 2 4]) <|
  .ret,
  [.tmp 2],5⟩
theorem tv:bb Tryz.prog 259 []=some qk:=by kernel_rfl
def sX:SF:=⟨.seq (ao [bu 1 0,aM 2 false]) <|
  .seq (ao [al 3 1 1,ak 4 3,bS 5 90 [(.tmp 4),(.val (.fn 259 [] []))],bB 6 5,aa 2 6]) <|
  .ret,
  [.tmp 2],7⟩
theorem vV:bb Tryz.prog 236 [1]=some sX:=by kernel_rfl
def m0:SF:=⟨.seq (ao [aM 3 false]) <|
  .seq (.region false [⟨none,[aa 4 0,aq 5 .lss 4 0,aa 6 5]⟩,⟨(some (6,true)),[ak 7 1,aa 8 0,((some 9),.op (.arith .sub (.val (.val (.int .i64 (-1)))) (.tmp 8))),aI 10 1 7 9,ak 11 10,bB 12 11]⟩,⟨none,[bf 13 6 12,aa 3 13]⟩]) <|
  .ret,
  [.tmp 3],14⟩
theorem qW:bb Tryz.prog 223 []=some m0:=by kernel_rfl
def qb:SF:=⟨.seq (ao [bu 2 0,bu 3 1,aM 4 false]) <|
  .seq (ao [al 5 1 2,ak 6 5,((some 7),.op (.ka 223 [] [(.tmp 3)])),aB 8 90 [6,7],bB 9 8,aa 4 9]) <|
  .ret,
  [.tmp 4],10⟩
theorem td:bb Tryz.prog 177 [2,3]=some qb:=by kernel_rfl
def lK:SF:=⟨.seq (ao [bu 2 0,((some 4),.op (.aV (.val (.emp 1))))]) <|
  .seq (.seq (.region false [⟨none,[aG 5 3 2,aB 6 236 [5],aa 7 6]⟩,⟨(some (7,true)),[aG 8 3 2,aa 9 1,aB 10 177 [8,9]]⟩,⟨none,[bf 11 7 10]⟩]) <|
  .cond (.tmp 11) (.seq (ao [al 12 0 2,ak 13 12,((some 14),.op (.ba 1 1 [(.val (.int .i64 0))] [(0,(.tmp 13))])),aa 4 14]) <|
  .ret) (.skip)) <|
  .seq (ao [((some 4),.op (.aV (.val (.emp 1))))]) <|
  .ret,
  [.tmp 4],15⟩
theorem pL:bb Tryz.prog 235 [2]=some lK:=by kernel_rfl
def jB:SF:=⟨.seq (ao [bu 2 0,((some 4),.op (.aV (.val (.emp 1))))]) <|
  .seq (.seq (ao [aG 5 3 2,aa 6 1,aB 7 177 [5,6]]) <|
  .cond (.tmp 7) (.seq (ao [al 8 0 2,ak 9 8,((some 10),.op (.ba 1 1 [(.val (.int .i64 0))] [(0,(.tmp 9))])),aa 4 10]) <|
  .ret) (.skip)) <|
  .seq (ao [((some 4),.op (.aV (.val (.emp 1))))]) <|
  .ret,
  [.tmp 4],11⟩
theorem nP:bb Tryz.prog 221 [2]=some jB:=by kernel_rfl
def je:SC :=
  .seq (ao [aF 24 .lss 23 22]) <|
  .seq (.cond (.tmp 24) (.skip) (.exit 0)) <|
  .seq (.block 1 (.seq (ao [aI 25 1 21 23,ak 26 25,aa 7 26]) <|
  .seq (ao [aa 27 7,aq 28 .lss 27 0]) <|
  .cond (.tmp 28) (ao [aa 29 5,aa 30 7,((some 31),.op (.arith .sub (.val (.val (.int .i64 (-1)))) (.tmp 30))),((some 32),.op (.ba 1 1 [(.val (.int .i64 0))] [(0,(.tmp 31))])),((some 33),.op (.app 1 8 (.tmp 29) (.tmp 32))),aa 5 33]) (.skip))) <|
  ao [aq 34 .add 23 1,aa 23 34]
def kH:SF:=⟨.seq (ao [bu 3 0,((some 5),.op (.aV (.val (.emp 1))))]) <|
  .seq (.seq (.region false [⟨none,[aa 8 1,al 9 0 3,ak 10 9,aI 11 1 8 10,ak 12 11,bB 13 12,aa 14 13]⟩,⟨(some (14,false)),[aG 15 3 3,ak 16 2,aB 17 177 [15,16],bB 18 17]⟩,⟨none,[aT 19 14 18]⟩]) <|
  .cond (.tmp 19) (.seq (ao [((some 5),.op (.aV (.val (.emp 1))))]) <|
  .ret) (.skip)) <|
  .seq (.seq (ao [al 20 1 3,ak 21 20,aH 22 21,ax 23 0]) <|
  .block 0 (.loop je)) <|
  .seq (ao [aa 35 5,aa 5 35]) <|
  .ret,
  [.tmp 5],36⟩
theorem oO:bb Tryz.prog 222 [3]=some kH:=by kernel_rfl
theorem DJ (r:aZ):∀ v∈[V.agg (aY r)],Tree v:=by intro v hv; simp at hv; subst hv; exact cI _ (dw r)
theorem tC (r:aZ) (is:List Bool):∀ v∈[V.agg (aY r),cA is],Tree v:=by
  intro v hv; simp at hv
  rcases hv with rfl | rfl
  · exact cI _ (dw r)
  · exact iE is
theorem EO (x:Int):aA Tryz.prog 259 [gi x] (gb (decide (0≤x))):=by
  refine aA.val (rv (l:=[.int .i64 x])) fun H=>?_
  refine aD.of mixed tv ?_
  simp (disch:=omega) only [↓wr,↓reduceIte,wq,ai,ah,an,ab,ae,ag,aj,isNil,Nat.reduceEqDiff,Nat.reduceAdd,Nat.reduceLT,Nat.reduceLeDiff,Int.reduceNeg,Int.reduceToNat,reduceCtorEq,qk]
theorem GB (r:aZ) (hr:bd r.right):aA Tryz.prog 236 [.agg (aY r)] (gb (!r.right.any fun s=>decide (0≤s))):=by
  refine aA.val (DJ r) fun H=>?_
  refine aD.of mixed vV ?_
  simp (disch:=omega) only [↓wr,↓reduceIte,wq,ai,ah,an,ab,ae,ag,aj,isNil,Nat.reduceEqDiff,Nat.reduceAdd,Nat.reduceLT,Nat.reduceLeDiff,Int.reduceNeg,Int.reduceToNat,reduceCtorEq,sX,aY,encI]
  refine aJ.pure (iq r.right hr 259 [] (by simp) (fun s=>decide (0≤s)) (fun x _=>EO x) (by kernel_rfl)) (by kernel_rfl) ?_
  simp (disch:=omega) only [↓wr,↓reduceIte,wq,ai,ah,an,ab,ae,ag,aj,isNil,Nat.reduceEqDiff,Nat.reduceAdd,Nat.reduceLT,Nat.reduceLeDiff,Int.reduceNeg,Int.reduceToNat,reduceCtorEq]
def wk (is:List Bool) (s:Int):Bool:=decide (s < 0) && !is.getD (-1 - s).toNat false
theorem Cc (is:List Bool) (s:Int) (hs:cU s∧(s < 0→-1 - s < is.length)):aA Tryz.prog 223 [gi s,.aQ [cA is] 0] (gb (wk is s)):=by
  refine aA.val ?_ fun H=>?_
  · intro v hv; simp at hv
    rcases hv with rfl | rfl
    · exact .val _
    · exact gn (by intro v hv; simp at hv; subst hv; exact iE is)
  obtain ⟨⟨h1,h2⟩,h3⟩:=hs
  refine aD.of mixed qW ?_
  simp (disch:=omega) only [↓wr,↓reduceIte,wq,ai,ah,an,ab,ae,ag,aj,isNil,Nat.reduceEqDiff,Nat.reduceAdd,Nat.reduceLT,Nat.reduceLeDiff,Int.reduceNeg,Int.reduceToNat,reduceCtorEq,m0,cA]
  refine ar.dec (fun h=>?_) (fun h=>?_)
  · have hb:is[(-1 - s).toNat]?=some (is[(-1 - s).toNat]'(by omega)):=List.getElem?_eq_getElem (by omega)
    have hbd:is.getD (-1 - s).toNat false=is[(-1 - s).toNat]'(by omega):=by simp[List.getD_eq_getElem?_getD,hb]
    generalize is[(-1 - s).toNat]'(by omega)=b at hb hbd
    simp (disch:=omega) only [↓wr,↓reduceIte,wq,ai,ah,an,ab,ae,ag,aj,isNil,Nat.reduceEqDiff,Nat.reduceAdd,Nat.reduceLT,Nat.reduceLeDiff,Int.reduceNeg,Int.reduceToNat,reduceCtorEq,List.getElem?_map,hb]
    simp only[wk,hbd,h,decide_true,Bool.true_and]
  · simp (disch:=omega) only [↓wr,↓reduceIte,wq,ai,ah,an,ab,ae,ag,aj,isNil,Nat.reduceEqDiff,Nat.reduceAdd,Nat.reduceLT,Nat.reduceLeDiff,Int.reduceNeg,Int.reduceToNat,reduceCtorEq]
    simp[wk,h]
theorem BT {is:List Bool} {l:List Int} : (!l.any (wk is))=eU l is true:=by
  simp only[eU,List.not_any_eq_all_not]
  congr 1
  funext s
  simp only[wk]
  by_cases h:0≤s
  · simp[h,show ¬ s < 0 by omega]
  · simp[h,show s < 0 by omega]
theorem mZ (r:aZ) (is:List Bool) (hr:bd r.right) (hs:∀ s∈r.right,cU s∧(s < 0→-1 - s < is.length)):aA Tryz.prog 177 [.agg (aY r),cA is] (gb (eU r.right is true)):=by
  rw[← BT]
  refine aA.val (tC r is) fun H=>?_
  refine aD.of mixed td ?_
  simp (disch:=omega) only [↓wr,↓reduceIte,wq,ai,ah,an,ab,ae,ag,aj,isNil,Nat.reduceEqDiff,Nat.reduceAdd,Nat.reduceLT,Nat.reduceLeDiff,Int.reduceNeg,Int.reduceToNat,reduceCtorEq,qb,aY,cA,encI]
  refine aJ.pure (iq r.right hr 223 [.aQ [cA is] 0] (by
    intro v hv; simp at hv; subst hv
    exact gn (by intro v hv; simp at hv; subst hv; exact iE is)) (wk is) (fun x hx=>Cc is x (hs x hx)) (by kernel_rfl)) (by kernel_rfl) ?_
  simp (disch:=omega) only [↓wr,↓reduceIte,wq,ai,ah,an,ab,ae,ag,aj,isNil,Nat.reduceEqDiff,Nat.reduceAdd,Nat.reduceLT,Nat.reduceLeDiff,Int.reduceNeg,Int.reduceToNat,reduceCtorEq]
theorem Ak {is:List Bool} {l:List Int} : ((!l.any fun s=>decide (0≤s)) && eU l is true)=eU l is false:=by
  induction l with
  | nil=>rfl
  | cons s l ih =>
    simp only[eU,List.all_cons,List.any_cons] at ih ⊢
    rw[← ih]
    by_cases h:0≤s
    · simp[h]
    · simp only[h,decide_false,Bool.false_or,if_false]
      cases (l.any fun s=>decide (0≤s)) <;> simp
theorem mq {h:ay} {u:V} {l:List Int} (ho:bj h.view u 1 (l.map fun x=>[gi x])):eh h u (encI l):=eh.Hl (f:=Value.int .i64) ho
theorem zA (r:aZ) (is:List Bool) (hr:uf is.length r):cF Tryz.prog 235 [.agg (aY r),cA is] (encI (if eU r.right is false=true then [r.left] else [])):=by
  obtain ⟨hl,_,_,hr6,hs⟩:=hr
  have hsh:bd r.right:=by unfold bd; omega
  refine cF.of (tC r is) ?_
  refine aD.of mixed pL ?_
  rw[← Ak]
  simp (disch:=omega) only [↓wr,↓reduceIte,wq,ai,ah,an,ab,ae,ag,aj,isNil,Nat.reduceEqDiff,Nat.reduceAdd,Nat.reduceLT,Nat.reduceLeDiff,Int.reduceNeg,Int.reduceToNat,reduceCtorEq,lK,aY,encI]
  refine aJ.pure (GB r hsh) (by kernel_rfl) ?_
  repeat' (first | (refine ar.dec (fun _=>?_) (fun _=>?_)) | (refine ar.eq (fun _=>?_) (fun _=>?_)) | (refine ar.ne (fun _=>?_) (fun _=>?_)) | (refine ar.split (fun _=>?_) (fun _=>?_)) | (refine aJ.pure (mZ r is hsh hs) (by kernel_rfl) ?_) | (simp (disch:=omega) only [↓wr,↓reduceIte,wq,ai,ah,an,ab,ae,ag,aj,isNil,Nat.reduceEqDiff,Nat.reduceAdd,Nat.reduceLT,Nat.reduceLeDiff,Int.reduceNeg,Int.reduceToNat,reduceCtorEq,aY,encI]))
  all_goals first
    | (intro n h' hh; rw[if_pos (by simp[*])]; exact mq (l:=[r.left]) (.inr ⟨n,rfl,by rw[hh]; simp[View.set]⟩))
    | (intro h' hh; rw[if_neg (by simp[*])]; exact .emp _)
theorem wu (r:aZ) (is:List Bool) (hr:uf is.length r):cF Tryz.prog 221 [.agg (aY r),cA is] (encI (if eU r.right is true=true then [r.left] else [])):=by
  obtain ⟨hl,_,_,hr6,hs⟩:=hr
  have hsh:bd r.right:=by unfold bd; omega
  refine cF.of (tC r is) ?_
  refine aD.of mixed nP ?_
  simp (disch:=omega) only [↓wr,↓reduceIte,wq,ai,ah,an,ab,ae,ag,aj,isNil,Nat.reduceEqDiff,Nat.reduceAdd,Nat.reduceLT,Nat.reduceLeDiff,Int.reduceNeg,Int.reduceToNat,reduceCtorEq,jB,aY,encI]
  refine aJ.pure (mZ r is hsh hs) (by kernel_rfl) ?_
  repeat' (first | (refine ar.dec (fun _=>?_) (fun _=>?_)) | (refine ar.eq (fun _=>?_) (fun _=>?_)) | (refine ar.ne (fun _=>?_) (fun _=>?_)) | (refine ar.split (fun _=>?_) (fun _=>?_)) | (simp (disch:=omega) only [↓wr,↓reduceIte,wq,ai,ah,an,ab,ae,ag,aj,isNil,Nat.reduceEqDiff,Nat.reduceAdd,Nat.reduceLT,Nat.reduceLeDiff,Int.reduceNeg,Int.reduceToNat,reduceCtorEq,aY,encI]))
  all_goals first
    | (intro n h' hh; rw[if_pos (by simp[*])]; exact mq (l:=[r.left]) (.inr ⟨n,rfl,by rw[hh]; simp[View.set]⟩))
    | (intro h' hh; rw[if_neg (by simp[*])]; exact .emp _)
def du (l:List Int):List Int:=(l.filter fun s=>decide (s < 0)).map fun s=>-1 - s
theorem Di (r:aZ) (is p:List Bool):∀ v∈[V.agg (aY r),cA is,.aQ [cA p] 0],Tree v:=by
  intro v hv; simp at hv
  rcases hv with rfl | rfl | rfl
  · exact cI _ (dw r)
  · exact iE is
  · exact gn (by intro v hv; simp at hv; subst hv; exact iE p)
set_option maxHeartbeats 1000000 in
theorem xR (r:aZ) (is p:List Bool) (hr:uf is.length r) (hp:p.length=is.length) :
    cF Tryz.prog 222 [.agg (aY r),cA is,.aQ [cA p] 0] (encI (if (is.getD r.left.toNat false && eU r.right p true)=true then du r.right else [])):=by
  obtain ⟨hl,hl0,hl1,hr6,hs⟩:=hr
  have hsh:bd r.right:=by unfold bd; omega
  refine cF.of (Di r is p) ?_
  refine aD.of mixed oO ?_
  have hb:is[r.left.toNat]?=some (is[r.left.toNat]'(by omega)):=List.getElem?_eq_getElem (by omega)
  have hbd:is.getD r.left.toNat false=is[r.left.toNat]'(by omega):=by simp[List.getD_eq_getElem?_getD,hb]
  generalize is[r.left.toNat]'(by omega)=b at hb hbd
  rw[hbd]
  simp (disch:=omega) only [↓wr,↓reduceIte,wq,ai,ah,an,ab,ae,ag,aj,isNil,Nat.reduceEqDiff,Nat.reduceAdd,Nat.reduceLT,Nat.reduceLeDiff,Int.reduceNeg,Int.reduceToNat,reduceCtorEq,kH,aY,encI,cA,List.getElem?_map,hb]
  cases b with
  | false =>
    simp (disch:=omega) only [↓wr,↓reduceIte,wq,ai,ah,an,ab,ae,ag,aj,isNil,Nat.reduceEqDiff,Nat.reduceAdd,Nat.reduceLT,Nat.reduceLeDiff,Int.reduceNeg,Int.reduceToNat,reduceCtorEq]
    intro h' hh
    exact .emp _
  | true =>
    simp (disch:=omega) only [↓wr,↓reduceIte,wq,ai,ah,an,ab,ae,ag,aj,isNil,Nat.reduceEqDiff,Nat.reduceAdd,Nat.reduceLT,Nat.reduceLeDiff,Int.reduceNeg,Int.reduceToNat,reduceCtorEq,aY,encI,cA]
    refine aJ.pure (mZ r p hsh (fun s hs'=>⟨(hs s hs').1,fun h=>by rw[hp]; exact (hs s hs').2 h⟩)) (by kernel_rfl) ?_
    repeat' (first | (refine ar.dec (fun _=>?_) (fun _=>?_)) | (refine ar.eq (fun _=>?_) (fun _=>?_)) | (refine ar.ne (fun _=>?_) (fun _=>?_)) | (refine ar.split (fun _=>?_) (fun _=>?_)) | (simp (disch:=omega) only [↓wr,↓reduceIte,wq,ai,ah,an,ab,ae,ag,aj,isNil,Nat.reduceEqDiff,Nat.reduceAdd,Nat.reduceLT,Nat.reduceLeDiff,Int.reduceNeg,Int.reduceToNat,reduceCtorEq,aY,encI,cA]))
    · rename_i ha
      rw[if_pos (by simp[ha])]
      refine bJ.up r.right.length (fun i T H=>(∃ u,T 5=u∧bj H u 1 ((du (r.right.take i)).map fun x=>[gi x]))∧T 21=encI r.right∧T 22=gi r.right.length∧T 23=gi i) ?_ ?_
      · exact ⟨⟨_,rfl,.nil⟩,rfl,rfl,rfl⟩
      rintro i k T H' hk ⟨⟨u,h5,hu⟩,h21,h22,h23⟩
      simp (disch:=omega) only [↓wr,↓reduceIte,wq,ai,ah,an,ab,ae,ag,aj,isNil,Nat.reduceEqDiff,Nat.reduceAdd,Nat.reduceLT,Nat.reduceLeDiff,Int.reduceNeg,Int.reduceToNat,reduceCtorEq,je,h5,h21,h22,h23,encI]
      refine ar.dec (fun hc=>?_) (fun hc=>?_)
      · have hg:r.right[i]?=some (r.right[i]'(by omega)):=List.getElem?_eq_getElem (by omega)
        have hm:r.right[i]'(by omega)∈r.right:=List.getElem_mem _
        have htk:du (r.right.take (i+1))=du (r.right.take i) ++ du [r.right[i]'(by omega)]:=by
          rw[List.take_add_one,hg,du,List.filter_append,List.map_append]; rfl
        have hlen:(du (r.right.take i)).length≤6:=by
          have h1:(du (r.right.take i)).length≤(r.right.take i).length:=by simp only[du,List.length_map]; exact List.length_filter_le _ _
          have h2:(r.right.take i).length≤i:=List.length_take_le _ _
          omega
        generalize r.right[i]'(by omega)=s at hg hm htk
        obtain ⟨⟨s1,s2⟩,s3⟩:=hs s hm
        simp (disch:=omega) only [↓wr,↓reduceIte,wq,ai,ah,an,ab,ae,ag,aj,isNil,Nat.reduceEqDiff,Nat.reduceAdd,Nat.reduceLT,Nat.reduceLeDiff,Int.reduceNeg,Int.reduceToNat,reduceCtorEq,h5,h21,h22,h23,encI,List.getElem?_map,hg]
        refine ar.dec (fun hd=>?_) (fun hd=>?_)
        · simp (disch:=omega) only [↓wr,↓reduceIte,wq,ai,ah,an,ab,ae,ag,aj,isNil,Nat.reduceEqDiff,Nat.reduceAdd,Nat.reduceLT,Nat.reduceLeDiff,Int.reduceNeg,Int.reduceToNat,reduceCtorEq,h5,h21,h22,h23]
          intro m hm
          try simp (disch:=omega) only [↓wr,↓reduceIte,wq,ai,ah,an,ab,ae,ag,aj,isNil,Nat.reduceEqDiff,Nat.reduceAdd,Nat.reduceLT,Nat.reduceLeDiff,Int.reduceNeg,Int.reduceToNat,reduceCtorEq,h5,h21,h22,h23,g9]
          refine rD (hu.fresh hm) (by simp) (by simp[aP]) (by unfold aW; simp at hlen ⊢; omega) (by unfold aW; simp at hlen ⊢; omega) ?_
          intro u' H2 hu' _
          simp (disch:=omega) only [↓wr,↓reduceIte,wq,ai,ah,an,ab,ae,ag,aj,isNil,Nat.reduceEqDiff,Nat.reduceAdd,Nat.reduceLT,Nat.reduceLeDiff,Int.reduceNeg,Int.reduceToNat,reduceCtorEq,h21,h22,h23]
          refine ca hk (by omega) ⟨⟨u',rfl,?_⟩,h21,h22,rfl⟩
          rw[htk]
          simpa [du,hd] using hu'
        · simp (disch:=omega) only [↓wr,↓reduceIte,wq,ai,ah,an,ab,ae,ag,aj,isNil,Nat.reduceEqDiff,Nat.reduceAdd,Nat.reduceLT,Nat.reduceLeDiff,Int.reduceNeg,Int.reduceToNat,reduceCtorEq,h5,h21,h22,h23]
          refine ca hk (by omega) ⟨⟨u,h5,?_⟩,h21,h22,rfl⟩
          rw[htk]
          simpa [du,hd] using hu
      · rw[List.take_of_length_le (by omega)] at hu
        simp (disch:=omega) only [↓wr,↓reduceIte,wq,ai,ah,an,ab,ae,ag,aj,isNil,Nat.reduceEqDiff,Nat.reduceAdd,Nat.reduceLT,Nat.reduceLeDiff,Int.reduceNeg,Int.reduceToNat,reduceCtorEq,h5,h21,h22,h23]
        intro h' hh
        exact mq (by rw[hh]; exact hu)
    · rename_i ha
      intro h' hh
      rw[if_neg (by simp[ha])]
      exact .emp _
def lW (is:List Bool) (l:List Int):List Bool:=l.foldl (fun is n=>is.set n.toNat true) is
def stepG (comes:aZ→List Bool→List Int) (is:List Bool) (r:aZ):List Bool:=lW is (comes r is)
def b4 (comes:aZ→List Bool→List Int) (rules:List aZ) (is:List Bool):List Bool:=rules.foldl (stepG comes) is
def dZ (a b:List Bool):Prop:=a.length=b.length∧∀ i,a.getD i false=true→b.getD i false=true
theorem dZ.refl (a:List Bool):dZ a a:=⟨rfl,fun _ h=>h⟩
theorem dZ.trans {a b c:List Bool} (h:dZ a b) (k:dZ b c):dZ a c:=⟨h.1.trans k.1,fun i hi=>k.2 i (h.2 i hi)⟩
theorem dZ.set (a:List Bool) (i:Nat):dZ a (a.set i true):=by
  refine ⟨by simp,fun j h=>?_⟩
  simp only[List.getD_eq_getElem?_getD,List.getElem?_set] at h ⊢
  split
  · split
    · rfl
    · rename_i e h2; rw[← e,List.getElem?_eq_none (by omega)] at h; simp at h
  · exact h
theorem yZ:∀ (l:List Int) (is:List Bool),dZ is (lW is l)
  | [],is=>.refl _
  | n :: l,is=>(dZ.set is n.toNat).trans (yZ l _)
theorem nq (comes:aZ→List Bool→List Int):∀ (rules:List aZ) (is:List Bool),dZ is (b4 comes rules is)
  | [],is=>.refl _
  | r :: rs,is=>(yZ _ _).trans (nq comes rs _)
def cH (a:List Bool):Nat:=a.countP fun x=>x
theorem tf (a:List Bool):cH a≤a.length:=List.countP_le_length
theorem dZ.cH:∀ {a b:List Bool},dZ a b→cH a≤cH b∧(cH a=cH b→a=b)
  | [],[],_=>⟨Nat.le_refl _,fun _=>rfl⟩
  | [],_ :: _,h=>by simp[dZ] at h
  | _ :: _,[],h=>by simp[dZ] at h
  | x :: a,y :: b,h=>by
    have hxy:x=true→y=true:=fun e=>by have:=h.2 0 (by simpa using e); simpa using this
    obtain ⟨h1,h2⟩:=dZ.cH (a:=a) (b:=b) ⟨by simpa using h.1,fun i hi=>by have:=h.2 (i+1) (by simpa using hi); simpa using this⟩
    unfold Gv.cH at h1 h2 ⊢
    simp only[List.countP_cons]
    cases x with
    | true =>
      have:=hxy rfl; subst this
      simp only[if_true]
      exact ⟨by omega,fun e=>by rw[h2 (by omega)]⟩
    | false =>
      cases y with
      | false=>simp only[Bool.false_eq_true,if_false]; exact ⟨by omega,fun e=>by rw[h2 (by omega)]⟩
      | true=>simp only[Bool.false_eq_true,if_false,if_true]; exact ⟨by omega,fun e=>by omega⟩
def dK (comes:aZ→List Bool→List Int) (rules:List aZ):Nat→List Bool→List Bool
  | 0,is=>is
  | k+1,is=>if b4 comes rules is=is then is else dK comes rules k (b4 comes rules is)
theorem rY (comes:aZ→List Bool→List Int) (rules:List aZ):∀ (k:Nat) (is:List Bool),is.length≤cH is+k→b4 comes rules (dK comes rules k is)=dK comes rules k is∧dZ is (dK comes rules k is)
  | 0,is,h=>by
    have h1:=nq comes rules is
    have h2:=tf (b4 comes rules is)
    have h3:=h1.cH
    rw[← h1.1] at h2
    have h4:=tf is
    exact ⟨(h3.2 (by omega)).symm,.refl _⟩
  | k+1,is,h=>by
    simp only[dK]
    by_cases e:b4 comes rules is=is
    · rw[if_pos e]; exact ⟨e,.refl _⟩
    · rw[if_neg e]
      have h1:=nq comes rules is
      have h3:=h1.cH
      have:cH is < cH (b4 comes rules is):=by
        rcases Nat.lt_or_ge (cH is) (cH (b4 comes rules is)) with h | h
        · exact h
        · exact absurd (h3.2 (by omega)).symm e
      obtain ⟨g1,g2⟩:=rY comes rules k (b4 comes rules is) (by rw[← h1.1]; omega)
      exact ⟨g1,h1.trans g2⟩
def qm:SC :=
  .seq (ao [aF 26 .lss 25 24]) <|
  .seq (.cond (.tmp 26) (.skip) (.exit 4)) <|
  .seq (.block 5 (.seq (ao [aI 27 1 23 25,ak 28 27,aa 11 28]) <|
  .seq (.region false [⟨none,[aa 29 7,aa 30 29]⟩,⟨(some (30,false)),[aa 31 1,aa 32 11,aI 33 1 31 32,ak 34 33,bB 35 34]⟩,⟨none,[aT 36 30 35,aa 7 36]⟩]) <|
  ao [aa 37 1,aa 38 11,aI 39 1 37 38,(none,.op (.store 1 (.tmp 39) (.val (.val (.bool true)))))])) <|
  ao [aq 40 .add 25 1,aa 25 40]
def qj:SC :=
  .seq (ao [aF 17 .lss 16 15]) <|
  .seq (.cond (.tmp 17) (.skip) (.exit 2)) <|
  .seq (.block 3 (.seq (ao [aI 18 3 14 16,aG 19 3 18,((some 9),.op (.alloc [(.val (.int .i64 0)),(.emp 1),(.val (.int .i64 0))])),(none,.op (.store 3 (.tmp 9) (.tmp 19)))]) <|
  .seq (ao [aa 20 2,aG 21 3 9,aa 22 1,((some 23),.call (.tmp 20) [(.tmp 21),(.tmp 22)]),aH 24 23,ax 25 0]) <|
  .block 4 (.loop qm))) <|
  ao [aq 41 .add 16 1,aa 16 41]
def lq:SC :=
  .seq (.seq (ao [aa 12 7]) <|
  .cond (.tmp 12) (.skip) (.exit 0)) <|
  .block 1 (.seq (ao [aM 7 false]) <|
  .seq (ao [al 13 2 3,ak 14 13,aH 15 14,ax 16 0]) <|
  .block 2 (.loop qj))
def sV:SF:=⟨.seq (ao [bu 3 0,((some 6),.op (.aV (.val (.emp 1))))]) <|
  .seq (.seq (ao [aM 7 true]) <|
  .block 0 (.loop lq)) <|
  .seq (ao [aa 42 1,aa 6 42]) <|
  .ret,
  [.tmp 6],43⟩
theorem vM:bb Tryz.prog 220 [3]=some sV:=by kernel_rfl
theorem FP {is:List Bool} {i:Nat} (h:is.getD i false=true):is.set i true=is:=by
  apply List.ext_getElem?
  intro j
  simp only[List.getD_eq_getElem?_getD] at h
  rw[List.getElem?_set]
  split
  · rename_i e; subst e
    split
    · rename_i hl; rw[List.getElem?_eq_getElem hl] at h ⊢; simp at h; simp[h]
    · rename_i hl; rw[List.getElem?_eq_none (by omega)] at h; simp at h
  · rfl
theorem BM {comes:aZ→List Bool→List Int} {rules:List aZ} {k:Nat} {is:List Bool} (h:b4 comes rules is=is):dK comes rules k is=is:=by
  cases k with
  | zero=>rfl
  | succ k=>simp only[dK,h,if_true]
theorem CE {comes:aZ→List Bool→List Int} {rules:List aZ} {k:Nat} {is:List Bool} (h:¬ b4 comes rules is=is) (hk:is.length≤cH is+k):∃ j,k=j+1∧dK comes rules k is=dK comes rules j (b4 comes rules is)∧(b4 comes rules is).length≤cH (b4 comes rules is)+j:=by
  have h1:=nq comes rules is
  have h3:=h1.cH
  have h5:=tf (b4 comes rules is)
  have:cH is < cH (b4 comes rules is):=by
    rcases Nat.lt_or_ge (cH is) (cH (b4 comes rules is)) with h | h
    · exact h
    · exact absurd (h3.2 (by omega)).symm (by assumption)
  have hl:=h1.1
  obtain ⟨j,rfl⟩:∃ j,k=j+1:=⟨k - 1,by omega⟩
  exact ⟨j,rfl,by simp only[dK]; rw[if_neg h],by omega⟩
theorem Fh {a is:List Bool} {i:Nat} {b:Bool} (hle:dZ a is) (hi:i < is.length) (hb:b = !decide (is=a)):(b || !is.getD i false) = !decide (is.set i true=a):=by
  cases hx:is.getD i false with
  | true=>rw[FP hx,hb]; simp
  | false =>
    have:¬ is.set i true=a:=fun e=>by
      have h1:(is.set i true).getD i false=true:=by simp[List.getD_eq_getElem?_getD,hi]
      rw[e] at h1
      have:=hle.2 i h1
      rw[hx] at this; simp at this
    simp[this]
set_option maxHeartbeats 8000000 in
theorem vQ (g:aE) (hr:g.rules.length≤40) (comes:aZ→List Bool→List Int) (f:FuncId) (capt capt':List V) (hok:bO Tryz.prog f=true) (N:Nat) (hN:N≤16)
    (hc:∀ r∈g.rules,∀ is:List Bool,is.length=N→cF Tryz.prog f (.agg (aY r) :: cA is :: capt') (encI (comes r is))∧(comes r is).length≤100∧∀ n∈comes r is,cU n∧0≤n∧n < N)
    (id:Nat) (is0:List Bool) (his:is0.length=N) (H:View) (hH:H id=.arr 1 (ew is0)) (hlent:∀ H':View,(∀ k,H k≠.dead→k≠id→H' k=H k)→kx H' capt capt') :
    aD Tryz.prog 220 [.agg (aw g),.sl id 0 N 1,.fn f [] capt] H fun r H'=>r=.sl id 0 N 1∧H' id=.arr 1 (ew (dK comes g.rules 16 is0))∧∀ k,H k≠.dead→k≠id→H' k=H k:=by
  refine aD.of mixed vM ?_
  simp (disch:=omega) only [↓wr,↓reduceIte,wq,ai,ah,an,ab,ae,ag,aj,isNil,Nat.reduceEqDiff,Nat.reduceAdd,Nat.reduceLT,Nat.reduceLeDiff,Int.reduceNeg,Int.reduceToNat,reduceCtorEq,sV,aw,encS]
  refine bJ.intro (fun k T H'=>∃ is:List Bool,is.length=N∧H' id=.arr 1 (ew is)∧(∀ k,H k≠.dead→k≠id→H' k=H k)∧T 1=.sl id 0 N 1∧T 2=.fn f [] capt∧T 3=.aQ (aw g) 0 ∧
    ((T 7=gb true∧∃ j,k=j+1∧dK comes g.rules j is=dK comes g.rules 16 is0∧N≤cH is+j)∨(T 7=gb false∧is=dK comes g.rules 16 is0))) 17 ?_ ?_
  · exact ⟨is0,his,hH,fun _ _ _=>rfl,rfl,rfl,rfl,.inl ⟨rfl,16,rfl,rfl,by omega⟩⟩
  rintro k T H1 ⟨is,hlen,hid,hfr,t1,t2,t3,h7⟩
  rcases h7 with ⟨h7,j,rfl,hgr,hj⟩ | ⟨h7,hgr⟩
  · simp (disch:=omega) only [↓wr,↓reduceIte,wq,ai,ah,an,ab,ae,ag,aj,isNil,Nat.reduceEqDiff,Nat.reduceAdd,Nat.reduceLT,Nat.reduceLeDiff,Int.reduceNeg,Int.reduceToNat,reduceCtorEq,lq,t1,t2,t3,h7,aw,encS]
    refine bJ.up g.rules.length (fun i T H'=>∃ jT:List Bool,jT.length=N∧dZ is jT∧jT=(g.rules.take i).foldl (stepG comes) is∧H' id=.arr 1 (ew jT)∧(∀ k,H k≠.dead→k≠id→H' k=H k)∧T 1=.sl id 0 N 1∧T 2=.fn f [] capt∧T 3=.aQ (aw g) 0 ∧
      T 7=gb (!decide (jT=is))∧T 14=.aS (g.rules.map aY)∧T 15=gi g.rules.length∧T 16=gi i) ?_ ?_
    · exact ⟨is,hlen,.refl _,rfl,hid,hfr,t1,t2,t3,by simp; rfl,rfl,rfl,rfl⟩
    clear t1 t2 t3 h7 hid hfr
    rintro i k T H1 hk ⟨jT,hlen2,hle2,hst,hid,hfr,t1,t2,t3,h7,h14,h15,h16⟩
    simp (disch:=omega) only [↓wr,↓reduceIte,wq,ai,ah,an,ab,ae,ag,aj,isNil,Nat.reduceEqDiff,Nat.reduceAdd,Nat.reduceLT,Nat.reduceLeDiff,Int.reduceNeg,Int.reduceToNat,reduceCtorEq,qj,t1,t2,t3,h7,h14,h15,h16,aw,encS]
    refine ar.dec (fun hcc=>?_) (fun hcc=>?_)
    · have hg2:g.rules[i]?=some (g.rules[i]'(by omega)):=List.getElem?_eq_getElem (by omega)
      have hmem:g.rules[i]'(by omega)∈g.rules:=List.getElem_mem _
      have htk:(g.rules.take (i+1)).foldl (stepG comes) is=stepG comes ((g.rules.take i).foldl (stepG comes) is) (g.rules[i]'(by omega)):=by
        rw[List.take_add_one,hg2,List.foldl_append]; rfl
      generalize g.rules[i]'(by omega)=r at hg2 hmem htk
      obtain ⟨hcp,hcl,hcn⟩:=hc r hmem jT hlen2
      simp (disch:=omega) only [↓wr,↓reduceIte,wq,ai,ah,an,ab,ae,ag,aj,isNil,Nat.reduceEqDiff,Nat.reduceAdd,Nat.reduceLT,Nat.reduceLeDiff,Int.reduceNeg,Int.reduceToNat,reduceCtorEq,t1,t2,t3,h7,h14,h15,h16,aY,encI,List.getElem?_map,hg2]
      intro b hb
      have hbid:b≠id:=by rintro rfl; rw[hid] at hb; simp at hb
      try simp (disch:=omega) only [↓wr,↓reduceIte,wq,ai,ah,an,ab,ae,ag,aj,isNil,Nat.reduceEqDiff,Nat.reduceAdd,Nat.reduceLT,Nat.reduceLeDiff,Int.reduceNeg,Int.reduceToNat,reduceCtorEq,t1,t2,t3,h7,h14,h15,h16]
      refine aJ.Hu hcp hok ⟨fN.tree (cI _ (dw r)),Ct (by simp[View.set,hbid.symm,hid]) hlen2.symm,hlent _ (fun k hk hki=>?_)⟩ ?_
      · have hkb:k≠b:=by
          rintro rfl
          rw[hfr k hk hki] at hb
          exact hk hb
        simp[View.set,hkb,hfr k hk hki]
      generalize hl:comes r jT=l at hcl hcn
      simp (disch:=omega) only [↓wr,↓reduceIte,wq,ai,ah,an,ab,ae,ag,aj,isNil,Nat.reduceEqDiff,Nat.reduceAdd,Nat.reduceLT,Nat.reduceLeDiff,Int.reduceNeg,Int.reduceToNat,reduceCtorEq,t1,t2,t3,h7,h14,h15,h16,encI]
      refine bJ.up l.length (fun q T H'=>∃ is3:List Bool,is3.length=N∧dZ is is3∧is3=lW jT (l.take q)∧H' id=.arr 1 (ew is3)∧(∀ k,H k≠.dead→k≠id→H' k=H k)∧T 1=.sl id 0 N 1∧T 2=.fn f [] capt∧T 3=.aQ (aw g) 0 ∧
        T 7=gb (!decide (is3=is))∧T 14=.aS (g.rules.map aY)∧T 15=gi g.rules.length∧T 16=gi i∧T 23=encI l∧T 24=gi l.length∧T 25=gi q) ?_ ?_
      · refine ⟨jT,hlen2,hle2,rfl,by simp[View.set,hbid.symm,hid],fun k hk hki=>?_,t1,t2,t3,h7,h14,h15,h16,rfl,rfl,rfl⟩
        have hkb:k≠b:=by
          rintro rfl
          rw[hfr k hk hki] at hb
          exact hk hb
        simp[View.set,hkb,hfr k hk hki]
      clear t1 t2 t3 h7 h14 h15 h16 hid hfr hb hbid
      rintro q k2 T H1 hk2 ⟨is3,hlen3,hle3,hst3,hid,hfr,t1,t2,t3,h7,h14,h15,h16,h23,h24,h25⟩
      simp (disch:=omega) only [↓wr,↓reduceIte,wq,ai,ah,an,ab,ae,ag,aj,isNil,Nat.reduceEqDiff,Nat.reduceAdd,Nat.reduceLT,Nat.reduceLeDiff,Int.reduceNeg,Int.reduceToNat,reduceCtorEq,qm,t1,t2,t3,h7,h14,h15,h16,h23,h24,h25,encI]
      refine ar.dec (fun hqc=>?_) (fun hqc=>?_)
      · have hgq:l[q]?=some (l[q]'(by omega)):=List.getElem?_eq_getElem (by omega)
        have hmq:l[q]'(by omega)∈l:=List.getElem_mem _
        have htq:lW jT (l.take (q+1))=(lW jT (l.take q)).set (l[q]'(by omega)).toNat true:=by
          unfold lW; rw[List.take_add_one,hgq,List.foldl_append]; rfl
        generalize l[q]'(by omega)=n at hgq hmq htq
        obtain ⟨⟨n1,n2⟩,n3,n4⟩:=hcn n hmq
        have hbn:is3.getD n.toNat false=is3[n.toNat]'(by omega):=by simp[List.getD_eq_getElem?_getD,show n.toNat < is3.length by omega]
        have hnew:=Fh hle3 (show n.toNat < is3.length by omega) (b:=!decide (is3=is)) rfl
        rw[hbn] at hnew
        have hbg:=xD (show n.toNat < is3.length by omega)
        generalize is3[n.toNat]'(by omega)=x at hnew hbg hbn
        have fin:∀ (T2:Env),T2 7=gb (!decide (is3.set n.toNat true=is))→T2 1=.sl id 0 N 1→T2 2=.fn f [] capt→T2 3=.aQ (aw g) 0→T2 14=.aS (g.rules.map aY)→T2 15=gi g.rules.length→T2 16=gi i→T2 23=encI l→T2 24=gi l.length→T2 25=gi ((q:Int)+1) →
            ∃ k',k' < k2∧A0 l.length k' (fun q T H'=>∃ is3:List Bool,is3.length=N∧dZ is is3∧is3=lW jT (l.take q)∧H' id=.arr 1 (ew is3)∧(∀ k,H k≠.dead→k≠id→H' k=H k)∧T 1=.sl id 0 N 1∧T 2=.fn f [] capt∧T 3=.aQ (aw g) 0 ∧
              T 7=gb (!decide (is3=is))∧T 14=.aS (g.rules.map aY)∧T 15=gi g.rules.length∧T 16=gi i∧T 23=encI l∧T 24=gi l.length∧T 25=gi q) T2 (H1.set id (.arr 1 (ew (is3.set n.toNat true)))):=by
          intro T2 a7 a1 a2 a3 a14 a15 a16 a23 a24 a25
          refine ca hk2 (by omega) ⟨is3.set n.toNat true,by simp[hlen3],hle3.trans (.set _ _),by rw[htq,← hst3],by simp[View.set],fun k hk hki=>by simp[View.set,hki,hfr k hk hki],a1,a2,a3,a7,a14,a15,a16,a23,a24,by rw[a25]; rfl⟩
        simp (disch:=omega) only [↓wr,↓reduceIte,wq,ai,ah,an,ab,ae,ag,aj,isNil,Nat.reduceEqDiff,Nat.reduceAdd,Nat.reduceLT,Nat.reduceLeDiff,Int.reduceNeg,Int.reduceToNat,reduceCtorEq,t1,t2,t3,h7,h14,h15,h16,h23,h24,h25,encI,List.getElem?_map,hgq]
        refine ar.dec (fun e=>?_) (fun e=>?_)
        · simp (disch:=omega) only [↓wr,↓reduceIte,wq,ai,ah,an,ab,ae,ag,aj,isNil,Nat.reduceEqDiff,Nat.reduceAdd,Nat.reduceLT,Nat.reduceLeDiff,Int.reduceNeg,Int.reduceToNat,reduceCtorEq,t1,t2,t3,h7,h14,h15,h16,h23,h24,h25,encI,hid,hbg,List.length_map]
          refine ⟨by omega,by omega,?_⟩
          try simp (disch:=omega) only [↓wr,↓reduceIte,wq,ai,ah,an,ab,ae,ag,aj,isNil,Nat.reduceEqDiff,Nat.reduceAdd,Nat.reduceLT,Nat.reduceLeDiff,Int.reduceNeg,Int.reduceToNat,reduceCtorEq,t1,t2,t3,h7,h14,h15,h16,h23,h24,h25,encI,hid,hbg,List.length_map]
          refine ⟨by omega,by omega,?_⟩
          rw[rJ]
          exact fin _ (by rw[← hnew]; simp[e]; rfl) t1 t2 t3 h14 h15 h16 h23 h24 rfl
        · simp (disch:=omega) only [↓wr,↓reduceIte,wq,ai,ah,an,ab,ae,ag,aj,isNil,Nat.reduceEqDiff,Nat.reduceAdd,Nat.reduceLT,Nat.reduceLeDiff,Int.reduceNeg,Int.reduceToNat,reduceCtorEq,t1,t2,t3,h7,h14,h15,h16,h23,h24,h25,encI,hid,hbg,List.length_map]
          refine ⟨by omega,by omega,?_⟩
          rw[rJ]
          exact fin _ (by rw[← hnew]; simp[e]; rfl) t1 t2 t3 h14 h15 h16 h23 h24 rfl
      · rw[List.take_of_length_le (by omega)] at hst3
        simp (disch:=omega) only [↓wr,↓reduceIte,wq,ai,ah,an,ab,ae,ag,aj,isNil,Nat.reduceEqDiff,Nat.reduceAdd,Nat.reduceLT,Nat.reduceLeDiff,Int.reduceNeg,Int.reduceToNat,reduceCtorEq,t1,t2,t3,h7,h14,h15,h16,h23,h24,h25]
        refine ca hk (by omega) ⟨is3,hlen3,hle3,?_,hid,hfr,t1,t2,t3,h7,h14,h15,rfl⟩
        rw[htk,← hst,stepG,hl,← hst3]
    · rw[List.take_of_length_le (by omega)] at hst
      simp (disch:=omega) only [↓wr,↓reduceIte,wq,ai,ah,an,ab,ae,ag,aj,isNil,Nat.reduceEqDiff,Nat.reduceAdd,Nat.reduceLT,Nat.reduceLeDiff,Int.reduceNeg,Int.reduceToNat,reduceCtorEq,t1,t2,t3,h7,h14,h15,h16]
      have hrd:jT=b4 comes g.rules is:=hst
      by_cases e:jT=is
      · refine ⟨0,by omega,jT,hlen2,hid,hfr,rfl,.inr ⟨by simp[e],?_⟩⟩
        rw[← hgr,e]
        exact (BM (by rw[← hrd]; exact e)).symm
      · obtain ⟨j2,rfl,e2,e3⟩:=CE (k:=j) (fun h=>e (hrd.trans h)) (by rw[hlen]; exact hj)
        refine ⟨j2+1,by omega,jT,hlen2,hid,hfr,rfl,.inl ⟨by simp[e],j2,rfl,?_,?_⟩⟩
        · rw[← hgr,e2,hrd]
        · rw[← hrd,hlen2] at e3; exact e3
  · simp (disch:=omega) only [↓wr,↓reduceIte,wq,ai,ah,an,ab,ae,ag,aj,isNil,Nat.reduceEqDiff,Nat.reduceAdd,Nat.reduceLT,Nat.reduceLeDiff,Int.reduceNeg,Int.reduceToNat,reduceCtorEq,lq,t1,t2,t3,h7,aw,encS]
    exact ⟨hgr ▸ hid,hfr⟩
theorem tS {α:Type} {f:α→α} {x:α} (h:f x=x):∀ n,iter f n x=x
  | 0=>rfl
  | n+1=>by rw[iter,h,tS h n]
theorem yK {α:Type} (f:α→α):∀ (a b:Nat) (x:α),iter f (a+b) x=iter f b (iter f a x)
  | 0,b,x=>by rw[Nat.zero_add]; rfl
  | a+1,b,x=>by rw[Nat.add_right_comm,iter,iter,yK f a b]
theorem vh (comes:aZ→List Bool→List Int) (rules:List aZ):∀ (k:Nat) (is:List Bool),dK comes rules k is=iter (b4 comes rules) k is
  | 0,is=>rfl
  | k+1,is=>by
    simp only[dK,iter]
    by_cases e:b4 comes rules is=is
    · rw[if_pos e,e,tS e]
    · rw[if_neg e,vh comes rules k]
theorem r0 (comes:aZ→List Bool→List Int) (rules:List aZ) (is:List Bool) (h:is.length≤16):dK comes rules 16 is=iter (b4 comes rules) is.length is:=by
  have h1:=(rY comes rules is.length is (by omega)).1
  rw[vh] at h1 ⊢
  obtain ⟨m,hm⟩:∃ m,16=is.length+m:=⟨16 - is.length,by omega⟩
  rw[hm,yK,tS h1]
def jk (t:Bool) (r:aZ) (is:List Bool):List Int:=if eU r.right is t=true then [r.left] else []
def mg (p:List Bool) (r:aZ) (is:List Bool):List Int:=if (is.getD r.left.toNat false && eU r.right p true)=true then du r.right else []
theorem Gc (g:aE) (t:Bool):b4 (jk t) g.rules=oW g t:=by
  funext is
  unfold b4 oW
  congr 1
  funext is r
  unfold stepG jk iS
  split <;> rfl
theorem uo:∀ (l:List Int) (is:List Bool),lW is (du l)=l.foldl mark is
  | [],is=>rfl
  | s :: l,is=>by
    have ih:=uo l
    unfold lW du at ih ⊢
    rw[List.foldl_cons,← ih]
    unfold mark
    by_cases h:s < 0
    · rw[if_pos h,List.filter_cons_of_pos (by simpa using h)]; rfl
    · rw[if_neg h,List.filter_cons_of_neg (by simpa using h)]
theorem A9 (g:aE) (p:List Bool):b4 (mg p) g.rules=rL g p:=by
  funext is
  unfold b4 rL
  congr 1
  funext is r
  unfold stepG mg iV
  split
  · exact uo _ _
  · rfl
theorem DM {g:aE} (h:bo g=true) (t:Bool):dK (jk t) g.rules 16 (bV g)=bh g t:=by
  have hf:=bW h
  have hl:(bV g).length=g.aK.length:=by simp[bV]
  have:=hf.aK
  rw[r0 _ _ _ (by rw[hl]; exact hf.aK),Gc,hl,bh,if_pos h]
theorem D0 {g:aE} (h:bo g=true):dK (mg (bh g true)) g.rules 16 ((bV g).set g.start.toNat true)=bQ g:=by
  have hf:=bW h
  have hl:((bV g).set g.start.toNat true).length=g.aK.length:=by simp[bV]
  rw[r0 _ _ _ (by rw[hl]; exact hf.aK),A9,hl,bQ,if_pos h]
def nd:SF:=⟨.seq (ao [bu 1 0,((some 2),.op (.aV (.val (.emp 1))))]) <|
  .seq (.seq (ao [aG 3 4 1,aB 4 64 [3],bB 5 4]) <|
  .cond (.tmp 5) (.seq (ao [((some 2),.op (.aV (.val (.emp 1))))]) <|
  .ret) (.skip)) <|
  .seq (ao [aG 6 4 1,al 7 1 1,ak 8 7,aH 9 8,((some 10),.op (.make 1 1 [(.val (.bool false))] (.tmp 9) (.tmp 9))),bS 11 220 [(.tmp 6),(.tmp 10),(.val (.fn 235 [] []))],aa 2 11]) <|
  .ret,
  [.tmp 2],12⟩
theorem qY:bb Tryz.prog 187 [1]=some nd:=by kernel_rfl
def lL:SF:=⟨.seq (ao [bu 1 0,((some 2),.op (.aV (.val (.emp 1))))]) <|
  .seq (.seq (ao [aG 3 4 1,aB 4 64 [3],bB 5 4]) <|
  .cond (.tmp 5) (.seq (ao [((some 2),.op (.aV (.val (.emp 1))))]) <|
  .ret) (.skip)) <|
  .seq (ao [aG 6 4 1,al 7 1 1,ak 8 7,aH 9 8,((some 10),.op (.make 1 1 [(.val (.bool false))] (.tmp 9) (.tmp 9))),bS 11 220 [(.tmp 6),(.tmp 10),(.val (.fn 221 [] []))],aa 2 11]) <|
  .ret,
  [.tmp 2],12⟩
theorem pR:bb Tryz.prog 174 [1]=some lL:=by kernel_rfl
def mH:SF:=⟨.seq (ao [bu 1 0,((some 2),.op (.aV (.val (.emp 1))))]) <|
  .seq (.seq (ao [aG 5 4 1,aB 6 64 [5],bB 7 6]) <|
  .cond (.tmp 7) (.seq (ao [((some 2),.op (.aV (.val (.emp 1))))]) <|
  .ret) (.skip)) <|
  .seq (ao [aG 8 4 1,aB 9 174 [8],((some 3),.op (.alloc [(.emp 1)])),(none,.op (.store 1 (.tmp 3) (.tmp 9)))]) <|
  .seq (ao [al 10 1 1,ak 11 10,aH 12 11,((some 13),.op (.make 1 1 [(.val (.bool false))] (.tmp 12) (.tmp 12))),aa 4 13]) <|
  .seq (ao [aa 14 4,al 15 3 1,ak 16 15,aI 17 1 14 16,(none,.op (.store 1 (.tmp 17) (.val (.val (.bool true)))))]) <|
  .seq (ao [aG 18 4 1,aa 19 4,((some 20),.op (.ka 222 [] [(.tmp 3)])),aB 21 220 [18,19,20],aa 2 21]) <|
  .ret,
  [.tmp 2],22⟩
theorem qG:bb Tryz.prog 175 [1]=some mH:=by kernel_rfl
structure aE.Small (g:aE):Prop where
  names:g.aK.length+g.az.length≤1000
theorem rq {h':ay} {id n:Nat} {is:List Bool} (hv:h'.view id=.arr 1 (ew is)) (hn:n=is.length):eh h' (.sl id 0 n 1) (cA is):=by
  subst hn; exact DK hv
set_option maxHeartbeats 2000000 in
theorem zI (g:aE) (hg:g.Ok) (hs:g.Small):cF Tryz.prog 187 [.agg (aw g)] (cA (bh g false)):=by
  refine cF.of (fF g) ?_
  refine aD.of mixed qY ?_
  have hn:=hg.aK
  unfold bd at hn
  simp (disch:=omega) only [↓wr,↓reduceIte,wq,ai,ah,an,ab,ae,ag,aj,isNil,Nat.reduceEqDiff,Nat.reduceAdd,Nat.reduceLT,Nat.reduceLeDiff,Int.reduceNeg,Int.reduceToNat,reduceCtorEq,nd,aw,encS]
  refine aJ.pure (iC g hg hs.names) (by kernel_rfl) ?_
  repeat' (first | (refine ar.dec (fun _=>?_) (fun _=>?_)) | (refine ar.eq (fun _=>?_) (fun _=>?_)) | (refine ar.ne (fun _=>?_) (fun _=>?_)) | (refine ar.split (fun _=>?_) (fun _=>?_)) | (simp (disch:=omega) only [↓wr,↓reduceIte,wq,ai,ah,an,ab,ae,ag,aj,isNil,Nat.reduceEqDiff,Nat.reduceAdd,Nat.reduceLT,Nat.reduceLeDiff,Int.reduceNeg,Int.reduceToNat,reduceCtorEq,aw,encS]))
  · rename_i hr
    have hf:=bW hr
    have h1:=hf.xV
    have h2:=hf.aK
    try simp (disch:=omega) only [↓wr,↓reduceIte,wq,ai,ah,an,ab,ae,ag,aj,isNil,Nat.reduceEqDiff,Nat.reduceAdd,Nat.reduceLT,Nat.reduceLeDiff,Int.reduceNeg,Int.reduceToNat,reduceCtorEq,aw,encS]
    refine ⟨⟨by omega,by unfold aW; omega,by unfold aW; omega⟩,fun h=>by omega,?_⟩
    intro _ n
    try simp (disch:=omega) only [↓wr,↓reduceIte,wq,ai,ah,an,ab,ae,ag,aj,isNil,Nat.reduceEqDiff,Nat.reduceAdd,Nat.reduceLT,Nat.reduceLeDiff,Int.reduceNeg,Int.reduceToNat,reduceCtorEq,aw,encS]
    refine aJ.yT ((vQ g hf.rules (jk false) 235 [] [] (by kernel_rfl) g.aK.length h2 (fun r hr' is his=>⟨zA r is (by rw[his]; exact hf.rK hg hr'),?_,?_⟩) n (bV g) (by simp[bV]) _ (by simp[View.set,bV]) (fun H' _=>trivial)).mono ?_)
    · unfold jk; split <;> simp
    · intro m hm
      unfold jk at hm
      split at hm
      · simp only[List.mem_singleton] at hm; subst hm
        exact ⟨(hg.bg r hr').1,hf.left r hr'⟩
      · simp at hm
    · rintro r H' ⟨rfl,hid,_⟩
      simp (disch:=omega) only [↓wr,↓reduceIte,wq,ai,ah,an,ab,ae,ag,aj,isNil,Nat.reduceEqDiff,Nat.reduceAdd,Nat.reduceLT,Nat.reduceLeDiff,Int.reduceNeg,Int.reduceToNat,reduceCtorEq]
      intro h' hh
      rw[DM hr] at hid
      exact rq (by rw[hh]; exact hid) (ks hr _).symm
  · rename_i hr
    intro h' hh
    simp only[bh,hr]
    exact .emp _
set_option maxHeartbeats 2000000 in
theorem ot (g:aE) (hg:g.Ok) (hs:g.Small):cF Tryz.prog 174 [.agg (aw g)] (cA (bh g true)):=by
  refine cF.of (fF g) ?_
  refine aD.of mixed pR ?_
  have hn:=hg.aK
  unfold bd at hn
  simp (disch:=omega) only [↓wr,↓reduceIte,wq,ai,ah,an,ab,ae,ag,aj,isNil,Nat.reduceEqDiff,Nat.reduceAdd,Nat.reduceLT,Nat.reduceLeDiff,Int.reduceNeg,Int.reduceToNat,reduceCtorEq,lL,aw,encS]
  refine aJ.pure (iC g hg hs.names) (by kernel_rfl) ?_
  repeat' (first | (refine ar.dec (fun _=>?_) (fun _=>?_)) | (refine ar.eq (fun _=>?_) (fun _=>?_)) | (refine ar.ne (fun _=>?_) (fun _=>?_)) | (refine ar.split (fun _=>?_) (fun _=>?_)) | (simp (disch:=omega) only [↓wr,↓reduceIte,wq,ai,ah,an,ab,ae,ag,aj,isNil,Nat.reduceEqDiff,Nat.reduceAdd,Nat.reduceLT,Nat.reduceLeDiff,Int.reduceNeg,Int.reduceToNat,reduceCtorEq,aw,encS]))
  · rename_i hr
    have hf:=bW hr
    have h1:=hf.xV
    have h2:=hf.aK
    try simp (disch:=omega) only [↓wr,↓reduceIte,wq,ai,ah,an,ab,ae,ag,aj,isNil,Nat.reduceEqDiff,Nat.reduceAdd,Nat.reduceLT,Nat.reduceLeDiff,Int.reduceNeg,Int.reduceToNat,reduceCtorEq,aw,encS]
    refine ⟨⟨by omega,by unfold aW; omega,by unfold aW; omega⟩,fun h=>by omega,?_⟩
    intro _ n
    try simp (disch:=omega) only [↓wr,↓reduceIte,wq,ai,ah,an,ab,ae,ag,aj,isNil,Nat.reduceEqDiff,Nat.reduceAdd,Nat.reduceLT,Nat.reduceLeDiff,Int.reduceNeg,Int.reduceToNat,reduceCtorEq,aw,encS]
    refine aJ.yT ((vQ g hf.rules (jk true) 221 [] [] (by kernel_rfl) g.aK.length h2 (fun r hr' is his=>⟨wu r is (by rw[his]; exact hf.rK hg hr'),?_,?_⟩) n (bV g) (by simp[bV]) _ (by simp[View.set,bV]) (fun H' _=>trivial)).mono ?_)
    · unfold jk; split <;> simp
    · intro m hm
      unfold jk at hm
      split at hm
      · simp only[List.mem_singleton] at hm; subst hm
        exact ⟨(hg.bg r hr').1,hf.left r hr'⟩
      · simp at hm
    · rintro r H' ⟨rfl,hid,_⟩
      simp (disch:=omega) only [↓wr,↓reduceIte,wq,ai,ah,an,ab,ae,ag,aj,isNil,Nat.reduceEqDiff,Nat.reduceAdd,Nat.reduceLT,Nat.reduceLeDiff,Int.reduceNeg,Int.reduceToNat,reduceCtorEq]
      intro h' hh
      rw[DM hr] at hid
      exact rq (by rw[hh]; exact hid) (ks hr _).symm
  · rename_i hr
    intro h' hh
    simp only[bh,hr]
    exact .emp _
theorem n0 {g:aE} (hr:bo g=true):(bQ g).length=g.aK.length:=by
  rw[bQ,if_pos hr,tz (f:=rL g (bh g true)) (fun is=>tu (fun is x=>Da _ is x) g.rules is)]
  simp[bV]
set_option maxHeartbeats 2000000 in
theorem xM (g:aE) (hg:g.Ok) (hs:g.Small):cF Tryz.prog 175 [.agg (aw g)] (cA (bQ g)):=by
  refine cF.of (fF g) ?_
  refine aD.of mixed qG ?_
  have hn:=hg.aK
  unfold bd at hn
  simp (disch:=omega) only [↓wr,↓reduceIte,wq,ai,ah,an,ab,ae,ag,aj,isNil,Nat.reduceEqDiff,Nat.reduceAdd,Nat.reduceLT,Nat.reduceLeDiff,Int.reduceNeg,Int.reduceToNat,reduceCtorEq,mH,aw,encS]
  refine aJ.pure (iC g hg hs.names) (by kernel_rfl) ?_
  repeat' (first | (refine ar.dec (fun _=>?_) (fun _=>?_)) | (refine ar.eq (fun _=>?_) (fun _=>?_)) | (refine ar.ne (fun _=>?_) (fun _=>?_)) | (refine ar.split (fun _=>?_) (fun _=>?_)) | (simp (disch:=omega) only [↓wr,↓reduceIte,wq,ai,ah,an,ab,ae,ag,aj,isNil,Nat.reduceEqDiff,Nat.reduceAdd,Nat.reduceLT,Nat.reduceLeDiff,Int.reduceNeg,Int.reduceToNat,reduceCtorEq,aw,encS]))
  · rename_i hr
    have hf:=bW hr
    have h1:=hf.xV
    have h2:=hf.aK
    have h3:=hf.uj
    have h4:=hf.start
    have hpl:=ks hr true
    try simp (disch:=omega) only [↓wr,↓reduceIte,wq,ai,ah,an,ab,ae,ag,aj,isNil,Nat.reduceEqDiff,Nat.reduceAdd,Nat.reduceLT,Nat.reduceLeDiff,Int.reduceNeg,Int.reduceToNat,reduceCtorEq,aw,encS]
    refine aJ.pure (ot g hg hs).pure (by kernel_rfl) ?_
    simp (disch:=omega) only [↓wr,↓reduceIte,wq,ai,ah,an,ab,ae,ag,aj,isNil,Nat.reduceEqDiff,Nat.reduceAdd,Nat.reduceLT,Nat.reduceLeDiff,Int.reduceNeg,Int.reduceToNat,reduceCtorEq,aw,encS,cA]
    intro q
    try simp (disch:=omega) only [↓wr,↓reduceIte,wq,ai,ah,an,ab,ae,ag,aj,isNil,Nat.reduceEqDiff,Nat.reduceAdd,Nat.reduceLT,Nat.reduceLeDiff,Int.reduceNeg,Int.reduceToNat,reduceCtorEq,aw,encS,set_set]
    refine ⟨⟨by omega,by unfold aW; omega,by unfold aW; omega⟩,fun h=>by omega,?_⟩
    intro _ n hn'
    have hnq:=(dC hn' dG).1
    try simp (disch:=omega) only [↓wr,↓reduceIte,wq,ai,ah,an,ab,ae,ag,aj,isNil,Nat.reduceEqDiff,Nat.reduceAdd,Nat.reduceLT,Nat.reduceLeDiff,Int.reduceNeg,Int.reduceToNat,reduceCtorEq,aw,encS,set_set]
    have hbg:=xD (is:=bV g) (show g.start.toNat < (bV g).length by simp[bV]; omega)
    refine ⟨by omega,by simp; omega,?_⟩
    refine aJ.yT ((vQ g hf.rules (mg (bh g true)) 222 [.ptr q 0 0] [.aQ [cA (bh g true)] 0] (by kernel_rfl) g.aK.length h2 (fun r hr' is his=>⟨xR r is (bh g true) (by rw[his]; exact hf.rK hg hr') (by rw[his,hpl]),?_,?_⟩) n ((bV g).set g.start.toNat true) (by simp[bV]) _ ?_ (fun H' hfr=>⟨fN.box (z:=1) ?_ ?_,trivial⟩)).mono ?_)
    · have h6:=hf.right r hr'
      unfold mg
      split
      · have:(du r.right).length≤r.right.length:=by simp only[du,List.length_map]; exact List.length_filter_le _ _
        omega
      · simp
    · intro m hm
      unfold mg at hm
      split at hm
      · simp only[du,List.mem_map,List.mem_filter,decide_eq_true_eq] at hm
        obtain ⟨s,⟨hs',hneg⟩,rfl⟩:=hm
        have a:=hf.neg hr' hs' hneg
        have b:=((hg.bg r hr').2.2.2 s hs').1
        exact ⟨⟨by omega,by omega⟩,by omega,a⟩
      · simp at hm
    · simp only[View.set,if_true]
      congr 1
      rw[← rJ]
      unfold bV at hbg ⊢
      rw[Dc,hbg]
      rfl
    · rw[hfr q (by simp[View.set,Ne.symm hnq]) (Ne.symm hnq)]
      simp[View.set,Ne.symm hnq]
      rfl
    · intro v hv; simp at hv; subst hv; exact iE _
    · rintro r H' ⟨rfl,hid,_⟩
      simp (disch:=omega) only [↓wr,↓reduceIte,wq,ai,ah,an,ab,ae,ag,aj,isNil,Nat.reduceEqDiff,Nat.reduceAdd,Nat.reduceLT,Nat.reduceLeDiff,Int.reduceNeg,Int.reduceToNat,reduceCtorEq]
      intro h' hh
      rw[D0 hr] at hid
      exact rq (by rw[hh]; exact hid) (by rw[n0 hr])
  · rename_i hr
    intro h' hh
    simp only[bQ,hr]
    exact .emp _
def cB (p q:List Bool) (r:aZ):Bool:=q.getD r.left.toNat false && eU r.right p true
def ct (p q:List Bool):List aZ→Int→List Int
  | [],_=>[]
  | r :: l,i=>if cB p q r=true then i :: ct p q l (i+1) else ct p q l (i+1)
def nG (acc:List Int) (r:aZ):List Int:=if r.left∈acc then acc else acc ++ [r.left]
def cz (p q:List Bool) (l:List aZ):List Int:=(l.filter (cB p q)).foldl nG []
def mA (o:List Int) (x:Int):Int:=fH (fun y=>y == x) o 0
def cx (f:Int→Int) (r:aZ):aZ:=⟨f r.left,r.right.map fun s=>if s < 0 then -1 - f (-1 - s) else s,r.prec⟩
def tR (g:aE) (f:Int→Int) (p q:List Bool):aE :=
  ⟨g.az,(cz p q g.rules).map fun x=>g.aK.getD x.toNat ⟨#[]⟩,(g.rules.filter (cB p q)).map (cx f),f g.start⟩
def qp:aE:=⟨[],[],[],0⟩
instance:DecidableEq Term:=fun a b=>decidable_of_iff (a.name=b.name∧a.level=b.level∧a.assoc=b.assoc) (by cases a; cases b; simp)
instance:DecidableEq aZ:=fun a b=>decidable_of_iff (a.left=b.left∧a.prec=b.prec∧a.right=b.right) (by cases a; cases b; simp[and_comm])
instance:DecidableEq aE:=fun a b=>decidable_of_iff (a.az=b.az∧a.aK=b.aK∧a.rules=b.rules∧a.start=b.start) (by cases a; cases b; simp)
def kd (g:aE):aE × List Int × Int :=
  if bo g=true then
    if (bh g true).getD g.start.toNat false=true then (tR g (mA (cz (bh g true) (bQ g) g.rules)) (bh g true) (bQ g),ct (bh g true) (bQ g) g.rules 0,0)
    else (qp,[],9)
  else (qp,[],1)
theorem mK (p q:List Bool):∀ (a b:List aZ) (i:Int),ct p q (a ++ b) i=ct p q a i ++ ct p q b (i+a.length)
  | [],b,i=>by simp[ct]
  | r :: a,b,i=>by
    simp only[List.cons_append,ct,mK p q a b (i+1),List.length_cons]
    have:i+1+(a.length:Int)=i+((a.length+1:Nat):Int):=by push_cast; omega
    rw[this]
    split <;> simp
theorem nf (p q:List Bool):∀ (a:List aZ) (i:Int),(ct p q a i).length=(a.filter (cB p q)).length
  | [],i=>rfl
  | r :: a,i=>by
    simp only[ct,List.filter_cons]
    split <;> simp[nf p q a]
theorem rf (p q:List Bool):∀ (a:List aZ) (i:Int) (k:Nat),k < (ct p q a i).length→∃ m:Nat,(ct p q a i)[k]?=some (i+m)∧a[m]?=(a.filter (cB p q))[k]?∧m < a.length
  | [],i,k,h=>by simp[ct] at h
  | r :: a,i,k,h=>by
    simp only[ct,List.filter_cons] at h ⊢
    by_cases hr:cB p q r=true
    · rw[if_pos hr] at h ⊢
      rw[if_pos hr]
      cases k with
      | zero=>exact ⟨0,by simp,by simp,by simp⟩
      | succ k =>
        obtain ⟨m,h1,h2,h3⟩:=rf p q a (i+1) k (by simpa using h)
        exact ⟨m+1,by rw[List.getElem?_cons_succ,h1]; congr 1; push_cast; omega,by simpa using h2,by simpa using h3⟩
    · rw[if_neg hr] at h ⊢
      rw[if_neg hr]
      obtain ⟨m,h1,h2,h3⟩:=rf p q a (i+1) k h
      exact ⟨m+1,by rw[h1]; congr 1; push_cast; omega,by simpa using h2,by simpa using h3⟩
theorem wZ (p q:List Bool) (l:List aZ) (r:aZ):cz p q (l ++ [r])=if cB p q r=true then nG (cz p q l) r else cz p q l:=by
  unfold cz
  rw[List.filter_append]
  by_cases h:cB p q r=true
  · rw[if_pos h,List.filter_cons_of_pos h,List.foldl_append]; rfl
  · rw[if_neg h,List.filter_cons_of_neg h]; simp
theorem Fg {o:List Int} {x:Int} : mA o x < 0↔x ∉ o:=by
  have:=pa (fun y=>y == x) o 0 (by omega)
  unfold mA
  rw[← Int.not_le]
  constructor
  · intro h hx
    have e:(o.any fun y=>y == x)=true:=List.any_eq_true.2 ⟨x,hx,by simp⟩
    rw[e] at this; exact h (by simpa using this)
  · intro h hx
    have e:(o.any fun y=>y == x)=true:=by rw[← this]; simpa using hx
    obtain ⟨y,hy,e⟩:=List.any_eq_true.1 e
    simp at e; subst e; exact h hy
theorem GD {o:List Int} {x:Int} (h:x∈o):0≤mA o x∧mA o x < o.length:=by
  have h0:¬ mA o x < 0:=fun e=>Fg.1 e h
  refine ⟨by omega,?_⟩
  unfold mA
  have:∀ (l:List Int) (i:Int),fH (fun z=>z == x) l i < i+l.length∨fH (fun z=>z == x) l i = -1:=by
    intro l
    induction l with
    | nil=>intro i; right; rfl
    | cons z l ih =>
      intro i
      simp only[fH]
      split
      · left; simp; omega
      · rcases ih (i+1) with h | h
        · left; simp at h ⊢; omega
        · right; exact h
  rcases this o 0 with h1 | h1
  · simpa using h1
  · unfold mA at h0; omega
def fj:List Int→Int→List (Int × Int)
  | [],_=>[]
  | x :: l,i=>(x,i) :: fj l (i+1)
theorem nj (x:Int):∀ (o:List Int) (i:Int),cd (fj o i) x=if x∈o then some (fH (fun y=>y == x) o i) else none
  | [],i=>by simp[fj,cd]
  | y :: o,i=>by
    have ih:=nj x o (i+1)
    unfold cd at ih ⊢
    simp only[fj,List.find?_cons,fH]
    by_cases e:x=y
    · subst e; simp
    · have e2:¬ ((y == x)=true):=by simp[Ne.symm e]
      rw[show (x == y)=false by simp[e],if_neg e2]
      simp only
      rw[ih]
      simp[e]
theorem wQ {x v:Int} : ∀ {o:List Int} {i:Int},x ∉ o→fL x v (fj o i)=fj o i ++ [(x,v)]
  | [],i,_=>rfl
  | y :: o,i,h=>by
    simp only[List.mem_cons,not_or] at h
    simp only[fj,fL,show (x == y)=false by simp[h.1],Bool.false_eq_true,if_false,wQ h.2,List.cons_append]
theorem ua {x:Int} : ∀ {o:List Int} {i:Int},fj (o ++ [x]) i=fj o i ++ [(x,i+o.length)]
  | [],i=>by simp[fj]
  | y :: o,i=>by
    simp only[List.cons_append,fj,ua (o:=o),List.length_cons]
    congr 4
    push_cast; omega
def b5 (o:List Int) (x:Int):Int:=(cd (fj o 0) x).getD 0
theorem sw {o:List Int} {x:Int} (h:x∈o):b5 o x=mA o x:=by
  simp[b5,nj,h,mA]
theorem Gj (o:List Int) (x:Int):0≤b5 o x∧b5 o x≤o.length:=by
  by_cases h:x∈o
  · rw[sw h]; have:=GD h; omega
  · simp[b5,nj,h]
theorem EC {g:aE} {p q:List Bool} (hst:g.start∈cz p q g.rules) (hin:∀ r∈g.rules.filter (cB p q),r.left∈cz p q g.rules∧∀ s∈r.right,s < 0→-1 - s∈cz p q g.rules) :
    tR g (b5 (cz p q g.rules)) p q=tR g (mA (cz p q g.rules)) p q:=by
  unfold tR
  congr 1
  · apply List.map_congr_left
    intro r hr
    obtain ⟨h1,h2⟩:=hin r hr
    unfold cx
    congr 1
    · exact sw h1
    · apply List.map_congr_left
      intro s hs
      split
      · rename_i h; rw[sw (h2 s hs h)]
      · rfl
  · exact sw hst
theorem oZ:∀ (l:List aZ) (acc:List Int) (x:Int),x∈l.foldl nG acc↔x∈acc∨∃ r∈l,r.left=x
  | [],acc,x=>by simp
  | r :: l,acc,x=>by
    rw[List.foldl_cons,oZ l]
    have:x∈nG acc r↔x∈acc∨r.left=x:=by
      unfold nG
      split
      · rename_i h
        constructor
        · exact .inl
        · rintro (h' | rfl)
          · exact h'
          · exact h
      · simp[eq_comm]
    rw[this]
    simp only[List.mem_cons,exists_eq_or_imp]
    constructor
    · rintro ((h | h) | h)
      · exact .inl h
      · exact .inr (.inl h)
      · exact .inr (.inr h)
    · rintro (h | h | h)
      · exact .inl (.inl h)
      · exact .inl (.inr h)
      · exact .inr h
theorem x9 {p q:List Bool} {l:List aZ} {x:Int} : x∈cz p q l↔∃ r∈l,cB p q r=true∧r.left=x:=by
  unfold cz
  rw[oZ]
  simp[List.mem_filter,and_assoc]
abbrev fO (l:List Int):List (List V):=l.map fun x=>[gi x]
abbrev nk (l:List ByteArray):List (List V):=l.map fun s=>[gs s]
theorem zj {l:List Int} {i:Nat} (h:i < l.length):(fO l).getD i []=[gi l[i]]:=by simp[List.getD_eq_getElem?_getD,h]
theorem ints_set (l:List Int) (i:Nat) (x:Int):(fO l).set i [gi x]=fO (l.set i x):=by simp[List.map_set]
abbrev uy:=List (V × aZ)
def gu (b:uy):List (List V):=b.map fun x=>[gi x.2.left,x.1,gi x.2.prec]
def og (b:uy):List ed:=b.map fun x=>(x.1,1,fO x.2.right)
theorem Dl {h:ay} {u:V} {b:uy} (ho:bj h.view u 3 (gu b)) (hb:∀ x∈og b,bj h.view x.1 x.2.1 x.2.2):eh h u (.aS ((b.map (·.2)).map aY)):=by
  refine eh.own ho (by simp[gu]) (fun i hi=>?_) (fun i j hi hj=>?_)
  all_goals
    simp only[gu,List.length_map] at hi
    have e1:(gu b).getD i []=[gi b[i].2.left,b[i].1,gi b[i].2.prec]:=by simp[gu,List.getD_eq_getElem?_getD,hi]
    have e2:((b.map (·.2)).map aY).getD i []=aY b[i].2:=by simp[List.getD_eq_getElem?_getD,hi]
  · rw[e1,e2]; rfl
  · rw[e1,e2]
    rw[e2] at hj
    have hm:b[i]∈b:=List.getElem_mem _
    have ho:=hb (b[i].1,1,fO b[i].2.right) (List.mem_map.2 ⟨_,hm,rfl⟩)
    match j,hj with
    | 0,_=>exact .val _
    | 1,_=>exact mq ho
    | 2,_=>exact .val _
    | n+3,hj=>exact absurd hj (by simp only[aY,List.length_cons,List.length_nil]; omega)
theorem E0 {h:ay} {u:V} {l:List ByteArray} (ho:bj h.view u 1 (nk l)):eh h u (encS l):=eh.Hl (f:=Value.string) ho
theorem DY {h:ay} {u:V} {l:List Term} (ho:bj h.view u 3 (l.map bN)):eh h u (cm l):=by
  refine eh.own ho rfl (fun _ _=>rfl) (fun i j hi hj=>?_)
  simp only[List.length_map] at hi
  have e1:(l.map bN).getD i []=bN l[i]:=by simp[List.getD_eq_getElem?_getD,hi]
  rw[e1] at hj ⊢
  match j,hj with
  | 0,_=>exact .val _
  | 1,_=>exact .val _
  | 2,_=>exact .val _
  | n+3,hj=>exact absurd hj (by simp only[bN,List.length_cons,List.length_nil]; omega)
def wx (x:aE × List Int × Int):V:=.bc [.agg (aw x.1),encI x.2.1,gi x.2.2]
theorem yX {h:ay} {e:Int} {k1 k2 k3 k4:Nat} : eh h (.bc [.agg [.emp k1,.emp k2,.emp k3,gi 0],.emp k4,gi e]) (wx (qp,[],e)):=by
  refine .bc _ _ rfl fun i hi=>?_
  match i,hi with
  | 0,_ =>
    refine .agg _ _ rfl fun j hj=>?_
    match j,hj with
    | 0,_=>exact .emp _
    | 1,_=>exact .emp _
    | 2,_=>exact .emp _
    | 3,_=>exact .val _
    | n+4,hj=>exact absurd hj (by simp only[List.length_cons,List.length_nil]; omega)
  | 1,_=>exact .emp _
  | 2,_=>exact .val _
  | n+3,hi=>exact absurd hi (by simp only[List.length_cons,List.length_nil]; omega)
theorem Gm {h:ay} {u0 u1 u2 u3:V} {x:aE × List Int × Int} {b:uy} (h0:bj h.view u0 3 (x.1.az.map bN)) (h1:bj h.view u1 1 (nk x.1.aK)) (h2:bj h.view u2 3 (gu b)) (hb:∀ y∈og b,bj h.view y.1 y.2.1 y.2.2)
    (hr:b.map (·.2)=x.1.rules) (h3:bj h.view u3 1 (fO x.2.1)):eh h (.bc [.agg [u0,u1,u2,gi x.1.start],u3,gi x.2.2]) (wx x):=by
  refine .bc _ _ rfl fun i hi=>?_
  match i,hi with
  | 0,_ =>
    refine .agg _ _ rfl fun j hj=>?_
    match j,hj with
    | 0,_=>exact DY h0
    | 1,_=>exact E0 h1
    | 2,_=>have:=Dl h2 hb; rw[hr] at this; exact this
    | 3,_=>exact .val _
    | n+4,hj=>exact absurd hj (by simp only[List.length_cons,List.length_nil]; omega)
  | 1,_=>exact mq h3
  | 2,_=>exact .val _
  | n+3,hi=>exact absurd hi (by simp only[List.length_cons,List.length_nil]; omega)
theorem Ah {g:aE} (e:jq g=false):g.Small:=by
  simp only[jq,Bool.or_eq_false_iff,decide_eq_false_iff_not] at e
  exact ⟨by omega⟩
theorem EI (g:aE):aA Tryz.prog 16 [.agg (aw g)] (gb (jq g)):=aA.val (fF g) fun H=>(Fm g H).mono fun _ _ h=>h.1
theorem jr {P:Program} {t:TypeId} {d:TypeDesc} (hu:P.underlying t=some d) (hd:d=.string∨∃ k,d=.int k) (cs:Array Value) (off:Nat) {v:Value} (hv:cs[off]?=some v):aX P (part t cs off)=some v:=by
  have h0:aX P (isAgg t)=some false:=by
    rcases hd with rfl | ⟨k,rfl⟩
    all_goals simp only[isAgg,aU,cG hu,Option.bind_some]; rfl
  simp only[part,aU,h0,Option.bind_some,Bool.false_eq_true,if_false,hv]
  rfl
inductive dV (P:Program) (d:Nat) (xs ys:Array Value):List Field→Bool→Prop
  | nil:dV P d xs ys [] true
  | str (f:Field) (l:List Field) (c:Bool) (a b:ByteArray):(f.name≠ "_")→P.underlying f.type=some .string→xs[f.offset]?=some (.string a)→ys[f.offset]?=some (.string b)→dV P d xs ys l c→dV P d xs ys (f :: l) (a == b && c)
  | int (f:Field) (l:List Field) (c:Bool) (k:IntKind) (a b:Int):(f.name≠ "_")→P.underlying f.type=some (.int k)→xs[f.offset]?=some (.int k a)→ys[f.offset]?=some (.int k b)→dV P d xs ys l c→dV P d xs ys (f :: l) (a == b && c)
theorem dV.forIn {P:Program} {d e:Nat} {xs ys:Array Value} {l:List Field} {c:Bool} (h:dV P d xs ys l c) (hd:e=d+1) :
    aX P (forIn l ((none:Option Bool),()) fun f _ =>
        if f.name≠ "_" then do
          let a ← part f.type xs f.offset
          let b ← part f.type ys f.offset
          let e ← Op.equalIn e f.type a b
          if (!e)=true then pure (ForInStep.done (some false,())) else pure (ForInStep.yield (none,()))
        else pure (ForInStep.yield (none,())))=some (if c=true then (none,()) else (some false,())):=by
  subst hd
  induction h with
  | nil=>rfl
  | str f l c a b hn hu hx hy _ ih =>
    have he:aX P (Op.equalIn (d+1) f.type (.string a) (.string b))=some (a == b):=by
      simp only[Op.equalIn,aU,cG hu,Option.bind_some]; rfl
    rw[List.forIn_cons,aU,if_pos hn,aU,jr hu (.inl rfl) xs _ hx,Option.bind_some,aU,jr hu (.inl rfl) ys _ hy,Option.bind_some,aU,he,Option.bind_some]
    cases a == b with
    | false=>rfl
    | true=>exact ih
  | int f l c k a b hn hu hx hy _ ih =>
    have he:aX P (Op.equalIn (d+1) f.type (.int k a) (.int k b))=some (a == b):=by
      simp only[Op.equalIn,aU,cG hu,Option.bind_some]; rfl
    rw[List.forIn_cons,aU,if_pos hn,aU,jr hu (.inr ⟨k,rfl⟩) xs _ hx,Option.bind_some,aU,jr hu (.inr ⟨k,rfl⟩) ys _ hy,Option.bind_some,aU,he,Option.bind_some]
    cases a == b with
    | false=>rfl
    | true=>exact ih
theorem tc {P:Program} {t:TypeId} {fs:Array Field} {xs ys:Array Value} {c:Bool} (hu:P.underlying t=some (.struct fs)) (hs:P.stoodInHeld t=false) (h:dV P 9998 xs ys fs.toList c) :
    aX P (Op.equal t (.agg xs) (.agg ys))=some c:=by
  rw[gR]
  rw[Op.equalIn,aU,cG hu,Option.bind_some]
  have hst:(aX P program)=some P:=rfl
  rw[aU,hst,Option.bind_some,hs]
  simp only[← Array.forIn_toList,Bool.false_eq_true,if_false]
  rw[aU,h.forIn (e:=9999) rfl,Option.bind_some]
  cases c <;> rfl
theorem vL {P:Program} {o:Oper} {T:Env} {op:BinOp} {t u:TypeId} {x y:Operand} {fs:Array Field} {xs ys:Array Value} {c r:Bool} (ho:o.op=.binOp op t x y u) (hu:P.underlying t=some (.struct fs)) (hs:P.stoodInHeld t=false) (hg:P.eqGuardType P.depth t=false)
    (hx:bH (ev T x)=some (.agg xs)) (hy:bH (ev T y)=some (.agg ys)) (h:dV P 9998 xs ys fs.toList c) (hr:(op=.eql∧r=c)∨(op=.neq∧r = !c)) :
    bY P o T=some (.val (.bool r),.none,[]):=by
  have he:=tc hu hs h
  have hst:(aX P program)=some P:=rfl
  unfold bY
  simp only[ho,Op.operands,hx,hy]
  rcases hr with ⟨rfl,rfl⟩ | ⟨rfl,rfl⟩
  · simp[execOp,ho,hx,hy,eqGuard,binOp,ez,aU,hst,hg,he,plain]
    try simp[aX,pure,plain]
  · simp[execOp,ho,hx,hy,eqGuard,binOp,ez,aU,hst,hg,he,plain]
    try simp[aX,pure,plain,bne]
theorem Ae {P:Program} {T:Env} {H:View} {K:V→View→Prop} {w:bP (T,H,K)} {op:BinOp} {t u ty:TypeId} {x y:Operand} {fs:Array Field} {xs ys:Array Value} {c r:Bool} (hu:P.underlying t=some (.struct fs)) (hs:P.stoodInHeld t=false) (hg:P.eqGuardType P.depth t=false)
    (hx:bH (ev T x)=some (.agg xs)) (hy:bH (ev T y)=some (.agg ys)) (h:dV P 9998 xs ys fs.toList c) (hr:(op=.eql∧r=c)∨(op=.neq∧r = !c)) (hk:K (.val (.bool r)) H):so P (.binOp op t x y u) ty T H K w:=by
  intro n _
  refine ⟨.val (.bool r),.none,[],?_,hk⟩
  have hn:eS P t=none:=by simp[eS,hu]
  simp only[sI,bm,oper,hn]
  simp only[Option.isSome_none,Bool.false_eq_true,if_false]
  exact vL rfl hu hs hg hx hy h hr
end Gv
