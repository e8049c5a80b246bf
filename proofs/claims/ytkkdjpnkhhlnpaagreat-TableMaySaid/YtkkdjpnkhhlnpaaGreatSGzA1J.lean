/-
  Part 10 of the proof: what the machine does and what the functions answer.
  Conditions: those that each lemma names.
-/
import Derived.Test.YtkkdjpnkhhlnpaaGreatSGzA1I
set_option linter.unusedSimpArgs false
set_option linter.unusedVariables false
set_option maxRecDepth 100000
namespace Gv
open Go Go.Proofs
theorem bm.ej {P:Program} {f:FuncId} {h:ax} (h1:bm P f [.emp 1] h (.emp 1) h) (h2:bm P f [.emp 2] h (.emp 2) h) (h3:bm P f [.cp] h (.emp 2) h):bm P f [.aP []] h (.emp 0) h:=by
  refine ⟨Nat.le_refl _,fun Z μ F w xs hrel hr hfree=>?_⟩
  obtain ⟨hl,hv⟩:=hrel
  obtain ⟨x,rfl⟩:∃ x,xs=[x]:=by
    match xs,hl with
    | [x],_=>exact ⟨x,rfl⟩
  have h0:au Z μ w.heap (.aP []) x:=hv 0 (by simp)
  have one:∀ v,au Z μ w.heap v x→dA Z μ w.heap [v] [x]:=fun v h=>⟨rfl,fun i hi=>by
    simp at hi; subst hi; exact h⟩
  have weak:∀ k,bm P f [if k=3 then .cp else .emp k] h (if k=3 then .emp 2 else .emp k) h→au Z μ w.heap (if k=3 then .cp else .emp k) x→Calls P f [x].toArray w fun e w'=>∃ x Z' μ',e=.returned x∧au Z' μ' w'.heap (.emp 0) x∧er Z' μ' w'.heap (cat h F)∧Ext Z μ w h.length Z' μ' w'∧(∀ id,id < h.length∨h.length≤id→μ' id=μ id):=by
    intro k hk hx
    refine (hk.2 Z μ F w [x] (one _ hx) hr hfree).mono ?_
    rintro e w' ⟨y,Z',μ',rfl,hy,rest⟩
    refine ⟨y,Z',μ',rfl,?_,rest⟩
    have:∀ k',au Z' μ' w'.heap (.emp k') y→au Z' μ' w'.heap (.emp 0) y:=fun k' h=>by
      cases h with | emp _ a _ _=>exact .emp 0 a (by simp) (by simp)
    split at hy <;> exact this _ hy
  rcases B9 h0 with ⟨_,a,cap,rfl,hz⟩ | ⟨b,off,esz,cap,c,rfl,_,_,_⟩
  · cases a with
    | none =>
      have:=hz rfl
      subst this
      exact weak 1 (by simpa using h1) (.emp 1 none (by simp) (by simp))
    | some a =>
      cases cap with
      | zero=>exact weak 2 (by simpa using h2) (.emp 2 (some a) (by simp) (by simp))
      | succ c=>exact weak 3 (by simpa using h3) (.cp a (c+1))
  · cases cap with
    | zero=>exact weak 2 (by simpa using h2) (.emp 2 (some ⟨b,off,none⟩) (by simp) (by simp))
    | succ c=>exact weak 3 (by simpa using h3) (.cp ⟨b,off,none⟩ (c+1))
def sf (sz:Nat) (es:List (List V)) (H:View) (K:V→View→Prop):Prop :=
  (es=[]→∀ k,K (.emp k) H)∧(es≠[]→∀ n,H n=.dead→K (.sl n 0 es.length sz) (H.set n (.arr sz es)))
def bJ:SF:=⟨.seq (ao [((some 2),.op (.aW (.val (.emp 1))))]) <|
  .seq (.seq (ao [aa 3 0,((some 4),.op (.nil true 0 (.tmp 3) (.val (.emp 1))))]) <|
  .cond (.tmp 4) (.seq (ao [((some 2),.op (.aW (.val (.emp 1))))]) <|
  .ret) (.skip)) <|
  .seq (ao [((some 5),.op (.aW (.val (.emp 2)))),aa 6 0,((some 7),.op (.app 1 16 (.tmp 5) (.tmp 6))),aa 2 7]) <|
  .ret,
  [.tmp 2],8⟩
theorem bV:aY Tryz.prog 107 []=some bJ:=by kernel_rfl
def cl:SF:=⟨.seq (ao [((some 2),.op (.aW (.val (.emp 1))))]) <|
  .seq (.seq (ao [aa 3 0,((some 4),.op (.nil true 0 (.tmp 3) (.val (.emp 1))))]) <|
  .cond (.tmp 4) (.seq (ao [((some 2),.op (.aW (.val (.emp 1))))]) <|
  .ret) (.skip)) <|
  .seq (ao [((some 5),.op (.aW (.val (.emp 2)))),aa 6 0,((some 7),.op (.app 1 8 (.tmp 5) (.tmp 6))),aa 2 7]) <|
  .ret,
  [.tmp 2],8⟩
theorem cz:aY Tryz.prog 178 []=some cl:=by kernel_rfl
def bA:SF:=⟨.seq (ao [((some 2),.op (.aW (.val (.emp 1))))]) <|
  .seq (.seq (ao [aa 3 0,((some 4),.op (.nil true 0 (.tmp 3) (.val (.emp 1))))]) <|
  .cond (.tmp 4) (.seq (ao [((some 2),.op (.aW (.val (.emp 1))))]) <|
  .ret) (.skip)) <|
  .seq (ao [((some 5),.op (.aW (.val (.emp 2)))),aa 6 0,((some 7),.op (.app 3 32 (.tmp 5) (.tmp 6))),aa 2 7]) <|
  .ret,
  [.tmp 2],8⟩
theorem bF:aY Tryz.prog 176 []=some bA:=by kernel_rfl
theorem az.tree {P:Program} {f:FuncId} {vs:List V} {t:V} (hv:∀ v∈vs,Tree v) (ht:Tree t) (h:∀ H,aA P f vs H fun r _=>r=t):az P f vs t :=
  az.of hv ((h _).mono fun r H' e h' _=>by rw[e]; exact .tree _ ht)
theorem ox {H:View} : bH H .cp=some ([],[]):=id rfl
theorem gP {H:View} (sz bytes k:Nat) (K:V→View→Prop) (w:bR (H,K)):mb sz bytes (.emp k) [] H K w=K (.emp k) H:=propext Iff.rfl
theorem Dd (l:List ByteArray) (hl:l.length≤100000) (H:View) (K:V→View→Prop) (hk:sf 1 (l.map fun s=>[gs s]) H K):aA Tryz.prog 107 [encS l] H K:=by
  cases l with
  | nil =>
    have hp:∀ v t,Tree v→Tree t→(∀ H,aA Tryz.prog 107 [v] H fun r _=>r=t)→az Tryz.prog 107 [v] t:=fun v t hv ht h=>az.tree (by intro x hx; simp at hx; subst hx; exact hv) ht h
    have h1:=hp (.emp 1) (.emp 1) (.emp 1) (.emp 1) (fun H=>by
      refine aA.of mixed bV ?_
      simp (disch:=omega) only [↓wr,↓reduceIte,wq,ai,ah,an,ab,ae,ag,aj,isNil,Nat.reduceEqDiff,Nat.reduceAdd,Nat.reduceLT,Nat.reduceLeDiff,Int.reduceNeg,Int.reduceToNat,reduceCtorEq,bJ])
    have h2:=hp (.emp 2) (.emp 2) (.emp 2) (.emp 2) (fun H=>by
      refine aA.of mixed bV ?_
      simp (disch:=omega) only [↓wr,↓reduceIte,wq,ai,ah,an,ab,ae,ag,aj,isNil,Nat.reduceEqDiff,Nat.reduceAdd,Nat.reduceLT,Nat.reduceLeDiff,Int.reduceNeg,Int.reduceToNat,reduceCtorEq,bJ,gP,List.isEmpty_nil])
    have h3:=hp .cp (.emp 2) .cp (.emp 2) (fun H=>by
      refine aA.of mixed bV ?_
      simp (disch:=omega) only [↓wr,↓reduceIte,wq,ai,ah,an,ab,ae,ag,aj,isNil,Nat.reduceEqDiff,Nat.reduceAdd,Nat.reduceLT,Nat.reduceLeDiff,Int.reduceNeg,Int.reduceToNat,reduceCtorEq,bJ,ox,gP,List.isEmpty_nil])
    refine ⟨by kernel_rfl,?_⟩
    rintro h rfl
    exact ⟨.emp 0,h,bm.ej (bm.eA h1 h) (bm.eA h2 h) (bm.eA h3 h),.refl _,hk.1 rfl 0⟩
  | cons x r =>
    refine aA.of mixed bV ?_
    simp only[List.length_cons] at hl
    simp (disch:=omega) only [↓wr,↓reduceIte,wq,ai,ah,an,ab,ae,ag,aj,isNil,Nat.reduceEqDiff,Nat.reduceAdd,Nat.reduceLT,Nat.reduceLeDiff,Int.reduceNeg,Int.reduceToNat,reduceCtorEq,bJ,encS]
    refine ⟨?_,?_,?_⟩
    · simp[List.all_map,encS,aS]
    · unfold aZ; simp; omega
    · intro n hn
      have:=hk.2 (by simp) n hn
      simp (disch:=omega) only [↓wr,↓reduceIte,wq,ai,ah,an,ab,ae,ag,aj,isNil,Nat.reduceEqDiff,Nat.reduceAdd,Nat.reduceLT,Nat.reduceLeDiff,Int.reduceNeg,Int.reduceToNat,reduceCtorEq]
      simpa [cr] using this
theorem DW (l:List Int) (hl:l.length≤100000) (H:View) (K:V→View→Prop) (hk:sf 1 (l.map fun s=>[gi s]) H K):aA Tryz.prog 178 [encI l] H K:=by
  cases l with
  | nil =>
    have hp:∀ v t,Tree v→Tree t→(∀ H,aA Tryz.prog 178 [v] H fun r _=>r=t)→az Tryz.prog 178 [v] t:=fun v t hv ht h=>az.tree (by intro x hx; simp at hx; subst hx; exact hv) ht h
    have h1:=hp (.emp 1) (.emp 1) (.emp 1) (.emp 1) (fun H=>by
      refine aA.of mixed cz ?_
      simp (disch:=omega) only [↓wr,↓reduceIte,wq,ai,ah,an,ab,ae,ag,aj,isNil,Nat.reduceEqDiff,Nat.reduceAdd,Nat.reduceLT,Nat.reduceLeDiff,Int.reduceNeg,Int.reduceToNat,reduceCtorEq,cl])
    have h2:=hp (.emp 2) (.emp 2) (.emp 2) (.emp 2) (fun H=>by
      refine aA.of mixed cz ?_
      simp (disch:=omega) only [↓wr,↓reduceIte,wq,ai,ah,an,ab,ae,ag,aj,isNil,Nat.reduceEqDiff,Nat.reduceAdd,Nat.reduceLT,Nat.reduceLeDiff,Int.reduceNeg,Int.reduceToNat,reduceCtorEq,cl,gP,List.isEmpty_nil])
    have h3:=hp .cp (.emp 2) .cp (.emp 2) (fun H=>by
      refine aA.of mixed cz ?_
      simp (disch:=omega) only [↓wr,↓reduceIte,wq,ai,ah,an,ab,ae,ag,aj,isNil,Nat.reduceEqDiff,Nat.reduceAdd,Nat.reduceLT,Nat.reduceLeDiff,Int.reduceNeg,Int.reduceToNat,reduceCtorEq,cl,ox,gP,List.isEmpty_nil])
    refine ⟨by kernel_rfl,?_⟩
    rintro h rfl
    exact ⟨.emp 0,h,bm.ej (bm.eA h1 h) (bm.eA h2 h) (bm.eA h3 h),.refl _,hk.1 rfl 0⟩
  | cons x r =>
    refine aA.of mixed cz ?_
    simp only[List.length_cons] at hl
    simp (disch:=omega) only [↓wr,↓reduceIte,wq,ai,ah,an,ab,ae,ag,aj,isNil,Nat.reduceEqDiff,Nat.reduceAdd,Nat.reduceLT,Nat.reduceLeDiff,Int.reduceNeg,Int.reduceToNat,reduceCtorEq,cl,encI]
    refine ⟨?_,?_,?_⟩
    · simp[List.all_map,encI,aS]
    · unfold aZ; simp; omega
    · intro n hn
      have:=hk.2 (by simp) n hn
      simp (disch:=omega) only [↓wr,↓reduceIte,wq,ai,ah,an,ab,ae,ag,aj,isNil,Nat.reduceEqDiff,Nat.reduceAdd,Nat.reduceLT,Nat.reduceLeDiff,Int.reduceNeg,Int.reduceToNat,reduceCtorEq]
      simpa [cr] using this
theorem E7 (l:List Term) (hl:l.length≤100000) (H:View) (K:V→View→Prop) (hk:sf 3 (l.map cr) H K):aA Tryz.prog 176 [cn l] H K:=by
  cases l with
  | nil =>
    have hp:∀ v t,Tree v→Tree t→(∀ H,aA Tryz.prog 176 [v] H fun r _=>r=t)→az Tryz.prog 176 [v] t:=fun v t hv ht h=>az.tree (by intro x hx; simp at hx; subst hx; exact hv) ht h
    have h1:=hp (.emp 1) (.emp 1) (.emp 1) (.emp 1) (fun H=>by
      refine aA.of mixed bF ?_
      simp (disch:=omega) only [↓wr,↓reduceIte,wq,ai,ah,an,ab,ae,ag,aj,isNil,Nat.reduceEqDiff,Nat.reduceAdd,Nat.reduceLT,Nat.reduceLeDiff,Int.reduceNeg,Int.reduceToNat,reduceCtorEq,bA])
    have h2:=hp (.emp 2) (.emp 2) (.emp 2) (.emp 2) (fun H=>by
      refine aA.of mixed bF ?_
      simp (disch:=omega) only [↓wr,↓reduceIte,wq,ai,ah,an,ab,ae,ag,aj,isNil,Nat.reduceEqDiff,Nat.reduceAdd,Nat.reduceLT,Nat.reduceLeDiff,Int.reduceNeg,Int.reduceToNat,reduceCtorEq,bA,gP,List.isEmpty_nil])
    have h3:=hp .cp (.emp 2) .cp (.emp 2) (fun H=>by
      refine aA.of mixed bF ?_
      simp (disch:=omega) only [↓wr,↓reduceIte,wq,ai,ah,an,ab,ae,ag,aj,isNil,Nat.reduceEqDiff,Nat.reduceAdd,Nat.reduceLT,Nat.reduceLeDiff,Int.reduceNeg,Int.reduceToNat,reduceCtorEq,bA,ox,gP,List.isEmpty_nil])
    refine ⟨by kernel_rfl,?_⟩
    rintro h rfl
    exact ⟨.emp 0,h,bm.ej (bm.eA h1 h) (bm.eA h2 h) (bm.eA h3 h),.refl _,hk.1 rfl 0⟩
  | cons x r =>
    refine aA.of mixed bF ?_
    simp only[List.length_cons] at hl
    simp (disch:=omega) only [↓wr,↓reduceIte,wq,ai,ah,an,ab,ae,ag,aj,isNil,Nat.reduceEqDiff,Nat.reduceAdd,Nat.reduceLT,Nat.reduceLeDiff,Int.reduceNeg,Int.reduceToNat,reduceCtorEq,bA,cn,cr]
    refine ⟨?_,?_,?_⟩
    · simp[List.all_map,cn,cr,aS]
    · unfold aZ; simp; omega
    · intro n hn
      have:=hk.2 (by simp) n hn
      simp (disch:=omega) only [↓wr,↓reduceIte,wq,ai,ah,an,ab,ae,ag,aj,isNil,Nat.reduceEqDiff,Nat.reduceAdd,Nat.reduceLT,Nat.reduceLeDiff,Int.reduceNeg,Int.reduceToNat,reduceCtorEq]
      simpa [cr] using this
theorem sf.own {sz:Nat} {es:List (List V)} {H:View} : sf sz es H fun r H'=>bk H' r sz es∧iu H H' r :=
  ⟨fun he k=>⟨by rw[he]; exact .nil,.emp⟩,fun _ n hn=>⟨.new,.new hn⟩⟩
theorem D3 (l:List ByteArray) (hl:l.length≤100000) (H:View):aA Tryz.prog 107 [encS l] H fun r H'=>bk H' r 1 (l.map fun s=>[gs s])∧iu H H' r:=Dd l hl H _ .own
theorem Ew (l:List Int) (hl:l.length≤100000) (H:View):aA Tryz.prog 178 [encI l] H fun r H'=>bk H' r 1 (l.map fun s=>[gi s])∧iu H H' r:=DW l hl H _ .own
theorem E1 (l:List Term) (hl:l.length≤100000) (H:View):aA Tryz.prog 176 [cn l] H fun r H'=>bk H' r 3 (l.map cr)∧iu H H' r:=E7 l hl H _ .own
def ie (g:aH):List bd→Int→Bool
  | [],next=>next == g.aM.length
  | r :: l,next=>decide (0≤r.left) && decide (r.left≤next) && eU g r && ie g l (if r.left+1 > next then r.left+1 else next)
def mU (g:aH):List ByteArray:=g.aM ++ g.aE.map Term.name
def lg (g:aH):Bool :=
  mF g.aE && (decide ((1:Int)≤g.aM.length) && decide ((g.aM.length:Int)≤16)) && (decide ((1:Int)≤g.rules.length) && decide ((g.rules.length:Int)≤40)) && decide (names (mU g)).Nodup && (decide (0≤g.start) && decide (g.start≤(g.aM.length:Int) - 1)) &&
    !(g.aM.any fun s=>!dK (c5 s)) && ie g g.rules 0
theorem zg {l:List ByteArray} : ∀ e∈(l.map fun s=>[gs s]),∀ v∈e,Tree v:=by
  intro e he v hv
  obtain ⟨a,_,rfl⟩:=List.mem_map.1 he
  rw[List.mem_singleton] at hv
  subst hv
  exact .val _
set_option maxHeartbeats 4000000 in
theorem Dq (g:aH) (hg:g.Ok) (hs:g.aM.length+g.aE.length≤1000) (H:View):aA Tryz.prog 64 [.agg (aw g)] H fun r _=>r=gb (lg g):=by
  refine aA.of mixed vW ?_
  have hn:=hg.aM
  have ht:=hg.aE
  have hr:=hg.rules
  unfold aU at hn ht hr
  simp (disch:=omega) only [↓wr,↓reduceIte,wq,ai,ah,an,ab,ae,ag,aj,isNil,Nat.reduceEqDiff,Nat.reduceAdd,Nat.reduceLT,Nat.reduceLeDiff,Int.reduceNeg,Int.reduceToNat,reduceCtorEq,td,aw,encS]
  refine aK.mJ ((D3 g.aM (by omega) H).mono ?_)
  rintro u H1 ⟨hu,hf⟩
  simp (disch:=omega) only [↓wr,↓reduceIte,wq,ai,ah,an,ab,ae,ag,aj,isNil,Nat.reduceEqDiff,Nat.reduceAdd,Nat.reduceLT,Nat.reduceLeDiff,Int.reduceNeg,Int.reduceToNat,reduceCtorEq,aw,encS]
  refine bt.up g.aE.length (fun i T H=>T 1=.aN (aw g) 0∧(∃ u,T 3=u∧bk H u 1 ((g.aM ++ (g.aE.take i).map Term.name).map fun s=>[gs s]))∧T 13=cn g.aE∧T 14=gi g.aE.length∧T 15=gi i) ?_ ?_
  · exact ⟨rfl,⟨u,rfl,by simpa using hu⟩,rfl,rfl,rfl⟩
  rintro i k T H' hk ⟨h1,⟨u,h3,hu⟩,h13,h14,h15⟩
  simp (disch:=omega) only [↓wr,↓reduceIte,wq,ai,ah,an,ab,ae,ag,aj,isNil,Nat.reduceEqDiff,Nat.reduceAdd,Nat.reduceLT,Nat.reduceLeDiff,Int.reduceNeg,Int.reduceToNat,reduceCtorEq,qy,h1,h13,h14,h15,cn]
  refine ar.dec (fun hc=>?_) (fun hc=>?_)
  · have hg2:g.aE[i]?=some (g.aE[i]'(by omega)):=List.getElem?_eq_getElem (by omega)
    have htk:(g.aE.take (i+1)).map Term.name=(g.aE.take i).map Term.name ++ [(g.aE[i]'(by omega)).name]:=by
      rw[List.take_add_one,hg2,List.map_append]; rfl
    generalize g.aE[i]'(by omega)=t at hg2 htk
    simp (disch:=omega) only [↓wr,↓reduceIte,wq,ai,ah,an,ab,ae,ag,aj,isNil,Nat.reduceEqDiff,Nat.reduceAdd,Nat.reduceLT,Nat.reduceLeDiff,Int.reduceNeg,Int.reduceToNat,reduceCtorEq,h1,h3,h13,h14,h15,cn,cr,List.getElem?_map,hg2]
    intro b hb
    try simp (disch:=omega) only [↓wr,↓reduceIte,wq,ai,ah,an,ab,ae,ag,aj,isNil,Nat.reduceEqDiff,Nat.reduceAdd,Nat.reduceLT,Nat.reduceLeDiff,Int.reduceNeg,Int.reduceToNat,reduceCtorEq,h1,h3,h13,h14,h15,set_set]
    intro m hm
    have hmb:=(dZ hm ep).1
    have hm:=(dZ (dZ hm ep).2 ep).2
    try simp (disch:=omega) only [↓wr,↓reduceIte,wq,ai,ah,an,ab,ae,ag,aj,isNil,Nat.reduceEqDiff,Nat.reduceAdd,Nat.reduceLT,Nat.reduceLeDiff,Int.reduceNeg,Int.reduceToNat,reduceCtorEq,h1,h3,h13,h14,h15,hZ]
    have hl:((g.aM ++ (g.aE.take i).map Term.name).map fun s=>[gs s]).length≤1000:=by simp; omega
    refine rO (((hu.fresh hb).other (hu.ne hb)).fresh (by simp[View.set,hm,hmb])) (by simp) (by simp[aS]) (by unfold aZ; simp at hl ⊢; omega) (by unfold aZ; simp at hl ⊢; omega) ?_
    intro u' H2 hu' _
    simp (disch:=omega) only [↓wr,↓reduceIte,wq,ai,ah,an,ab,ae,ag,aj,isNil,Nat.reduceEqDiff,Nat.reduceAdd,Nat.reduceLT,Nat.reduceLeDiff,Int.reduceNeg,Int.reduceToNat,reduceCtorEq,h1,h3,h13,h14,h15]
    refine bw hk (by omega) ⟨h1,⟨u',rfl,?_⟩,h13,h14,rfl⟩
    rw[htk]
    simpa using hu'
  · rw[List.take_of_length_le (by omega)] at hu
    have hal:H'=H':=rfl
    have hall:(mU g).length≤1000:=by simp[mU]; omega
    repeat' (first | (refine ar.dec (fun _=>?_) (fun _=>?_)) | (refine ar.eq (fun _=>?_) (fun _=>?_)) | (refine ar.ne (fun _=>?_) (fun _=>?_)) | (refine ar.split (fun _=>?_) (fun _=>?_)) | (refine aK.pure (EI g.aE hg.aE) (by kernel_rfl) ?_) | (refine aK.pure (l8 _ _ _) (by kernel_rfl) ?_) | (refine aK.IQ (FZ (mU g) hall) (by kernel_rfl) (.val _) ⟨fS.own hu zg,trivial⟩ ?_) | (simp (disch:=omega) only [↓wr,↓reduceIte,wq,ai,ah,an,ab,ae,ag,aj,isNil,Nat.reduceEqDiff,Nat.reduceAdd,Nat.reduceLT,Nat.reduceLeDiff,Int.reduceNeg,Int.reduceToNat,reduceCtorEq,h1,h3,h13,h14,h15,aw,encS]))
    all_goals try (simp[lg, *]; done)
    rename_i e1 e2 e3 e4 e5
    refine aK.pure (tU g.aM hg.aM 112 [] (by simp) (fun s=>!dK (c5 s)) (fun x _=>C8 x) (by kernel_rfl)) (by kernel_rfl) ?_
    repeat' (first | (refine ar.dec (fun _=>?_) (fun _=>?_)) | (refine ar.eq (fun _=>?_) (fun _=>?_)) | (refine ar.ne (fun _=>?_) (fun _=>?_)) | (refine ar.split (fun _=>?_) (fun _=>?_)) | (simp (disch:=omega) only [↓wr,↓reduceIte,wq,ai,ah,an,ab,ae,ag,aj,isNil,Nat.reduceEqDiff,Nat.reduceAdd,Nat.reduceLT,Nat.reduceLeDiff,Int.reduceNeg,Int.reduceToNat,reduceCtorEq,h1,h3,h13,h14,h15,aw,encS]))
    all_goals try (simp[lg, *]; done)
    rename_i e6
    have hle:g.rules.length≤40:=by simp at e3; omega
    have hpre:∀ b,ie g g.rules 0=b→gb b=gb (lg g):=fun b e=>by
      simp only[lg,e1,e2,e3,e4,e5,e6,e,decide_true,Bool.true_and,Bool.not_false]
    refine bt.up g.rules.length (fun i T _=>∃ w:Int,0≤w∧w≤i∧ie g (g.rules.drop i) w=ie g g.rules 0∧T 1=.aN (aw g) 0∧T 6=gi w∧T 62=.aP (g.rules.map bc)∧T 63=gi g.rules.length∧T 64=gi i) ?_ ?_
    · exact ⟨0,by omega,by omega,rfl,h1,rfl,rfl,rfl,rfl⟩
    rintro i k T H' hk ⟨w,hw1,hw2,hi,h1,h6,h62,h63,h64⟩
    simp (disch:=omega) only [↓wr,↓reduceIte,wq,ai,ah,an,ab,ae,ag,aj,isNil,Nat.reduceEqDiff,Nat.reduceAdd,Nat.reduceLT,Nat.reduceLeDiff,Int.reduceNeg,Int.reduceToNat,reduceCtorEq,qC,h1,h6,h62,h63,h64,aw]
    refine ar.dec (fun hc=>?_) (fun hc=>?_)
    · have hg2:g.rules[i]?=some (g.rules[i]'(by omega)):=List.getElem?_eq_getElem (by omega)
      rw[dk (show i < g.rules.length by omega)] at hi
      have hmem:g.rules[i]'(by omega)∈g.rules:=List.getElem_mem _
      generalize g.rules[i]'(by omega)=t at hg2 hi hmem
      obtain ⟨⟨hl1,hl2⟩,hp,hr1,hr2⟩:=hg.fQ t hmem
      simp only[ie] at hi
      simp (disch:=omega) only [↓wr,↓reduceIte,wq,ai,ah,an,ab,ae,ag,aj,isNil,Nat.reduceEqDiff,Nat.reduceAdd,Nat.reduceLT,Nat.reduceLeDiff,Int.reduceNeg,Int.reduceToNat,reduceCtorEq,h1,h6,h62,h63,h64,bc,encI,List.getElem?_map,hg2]
      intro b hb
      repeat' (first | (refine ar.dec (fun _=>?_) (fun _=>?_)) | (refine ar.eq (fun _=>?_) (fun _=>?_)) | (refine ar.ne (fun _=>?_) (fun _=>?_)) | (refine ar.split (fun _=>?_) (fun _=>?_)) | (refine aK.pure (l8 _ _ _) (by kernel_rfl) ?_) | (refine aK.pure (Fp g t hg ⟨hr1,hr2⟩) (by kernel_rfl) ?_) | (simp (disch:=omega) only [↓wr,↓reduceIte,wq,ai,ah,an,ab,ae,ag,aj,isNil,Nat.reduceEqDiff,Nat.reduceAdd,Nat.reduceLT,Nat.reduceLeDiff,Int.reduceNeg,Int.reduceToNat,reduceCtorEq,h1,h6,h62,h63,h64,aw,bc,encI,encS,set_set]))
      · rename_i e7 e8
        have e7':0≤t.left∧t.left≤w:=by simpa using e7
        rw[e7,e8,Bool.true_and,Bool.true_and] at hi
        have hw:IntKind.wrap .i64 (t.left+1)=t.left+1:=wrap64 (by omega) (by omega)
        refine bw hk (by omega) ⟨_,by split <;> omega,by split <;> (push_cast; omega),hi,h1,?_,h62,h63,rfl⟩
        show gi (if IntKind.wrap .i64 (t.left+1) > w then IntKind.wrap .i64 (t.left+1) else w)=_
        rw[hw]
      · rename_i e7 e8
        rw[e8,Bool.and_false,Bool.false_and] at hi
        exact hpre _ hi.symm
      · rename_i e7
        rw[e7,Bool.false_and,Bool.false_and] at hi
        exact hpre _ hi.symm
    · rw[List.drop_eq_nil_of_le (by omega)] at hi
      simp only[ie] at hi
      simp (disch:=omega) only [↓wr,↓reduceIte,wq,ai,ah,an,ab,ae,ag,aj,isNil,Nat.reduceEqDiff,Nat.reduceAdd,Nat.reduceLT,Nat.reduceLeDiff,Int.reduceNeg,Int.reduceToNat,reduceCtorEq,h1,h6,h62,h63,h64,aw,encS]
      exact hpre _ hi.symm
theorem CY (g:aH) (hg:g.Ok) (hs:g.aM.length+g.aE.length≤1000):az Tryz.prog 64 [.agg (aw g)] (gb (lg g)):=az.val (fN g) (Dq g hg hs)
theorem zT (g:aH):∀ (l:List bd) (next:Int),ie g l next=fb g l (next - 1)
  | [],next=>by
    simp only[ie,fb]
    rw[Bool.eq_iff_iff]; simp
  | r :: l,next=>by
    simp only[ie,fb,zT g l]
    have e1:(if r.left+1 > next then r.left+1 else next) - 1=if r.left > next - 1 then r.left else next - 1:=by
      split <;> split <;> omega
    have e2:next - 1+1=next:=by omega
    rw[e1,e2]
theorem r7 (s:ByteArray):∀ (l:List ByteArray) (i:Int),0≤i→(jt s l i < 0∧s ∉ l)∨∃ k:Nat,jt s l i=i+k∧l[k]?=some s∧∀ j < k,l[j]?≠some s
  | [],i,h=>.inl ⟨by simp[jt],by simp⟩
  | x :: l,i,h=>by
    have hx:eH x s=true↔x=s:=by
      unfold eH
      rw[beq_iff_eq]
      constructor
      · intro e; cases x; cases s; simp at e; simp[e]
      · rintro rfl; rfl
    simp only[jt]
    by_cases e:x=s
    · rw[if_pos (hx.2 e)]
      exact .inr ⟨0,by simp,by simp[e],by simp⟩
    · rw[if_neg (fun h=>e (hx.1 h))]
      rcases r7 s l (i+1) (by omega) with ⟨h1,h2⟩ | ⟨k,h1,h2,h3⟩
      · exact .inl ⟨h1,by simp[h2,Ne.symm e]⟩
      · refine .inr ⟨k+1,by rw[h1]; push_cast; omega,by simpa using h2,fun j hj=>?_⟩
        cases j with
        | zero=>simp[e]
        | succ j=>simpa using h3 j (by omega)
theorem x4 (l:List ByteArray):(∀ (k:Nat) (s:ByteArray),l[k]?=some s→jt s l 0=k)↔l.Nodup:=by
  constructor
  · intro h
    rw[List.nodup_iff_pairwise_ne,List.pairwise_iff_getElem]
    intro i j hi hj hij e
    have h1:=h i l[i] (by simp[hi])
    have h2:=h j l[j] (by simp[hj])
    rw[e] at h1
    omega
  · intro hn k s hk
    rcases r7 s l 0 (by omega) with ⟨_,h2⟩ | ⟨j,h1,h2,h3⟩
    · exact absurd (List.mem_of_getElem? hk) h2
    · have hj:j < l.length:=by
        rcases Nat.lt_or_ge j l.length with h | h
        · exact h
        · simp[List.getElem?_eq_none h] at h2
      have hk':k < l.length:=by
        rcases Nat.lt_or_ge k l.length with h | h
        · exact h
        · simp[List.getElem?_eq_none h] at hk
      have:j=k:=(List.getElem_inj hn).1 (by
        rw[List.getElem?_eq_getElem hj] at h2; rw[List.getElem?_eq_getElem hk'] at hk
        simp at h2 hk; rw[h2,hk])
      rw[h1,this]; simp
theorem bytes_inj {a b:ByteArray} : a.data.toList=b.data.toList↔a=b:=by
  constructor
  · intro h; cases a; cases b; simp at h; simp[h]
  · rintro rfl; rfl
theorem E6 {l:List ByteArray} : (names l).Nodup↔l.Nodup:=by
  unfold names
  rw[List.nodup_iff_pairwise_ne,List.pairwise_map,List.nodup_iff_pairwise_ne]
  constructor
  · exact fun h=>h.imp fun h e=>h (bytes_inj.2 e)
  · exact fun h=>h.imp fun h e=>h (bytes_inj.1 e)
theorem nr {α:Type} [BEq α] [LawfulBEq α]:∀ (l m:List α),l.Nodup→(∀ x∈l,x∈m)→l.length≤m.length
  | [],m,_,_=>by simp
  | x :: l,m,hn,hs=>by
    rw[List.nodup_cons] at hn
    have hx:x∈m:=hs x (by simp)
    have:=nr l (m.erase x) hn.2 (fun y hy=>by
      have hne:y≠x:=by rintro rfl; exact hn.1 hy
      exact (List.mem_erase_of_ne hne).2 (hs y (by simp[hy])))
    rw[List.length_erase_of_mem hx] at this
    have:0 < m.length:=List.length_pos_of_mem hx
    simp only[List.length_cons]
    omega
def ib (n:Nat):List Int:=(List.range n).map fun (k:Nat)=>(k:Int)+1
theorem qv {n:Nat} {x:Int} : x∈ib n↔1≤x∧x≤n:=by
  simp only[ib,List.mem_map,List.mem_range]
  constructor
  · rintro ⟨k,hk,rfl⟩; omega
  · rintro ⟨h1,h2⟩; exact ⟨(x - 1).toNat,by omega,by omega⟩
theorem yX (n:Nat):(ib n).Nodup:=by
  rw[ib,List.nodup_iff_pairwise_ne,List.pairwise_map]
  exact (List.nodup_range (n:=n)).imp fun h e=>h (by omega)
theorem GX {l:List Int} {n:Nat} (hn:l.Nodup) (hs:∀ x∈l,1≤x∧x≤n) (hl:l.length=n) {x:Int} (h1:1≤x) (h2:x≤n):x∈l:=by
  refine Classical.byContradiction fun hx=>?_
  have:=nr (x :: l) (ib n) (List.nodup_cons.2 ⟨hx,hn⟩) (fun y hy=>by
    rw[qv]
    rcases List.mem_cons.1 hy with rfl | hy
    · exact ⟨h1,h2⟩
    · exact hs y hy)
  simp[ib] at this
  omega
theorem pY (n:Int):∀ (l:List Term) (w:Int),w≠0→eZ n l w=if (∀ t∈l,t.level=n→t.assoc=w) then some w else none
  | [],w,_=>by simp[eZ]
  | t :: r,w,hw=>by
    simp only[eZ]
    by_cases ht:t.level=n
    · rw[if_pos ht]
      by_cases ha:w=t.assoc
      · rw[if_neg (by simp[ha]),← ha,pY n r w hw]
        congr 1
        simp[ht,ha]
      · rw[if_pos ⟨hw,ha⟩,if_neg (fun h=>ha (h t (by simp) ht).symm)]
    · rw[if_neg ht,pY n r w hw]
      congr 1
      simp[ht]
theorem uU (n:Int):∀ (l:List Term),(∀ t∈l,t.level=n→t.assoc≠0)→(dR l n=true↔∃ a,(∃ t∈l,t.level=n)∧∀ t∈l,t.level=n→t.assoc=a)
  | [],_=>by simp[dR,eZ]
  | t :: r,h=>by
    by_cases ht:t.level=n
    · have ha:=h t (by simp) ht
      have e:dR (t :: r) n=match (if (∀ u∈r,u.level=n→u.assoc=t.assoc) then some t.assoc else none) with | some w=>w != 0 | none=>false:=by
        simp only[dR,eZ]
        rw[if_pos ht,if_neg (by simp),pY n r _ ha]
        rfl
      rw[e]
      by_cases hr:∀ u∈r,u.level=n→u.assoc=t.assoc
      · rw[if_pos hr]
        simp only[bne_iff_ne,ne_eq,ha,not_false_eq_true,true_iff]
        refine ⟨t.assoc,⟨t,by simp,ht⟩,fun u hu hl=>?_⟩
        rcases List.mem_cons.1 hu with rfl | hu
        · rfl
        · exact hr u hu hl
      · rw[if_neg hr]
        simp only[Bool.false_eq_true,false_iff]
        rintro ⟨a,_,h2⟩
        exact hr fun u hu hl=>(h2 u (by simp[hu]) hl).trans (h2 t (by simp) ht).symm
    · have ih:=uU n r (fun u hu=>h u (by simp[hu]))
      have e:dR (t :: r) n=dR r n:=by
        simp only[dR,eZ,if_neg ht]
      rw[e,ih]
      constructor
      · rintro ⟨a,⟨u,hu,hl⟩,h2⟩
        refine ⟨a,⟨u,by simp[hu],hl⟩,fun v hv hl=>?_⟩
        rcases List.mem_cons.1 hv with rfl | hv
        · exact absurd hl ht
        · exact h2 v hv hl
      · rintro ⟨a,⟨u,hu,hl⟩,h2⟩
        rcases List.mem_cons.1 hu with rfl | hu
        · exact absurd hl ht
        · exact ⟨a,⟨u,hu,hl⟩,fun v hv=>h2 v (by simp[hv])⟩
def pj (l:List Term):Prop:=∀ t∈l,∀ u∈l,t.level=u.level→t.level≠0→t.assoc=u.assoc
theorem zi {κ β:Type} [BEq κ] [LawfulBEq κ] {k:κ} {v:β} : ∀ {a:List (κ × β)},(a.map (·.1)).Nodup→((fR k v a).map (·.1)).Nodup∧∀ x,x∈(fR k v a).map (·.1)↔x=k∨x∈a.map (·.1)
  | [],_=>by simp[fR]
  | y :: a,h=>by
    simp only[List.map_cons,List.nodup_cons] at h
    obtain ⟨h1,h2⟩:=zi (k:=k) (v:=v) h.2
    simp only[fR]
    by_cases e:k=y.1
    · simp only[e,beq_self_eq_true,if_true,List.map_cons,List.nodup_cons]
      refine ⟨h,fun x=>by simp[e]⟩
    · have:(k == y.1)=false:=by simp[e]
      rw[this]
      simp only[Bool.false_eq_true,if_false,List.map_cons,List.nodup_cons,List.mem_cons]
      refine ⟨⟨fun hm=>?_,h1⟩,fun x=>?_⟩
      · rcases (h2 _).1 hm with e' | hm
        · exact e e'.symm
        · exact h.1 hm
      · rw[h2]
        constructor
        · rintro (h | h | h) <;> simp[h]
        · rintro (h | h | h) <;> simp[h]
theorem sx:∀ (l:List Term) (a:List (Int × Int)) (top:Int),(∀ t∈l,t.level≠0→t.assoc≠0)→(∀ n v,cg a n=some v→v≠0)→(a.map (·.1)).Nodup →
    match iC l a top with
    | some (a',top')=>pj l∧(∀ t∈l,∀ v,t.level≠0→cg a t.level=some v→t.assoc=v)∧(a'.map (·.1)).Nodup∧(∀ n,n∈a'.map (·.1)↔n∈a.map (·.1)∨(n≠0∧∃ t∈l,t.level=n)) ∧
        top≤top'∧(∀ t∈l,t.level≠0→t.level≤top')∧(top'=top∨∃ t∈l,t.level=top'∧t.level≠0)
    | none=>¬ (pj l∧∀ t∈l,∀ v,t.level≠0→cg a t.level=some v→t.assoc=v)
  | [],a,top,_,_,hn=>by
    simp only[iC]
    exact ⟨fun t ht=>by simp at ht,fun t ht=>by simp at ht,hn,fun n=>by simp,by omega,fun t ht=>by simp at ht,by simp⟩
  | t :: r,a,top,h0,hv,hn=>by
    have h0r:∀ u∈r,u.level≠0→u.assoc≠0:=fun u hu=>h0 u (by simp[hu])
    simp only[iC]
    by_cases ht:t.level=0
    · rw[if_pos ht]
      have ih:=sx r a top h0r hv hn
      have one:pj (t :: r)↔pj r:=by
        constructor
        · exact fun h u hu w hw=>h u (by simp[hu]) w (by simp[hw])
        · intro h u hu w hw e hz
          rcases List.mem_cons.1 hu with rfl | hu
          · exact absurd ht hz
          · rcases List.mem_cons.1 hw with rfl | hw
            · exact absurd (e.trans ht) hz
            · exact h u hu w hw e hz
      have con:(∀ u∈t :: r,∀ v,u.level≠0→cg a u.level=some v→u.assoc=v)↔∀ u∈r,∀ v,u.level≠0→cg a u.level=some v→u.assoc=v:=by
        simp[ht]
      have mem:∀ n,(n≠0∧∃ u∈t :: r,u.level=n)↔(n≠0∧∃ u∈r,u.level=n):=fun n=>by
        constructor
        · rintro ⟨h1,u,hu,rfl⟩
          rcases List.mem_cons.1 hu with rfl | hu
          · exact absurd ht h1
          · exact ⟨h1,u,hu,rfl⟩
        · rintro ⟨h1,u,hu,rfl⟩; exact ⟨h1,u,by simp[hu],rfl⟩
      cases hs:iC r a top with
      | none=>rw[hs] at ih; rw[one,con]; exact ih
      | some x =>
        obtain ⟨a',top'⟩:=x
        rw[hs] at ih
        obtain ⟨i1,i2,i3,i4,i5,i6,i7⟩:=ih
        refine ⟨one.2 i1,con.2 i2,i3,fun n=>by rw[i4,mem],i5,?_,?_⟩
        · intro u hu hz
          rcases List.mem_cons.1 hu with rfl | hu
          · exact absurd ht hz
          · exact i6 u hu hz
        · rcases i7 with h | ⟨u,hu,h⟩
          · exact .inl h
          · exact .inr ⟨u,by simp[hu],h⟩
    · rw[if_neg ht]
      have ha:=h0 t (by simp) ht
      by_cases hc:(cg a t.level).getD 0≠0∧(cg a t.level).getD 0≠t.assoc
      · rw[if_pos hc]
        simp only
        rintro ⟨_,h2⟩
        cases hp:cg a t.level with
        | none=>simp[hp] at hc
        | some v =>
          have:=h2 t (by simp) v ht hp
          simp[hp] at hc
          exact hc.2 this.symm
      · rw[if_neg hc]
        have hcon:∀ v,cg a t.level=some v→t.assoc=v:=fun v hp=>by
          have:=hv _ _ hp
          simp[hp] at hc
          exact (hc this).symm
        have hput:∀ n,cg (fR t.level t.assoc a) n=if n=t.level then some t.assoc else cg a n:=fun n=>by
          rw[yS]; simp
        have hk:=zi (k:=t.level) (v:=t.assoc) hn
        have ih:=sx r (fR t.level t.assoc a) (if t.level > top then t.level else top) h0r (fun n v hp=>by
          rw[hput] at hp
          split at hp
          · simp at hp; rw[← hp]; exact ha
          · exact hv n v hp) hk.1
        have both:(pj (t :: r)∧∀ u∈t :: r,∀ v,u.level≠0→cg a u.level=some v→u.assoc=v)↔(pj r∧∀ u∈r,∀ v,u.level≠0→cg (fR t.level t.assoc a) u.level=some v→u.assoc=v):=by
          constructor
          · rintro ⟨h1,h2⟩
            refine ⟨fun u hu w hw=>h1 u (by simp[hu]) w (by simp[hw]),fun u hu v hz hp=>?_⟩
            rw[hput] at hp
            split at hp
            · rename_i e
              simp at hp; rw[← hp]
              exact h1 u (by simp[hu]) t (by simp) e hz
            · exact h2 u (by simp[hu]) v hz hp
          · rintro ⟨h1,h2⟩
            have h3:∀ u∈r,u.level=t.level→u.assoc=t.assoc:=fun u hu e=>h2 u hu t.assoc (by rw[e]; exact ht) (by rw[hput,if_pos e])
            refine ⟨fun u hu w hw e hz=>?_,fun u hu v hz hp=>?_⟩
            · rcases List.mem_cons.1 hu with e1 | hu2
              · rcases List.mem_cons.1 hw with e2 | hw2
                · rw[e1,e2]
                · rw[e1] at e ⊢
                  exact (h3 w hw2 e.symm).symm
              · rcases List.mem_cons.1 hw with e2 | hw2
                · rw[e2] at e ⊢
                  exact h3 u hu2 e
                · exact h1 u hu2 w hw2 e hz
            · rcases List.mem_cons.1 hu with rfl | hu
              · exact hcon v hp
              · by_cases e:u.level=t.level
                · rw[h3 u hu e]; exact hcon v (by rw[← e]; exact hp)
                · exact h2 u hu v hz (by rw[hput,if_neg e]; exact hp)
        have htop:top≤(if t.level > top then t.level else top)∧t.level≤(if t.level > top then t.level else top):=by split <;> omega
        cases hs:iC r (fR t.level t.assoc a) (if t.level > top then t.level else top) with
        | none=>rw[hs] at ih; simp only; rw[both]; exact ih
        | some x =>
          obtain ⟨a',top'⟩:=x
          rw[hs] at ih
          obtain ⟨i1,i2,i3,i4,i5,i6,i7⟩:=ih
          obtain ⟨b1,b2⟩:=both.2 ⟨i1,i2⟩
          refine ⟨b1,b2,i3,fun n=>?_,by omega,?_,?_⟩
          · rw[i4,hk.2]
            constructor
            · rintro ((rfl | h) | ⟨h1,u,hu,h⟩)
              · exact .inr ⟨ht,t,by simp,rfl⟩
              · exact .inl h
              · exact .inr ⟨h1,u,by simp[hu],h⟩
            · rintro (h | ⟨h1,u,hu,h⟩)
              · exact .inl (.inr h)
              · rcases List.mem_cons.1 hu with rfl | hu
                · exact .inl (.inl h.symm)
                · exact .inr ⟨h1,u,hu,h⟩
          · intro u hu hz
            rcases List.mem_cons.1 hu with rfl | hu
            · omega
            · exact i6 u hu hz
          · rcases i7 with h | ⟨u,hu,h⟩
            · by_cases e:t.level > top
              · rw[if_pos e] at h; exact .inr ⟨t,by simp,h.symm,ht⟩
              · rw[if_neg e] at h; exact .inl h
            · exact .inr ⟨u,by simp[hu],h⟩
theorem vo (l:List Term) (h:∀ t∈l,gS t=true):mr l=true↔∀ t∈l,∀ n:Int,1≤n→n≤t.level→dR l n=true:=by
  have hb:∀ t∈l,0≤t.level∧(t.level≠0→t.assoc≠0):=fun t ht=>by
    have:=h t ht
    simp only[gS,Bool.and_eq_true,decide_eq_true_eq,beq_iff_eq] at this
    refine ⟨this.1.1.1.1.2,fun h1 h2=>?_⟩
    have e:=this.2
    simp[h1,h2] at e
  have hs:=sx l [] 0 (fun t ht=>(hb t ht).2) (by simp[cg]) (by simp)
  have hL:∀ n:Int,1≤n→(dR l n=true↔∃ a,(∃ t∈l,t.level=n)∧∀ t∈l,t.level=n→t.assoc=a):=fun n hn=>uU n l (fun t ht e=>(hb t ht).2 (by omega))
  unfold mr
  cases hx:iC l [] 0 with
  | none =>
    rw[hx] at hs
    simp only[Bool.false_eq_true,false_iff]
    intro hall
    refine hs ⟨fun t ht u hu e hz=>?_,fun t ht v _ hp=>by simp[cg] at hp⟩
    have h1:=hb t ht
    obtain ⟨a,_,h2⟩:=(hL t.level (by omega)).1 (hall t ht t.level (by omega) (by omega))
    exact (h2 t ht rfl).trans (h2 u hu e.symm).symm
  | some x =>
    obtain ⟨a,top⟩:=x
    rw[hx] at hs
    obtain ⟨i1,_,i3,i4,i5,i6,i7⟩:=hs
    simp only[beq_iff_eq]
    have hmem:∀ n,n∈a.map (·.1)↔n≠0∧∃ t∈l,t.level=n:=fun n=>by rw[i4]; simp
    have hin:∀ x∈a.map (·.1),1≤x∧x≤(top.toNat:Int):=fun x hx=>by
      obtain ⟨h1,t,ht,rfl⟩:=(hmem x).1 hx
      have:=(hb t ht).1
      have:=i6 t ht h1
      omega
    constructor
    · intro hlen t ht n hn1 hn2
      have htop:t.level≤top:=i6 t ht (by omega)
      have hm:=GX i3 hin (by simp; omega) hn1 (show n≤(top.toNat:Int) by omega)
      obtain ⟨hz,u,hu,rfl⟩:=(hmem n).1 hm
      exact (hL _ hn1).2 ⟨u.assoc,⟨u,hu,rfl⟩,fun w hw e=>i1 w hw u hu e (by omega)⟩
    · intro hall
      have h1:a.length≤top.toNat:=by
        have:=nr _ (ib top.toNat) i3 (fun x hx=>qv.2 (hin x hx))
        simpa [ib] using this
      have h2:top.toNat≤a.length:=by
        rcases i7 with e | ⟨t,ht,e,hz⟩
        · subst e; simp
        · have:=nr (ib top.toNat) (a.map (·.1)) (yX _) (fun x hx=>by
            rw[qv] at hx
            have:=(hb t ht).1
            obtain ⟨_,⟨u,hu,hl⟩,_⟩:=(hL x hx.1).1 (hall t ht x hx.1 (by omega))
            exact (hmem x).2 ⟨by omega,u,hu,hl⟩)
          simpa [ib] using this
      omega
theorem uD (g:aH):∀ (l:List Term) (i:Int),jx g l i=true↔∀ (k:Nat) (t:Term),l[k]?=some t→gJ g (i+k) t=true
  | [],i=>by simp[jx]
  | t :: r,i=>by
    simp only[jx,Bool.and_eq_true,uD g r (i+1)]
    constructor
    · rintro ⟨h1,h2⟩ k u hk
      cases k with
      | zero=>simp at hk; subst hk; simpa using h1
      | succ k =>
        have:=h2 k u (by simpa using hk)
        rw[show i+((k+1:Nat):Int)=i+1+k by push_cast; omega]; exact this
    · intro h
      refine ⟨by simpa using h 0 t rfl,fun k u hk=>?_⟩
      have:=h (k+1) u (by simpa using hk)
      rw[show i+1+(k:Int)=i+((k+1:Nat):Int) by push_cast; omega]; exact this
theorem xS (g:aH):∀ (l:List ByteArray) (i:Int),mf g l i=true↔∀ (k:Nat) (s:ByteArray),l[k]?=some s→kj g (i+k) s=true
  | [],i=>by simp[mf]
  | t :: r,i=>by
    simp only[mf,Bool.and_eq_true,xS g r (i+1)]
    constructor
    · rintro ⟨h1,h2⟩ k u hk
      cases k with
      | zero=>simp at hk; subst hk; simpa using h1
      | succ k =>
        have:=h2 k u (by simpa using hk)
        rw[show i+((k+1:Nat):Int)=i+1+k by push_cast; omega]; exact this
    · intro h
      refine ⟨by simpa using h 0 t rfl,fun k u hk=>?_⟩
      have:=h (k+1) u (by simpa using hk)
      rw[show i+1+(k:Int)=i+((k+1:Nat):Int) by push_cast; omega]; exact this
theorem xf (g:aH) (s:ByteArray):mg g s < 0↔s ∉ g.aE.map Term.name:=by
  unfold mg
  rcases r7 s (g.aE.map Term.name) 0 (by omega) with ⟨h1,h2⟩ | ⟨k,h1,h2,_⟩
  · exact ⟨fun _=>h2,fun _=>h1⟩
  · constructor
    · intro h; omega
    · intro h; exact absurd (List.mem_of_getElem? h2) h
theorem xd (g:aH) (t:Term):nL g t=true↔∀ n:Int,1≤n→n≤t.level→dR g.aE n=true:=by
  simp only[nL,List.all_eq_true,List.mem_range]
  constructor
  · intro h n h1 h2
    have:=h (n - 1).toNat (by omega)
    rwa [show (((n - 1).toNat:Nat):Int)+1=n by omega] at this
  · intro h k hk
    exact h _ (by omega) (by omega)
theorem Cy (g:aH):lg g=bq g:=by
  rw[Bool.eq_iff_iff]
  simp only[lg,bq,gZ,ig,mF,Bool.and_eq_true,decide_eq_true_eq,uD,xS,zT,List.all_eq_true,Bool.not_eq_true',List.any_eq_false,Bool.not_eq_true,E6,mU,List.nodup_append,Int.zero_add,Int.zero_sub,Bool.not_not]
  have hT:(∀ (k:Nat) (t:Term),g.aE[k]?=some t→gJ g k t=true)↔(∀ t∈g.aE,gS t=true)∧(g.aE.map Term.name).Nodup∧(∀ t∈g.aE,nL g t=true):=by
    rw[← x4]
    constructor
    · intro h
      have h':∀ t∈g.aE,∃ k:Nat,g.aE[k]?=some t:=fun t ht=>List.getElem?_of_mem ht
      refine ⟨fun t ht=>?_,fun k s hk=>?_,fun t ht=>?_⟩
      · obtain ⟨k,hk⟩:=h' t ht
        have:=h k t hk
        simp only[gJ,gS,Bool.and_eq_true,decide_eq_true_eq] at this ⊢
        simp[this]
      · rw[List.getElem?_map,Option.map_eq_some_iff] at hk
        obtain ⟨t,hk,rfl⟩:=hk
        have:=h k t hk
        simp only[gJ,Bool.and_eq_true,beq_iff_eq] at this
        exact this.1.1.1.1.1.1.2
      · obtain ⟨k,hk⟩:=h' t ht
        have:=h k t hk
        simp only[gJ,Bool.and_eq_true] at this
        exact this.2
    · rintro ⟨h1,h2,h3⟩ k t hk
      have hm:=List.mem_of_getElem? hk
      have a:=h1 t hm
      have b:=h2 k t.name (by rw[List.getElem?_map,hk]; rfl)
      have c:=h3 t hm
      simp only[gJ,gS,mg,Bool.and_eq_true,decide_eq_true_eq] at a ⊢
      simp[a,b,c]
  have hN:(∀ (k:Nat) (s:ByteArray),g.aM[k]?=some s→kj g k s=true)↔(∀ s∈g.aM,dK (c5 s)=true)∧g.aM.Nodup∧(∀ s∈g.aM,s ∉ g.aE.map Term.name):=by
    rw[← x4]
    constructor
    · intro h
      have h':∀ t∈g.aM,∃ k:Nat,g.aM[k]?=some t:=fun t ht=>List.getElem?_of_mem ht
      refine ⟨fun t ht=>?_,fun k s hk=>?_,fun t ht=>?_⟩
      · obtain ⟨k,hk⟩:=h' t ht
        have:=h k t hk
        simp only[kj,Bool.and_eq_true] at this
        exact this.1.1
      · have:=h k s hk
        simp only[kj,w7,Bool.and_eq_true,beq_iff_eq] at this
        exact this.1.2
      · obtain ⟨k,hk⟩:=h' t ht
        have:=h k t hk
        simp only[kj,Bool.and_eq_true,decide_eq_true_eq] at this
        exact (xf g t).1 this.2
    · rintro ⟨h1,h2,h3⟩ k s hk
      have hm:=List.mem_of_getElem? hk
      have a:=h1 s hm
      have b:=h2 k s hk
      have c:=(xf g s).2 (h3 s hm)
      simp[kj,w7,a,b,c]
  rw[hT,hN]
  constructor
  · rintro ⟨⟨⟨⟨⟨⟨⟨⟨t1,t2⟩,t3⟩,n1,n2⟩,r1,r2⟩,a1,a2,a3⟩,s1,s2⟩,n3⟩,ru⟩
    have hl:=(vo g.aE t1).1 t3
    exact ⟨⟨⟨⟨⟨⟨⟨t2,t1,a2,fun t ht=>(xd g t).2 (hl t ht)⟩,⟨by omega,by omega⟩,fun s hs=>by simpa using n3 s hs,a1,fun s hs hm=>a3 s hs s hm rfl⟩,by omega⟩,by omega⟩,s1⟩,by omega⟩,ru⟩
  · rintro ⟨⟨⟨⟨⟨⟨⟨t2,t1,a2,t3⟩,⟨n1,n2⟩,n3,a1,a3⟩,r1⟩,r2⟩,s1⟩,s2⟩,ru⟩
    have hl:=(vo g.aE t1).2 (fun t ht=>(xd g t).1 (t3 t ht))
    exact ⟨⟨⟨⟨⟨⟨⟨⟨t1,t2⟩,hl⟩,by omega,by omega⟩,by omega,by omega⟩,a1,a2,fun s hs u hu e=>a3 s hs (e ▸ hu)⟩,s1,by omega⟩,fun s hs=>by simp[n3 s hs]⟩,ru⟩
theorem iU (g:aH) (hg:g.Ok) (hs:g.aM.length+g.aE.length≤1000):az Tryz.prog 64 [.agg (aw g)] (gb (bq g)):=by
  rw[← Cy]; exact CY g hg hs
def uL (n:Nat) (r:bd):Prop:=cm r.left∧0≤r.left∧r.left < n∧r.right.length≤6∧∀ s∈r.right,cm s∧(s < 0→-1 - s < n)
theorem aH.y8.rW {g:aH} (hg:g.Ok) (h:g.y8) {r:bd} (hr:r∈g.rules):uL g.aM.length r :=
  ⟨(hg.fQ r hr).1,(h.left r hr).1,(h.left r hr).2,h.right r hr,fun s hs=>⟨(hg.fQ r hr).2.2.2 s hs,fun hn=>h.neg hr hs hn⟩⟩
def qB:SF:=⟨.seq (ao [aL 2 false]) <|
  .seq (ao [aa 3 0,aq 4 .geq 3 0,aa 2 4]) <|
  .ret,
  [.tmp 2],5⟩
theorem uv:aY Tryz.prog 259 []=some qB:=by kernel_rfl
def tw:SF:=⟨.seq (ao [bo 1 0,aL 2 false]) <|
  .seq (ao [al 3 1 1,ak 4 3,bT 5 90 [(.tmp 4),(.val (.fn 259 [] []))],bC 6 5,aa 2 6]) <|
  .ret,
  [.tmp 2],7⟩
theorem vZ:aY Tryz.prog 236 [1]=some tw:=by kernel_rfl
def ng:SF:=⟨.seq (ao [aL 3 false]) <|
  .seq (.region false [⟨none,[aa 4 0,aq 5 .lss 4 0,aa 6 5]⟩,⟨(some (6,true)),[ak 7 1,aa 8 0,((some 9),.op (.arith .sub (.val (.val (.int .i64 (-1)))) (.tmp 8))),aJ 10 1 7 9,ak 11 10,bC 12 11]⟩,⟨none,[bh 13 6 12,aa 3 13]⟩]) <|
  .ret,
  [.tmp 3],14⟩
theorem rC:aY Tryz.prog 223 []=some ng:=by kernel_rfl
def qS:SF:=⟨.seq (ao [bo 2 0,bo 3 1,aL 4 false]) <|
  .seq (ao [al 5 1 2,ak 6 5,((some 7),.op (.iA 223 [] [(.tmp 3)])),aB 8 90 [6,7],bC 9 8,aa 4 9]) <|
  .ret,
  [.tmp 4],10⟩
theorem tY:aY Tryz.prog 177 [2,3]=some qS:=by kernel_rfl
def lO:SF:=⟨.seq (ao [bo 2 0,((some 4),.op (.aW (.val (.emp 1))))]) <|
  .seq (.seq (.region false [⟨none,[aG 5 3 2,aB 6 236 [5],aa 7 6]⟩,⟨(some (7,true)),[aG 8 3 2,aa 9 1,aB 10 177 [8,9]]⟩,⟨none,[bh 11 7 10]⟩]) <|
  .cond (.tmp 11) (.seq (ao [al 12 0 2,ak 13 12,((some 14),.op (.bf 1 1 [(.val (.int .i64 0))] [(0,(.tmp 13))])),aa 4 14]) <|
  .ret) (.skip)) <|
  .seq (ao [((some 4),.op (.aW (.val (.emp 1))))]) <|
  .ret,
  [.tmp 4],15⟩
theorem pK:aY Tryz.prog 235 [2]=some lO:=by kernel_rfl
def j7:SF:=⟨.seq (ao [bo 2 0,((some 4),.op (.aW (.val (.emp 1))))]) <|
  .seq (.seq (ao [aG 5 3 2,aa 6 1,aB 7 177 [5,6]]) <|
  .cond (.tmp 7) (.seq (ao [al 8 0 2,ak 9 8,((some 10),.op (.bf 1 1 [(.val (.int .i64 0))] [(0,(.tmp 9))])),aa 4 10]) <|
  .ret) (.skip)) <|
  .seq (ao [((some 4),.op (.aW (.val (.emp 1))))]) <|
  .ret,
  [.tmp 4],11⟩
theorem nZ:aY Tryz.prog 221 [2]=some j7:=by kernel_rfl
def jq:SC :=
  .seq (ao [aF 24 .lss 23 22]) <|
  .seq (.cond (.tmp 24) (.skip) (.exit 0)) <|
  .seq (.block 1 (.seq (ao [aJ 25 1 21 23,ak 26 25,aa 7 26]) <|
  .seq (ao [aa 27 7,aq 28 .lss 27 0]) <|
  .cond (.tmp 28) (ao [aa 29 5,aa 30 7,((some 31),.op (.arith .sub (.val (.val (.int .i64 (-1)))) (.tmp 30))),((some 32),.op (.bf 1 1 [(.val (.int .i64 0))] [(0,(.tmp 31))])),((some 33),.op (.app 1 8 (.tmp 29) (.tmp 32))),aa 5 33]) (.skip))) <|
  ao [aq 34 .add 23 1,aa 23 34]
def lu:SF:=⟨.seq (ao [bo 3 0,((some 5),.op (.aW (.val (.emp 1))))]) <|
  .seq (.seq (.region false [⟨none,[aa 8 1,al 9 0 3,ak 10 9,aJ 11 1 8 10,ak 12 11,bC 13 12,aa 14 13]⟩,⟨(some (14,false)),[aG 15 3 3,ak 16 2,aB 17 177 [15,16],bC 18 17]⟩,⟨none,[aX 19 14 18]⟩]) <|
  .cond (.tmp 19) (.seq (ao [((some 5),.op (.aW (.val (.emp 1))))]) <|
  .ret) (.skip)) <|
  .seq (.seq (ao [al 20 1 3,ak 21 20,aC 22 21,ay 23 0]) <|
  .block 0 (.loop jq)) <|
  .seq (ao [aa 35 5,aa 5 35]) <|
  .ret,
  [.tmp 5],36⟩
theorem oX:aY Tryz.prog 222 [3]=some lu:=by kernel_rfl
theorem E4 (r:bd):∀ v∈[V.agg (bc r)],Tree v:=by intro v hv; simp at hv; subst hv; exact bP _ (dH r)
theorem uf (r:bd) (is:List Bool):∀ v∈[V.agg (bc r),cB is],Tree v:=by
  intro v hv; simp at hv
  rcases hv with rfl | rfl
  · exact bP _ (dH r)
  · exact iK is
theorem FJ (x:Int):az Tryz.prog 259 [gi x] (gb (decide (0≤x))):=by
  refine az.val (rr (l:=[.int .i64 x])) fun H=>?_
  refine aA.of mixed uv ?_
  simp (disch:=omega) only [↓wr,↓reduceIte,wq,ai,ah,an,ab,ae,ag,aj,isNil,Nat.reduceEqDiff,Nat.reduceAdd,Nat.reduceLT,Nat.reduceLeDiff,Int.reduceNeg,Int.reduceToNat,reduceCtorEq,qB]
theorem Ha (r:bd) (hr:aU r.right):az Tryz.prog 236 [.agg (bc r)] (gb (!r.right.any fun s=>decide (0≤s))):=by
  refine az.val (E4 r) fun H=>?_
  refine aA.of mixed vZ ?_
  simp (disch:=omega) only [↓wr,↓reduceIte,wq,ai,ah,an,ab,ae,ag,aj,isNil,Nat.reduceEqDiff,Nat.reduceAdd,Nat.reduceLT,Nat.reduceLeDiff,Int.reduceNeg,Int.reduceToNat,reduceCtorEq,tw,bc,encI]
  refine aK.pure (iB r.right hr 259 [] (by simp) (fun s=>decide (0≤s)) (fun x _=>FJ x) (by kernel_rfl)) (by kernel_rfl) ?_
  simp (disch:=omega) only [↓wr,↓reduceIte,wq,ai,ah,an,ab,ae,ag,aj,isNil,Nat.reduceEqDiff,Nat.reduceAdd,Nat.reduceLT,Nat.reduceLeDiff,Int.reduceNeg,Int.reduceToNat,reduceCtorEq]
def wU (is:List Bool) (s:Int):Bool:=decide (s < 0) && !is.getD (-1 - s).toNat false
theorem Cs (is:List Bool) (s:Int) (hs:cm s∧(s < 0→-1 - s < is.length)):az Tryz.prog 223 [gi s,.aN [cB is] 0] (gb (wU is s)):=by
  refine az.val ?_ fun H=>?_
  · intro v hv; simp at hv
    rcases hv with rfl | rfl
    · exact .val _
    · exact gv (by intro v hv; simp at hv; subst hv; exact iK is)
  obtain ⟨⟨h1,h2⟩,h3⟩:=hs
  refine aA.of mixed rC ?_
  simp (disch:=omega) only [↓wr,↓reduceIte,wq,ai,ah,an,ab,ae,ag,aj,isNil,Nat.reduceEqDiff,Nat.reduceAdd,Nat.reduceLT,Nat.reduceLeDiff,Int.reduceNeg,Int.reduceToNat,reduceCtorEq,ng,cB]
  refine ar.dec (fun h=>?_) (fun h=>?_)
  · have hb:is[(-1 - s).toNat]?=some (is[(-1 - s).toNat]'(by omega)):=List.getElem?_eq_getElem (by omega)
    have hbd:is.getD (-1 - s).toNat false=is[(-1 - s).toNat]'(by omega):=by simp[List.getD_eq_getElem?_getD,hb]
    generalize is[(-1 - s).toNat]'(by omega)=b at hb hbd
    simp (disch:=omega) only [↓wr,↓reduceIte,wq,ai,ah,an,ab,ae,ag,aj,isNil,Nat.reduceEqDiff,Nat.reduceAdd,Nat.reduceLT,Nat.reduceLeDiff,Int.reduceNeg,Int.reduceToNat,reduceCtorEq,List.getElem?_map,hb]
    simp only[wU,hbd,h,decide_true,Bool.true_and]
  · simp (disch:=omega) only [↓wr,↓reduceIte,wq,ai,ah,an,ab,ae,ag,aj,isNil,Nat.reduceEqDiff,Nat.reduceAdd,Nat.reduceLT,Nat.reduceLeDiff,Int.reduceNeg,Int.reduceToNat,reduceCtorEq]
    simp[wU,h]
theorem CH {is:List Bool} {l:List Int} : (!l.any (wU is))=e9 l is true:=by
  simp only[e9,List.not_any_eq_all_not]
  congr 1
  funext s
  simp only[wU]
  by_cases h:0≤s
  · simp[h,show ¬ s < 0 by omega]
  · simp[h,show s < 0 by omega]
theorem nz (r:bd) (is:List Bool) (hr:aU r.right) (hs:∀ s∈r.right,cm s∧(s < 0→-1 - s < is.length)):az Tryz.prog 177 [.agg (bc r),cB is] (gb (e9 r.right is true)):=by
  rw[← CH]
  refine az.val (uf r is) fun H=>?_
  refine aA.of mixed tY ?_
  simp (disch:=omega) only [↓wr,↓reduceIte,wq,ai,ah,an,ab,ae,ag,aj,isNil,Nat.reduceEqDiff,Nat.reduceAdd,Nat.reduceLT,Nat.reduceLeDiff,Int.reduceNeg,Int.reduceToNat,reduceCtorEq,qS,bc,cB,encI]
  refine aK.pure (iB r.right hr 223 [.aN [cB is] 0] (by
    intro v hv; simp at hv; subst hv
    exact gv (by intro v hv; simp at hv; subst hv; exact iK is)) (wU is) (fun x hx=>Cs is x (hs x hx)) (by kernel_rfl)) (by kernel_rfl) ?_
  simp (disch:=omega) only [↓wr,↓reduceIte,wq,ai,ah,an,ab,ae,ag,aj,isNil,Nat.reduceEqDiff,Nat.reduceAdd,Nat.reduceLT,Nat.reduceLeDiff,Int.reduceNeg,Int.reduceToNat,reduceCtorEq]
theorem AT {is:List Bool} {l:List Int} : ((!l.any fun s=>decide (0≤s)) && e9 l is true)=e9 l is false:=by
  induction l with
  | nil=>rfl
  | cons s l ih =>
    simp only[e9,List.all_cons,List.any_cons] at ih ⊢
    rw[← ih]
    by_cases h:0≤s
    · simp[h]
    · simp only[h,decide_false,Bool.false_or,if_false]
      cases (l.any fun s=>decide (0≤s)) <;> simp
theorem mI {h:ax} {u:V} {l:List Int} (ho:bk h.view u 1 (l.map fun x=>[gi x])):ew h u (encI l):=ew.HC (f:=Value.int .i64) ho
theorem zK (r:bd) (is:List Bool) (hr:uL is.length r):cI Tryz.prog 235 [.agg (bc r),cB is] (encI (if e9 r.right is false=true then [r.left] else [])):=by
  obtain ⟨hl,_,_,hr6,hs⟩:=hr
  have hsh:aU r.right:=by unfold aU; omega
  refine cI.of (uf r is) ?_
  refine aA.of mixed pK ?_
  rw[← AT]
  simp (disch:=omega) only [↓wr,↓reduceIte,wq,ai,ah,an,ab,ae,ag,aj,isNil,Nat.reduceEqDiff,Nat.reduceAdd,Nat.reduceLT,Nat.reduceLeDiff,Int.reduceNeg,Int.reduceToNat,reduceCtorEq,lO,bc,encI]
  refine aK.pure (Ha r hsh) (by kernel_rfl) ?_
  repeat' (first | (refine ar.dec (fun _=>?_) (fun _=>?_)) | (refine ar.eq (fun _=>?_) (fun _=>?_)) | (refine ar.ne (fun _=>?_) (fun _=>?_)) | (refine ar.split (fun _=>?_) (fun _=>?_)) | (refine aK.pure (nz r is hsh hs) (by kernel_rfl) ?_) | (simp (disch:=omega) only [↓wr,↓reduceIte,wq,ai,ah,an,ab,ae,ag,aj,isNil,Nat.reduceEqDiff,Nat.reduceAdd,Nat.reduceLT,Nat.reduceLeDiff,Int.reduceNeg,Int.reduceToNat,reduceCtorEq,bc,encI]))
  all_goals first
    | (intro n h' hh; rw[if_pos (by simp[*])]; exact mI (l:=[r.left]) (.inr ⟨n,rfl,by rw[hh]; simp[View.set]⟩))
    | (intro h' hh; rw[if_neg (by simp[*])]; exact .emp _)
theorem w9 (r:bd) (is:List Bool) (hr:uL is.length r):cI Tryz.prog 221 [.agg (bc r),cB is] (encI (if e9 r.right is true=true then [r.left] else [])):=by
  obtain ⟨hl,_,_,hr6,hs⟩:=hr
  have hsh:aU r.right:=by unfold aU; omega
  refine cI.of (uf r is) ?_
  refine aA.of mixed nZ ?_
  simp (disch:=omega) only [↓wr,↓reduceIte,wq,ai,ah,an,ab,ae,ag,aj,isNil,Nat.reduceEqDiff,Nat.reduceAdd,Nat.reduceLT,Nat.reduceLeDiff,Int.reduceNeg,Int.reduceToNat,reduceCtorEq,j7,bc,encI]
  refine aK.pure (nz r is hsh hs) (by kernel_rfl) ?_
  repeat' (first | (refine ar.dec (fun _=>?_) (fun _=>?_)) | (refine ar.eq (fun _=>?_) (fun _=>?_)) | (refine ar.ne (fun _=>?_) (fun _=>?_)) | (refine ar.split (fun _=>?_) (fun _=>?_)) | (simp (disch:=omega) only [↓wr,↓reduceIte,wq,ai,ah,an,ab,ae,ag,aj,isNil,Nat.reduceEqDiff,Nat.reduceAdd,Nat.reduceLT,Nat.reduceLeDiff,Int.reduceNeg,Int.reduceToNat,reduceCtorEq,bc,encI]))
  all_goals first
    | (intro n h' hh; rw[if_pos (by simp[*])]; exact mI (l:=[r.left]) (.inr ⟨n,rfl,by rw[hh]; simp[View.set]⟩))
    | (intro h' hh; rw[if_neg (by simp[*])]; exact .emp _)
def dD (l:List Int):List Int:=(l.filter fun s=>decide (s < 0)).map fun s=>-1 - s
theorem EU (r:bd) (is p:List Bool):∀ v∈[V.agg (bc r),cB is,.aN [cB p] 0],Tree v:=by
  intro v hv; simp at hv
  rcases hv with rfl | rfl | rfl
  · exact bP _ (dH r)
  · exact iK is
  · exact gv (by intro v hv; simp at hv; subst hv; exact iK p)
set_option maxHeartbeats 1000000 in
theorem ym (r:bd) (is p:List Bool) (hr:uL is.length r) (hp:p.length=is.length) :
    cI Tryz.prog 222 [.agg (bc r),cB is,.aN [cB p] 0] (encI (if (is.getD r.left.toNat false && e9 r.right p true)=true then dD r.right else [])):=by
  obtain ⟨hl,hl0,hl1,hr6,hs⟩:=hr
  have hsh:aU r.right:=by unfold aU; omega
  refine cI.of (EU r is p) ?_
  refine aA.of mixed oX ?_
  have hb:is[r.left.toNat]?=some (is[r.left.toNat]'(by omega)):=List.getElem?_eq_getElem (by omega)
  have hbd:is.getD r.left.toNat false=is[r.left.toNat]'(by omega):=by simp[List.getD_eq_getElem?_getD,hb]
  generalize is[r.left.toNat]'(by omega)=b at hb hbd
  rw[hbd]
  simp (disch:=omega) only [↓wr,↓reduceIte,wq,ai,ah,an,ab,ae,ag,aj,isNil,Nat.reduceEqDiff,Nat.reduceAdd,Nat.reduceLT,Nat.reduceLeDiff,Int.reduceNeg,Int.reduceToNat,reduceCtorEq,lu,bc,encI,cB,List.getElem?_map,hb]
  cases b with
  | false =>
    simp (disch:=omega) only [↓wr,↓reduceIte,wq,ai,ah,an,ab,ae,ag,aj,isNil,Nat.reduceEqDiff,Nat.reduceAdd,Nat.reduceLT,Nat.reduceLeDiff,Int.reduceNeg,Int.reduceToNat,reduceCtorEq]
    intro h' hh
    exact .emp _
  | true =>
    simp (disch:=omega) only [↓wr,↓reduceIte,wq,ai,ah,an,ab,ae,ag,aj,isNil,Nat.reduceEqDiff,Nat.reduceAdd,Nat.reduceLT,Nat.reduceLeDiff,Int.reduceNeg,Int.reduceToNat,reduceCtorEq,bc,encI,cB]
    refine aK.pure (nz r p hsh (fun s hs'=>⟨(hs s hs').1,fun h=>by rw[hp]; exact (hs s hs').2 h⟩)) (by kernel_rfl) ?_
    repeat' (first | (refine ar.dec (fun _=>?_) (fun _=>?_)) | (refine ar.eq (fun _=>?_) (fun _=>?_)) | (refine ar.ne (fun _=>?_) (fun _=>?_)) | (refine ar.split (fun _=>?_) (fun _=>?_)) | (simp (disch:=omega) only [↓wr,↓reduceIte,wq,ai,ah,an,ab,ae,ag,aj,isNil,Nat.reduceEqDiff,Nat.reduceAdd,Nat.reduceLT,Nat.reduceLeDiff,Int.reduceNeg,Int.reduceToNat,reduceCtorEq,bc,encI,cB]))
    · rename_i ha
      rw[if_pos (by simp[ha])]
      refine bt.up r.right.length (fun i T H=>(∃ u,T 5=u∧bk H u 1 ((dD (r.right.take i)).map fun x=>[gi x]))∧T 21=encI r.right∧T 22=gi r.right.length∧T 23=gi i) ?_ ?_
      · exact ⟨⟨_,rfl,.nil⟩,rfl,rfl,rfl⟩
      rintro i k T H' hk ⟨⟨u,h5,hu⟩,h21,h22,h23⟩
      simp (disch:=omega) only [↓wr,↓reduceIte,wq,ai,ah,an,ab,ae,ag,aj,isNil,Nat.reduceEqDiff,Nat.reduceAdd,Nat.reduceLT,Nat.reduceLeDiff,Int.reduceNeg,Int.reduceToNat,reduceCtorEq,jq,h5,h21,h22,h23,encI]
      refine ar.dec (fun hc=>?_) (fun hc=>?_)
      · have hg:r.right[i]?=some (r.right[i]'(by omega)):=List.getElem?_eq_getElem (by omega)
        have hm:r.right[i]'(by omega)∈r.right:=List.getElem_mem _
        have htk:dD (r.right.take (i+1))=dD (r.right.take i) ++ dD [r.right[i]'(by omega)]:=by
          rw[List.take_add_one,hg,dD,List.filter_append,List.map_append]; rfl
        have hlen:(dD (r.right.take i)).length≤6:=by
          have h1:(dD (r.right.take i)).length≤(r.right.take i).length:=by simp only[dD,List.length_map]; exact List.length_filter_le _ _
          have h2:(r.right.take i).length≤i:=List.length_take_le _ _
          omega
        generalize r.right[i]'(by omega)=s at hg hm htk
        obtain ⟨⟨s1,s2⟩,s3⟩:=hs s hm
        simp (disch:=omega) only [↓wr,↓reduceIte,wq,ai,ah,an,ab,ae,ag,aj,isNil,Nat.reduceEqDiff,Nat.reduceAdd,Nat.reduceLT,Nat.reduceLeDiff,Int.reduceNeg,Int.reduceToNat,reduceCtorEq,h5,h21,h22,h23,encI,List.getElem?_map,hg]
        refine ar.dec (fun hd=>?_) (fun hd=>?_)
        · simp (disch:=omega) only [↓wr,↓reduceIte,wq,ai,ah,an,ab,ae,ag,aj,isNil,Nat.reduceEqDiff,Nat.reduceAdd,Nat.reduceLT,Nat.reduceLeDiff,Int.reduceNeg,Int.reduceToNat,reduceCtorEq,h5,h21,h22,h23]
          intro m hm
          try simp (disch:=omega) only [↓wr,↓reduceIte,wq,ai,ah,an,ab,ae,ag,aj,isNil,Nat.reduceEqDiff,Nat.reduceAdd,Nat.reduceLT,Nat.reduceLeDiff,Int.reduceNeg,Int.reduceToNat,reduceCtorEq,h5,h21,h22,h23,hZ]
          refine rO (hu.fresh hm) (by simp) (by simp[aS]) (by unfold aZ; simp at hlen ⊢; omega) (by unfold aZ; simp at hlen ⊢; omega) ?_
          intro u' H2 hu' _
          simp (disch:=omega) only [↓wr,↓reduceIte,wq,ai,ah,an,ab,ae,ag,aj,isNil,Nat.reduceEqDiff,Nat.reduceAdd,Nat.reduceLT,Nat.reduceLeDiff,Int.reduceNeg,Int.reduceToNat,reduceCtorEq,h21,h22,h23]
          refine bw hk (by omega) ⟨⟨u',rfl,?_⟩,h21,h22,rfl⟩
          rw[htk]
          simpa [dD,hd] using hu'
        · simp (disch:=omega) only [↓wr,↓reduceIte,wq,ai,ah,an,ab,ae,ag,aj,isNil,Nat.reduceEqDiff,Nat.reduceAdd,Nat.reduceLT,Nat.reduceLeDiff,Int.reduceNeg,Int.reduceToNat,reduceCtorEq,h5,h21,h22,h23]
          refine bw hk (by omega) ⟨⟨u,h5,?_⟩,h21,h22,rfl⟩
          rw[htk]
          simpa [dD,hd] using hu
      · rw[List.take_of_length_le (by omega)] at hu
        simp (disch:=omega) only [↓wr,↓reduceIte,wq,ai,ah,an,ab,ae,ag,aj,isNil,Nat.reduceEqDiff,Nat.reduceAdd,Nat.reduceLT,Nat.reduceLeDiff,Int.reduceNeg,Int.reduceToNat,reduceCtorEq,h5,h21,h22,h23]
        intro h' hh
        exact mI (by rw[hh]; exact hu)
    · rename_i ha
      intro h' hh
      rw[if_neg (by simp[ha])]
      exact .emp _
def mj (is:List Bool) (l:List Int):List Bool:=l.foldl (fun is n=>is.set n.toNat true) is
def stepG (comes:bd→List Bool→List Int) (is:List Bool) (r:bd):List Bool:=mj is (comes r is)
def ca (comes:bd→List Bool→List Int) (rules:List bd) (is:List Bool):List Bool:=rules.foldl (stepG comes) is
def eh (a b:List Bool):Prop:=a.length=b.length∧∀ i,a.getD i false=true→b.getD i false=true
theorem eh.refl (a:List Bool):eh a a:=⟨rfl,fun _ h=>h⟩
theorem eh.trans {a b c:List Bool} (h:eh a b) (k:eh b c):eh a c:=⟨h.1.trans k.1,fun i hi=>k.2 i (h.2 i hi)⟩
theorem eh.set (a:List Bool) (i:Nat):eh a (a.set i true):=by
  refine ⟨by simp,fun j h=>?_⟩
  simp only[List.getD_eq_getElem?_getD,List.getElem?_set] at h ⊢
  split
  · split
    · rfl
    · rename_i e h2; rw[← e,List.getElem?_eq_none (by omega)] at h; simp at h
  · exact h
theorem yG:∀ (l:List Int) (is:List Bool),eh is (mj is l)
  | [],is=>.refl _
  | n :: l,is=>(eh.set is n.toNat).trans (yG l _)
theorem nF (comes:bd→List Bool→List Int):∀ (rules:List bd) (is:List Bool),eh is (ca comes rules is)
  | [],is=>.refl _
  | r :: rs,is=>(yG _ _).trans (nF comes rs _)
def cJ (a:List Bool):Nat:=a.countP fun x=>x
theorem tN (a:List Bool):cJ a≤a.length:=List.countP_le_length
theorem eh.cJ:∀ {a b:List Bool},eh a b→cJ a≤cJ b∧(cJ a=cJ b→a=b)
  | [],[],_=>⟨Nat.le_refl _,fun _=>rfl⟩
  | [],_ :: _,h=>by simp[eh] at h
  | _ :: _,[],h=>by simp[eh] at h
  | x :: a,y :: b,h=>by
    have hxy:x=true→y=true:=fun e=>by have:=h.2 0 (by simpa using e); simpa using this
    obtain ⟨h1,h2⟩:=eh.cJ (a:=a) (b:=b) ⟨by simpa using h.1,fun i hi=>by have:=h.2 (i+1) (by simpa using hi); simpa using this⟩
    unfold Gv.cJ at h1 h2 ⊢
    simp only[List.countP_cons]
    cases x with
    | true =>
      have:=hxy rfl; subst this
      simp only[if_true]
      exact ⟨by omega,fun e=>by rw[h2 (by omega)]⟩
    | false =>
      cases y with
      | false=>simp only[Bool.false_eq_true,if_false]; exact ⟨by omega,fun e=>by rw[h2 (by omega)]⟩
      | true=>simp only[Bool.false_eq_true,if_false,if_true]; exact ⟨by omega,fun e=>by omega⟩
def dS (comes:bd→List Bool→List Int) (rules:List bd):Nat→List Bool→List Bool
  | 0,is=>is
  | k+1,is=>if ca comes rules is=is then is else dS comes rules k (ca comes rules is)
theorem rQ (comes:bd→List Bool→List Int) (rules:List bd):∀ (k:Nat) (is:List Bool),is.length≤cJ is+k→ca comes rules (dS comes rules k is)=dS comes rules k is∧eh is (dS comes rules k is)
  | 0,is,h=>by
    have h1:=nF comes rules is
    have h2:=tN (ca comes rules is)
    have h3:=h1.cJ
    rw[← h1.1] at h2
    have h4:=tN is
    exact ⟨(h3.2 (by omega)).symm,.refl _⟩
  | k+1,is,h=>by
    simp only[dS]
    by_cases e:ca comes rules is=is
    · rw[if_pos e]; exact ⟨e,.refl _⟩
    · rw[if_neg e]
      have h1:=nF comes rules is
      have h3:=h1.cJ
      have:cJ is < cJ (ca comes rules is):=by
        rcases Nat.lt_or_ge (cJ is) (cJ (ca comes rules is)) with h | h
        · exact h
        · exact absurd (h3.2 (by omega)).symm e
      obtain ⟨g1,g2⟩:=rQ comes rules k (ca comes rules is) (by rw[← h1.1]; omega)
      exact ⟨g1,h1.trans g2⟩
def qM:SC :=
  .seq (ao [aF 26 .lss 25 24]) <|
  .seq (.cond (.tmp 26) (.skip) (.exit 4)) <|
  .seq (.block 5 (.seq (ao [aJ 27 1 23 25,ak 28 27,aa 11 28]) <|
  .seq (.region false [⟨none,[aa 29 7,aa 30 29]⟩,⟨(some (30,false)),[aa 31 1,aa 32 11,aJ 33 1 31 32,ak 34 33,bC 35 34]⟩,⟨none,[aX 36 30 35,aa 7 36]⟩]) <|
  ao [aa 37 1,aa 38 11,aJ 39 1 37 38,(none,.op (.store 1 (.tmp 39) (.val (.val (.bool true)))))])) <|
  ao [aq 40 .add 25 1,aa 25 40]
def qW:SC :=
  .seq (ao [aF 17 .lss 16 15]) <|
  .seq (.cond (.tmp 17) (.skip) (.exit 2)) <|
  .seq (.block 3 (.seq (ao [aJ 18 3 14 16,aG 19 3 18,((some 9),.op (.alloc [(.val (.int .i64 0)),(.emp 1),(.val (.int .i64 0))])),(none,.op (.store 3 (.tmp 9) (.tmp 19)))]) <|
  .seq (ao [aa 20 2,aG 21 3 9,aa 22 1,((some 23),.call (.tmp 20) [(.tmp 21),(.tmp 22)]),aC 24 23,ay 25 0]) <|
  .block 4 (.loop qM))) <|
  ao [aq 41 .add 16 1,aa 16 41]
def lK:SC :=
  .seq (.seq (ao [aa 12 7]) <|
  .cond (.tmp 12) (.skip) (.exit 0)) <|
  .block 1 (.seq (ao [aL 7 false]) <|
  .seq (ao [al 13 2 3,ak 14 13,aC 15 14,ay 16 0]) <|
  .block 2 (.loop qW))
def tD:SF:=⟨.seq (ao [bo 3 0,((some 6),.op (.aW (.val (.emp 1))))]) <|
  .seq (.seq (ao [aL 7 true]) <|
  .block 0 (.loop lK)) <|
  .seq (ao [aa 42 1,aa 6 42]) <|
  .ret,
  [.tmp 6],43⟩
theorem wE:aY Tryz.prog 220 [3]=some tD:=by kernel_rfl
theorem F0 {is:List Bool} {i:Nat} (h:is.getD i false=true):is.set i true=is:=by
  apply List.ext_getElem?
  intro j
  simp only[List.getD_eq_getElem?_getD] at h
  rw[List.getElem?_set]
  split
  · rename_i e; subst e
    split
    · rename_i hl; rw[List.getElem?_eq_getElem hl] at h ⊢; simp at h; simp[h]
    · rename_i hl; rw[List.getElem?_eq_none (by omega)] at h; simp at h
  · rfl
theorem Co {comes:bd→List Bool→List Int} {rules:List bd} {k:Nat} {is:List Bool} (h:ca comes rules is=is):dS comes rules k is=is:=by
  cases k with
  | zero=>rfl
  | succ k=>simp only[dS,h,if_true]
theorem CO {comes:bd→List Bool→List Int} {rules:List bd} {k:Nat} {is:List Bool} (h:¬ ca comes rules is=is) (hk:is.length≤cJ is+k):∃ j,k=j+1∧dS comes rules k is=dS comes rules j (ca comes rules is)∧(ca comes rules is).length≤cJ (ca comes rules is)+j:=by
  have h1:=nF comes rules is
  have h3:=h1.cJ
  have h5:=tN (ca comes rules is)
  have:cJ is < cJ (ca comes rules is):=by
    rcases Nat.lt_or_ge (cJ is) (cJ (ca comes rules is)) with h | h
    · exact h
    · exact absurd (h3.2 (by omega)).symm (by assumption)
  have hl:=h1.1
  obtain ⟨j,rfl⟩:∃ j,k=j+1:=⟨k - 1,by omega⟩
  exact ⟨j,rfl,by simp only[dS]; rw[if_neg h],by omega⟩
theorem FW {a is:List Bool} {i:Nat} {b:Bool} (hle:eh a is) (hi:i < is.length) (hb:b = !decide (is=a)):(b || !is.getD i false) = !decide (is.set i true=a):=by
  cases hx:is.getD i false with
  | true=>rw[F0 hx,hb]; simp
  | false =>
    have:¬ is.set i true=a:=fun e=>by
      have h1:(is.set i true).getD i false=true:=by simp[List.getD_eq_getElem?_getD,hi]
      rw[e] at h1
      have:=hle.2 i h1
      rw[hx] at this; simp at this
    simp[this]
set_option maxHeartbeats 8000000 in
theorem wX (g:aH) (hr:g.rules.length≤40) (comes:bd→List Bool→List Int) (f:FuncId) (capt capt':List V) (hok:bQ Tryz.prog f=true) (N:Nat) (hN:N≤16)
    (hc:∀ r∈g.rules,∀ is:List Bool,is.length=N→cI Tryz.prog f (.agg (bc r) :: cB is :: capt') (encI (comes r is))∧(comes r is).length≤100∧∀ n∈comes r is,cm n∧0≤n∧n < N)
    (id:Nat) (is0:List Bool) (his:is0.length=N) (H:View) (hH:H id=.arr 1 (eJ is0)) (hlent:∀ H':View,(∀ k,H k≠.dead→k≠id→H' k=H k)→kF H' capt capt') :
    aA Tryz.prog 220 [.agg (aw g),.sl id 0 N 1,.fn f [] capt] H fun r H'=>r=.sl id 0 N 1∧H' id=.arr 1 (eJ (dS comes g.rules 16 is0))∧∀ k,H k≠.dead→k≠id→H' k=H k:=by
  refine aA.of mixed wE ?_
  simp (disch:=omega) only [↓wr,↓reduceIte,wq,ai,ah,an,ab,ae,ag,aj,isNil,Nat.reduceEqDiff,Nat.reduceAdd,Nat.reduceLT,Nat.reduceLeDiff,Int.reduceNeg,Int.reduceToNat,reduceCtorEq,tD,aw,encS]
  refine bt.intro (fun k T H'=>∃ is:List Bool,is.length=N∧H' id=.arr 1 (eJ is)∧(∀ k,H k≠.dead→k≠id→H' k=H k)∧T 1=.sl id 0 N 1∧T 2=.fn f [] capt∧T 3=.aN (aw g) 0 ∧
    ((T 7=gb true∧∃ j,k=j+1∧dS comes g.rules j is=dS comes g.rules 16 is0∧N≤cJ is+j)∨(T 7=gb false∧is=dS comes g.rules 16 is0))) 17 ?_ ?_
  · exact ⟨is0,his,hH,fun _ _ _=>rfl,rfl,rfl,rfl,.inl ⟨rfl,16,rfl,rfl,by omega⟩⟩
  rintro k T H1 ⟨is,hlen,hid,hfr,t1,t2,t3,h7⟩
  rcases h7 with ⟨h7,j,rfl,hgr,hj⟩ | ⟨h7,hgr⟩
  · simp (disch:=omega) only [↓wr,↓reduceIte,wq,ai,ah,an,ab,ae,ag,aj,isNil,Nat.reduceEqDiff,Nat.reduceAdd,Nat.reduceLT,Nat.reduceLeDiff,Int.reduceNeg,Int.reduceToNat,reduceCtorEq,lK,t1,t2,t3,h7,aw,encS]
    refine bt.up g.rules.length (fun i T H'=>∃ jU:List Bool,jU.length=N∧eh is jU∧jU=(g.rules.take i).foldl (stepG comes) is∧H' id=.arr 1 (eJ jU)∧(∀ k,H k≠.dead→k≠id→H' k=H k)∧T 1=.sl id 0 N 1∧T 2=.fn f [] capt∧T 3=.aN (aw g) 0 ∧
      T 7=gb (!decide (jU=is))∧T 14=.aP (g.rules.map bc)∧T 15=gi g.rules.length∧T 16=gi i) ?_ ?_
    · exact ⟨is,hlen,.refl _,rfl,hid,hfr,t1,t2,t3,by simp; rfl,rfl,rfl,rfl⟩
    clear t1 t2 t3 h7 hid hfr
    rintro i k T H1 hk ⟨jU,hlen2,hle2,hst,hid,hfr,t1,t2,t3,h7,h14,h15,h16⟩
    simp (disch:=omega) only [↓wr,↓reduceIte,wq,ai,ah,an,ab,ae,ag,aj,isNil,Nat.reduceEqDiff,Nat.reduceAdd,Nat.reduceLT,Nat.reduceLeDiff,Int.reduceNeg,Int.reduceToNat,reduceCtorEq,qW,t1,t2,t3,h7,h14,h15,h16,aw,encS]
    refine ar.dec (fun hcc=>?_) (fun hcc=>?_)
    · have hg2:g.rules[i]?=some (g.rules[i]'(by omega)):=List.getElem?_eq_getElem (by omega)
      have hmem:g.rules[i]'(by omega)∈g.rules:=List.getElem_mem _
      have htk:(g.rules.take (i+1)).foldl (stepG comes) is=stepG comes ((g.rules.take i).foldl (stepG comes) is) (g.rules[i]'(by omega)):=by
        rw[List.take_add_one,hg2,List.foldl_append]; rfl
      generalize g.rules[i]'(by omega)=r at hg2 hmem htk
      obtain ⟨hcp,hcl,hcn⟩:=hc r hmem jU hlen2
      simp (disch:=omega) only [↓wr,↓reduceIte,wq,ai,ah,an,ab,ae,ag,aj,isNil,Nat.reduceEqDiff,Nat.reduceAdd,Nat.reduceLT,Nat.reduceLeDiff,Int.reduceNeg,Int.reduceToNat,reduceCtorEq,t1,t2,t3,h7,h14,h15,h16,bc,encI,List.getElem?_map,hg2]
      intro b hb
      have hbid:b≠id:=by rintro rfl; rw[hid] at hb; simp at hb
      try simp (disch:=omega) only [↓wr,↓reduceIte,wq,ai,ah,an,ab,ae,ag,aj,isNil,Nat.reduceEqDiff,Nat.reduceAdd,Nat.reduceLT,Nat.reduceLeDiff,Int.reduceNeg,Int.reduceToNat,reduceCtorEq,t1,t2,t3,h7,h14,h15,h16]
      refine aK.H0 hcp hok ⟨fS.tree (bP _ (dH r)),C4 (by simp[View.set,hbid.symm,hid]) hlen2.symm,hlent _ (fun k hk hki=>?_)⟩ ?_
      · have hkb:k≠b:=by
          rintro rfl
          rw[hfr k hk hki] at hb
          exact hk hb
        simp[View.set,hkb,hfr k hk hki]
      generalize hl:comes r jU=l at hcl hcn
      simp (disch:=omega) only [↓wr,↓reduceIte,wq,ai,ah,an,ab,ae,ag,aj,isNil,Nat.reduceEqDiff,Nat.reduceAdd,Nat.reduceLT,Nat.reduceLeDiff,Int.reduceNeg,Int.reduceToNat,reduceCtorEq,t1,t2,t3,h7,h14,h15,h16,encI]
      refine bt.up l.length (fun q T H'=>∃ is3:List Bool,is3.length=N∧eh is is3∧is3=mj jU (l.take q)∧H' id=.arr 1 (eJ is3)∧(∀ k,H k≠.dead→k≠id→H' k=H k)∧T 1=.sl id 0 N 1∧T 2=.fn f [] capt∧T 3=.aN (aw g) 0 ∧
        T 7=gb (!decide (is3=is))∧T 14=.aP (g.rules.map bc)∧T 15=gi g.rules.length∧T 16=gi i∧T 23=encI l∧T 24=gi l.length∧T 25=gi q) ?_ ?_
      · refine ⟨jU,hlen2,hle2,rfl,by simp[View.set,hbid.symm,hid],fun k hk hki=>?_,t1,t2,t3,h7,h14,h15,h16,rfl,rfl,rfl⟩
        have hkb:k≠b:=by
          rintro rfl
          rw[hfr k hk hki] at hb
          exact hk hb
        simp[View.set,hkb,hfr k hk hki]
      clear t1 t2 t3 h7 h14 h15 h16 hid hfr hb hbid
      rintro q k2 T H1 hk2 ⟨is3,hlen3,hle3,hst3,hid,hfr,t1,t2,t3,h7,h14,h15,h16,h23,h24,h25⟩
      simp (disch:=omega) only [↓wr,↓reduceIte,wq,ai,ah,an,ab,ae,ag,aj,isNil,Nat.reduceEqDiff,Nat.reduceAdd,Nat.reduceLT,Nat.reduceLeDiff,Int.reduceNeg,Int.reduceToNat,reduceCtorEq,qM,t1,t2,t3,h7,h14,h15,h16,h23,h24,h25,encI]
      refine ar.dec (fun hqc=>?_) (fun hqc=>?_)
      · have hgq:l[q]?=some (l[q]'(by omega)):=List.getElem?_eq_getElem (by omega)
        have hmq:l[q]'(by omega)∈l:=List.getElem_mem _
        have htq:mj jU (l.take (q+1))=(mj jU (l.take q)).set (l[q]'(by omega)).toNat true:=by
          unfold mj; rw[List.take_add_one,hgq,List.foldl_append]; rfl
        generalize l[q]'(by omega)=n at hgq hmq htq
        obtain ⟨⟨n1,n2⟩,n3,n4⟩:=hcn n hmq
        have hbn:is3.getD n.toNat false=is3[n.toNat]'(by omega):=by simp[List.getD_eq_getElem?_getD,show n.toNat < is3.length by omega]
        have hnew:=FW hle3 (show n.toNat < is3.length by omega) (b:=!decide (is3=is)) rfl
        rw[hbn] at hnew
        have hbg:=xA (show n.toNat < is3.length by omega)
        generalize is3[n.toNat]'(by omega)=x at hnew hbg hbn
        have fin:∀ (T2:Env),T2 7=gb (!decide (is3.set n.toNat true=is))→T2 1=.sl id 0 N 1→T2 2=.fn f [] capt→T2 3=.aN (aw g) 0→T2 14=.aP (g.rules.map bc)→T2 15=gi g.rules.length→T2 16=gi i→T2 23=encI l→T2 24=gi l.length→T2 25=gi ((q:Int)+1) →
            ∃ k',k' < k2∧AY l.length k' (fun q T H'=>∃ is3:List Bool,is3.length=N∧eh is is3∧is3=mj jU (l.take q)∧H' id=.arr 1 (eJ is3)∧(∀ k,H k≠.dead→k≠id→H' k=H k)∧T 1=.sl id 0 N 1∧T 2=.fn f [] capt∧T 3=.aN (aw g) 0 ∧
              T 7=gb (!decide (is3=is))∧T 14=.aP (g.rules.map bc)∧T 15=gi g.rules.length∧T 16=gi i∧T 23=encI l∧T 24=gi l.length∧T 25=gi q) T2 (H1.set id (.arr 1 (eJ (is3.set n.toNat true)))):=by
          intro T2 a7 a1 a2 a3 a14 a15 a16 a23 a24 a25
          refine bw hk2 (by omega) ⟨is3.set n.toNat true,by simp[hlen3],hle3.trans (.set _ _),by rw[htq,← hst3],by simp[View.set],fun k hk hki=>by simp[View.set,hki,hfr k hk hki],a1,a2,a3,a7,a14,a15,a16,a23,a24,by rw[a25]; rfl⟩
        simp (disch:=omega) only [↓wr,↓reduceIte,wq,ai,ah,an,ab,ae,ag,aj,isNil,Nat.reduceEqDiff,Nat.reduceAdd,Nat.reduceLT,Nat.reduceLeDiff,Int.reduceNeg,Int.reduceToNat,reduceCtorEq,t1,t2,t3,h7,h14,h15,h16,h23,h24,h25,encI,List.getElem?_map,hgq]
        refine ar.dec (fun e=>?_) (fun e=>?_)
        · simp (disch:=omega) only [↓wr,↓reduceIte,wq,ai,ah,an,ab,ae,ag,aj,isNil,Nat.reduceEqDiff,Nat.reduceAdd,Nat.reduceLT,Nat.reduceLeDiff,Int.reduceNeg,Int.reduceToNat,reduceCtorEq,t1,t2,t3,h7,h14,h15,h16,h23,h24,h25,encI,hid,hbg,List.length_map]
          refine ⟨by omega,by omega,?_⟩
          try simp (disch:=omega) only [↓wr,↓reduceIte,wq,ai,ah,an,ab,ae,ag,aj,isNil,Nat.reduceEqDiff,Nat.reduceAdd,Nat.reduceLT,Nat.reduceLeDiff,Int.reduceNeg,Int.reduceToNat,reduceCtorEq,t1,t2,t3,h7,h14,h15,h16,h23,h24,h25,encI,hid,hbg,List.length_map]
          refine ⟨by omega,by omega,?_⟩
          rw[rG]
          exact fin _ (by rw[← hnew]; simp[e]; rfl) t1 t2 t3 h14 h15 h16 h23 h24 rfl
        · simp (disch:=omega) only [↓wr,↓reduceIte,wq,ai,ah,an,ab,ae,ag,aj,isNil,Nat.reduceEqDiff,Nat.reduceAdd,Nat.reduceLT,Nat.reduceLeDiff,Int.reduceNeg,Int.reduceToNat,reduceCtorEq,t1,t2,t3,h7,h14,h15,h16,h23,h24,h25,encI,hid,hbg,List.length_map]
          refine ⟨by omega,by omega,?_⟩
          rw[rG]
          exact fin _ (by rw[← hnew]; simp[e]; rfl) t1 t2 t3 h14 h15 h16 h23 h24 rfl
      · rw[List.take_of_length_le (by omega)] at hst3
        simp (disch:=omega) only [↓wr,↓reduceIte,wq,ai,ah,an,ab,ae,ag,aj,isNil,Nat.reduceEqDiff,Nat.reduceAdd,Nat.reduceLT,Nat.reduceLeDiff,Int.reduceNeg,Int.reduceToNat,reduceCtorEq,t1,t2,t3,h7,h14,h15,h16,h23,h24,h25]
        refine bw hk (by omega) ⟨is3,hlen3,hle3,?_,hid,hfr,t1,t2,t3,h7,h14,h15,rfl⟩
        rw[htk,← hst,stepG,hl,← hst3]
    · rw[List.take_of_length_le (by omega)] at hst
      simp (disch:=omega) only [↓wr,↓reduceIte,wq,ai,ah,an,ab,ae,ag,aj,isNil,Nat.reduceEqDiff,Nat.reduceAdd,Nat.reduceLT,Nat.reduceLeDiff,Int.reduceNeg,Int.reduceToNat,reduceCtorEq,t1,t2,t3,h7,h14,h15,h16]
      have hrd:jU=ca comes g.rules is:=hst
      by_cases e:jU=is
      · refine ⟨0,by omega,jU,hlen2,hid,hfr,rfl,.inr ⟨by simp[e],?_⟩⟩
        rw[← hgr,e]
        exact (Co (by rw[← hrd]; exact e)).symm
      · obtain ⟨j2,rfl,e2,e3⟩:=CO (k:=j) (fun h=>e (hrd.trans h)) (by rw[hlen]; exact hj)
        refine ⟨j2+1,by omega,jU,hlen2,hid,hfr,rfl,.inl ⟨by simp[e],j2,rfl,?_,?_⟩⟩
        · rw[← hgr,e2,hrd]
        · rw[← hrd,hlen2] at e3; exact e3
  · simp (disch:=omega) only [↓wr,↓reduceIte,wq,ai,ah,an,ab,ae,ag,aj,isNil,Nat.reduceEqDiff,Nat.reduceAdd,Nat.reduceLT,Nat.reduceLeDiff,Int.reduceNeg,Int.reduceToNat,reduceCtorEq,lK,t1,t2,t3,h7,aw,encS]
    exact ⟨hgr ▸ hid,hfr⟩
theorem tK {α:Type} {f:α→α} {x:α} (h:f x=x):∀ n,iter f n x=x
  | 0=>rfl
  | n+1=>by rw[iter,h,tK h n]
theorem zL {α:Type} (f:α→α):∀ (a b:Nat) (x:α),iter f (a+b) x=iter f b (iter f a x)
  | 0,b,x=>by rw[Nat.zero_add]; rfl
  | a+1,b,x=>by rw[Nat.add_right_comm,iter,iter,zL f a b]
theorem vm (comes:bd→List Bool→List Int) (rules:List bd):∀ (k:Nat) (is:List Bool),dS comes rules k is=iter (ca comes rules) k is
  | 0,is=>rfl
  | k+1,is=>by
    simp only[dS,iter]
    by_cases e:ca comes rules is=is
    · rw[if_pos e,e,tK e]
    · rw[if_neg e,vm comes rules k]
theorem r5 (comes:bd→List Bool→List Int) (rules:List bd) (is:List Bool) (h:is.length≤16):dS comes rules 16 is=iter (ca comes rules) is.length is:=by
  have h1:=(rQ comes rules is.length is (by omega)).1
  rw[vm] at h1 ⊢
  obtain ⟨m,hm⟩:∃ m,16=is.length+m:=⟨16 - is.length,by omega⟩
  rw[hm,zL,tK h1]
def jA (t:Bool) (r:bd) (is:List Bool):List Int:=if e9 r.right is t=true then [r.left] else []
def mV (p:List Bool) (r:bd) (is:List Bool):List Int:=if (is.getD r.left.toNat false && e9 r.right p true)=true then dD r.right else []
theorem Hm (g:aH) (t:Bool):ca (jA t) g.rules=pB g t:=by
  funext is
  unfold ca pB
  congr 1
  funext is r
  unfold stepG jA jI
  split <;> rfl
theorem u6:∀ (l:List Int) (is:List Bool),mj is (dD l)=l.foldl mark is
  | [],is=>rfl
  | s :: l,is=>by
    have ih:=u6 l
    unfold mj dD at ih ⊢
    rw[List.foldl_cons,← ih]
    unfold mark
    by_cases h:s < 0
    · rw[if_pos h,List.filter_cons_of_pos (by simpa using h)]; rfl
    · rw[if_neg h,List.filter_cons_of_neg (by simpa using h)]
theorem A4 (g:aH) (p:List Bool):ca (mV p) g.rules=sw g p:=by
  funext is
  unfold ca sw
  congr 1
  funext is r
  unfold stepG mV jy
  split
  · exact u6 _ _
  · rfl
theorem DT {g:aH} (h:bq g=true) (t:Bool):dS (jA t) g.rules 16 (bX g)=bj g t:=by
  have hf:=bY h
  have hl:(bX g).length=g.aM.length:=by simp[bX]
  have:=hf.aM
  rw[r5 _ _ _ (by rw[hl]; exact hf.aM),Hm,hl,bj,if_pos h]
theorem DX {g:aH} (h:bq g=true):dS (mV (bj g true)) g.rules 16 ((bX g).set g.start.toNat true)=bS g:=by
  have hf:=bY h
  have hl:((bX g).set g.start.toNat true).length=g.aM.length:=by simp[bX]
  rw[r5 _ _ _ (by rw[hl]; exact hf.aM),A4,hl,bS,if_pos h]
def nt:SF:=⟨.seq (ao [bo 1 0,((some 2),.op (.aW (.val (.emp 1))))]) <|
  .seq (.seq (ao [aG 3 4 1,aB 4 64 [3],bC 5 4]) <|
  .cond (.tmp 5) (.seq (ao [((some 2),.op (.aW (.val (.emp 1))))]) <|
  .ret) (.skip)) <|
  .seq (ao [aG 6 4 1,al 7 1 1,ak 8 7,aC 9 8,((some 10),.op (.make 1 1 [(.val (.bool false))] (.tmp 9) (.tmp 9))),bT 11 220 [(.tmp 6),(.tmp 10),(.val (.fn 235 [] []))],aa 2 11]) <|
  .ret,
  [.tmp 2],12⟩
theorem sC:aY Tryz.prog 187 [1]=some nt:=by kernel_rfl
def lR:SF:=⟨.seq (ao [bo 1 0,((some 2),.op (.aW (.val (.emp 1))))]) <|
  .seq (.seq (ao [aG 3 4 1,aB 4 64 [3],bC 5 4]) <|
  .cond (.tmp 5) (.seq (ao [((some 2),.op (.aW (.val (.emp 1))))]) <|
  .ret) (.skip)) <|
  .seq (ao [aG 6 4 1,al 7 1 1,ak 8 7,aC 9 8,((some 10),.op (.make 1 1 [(.val (.bool false))] (.tmp 9) (.tmp 9))),bT 11 220 [(.tmp 6),(.tmp 10),(.val (.fn 221 [] []))],aa 2 11]) <|
  .ret,
  [.tmp 2],12⟩
theorem p9:aY Tryz.prog 174 [1]=some lR:=by kernel_rfl
def m4:SF:=⟨.seq (ao [bo 1 0,((some 2),.op (.aW (.val (.emp 1))))]) <|
  .seq (.seq (ao [aG 5 4 1,aB 6 64 [5],bC 7 6]) <|
  .cond (.tmp 7) (.seq (ao [((some 2),.op (.aW (.val (.emp 1))))]) <|
  .ret) (.skip)) <|
  .seq (ao [aG 8 4 1,aB 9 174 [8],((some 3),.op (.alloc [(.emp 1)])),(none,.op (.store 1 (.tmp 3) (.tmp 9)))]) <|
  .seq (ao [al 10 1 1,ak 11 10,aC 12 11,((some 13),.op (.make 1 1 [(.val (.bool false))] (.tmp 12) (.tmp 12))),aa 4 13]) <|
  .seq (ao [aa 14 4,al 15 3 1,ak 16 15,aJ 17 1 14 16,(none,.op (.store 1 (.tmp 17) (.val (.val (.bool true)))))]) <|
  .seq (ao [aG 18 4 1,aa 19 4,((some 20),.op (.iA 222 [] [(.tmp 3)])),aB 21 220 [18,19,20],aa 2 21]) <|
  .ret,
  [.tmp 2],22⟩
theorem q5:aY Tryz.prog 175 [1]=some m4:=by kernel_rfl
structure aH.Small (g:aH):Prop where
  names:g.aM.length+g.aE.length≤1000
theorem so {h':ax} {id n:Nat} {is:List Bool} (hv:h'.view id=.arr 1 (eJ is)) (hn:n=is.length):ew h' (.sl id 0 n 1) (cB is):=by
  subst hn; exact Ed hv
set_option maxHeartbeats 2000000 in
theorem zH (g:aH) (hg:g.Ok) (hs:g.Small):cI Tryz.prog 187 [.agg (aw g)] (cB (bj g false)):=by
  refine cI.of (fN g) ?_
  refine aA.of mixed sC ?_
  have hn:=hg.aM
  unfold aU at hn
  simp (disch:=omega) only [↓wr,↓reduceIte,wq,ai,ah,an,ab,ae,ag,aj,isNil,Nat.reduceEqDiff,Nat.reduceAdd,Nat.reduceLT,Nat.reduceLeDiff,Int.reduceNeg,Int.reduceToNat,reduceCtorEq,nt,aw,encS]
  refine aK.pure (iU g hg hs.names) (by kernel_rfl) ?_
  repeat' (first | (refine ar.dec (fun _=>?_) (fun _=>?_)) | (refine ar.eq (fun _=>?_) (fun _=>?_)) | (refine ar.ne (fun _=>?_) (fun _=>?_)) | (refine ar.split (fun _=>?_) (fun _=>?_)) | (simp (disch:=omega) only [↓wr,↓reduceIte,wq,ai,ah,an,ab,ae,ag,aj,isNil,Nat.reduceEqDiff,Nat.reduceAdd,Nat.reduceLT,Nat.reduceLeDiff,Int.reduceNeg,Int.reduceToNat,reduceCtorEq,aw,encS]))
  · rename_i hr
    have hf:=bY hr
    have h1:=hf.yC
    have h2:=hf.aM
    try simp (disch:=omega) only [↓wr,↓reduceIte,wq,ai,ah,an,ab,ae,ag,aj,isNil,Nat.reduceEqDiff,Nat.reduceAdd,Nat.reduceLT,Nat.reduceLeDiff,Int.reduceNeg,Int.reduceToNat,reduceCtorEq,aw,encS]
    refine ⟨⟨by omega,by unfold aZ; omega,by unfold aZ; omega⟩,fun h=>by omega,?_⟩
    intro _ n
    try simp (disch:=omega) only [↓wr,↓reduceIte,wq,ai,ah,an,ab,ae,ag,aj,isNil,Nat.reduceEqDiff,Nat.reduceAdd,Nat.reduceLT,Nat.reduceLeDiff,Int.reduceNeg,Int.reduceToNat,reduceCtorEq,aw,encS]
    refine aK.mJ ((wX g hf.rules (jA false) 235 [] [] (by kernel_rfl) g.aM.length h2 (fun r hr' is his=>⟨zK r is (by rw[his]; exact hf.rW hg hr'),?_,?_⟩) n (bX g) (by simp[bX]) _ (by simp[View.set,bX]) (fun H' _=>trivial)).mono ?_)
    · unfold jA; split <;> simp
    · intro m hm
      unfold jA at hm
      split at hm
      · simp only[List.mem_singleton] at hm; subst hm
        exact ⟨(hg.fQ r hr').1,hf.left r hr'⟩
      · simp at hm
    · rintro r H' ⟨rfl,hid,_⟩
      simp (disch:=omega) only [↓wr,↓reduceIte,wq,ai,ah,an,ab,ae,ag,aj,isNil,Nat.reduceEqDiff,Nat.reduceAdd,Nat.reduceLT,Nat.reduceLeDiff,Int.reduceNeg,Int.reduceToNat,reduceCtorEq]
      intro h' hh
      rw[DT hr] at hid
      exact so (by rw[hh]; exact hid) (kG hr _).symm
  · rename_i hr
    intro h' hh
    simp only[bj,hr]
    exact .emp _
set_option maxHeartbeats 2000000 in
theorem pa (g:aH) (hg:g.Ok) (hs:g.Small):cI Tryz.prog 174 [.agg (aw g)] (cB (bj g true)):=by
  refine cI.of (fN g) ?_
  refine aA.of mixed p9 ?_
  have hn:=hg.aM
  unfold aU at hn
  simp (disch:=omega) only [↓wr,↓reduceIte,wq,ai,ah,an,ab,ae,ag,aj,isNil,Nat.reduceEqDiff,Nat.reduceAdd,Nat.reduceLT,Nat.reduceLeDiff,Int.reduceNeg,Int.reduceToNat,reduceCtorEq,lR,aw,encS]
  refine aK.pure (iU g hg hs.names) (by kernel_rfl) ?_
  repeat' (first | (refine ar.dec (fun _=>?_) (fun _=>?_)) | (refine ar.eq (fun _=>?_) (fun _=>?_)) | (refine ar.ne (fun _=>?_) (fun _=>?_)) | (refine ar.split (fun _=>?_) (fun _=>?_)) | (simp (disch:=omega) only [↓wr,↓reduceIte,wq,ai,ah,an,ab,ae,ag,aj,isNil,Nat.reduceEqDiff,Nat.reduceAdd,Nat.reduceLT,Nat.reduceLeDiff,Int.reduceNeg,Int.reduceToNat,reduceCtorEq,aw,encS]))
  · rename_i hr
    have hf:=bY hr
    have h1:=hf.yC
    have h2:=hf.aM
    try simp (disch:=omega) only [↓wr,↓reduceIte,wq,ai,ah,an,ab,ae,ag,aj,isNil,Nat.reduceEqDiff,Nat.reduceAdd,Nat.reduceLT,Nat.reduceLeDiff,Int.reduceNeg,Int.reduceToNat,reduceCtorEq,aw,encS]
    refine ⟨⟨by omega,by unfold aZ; omega,by unfold aZ; omega⟩,fun h=>by omega,?_⟩
    intro _ n
    try simp (disch:=omega) only [↓wr,↓reduceIte,wq,ai,ah,an,ab,ae,ag,aj,isNil,Nat.reduceEqDiff,Nat.reduceAdd,Nat.reduceLT,Nat.reduceLeDiff,Int.reduceNeg,Int.reduceToNat,reduceCtorEq,aw,encS]
    refine aK.mJ ((wX g hf.rules (jA true) 221 [] [] (by kernel_rfl) g.aM.length h2 (fun r hr' is his=>⟨w9 r is (by rw[his]; exact hf.rW hg hr'),?_,?_⟩) n (bX g) (by simp[bX]) _ (by simp[View.set,bX]) (fun H' _=>trivial)).mono ?_)
    · unfold jA; split <;> simp
    · intro m hm
      unfold jA at hm
      split at hm
      · simp only[List.mem_singleton] at hm; subst hm
        exact ⟨(hg.fQ r hr').1,hf.left r hr'⟩
      · simp at hm
    · rintro r H' ⟨rfl,hid,_⟩
      simp (disch:=omega) only [↓wr,↓reduceIte,wq,ai,ah,an,ab,ae,ag,aj,isNil,Nat.reduceEqDiff,Nat.reduceAdd,Nat.reduceLT,Nat.reduceLeDiff,Int.reduceNeg,Int.reduceToNat,reduceCtorEq]
      intro h' hh
      rw[DT hr] at hid
      exact so (by rw[hh]; exact hid) (kG hr _).symm
  · rename_i hr
    intro h' hh
    simp only[bj,hr]
    exact .emp _
theorem oE {g:aH} (hr:bq g=true):(bS g).length=g.aM.length:=by
  rw[bS,if_pos hr,tR (f:=sw g (bj g true)) (fun is=>uw (fun is x=>Fc _ is x) g.rules is)]
  simp[bX]
set_option maxHeartbeats 2000000 in
theorem yd (g:aH) (hg:g.Ok) (hs:g.Small):cI Tryz.prog 175 [.agg (aw g)] (cB (bS g)):=by
  refine cI.of (fN g) ?_
  refine aA.of mixed q5 ?_
  have hn:=hg.aM
  unfold aU at hn
  simp (disch:=omega) only [↓wr,↓reduceIte,wq,ai,ah,an,ab,ae,ag,aj,isNil,Nat.reduceEqDiff,Nat.reduceAdd,Nat.reduceLT,Nat.reduceLeDiff,Int.reduceNeg,Int.reduceToNat,reduceCtorEq,m4,aw,encS]
  refine aK.pure (iU g hg hs.names) (by kernel_rfl) ?_
  repeat' (first | (refine ar.dec (fun _=>?_) (fun _=>?_)) | (refine ar.eq (fun _=>?_) (fun _=>?_)) | (refine ar.ne (fun _=>?_) (fun _=>?_)) | (refine ar.split (fun _=>?_) (fun _=>?_)) | (simp (disch:=omega) only [↓wr,↓reduceIte,wq,ai,ah,an,ab,ae,ag,aj,isNil,Nat.reduceEqDiff,Nat.reduceAdd,Nat.reduceLT,Nat.reduceLeDiff,Int.reduceNeg,Int.reduceToNat,reduceCtorEq,aw,encS]))
  · rename_i hr
    have hf:=bY hr
    have h1:=hf.yC
    have h2:=hf.aM
    have h3:=hf.uY
    have h4:=hf.start
    have hpl:=kG hr true
    try simp (disch:=omega) only [↓wr,↓reduceIte,wq,ai,ah,an,ab,ae,ag,aj,isNil,Nat.reduceEqDiff,Nat.reduceAdd,Nat.reduceLT,Nat.reduceLeDiff,Int.reduceNeg,Int.reduceToNat,reduceCtorEq,aw,encS]
    refine aK.pure (pa g hg hs).pure (by kernel_rfl) ?_
    simp (disch:=omega) only [↓wr,↓reduceIte,wq,ai,ah,an,ab,ae,ag,aj,isNil,Nat.reduceEqDiff,Nat.reduceAdd,Nat.reduceLT,Nat.reduceLeDiff,Int.reduceNeg,Int.reduceToNat,reduceCtorEq,aw,encS,cB]
    intro q
    try simp (disch:=omega) only [↓wr,↓reduceIte,wq,ai,ah,an,ab,ae,ag,aj,isNil,Nat.reduceEqDiff,Nat.reduceAdd,Nat.reduceLT,Nat.reduceLeDiff,Int.reduceNeg,Int.reduceToNat,reduceCtorEq,aw,encS,set_set]
    refine ⟨⟨by omega,by unfold aZ; omega,by unfold aZ; omega⟩,fun h=>by omega,?_⟩
    intro _ n hn'
    have hnq:=(dZ hn' ep).1
    try simp (disch:=omega) only [↓wr,↓reduceIte,wq,ai,ah,an,ab,ae,ag,aj,isNil,Nat.reduceEqDiff,Nat.reduceAdd,Nat.reduceLT,Nat.reduceLeDiff,Int.reduceNeg,Int.reduceToNat,reduceCtorEq,aw,encS,set_set]
    have hbg:=xA (is:=bX g) (show g.start.toNat < (bX g).length by simp[bX]; omega)
    refine ⟨by omega,by simp; omega,?_⟩
    refine aK.mJ ((wX g hf.rules (mV (bj g true)) 222 [.ptr q 0 0] [.aN [cB (bj g true)] 0] (by kernel_rfl) g.aM.length h2 (fun r hr' is his=>⟨ym r is (bj g true) (by rw[his]; exact hf.rW hg hr') (by rw[his,hpl]),?_,?_⟩) n ((bX g).set g.start.toNat true) (by simp[bX]) _ ?_ (fun H' hfr=>⟨fS.box (z:=1) ?_ ?_,trivial⟩)).mono ?_)
    · have h6:=hf.right r hr'
      unfold mV
      split
      · have:(dD r.right).length≤r.right.length:=by simp only[dD,List.length_map]; exact List.length_filter_le _ _
        omega
      · simp
    · intro m hm
      unfold mV at hm
      split at hm
      · simp only[dD,List.mem_map,List.mem_filter,decide_eq_true_eq] at hm
        obtain ⟨s,⟨hs',hneg⟩,rfl⟩:=hm
        have a:=hf.neg hr' hs' hneg
        have b:=((hg.fQ r hr').2.2.2 s hs').1
        exact ⟨⟨by omega,by omega⟩,by omega,a⟩
      · simp at hm
    · simp only[View.set,if_true]
      congr 1
      rw[← rG]
      unfold bX at hbg ⊢
      rw[DD,hbg]
      rfl
    · rw[hfr q (by simp[View.set,Ne.symm hnq]) (Ne.symm hnq)]
      simp[View.set,Ne.symm hnq]
      rfl
    · intro v hv; simp at hv; subst hv; exact iK _
    · rintro r H' ⟨rfl,hid,_⟩
      simp (disch:=omega) only [↓wr,↓reduceIte,wq,ai,ah,an,ab,ae,ag,aj,isNil,Nat.reduceEqDiff,Nat.reduceAdd,Nat.reduceLT,Nat.reduceLeDiff,Int.reduceNeg,Int.reduceToNat,reduceCtorEq]
      intro h' hh
      rw[DX hr] at hid
      exact so (by rw[hh]; exact hid) (by rw[oE hr])
  · rename_i hr
    intro h' hh
    simp only[bS,hr]
    exact .emp _
def cF (p q:List Bool) (r:bd):Bool:=q.getD r.left.toNat false && e9 r.right p true
def cx (p q:List Bool):List bd→Int→List Int
  | [],_=>[]
  | r :: l,i=>if cF p q r=true then i :: cx p q l (i+1) else cx p q l (i+1)
def oG (acc:List Int) (r:bd):List Int:=if r.left∈acc then acc else acc ++ [r.left]
def cD (p q:List Bool) (l:List bd):List Int:=(l.filter (cF p q)).foldl oG []
def mK (o:List Int) (x:Int):Int:=dC (fun y=>y == x) o 0
def cw (f:Int→Int) (r:bd):bd:=⟨f r.left,r.right.map fun s=>if s < 0 then -1 - f (-1 - s) else s,r.prec⟩
def uk (g:aH) (f:Int→Int) (p q:List Bool):aH :=
  ⟨g.aE,(cD p q g.rules).map fun x=>g.aM.getD x.toNat ⟨#[]⟩,(g.rules.filter (cF p q)).map (cw f),f g.start⟩
def qP:aH:=⟨[],[],[],0⟩
instance:DecidableEq Term:=fun a b=>decidable_of_iff (a.name=b.name∧a.level=b.level∧a.assoc=b.assoc) (by cases a; cases b; simp)
instance:DecidableEq bd:=fun a b=>decidable_of_iff (a.left=b.left∧a.prec=b.prec∧a.right=b.right) (by cases a; cases b; simp[and_comm])
instance:DecidableEq aH:=fun a b=>decidable_of_iff (a.aE=b.aE∧a.aM=b.aM∧a.rules=b.rules∧a.start=b.start) (by cases a; cases b; simp)
def kD (g:aH):aH × List Int × Int :=
  if bq g=true then
    if (bj g true).getD g.start.toNat false=true then (uk g (mK (cD (bj g true) (bS g) g.rules)) (bj g true) (bS g),cx (bj g true) (bS g) g.rules 0,0)
    else (qP,[],9)
  else (qP,[],1)
theorem mN (p q:List Bool):∀ (a b:List bd) (i:Int),cx p q (a ++ b) i=cx p q a i ++ cx p q b (i+a.length)
  | [],b,i=>by simp[cx]
  | r :: a,b,i=>by
    simp only[List.cons_append,cx,mN p q a b (i+1),List.length_cons]
    have:i+1+(a.length:Int)=i+((a.length+1:Nat):Int):=by push_cast; omega
    rw[this]
    split <;> simp
theorem nA (p q:List Bool):∀ (a:List bd) (i:Int),(cx p q a i).length=(a.filter (cF p q)).length
  | [],i=>rfl
  | r :: a,i=>by
    simp only[cx,List.filter_cons]
    split <;> simp[nA p q a]
theorem sA (p q:List Bool):∀ (a:List bd) (i:Int) (k:Nat),k < (cx p q a i).length→∃ m:Nat,(cx p q a i)[k]?=some (i+m)∧a[m]?=(a.filter (cF p q))[k]?∧m < a.length
  | [],i,k,h=>by simp[cx] at h
  | r :: a,i,k,h=>by
    simp only[cx,List.filter_cons] at h ⊢
    by_cases hr:cF p q r=true
    · rw[if_pos hr] at h ⊢
      rw[if_pos hr]
      cases k with
      | zero=>exact ⟨0,by simp,by simp,by simp⟩
      | succ k =>
        obtain ⟨m,h1,h2,h3⟩:=sA p q a (i+1) k (by simpa using h)
        exact ⟨m+1,by rw[List.getElem?_cons_succ,h1]; congr 1; push_cast; omega,by simpa using h2,by simpa using h3⟩
    · rw[if_neg hr] at h ⊢
      rw[if_neg hr]
      obtain ⟨m,h1,h2,h3⟩:=sA p q a (i+1) k h
      exact ⟨m+1,by rw[h1]; congr 1; push_cast; omega,by simpa using h2,by simpa using h3⟩
theorem xx (p q:List Bool) (l:List bd) (r:bd):cD p q (l ++ [r])=if cF p q r=true then oG (cD p q l) r else cD p q l:=by
  unfold cD
  rw[List.filter_append]
  by_cases h:cF p q r=true
  · rw[if_pos h,List.filter_cons_of_pos h,List.foldl_append]; rfl
  · rw[if_neg h,List.filter_cons_of_neg h]; simp
theorem FU {o:List Int} {x:Int} : mK o x < 0↔x ∉ o:=by
  have:=kh (fun y=>y == x) o 0 (by omega)
  unfold mK
  rw[← Int.not_le]
  constructor
  · intro h hx
    have e:(o.any fun y=>y == x)=true:=List.any_eq_true.2 ⟨x,hx,by simp⟩
    rw[e] at this; exact h (by simpa using this)
  · intro h hx
    have e:(o.any fun y=>y == x)=true:=by rw[← this]; simpa using hx
    obtain ⟨y,hy,e⟩:=List.any_eq_true.1 e
    simp at e; subst e; exact h hy
theorem Hf {o:List Int} {x:Int} (h:x∈o):0≤mK o x∧mK o x < o.length:=by
  have h0:¬ mK o x < 0:=fun e=>FU.1 e h
  refine ⟨by omega,?_⟩
  unfold mK
  have:∀ (l:List Int) (i:Int),dC (fun z=>z == x) l i < i+l.length∨dC (fun z=>z == x) l i = -1:=by
    intro l
    induction l with
    | nil=>intro i; right; rfl
    | cons z l ih =>
      intro i
      simp only[dC]
      split
      · left; simp; omega
      · rcases ih (i+1) with h | h
        · left; simp at h ⊢; omega
        · right; exact h
  rcases this o 0 with h1 | h1
  · simpa using h1
  · unfold mK at h0; omega
def fC:List Int→Int→List (Int × Int)
  | [],_=>[]
  | x :: l,i=>(x,i) :: fC l (i+1)
theorem nN (x:Int):∀ (o:List Int) (i:Int),cg (fC o i) x=if x∈o then some (dC (fun y=>y == x) o i) else none
  | [],i=>by simp[fC,cg]
  | y :: o,i=>by
    have ih:=nN x o (i+1)
    unfold cg at ih ⊢
    simp only[fC,List.find?_cons,dC]
    by_cases e:x=y
    · subst e; simp
    · have e2:¬ ((y == x)=true):=by simp[Ne.symm e]
      rw[show (x == y)=false by simp[e],if_neg e2]
      simp only
      rw[ih]
      simp[e]
theorem xK {x v:Int} : ∀ {o:List Int} {i:Int},x ∉ o→fR x v (fC o i)=fC o i ++ [(x,v)]
  | [],i,_=>rfl
  | y :: o,i,h=>by
    simp only[List.mem_cons,not_or] at h
    simp only[fC,fR,show (x == y)=false by simp[h.1],Bool.false_eq_true,if_false,xK h.2,List.cons_append]
theorem uE {x:Int} : ∀ {o:List Int} {i:Int},fC (o ++ [x]) i=fC o i ++ [(x,i+o.length)]
  | [],i=>by simp[fC]
  | y :: o,i=>by
    simp only[List.cons_append,fC,uE (o:=o),List.length_cons]
    congr 4
    push_cast; omega
def b7 (o:List Int) (x:Int):Int:=(cg (fC o 0) x).getD 0
theorem sX {o:List Int} {x:Int} (h:x∈o):b7 o x=mK o x:=by
  simp[b7,nN,h,mK]
theorem GN (o:List Int) (x:Int):0≤b7 o x∧b7 o x≤o.length:=by
  by_cases h:x∈o
  · rw[sX h]; have:=Hf h; omega
  · simp[b7,nN,h]
theorem D0 {g:aH} {p q:List Bool} (hst:g.start∈cD p q g.rules) (hin:∀ r∈g.rules.filter (cF p q),r.left∈cD p q g.rules∧∀ s∈r.right,s < 0→-1 - s∈cD p q g.rules) :
    uk g (b7 (cD p q g.rules)) p q=uk g (mK (cD p q g.rules)) p q:=by
  unfold uk
  congr 1
  · apply List.map_congr_left
    intro r hr
    obtain ⟨h1,h2⟩:=hin r hr
    unfold cw
    congr 1
    · exact sX h1
    · apply List.map_congr_left
      intro s hs
      split
      · rename_i h; rw[sX (h2 s hs h)]
      · rfl
  · exact sX hst
theorem pk:∀ (l:List bd) (acc:List Int) (x:Int),x∈l.foldl oG acc↔x∈acc∨∃ r∈l,r.left=x
  | [],acc,x=>by simp
  | r :: l,acc,x=>by
    rw[List.foldl_cons,pk l]
    have:x∈oG acc r↔x∈acc∨r.left=x:=by
      unfold oG
      split
      · rename_i h
        constructor
        · exact .inl
        · rintro (h' | rfl)
          · exact h'
          · exact h
      · simp[eq_comm]
    rw[this]
    simp only[List.mem_cons,exists_eq_or_imp]
    constructor
    · rintro ((h | h) | h)
      · exact .inl h
      · exact .inr (.inl h)
      · exact .inr (.inr h)
    · rintro (h | h | h)
      · exact .inl (.inl h)
      · exact .inl (.inr h)
      · exact .inr h
theorem ze {p q:List Bool} {l:List bd} {x:Int} : x∈cD p q l↔∃ r∈l,cF p q r=true∧r.left=x:=by
  unfold cD
  rw[pk]
  simp[List.mem_filter,and_assoc]
abbrev gg (l:List Int):List (List V):=l.map fun x=>[gi x]
abbrev nC (l:List ByteArray):List (List V):=l.map fun s=>[gs s]
theorem zV {l:List Int} {i:Nat} (h:i < l.length):(gg l).getD i []=[gi l[i]]:=by simp[List.getD_eq_getElem?_getD,h]
theorem ints_set (l:List Int) (i:Nat) (x:Int):(gg l).set i [gi x]=gg (l.set i x):=by simp[List.map_set]
abbrev u7:=List (V × bd)
def gq (b:u7):List (List V):=b.map fun x=>[gi x.2.left,x.1,gi x.2.prec]
def oV (b:u7):List fc:=b.map fun x=>(x.1,1,gg x.2.right)
theorem EK {h:ax} {u:V} {b:u7} (ho:bk h.view u 3 (gq b)) (hb:∀ x∈oV b,bk h.view x.1 x.2.1 x.2.2):ew h u (.aP ((b.map (·.2)).map bc)):=by
  refine ew.own ho (by simp[gq]) (fun i hi=>?_) (fun i j hi hj=>?_)
  all_goals
    simp only[gq,List.length_map] at hi
    have e1:(gq b).getD i []=[gi b[i].2.left,b[i].1,gi b[i].2.prec]:=by simp[gq,List.getD_eq_getElem?_getD,hi]
    have e2:((b.map (·.2)).map bc).getD i []=bc b[i].2:=by simp[List.getD_eq_getElem?_getD,hi]
  · rw[e1,e2]; rfl
  · rw[e1,e2]
    rw[e2] at hj
    have hm:b[i]∈b:=List.getElem_mem _
    have ho:=hb (b[i].1,1,gg b[i].2.right) (List.mem_map.2 ⟨_,hm,rfl⟩)
    match j,hj with
    | 0,_=>exact .val _
    | 1,_=>exact mI ho
    | 2,_=>exact .val _
    | n+3,hj=>exact absurd hj (by simp only[bc,List.length_cons,List.length_nil]; omega)
theorem Gh {h:ax} {u:V} {l:List ByteArray} (ho:bk h.view u 1 (nC l)):ew h u (encS l):=ew.HC (f:=Value.string) ho
theorem D7 {h:ax} {u:V} {l:List Term} (ho:bk h.view u 3 (l.map cr)):ew h u (cn l):=by
  refine ew.own ho rfl (fun _ _=>rfl) (fun i j hi hj=>?_)
  simp only[List.length_map] at hi
  have e1:(l.map cr).getD i []=cr l[i]:=by simp[List.getD_eq_getElem?_getD,hi]
  rw[e1] at hj ⊢
  match j,hj with
  | 0,_=>exact .val _
  | 1,_=>exact .val _
  | 2,_=>exact .val _
  | n+3,hj=>exact absurd hj (by simp only[cr,List.length_cons,List.length_nil]; omega)
def w5 (x:aH × List Int × Int):V:=.bg [.agg (aw x.1),encI x.2.1,gi x.2.2]
theorem zE {h:ax} {e:Int} {k1 k2 k3 k4:Nat} : ew h (.bg [.agg [.emp k1,.emp k2,.emp k3,gi 0],.emp k4,gi e]) (w5 (qP,[],e)):=by
  refine .bg _ _ rfl fun i hi=>?_
  match i,hi with
  | 0,_ =>
    refine .agg _ _ rfl fun j hj=>?_
    match j,hj with
    | 0,_=>exact .emp _
    | 1,_=>exact .emp _
    | 2,_=>exact .emp _
    | 3,_=>exact .val _
    | n+4,hj=>exact absurd hj (by simp only[List.length_cons,List.length_nil]; omega)
  | 1,_=>exact .emp _
  | 2,_=>exact .val _
  | n+3,hi=>exact absurd hi (by simp only[List.length_cons,List.length_nil]; omega)
theorem GU {h:ax} {u0 u1 u2 u3:V} {x:aH × List Int × Int} {b:u7} (h0:bk h.view u0 3 (x.1.aE.map cr)) (h1:bk h.view u1 1 (nC x.1.aM)) (h2:bk h.view u2 3 (gq b)) (hb:∀ y∈oV b,bk h.view y.1 y.2.1 y.2.2)
    (hr:b.map (·.2)=x.1.rules) (h3:bk h.view u3 1 (gg x.2.1)):ew h (.bg [.agg [u0,u1,u2,gi x.1.start],u3,gi x.2.2]) (w5 x):=by
  refine .bg _ _ rfl fun i hi=>?_
  match i,hi with
  | 0,_ =>
    refine .agg _ _ rfl fun j hj=>?_
    match j,hj with
    | 0,_=>exact D7 h0
    | 1,_=>exact Gh h1
    | 2,_=>have:=EK h2 hb; rw[hr] at this; exact this
    | 3,_=>exact .val _
    | n+4,hj=>exact absurd hj (by simp only[List.length_cons,List.length_nil]; omega)
  | 1,_=>exact mI h3
  | 2,_=>exact .val _
  | n+3,hi=>exact absurd hi (by simp only[List.length_cons,List.length_nil]; omega)
theorem AI {g:aH} (e:jL g=false):g.Small:=by
  simp only[jL,Bool.or_eq_false_iff,decide_eq_false_iff_not] at e
  exact ⟨by omega⟩
theorem F2 (g:aH):az Tryz.prog 16 [.agg (aw g)] (gb (jL g)):=az.val (fN g) fun H=>(Gi g H).mono fun _ _ h=>h.1
theorem jH {P:Program} {t:TypeId} {d:TypeDesc} (hu:P.underlying t=some d) (hd:d=.string∨∃ k,d=.int k) (cs:Array Value) (off:Nat) {v:Value} (hv:cs[off]?=some v):ba P (part t cs off)=some v:=by
  have h0:ba P (isAgg t)=some false:=by
    rcases hd with rfl | ⟨k,rfl⟩
    all_goals simp only[isAgg,aV,cK hu,Option.bind_some]; rfl
  simp only[part,aV,h0,Option.bind_some,Bool.false_eq_true,if_false,hv]
  rfl
inductive eo (P:Program) (d:Nat) (xs ys:Array Value):List Field→Bool→Prop
  | nil:eo P d xs ys [] true
  | str (f:Field) (l:List Field) (c:Bool) (a b:ByteArray):(f.name≠ "_")→P.underlying f.type=some .string→xs[f.offset]?=some (.string a)→ys[f.offset]?=some (.string b)→eo P d xs ys l c→eo P d xs ys (f :: l) (a == b && c)
  | int (f:Field) (l:List Field) (c:Bool) (k:IntKind) (a b:Int):(f.name≠ "_")→P.underlying f.type=some (.int k)→xs[f.offset]?=some (.int k a)→ys[f.offset]?=some (.int k b)→eo P d xs ys l c→eo P d xs ys (f :: l) (a == b && c)
theorem eo.forIn {P:Program} {d e:Nat} {xs ys:Array Value} {l:List Field} {c:Bool} (h:eo P d xs ys l c) (hd:e=d+1) :
    ba P (forIn l ((none:Option Bool),()) fun f _ =>
        if f.name≠ "_" then do
          let a ← part f.type xs f.offset
          let b ← part f.type ys f.offset
          let e ← Op.equalIn e f.type a b
          if (!e)=true then pure (ForInStep.done (some false,())) else pure (ForInStep.yield (none,()))
        else pure (ForInStep.yield (none,())))=some (if c=true then (none,()) else (some false,())):=by
  subst hd
  induction h with
  | nil=>rfl
  | str f l c a b hn hu hx hy _ ih =>
    have he:ba P (Op.equalIn (d+1) f.type (.string a) (.string b))=some (a == b):=by
      simp only[Op.equalIn,aV,cK hu,Option.bind_some]; rfl
    rw[List.forIn_cons,aV,if_pos hn,aV,jH hu (.inl rfl) xs _ hx,Option.bind_some,aV,jH hu (.inl rfl) ys _ hy,Option.bind_some,aV,he,Option.bind_some]
    cases a == b with
    | false=>rfl
    | true=>exact ih
  | int f l c k a b hn hu hx hy _ ih =>
    have he:ba P (Op.equalIn (d+1) f.type (.int k a) (.int k b))=some (a == b):=by
      simp only[Op.equalIn,aV,cK hu,Option.bind_some]; rfl
    rw[List.forIn_cons,aV,if_pos hn,aV,jH hu (.inr ⟨k,rfl⟩) xs _ hx,Option.bind_some,aV,jH hu (.inr ⟨k,rfl⟩) ys _ hy,Option.bind_some,aV,he,Option.bind_some]
    cases a == b with
    | false=>rfl
    | true=>exact ih
theorem ur {P:Program} {t:TypeId} {fs:Array Field} {xs ys:Array Value} {c:Bool} (hu:P.underlying t=some (.struct fs)) (hs:P.stoodInHeld t=false) (h:eo P 9998 xs ys fs.toList c) :
    ba P (Op.equal t (.agg xs) (.agg ys))=some c:=by
  rw[gV]
  rw[Op.equalIn,aV,cK hu,Option.bind_some]
  have hst:(ba P program)=some P:=rfl
  rw[aV,hst,Option.bind_some,hs]
  simp only[← Array.forIn_toList,Bool.false_eq_true,if_false]
  rw[aV,h.forIn (e:=9999) rfl,Option.bind_some]
  cases c <;> rfl
theorem w8 {P:Program} {o:Oper} {T:Env} {op:BinOp} {t u:TypeId} {x y:Operand} {fs:Array Field} {xs ys:Array Value} {c r:Bool} (ho:o.op=.binOp op t x y u) (hu:P.underlying t=some (.struct fs)) (hs:P.stoodInHeld t=false) (hg:P.eqGuardType P.depth t=false)
    (hx:bK (ev T x)=some (.agg xs)) (hy:bK (ev T y)=some (.agg ys)) (h:eo P 9998 xs ys fs.toList c) (hr:(op=.eql∧r=c)∨(op=.neq∧r = !c)) :
    bZ P o T=some (.val (.bool r),.none,[]):=by
  have he:=ur hu hs h
  have hst:(ba P program)=some P:=rfl
  unfold bZ
  simp only[ho,Op.operands,hx,hy]
  rcases hr with ⟨rfl,rfl⟩ | ⟨rfl,rfl⟩
  · simp[execOp,ho,hx,hy,eqGuard,binOp,eN,aV,hst,hg,he,plain]
    try simp[ba,pure,plain]
  · simp[execOp,ho,hx,hy,eqGuard,binOp,eN,aV,hst,hg,he,plain]
    try simp[ba,pure,plain,bne]
theorem AG {P:Program} {T:Env} {H:View} {K:V→View→Prop} {w:bR (T,H,K)} {op:BinOp} {t u ty:TypeId} {x y:Operand} {fs:Array Field} {xs ys:Array Value} {c r:Bool} (hu:P.underlying t=some (.struct fs)) (hs:P.stoodInHeld t=false) (hg:P.eqGuardType P.depth t=false)
    (hx:bK (ev T x)=some (.agg xs)) (hy:bK (ev T y)=some (.agg ys)) (h:eo P 9998 xs ys fs.toList c) (hr:(op=.eql∧r=c)∨(op=.neq∧r = !c)) (hk:K (.val (.bool r)) H):sZ P (.binOp op t x y u) ty T H K w:=by
  intro n _
  refine ⟨.val (.bool r),.none,[],?_,hk⟩
  have hn:fh P t=none:=by simp[fh,hu]
  simp only[sI,bp,oper,hn]
  simp only[Option.isSome_none,Bool.false_eq_true,if_false]
  exact w8 rfl hu hs hg hx hy h hr
end Gv
