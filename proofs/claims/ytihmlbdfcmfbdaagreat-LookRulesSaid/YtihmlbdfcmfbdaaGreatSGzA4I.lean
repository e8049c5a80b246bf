/-
  Part 9 of the proof: what the machine does and what the functions answer.
  Conditions: those that each lemma names.
-/
import Derived.Test.YtihmlbdfcmfbdaaGreatSGzA4H
set_option linter.unusedSimpArgs false
set_option linter.unusedVariables false
set_option maxRecDepth 100000
namespace Gv
open Go Go.Proofs
theorem bu.eF {P:Program} {f:FuncId} {h:aw} (h1:bu P f [.emp 1] h (.emp 1) h) (h2:bu P f [.emp 2] h (.emp 2) h) (h3:bu P f [.cM] h (.emp 2) h):bu P f [.aF []] h (.emp 0) h:=by
  refine ⟨Nat.le_refl _,fun Z μ F w xs hrel hr hfree=>?_⟩
  obtain ⟨hl,hv⟩:=hrel
  obtain ⟨x,rfl⟩:∃ x,xs=[x]:=by
    match xs,hl with
    | [x],_=>exact ⟨x,rfl⟩
  have h0:aq Z μ w.heap (.aF []) x:=hv 0 (by simp)
  have one:∀ v,aq Z μ w.heap v x→dc Z μ w.heap [v] [x]:=fun v h=>⟨rfl,fun i hi=>by
    simp at hi; subst hi; exact h⟩
  have weak:∀ k,bu P f [if k=3 then .cM else .emp k] h (if k=3 then .emp 2 else .emp k) h→aq Z μ w.heap (if k=3 then .cM else .emp k) x→Calls P f [x].toArray w fun e w'=>∃ x Z' μ',e=.returned x∧aq Z' μ' w'.heap (.emp 0) x∧ey Z' μ' w'.heap (cat h F)∧Ext Z μ w h.length Z' μ' w'∧(∀ id,id < h.length∨h.length≤id→μ' id=μ id):=by
    intro k hk hx
    refine (hk.2 Z μ F w [x] (one _ hx) hr hfree).mono ?_
    rintro e w' ⟨y,Z',μ',rfl,hy,rest⟩
    refine ⟨y,Z',μ',rfl,?_,rest⟩
    have:∀ k',aq Z' μ' w'.heap (.emp k') y→aq Z' μ' w'.heap (.emp 0) y:=fun k' h=>by
      cases h with | emp _ a _ _=>exact .emp 0 a (by simp) (by simp)
    split at hy <;> exact this _ hy
  rcases CB h0 with ⟨_,a,cap,rfl,hz⟩ | ⟨b,off,esz,cap,c,rfl,_,_,_⟩
  · cases a with
    | none =>
      have:=hz rfl
      subst this
      exact weak 1 (by simpa using h1) (.emp 1 none (by simp) (by simp))
    | some a =>
      cases cap with
      | zero=>exact weak 2 (by simpa using h2) (.emp 2 (some a) (by simp) (by simp))
      | succ c=>exact weak 3 (by simpa using h3) (.cM a (c+1))
  · cases cap with
    | zero=>exact weak 2 (by simpa using h2) (.emp 2 (some ⟨b,off,none⟩) (by simp) (by simp))
    | succ c=>exact weak 3 (by simpa using h3) (.cM ⟨b,off,none⟩ (c+1))
def rN (sz:Nat) (es:List (List V)) (H:View) (K:V→View→Prop):Prop :=
  (es=[]→∀ k,K (.emp k) H)∧(es≠[]→∀ n,H n=.dead→K (.sl n 0 es.length sz) (H.set n (.arr sz es)))
def bP:SF:=⟨.seq (ar [((some 2),.op (.aX (.val (.emp 1))))]) <|
  .seq (.seq (ar [aa 3 0,((some 4),.op (.nil true 0 (.tmp 3) (.val (.emp 1))))]) <|
  .cond (.tmp 4) (.seq (ar [((some 2),.op (.aX (.val (.emp 1))))]) <|
  .ret) (.skip)) <|
  .seq (ar [((some 5),.op (.aX (.val (.emp 2)))),aa 6 0,((some 7),.op (.app 1 16 (.tmp 5) (.tmp 6))),aa 2 7]) <|
  .ret,
  [.tmp 2],8⟩
theorem cb:bm Tryz.prog 96 []=some bP:=by kernel_rfl
def cI:SF:=⟨.seq (ar [((some 2),.op (.aX (.val (.emp 1))))]) <|
  .seq (.seq (ar [aa 3 0,((some 4),.op (.nil true 0 (.tmp 3) (.val (.emp 1))))]) <|
  .cond (.tmp 4) (.seq (ar [((some 2),.op (.aX (.val (.emp 1))))]) <|
  .ret) (.skip)) <|
  .seq (ar [((some 5),.op (.aX (.val (.emp 2)))),aa 6 0,((some 7),.op (.app 1 8 (.tmp 5) (.tmp 6))),aa 2 7]) <|
  .ret,
  [.tmp 2],8⟩
theorem cR:bm Tryz.prog 161 []=some cI:=by kernel_rfl
def bE:SF:=⟨.seq (ar [((some 2),.op (.aX (.val (.emp 1))))]) <|
  .seq (.seq (ar [aa 3 0,((some 4),.op (.nil true 0 (.tmp 3) (.val (.emp 1))))]) <|
  .cond (.tmp 4) (.seq (ar [((some 2),.op (.aX (.val (.emp 1))))]) <|
  .ret) (.skip)) <|
  .seq (ar [((some 5),.op (.aX (.val (.emp 2)))),aa 6 0,((some 7),.op (.app 3 32 (.tmp 5) (.tmp 6))),aa 2 7]) <|
  .ret,
  [.tmp 2],8⟩
theorem bL:bm Tryz.prog 159 []=some bE:=by kernel_rfl
theorem aC.tree {P:Program} {f:FuncId} {vs:List V} {t:V} (hv:∀ v∈vs,Tree v) (ht:Tree t) (h:∀ H,aH P f vs H fun r _=>r=t):aC P f vs t :=
  aC.of hv ((h _).mono fun r H' e h' _=>by rw[e]; exact .tree _ ht)
theorem ot {H:View} : bA H .cM=some ([],[]):=id rfl
theorem gU {H:View} (sz bytes k:Nat) (K:V→View→Prop) (w:bS (H,K)):lU sz bytes (.emp k) [] H K w=K (.emp k) H:=propext Iff.rfl
theorem EO (l:List ByteArray) (hl:l.length≤100000) (H:View) (K:V→View→Prop) (hk:rN 1 (l.map fun s=>[gs s]) H K):aH Tryz.prog 96 [encS l] H K:=by
  cases l with
  | nil =>
    have hp:∀ v t,Tree v→Tree t→(∀ H,aH Tryz.prog 96 [v] H fun r _=>r=t)→aC Tryz.prog 96 [v] t:=fun v t hv ht h=>aC.tree (by intro x hx; simp at hx; subst hx; exact hv) ht h
    have h1:=hp (.emp 1) (.emp 1) (.emp 1) (.emp 1) (fun H=>by
      refine aH.of mixed cb ?_
      simp (disch:=omega) only [↓wr,↓reduceIte,wq,ai,ah,an,ab,af,ag,aj,isNil,Nat.reduceEqDiff,Nat.reduceAdd,Nat.reduceLT,Nat.reduceLeDiff,Int.reduceNeg,Int.reduceToNat,reduceCtorEq,bP])
    have h2:=hp (.emp 2) (.emp 2) (.emp 2) (.emp 2) (fun H=>by
      refine aH.of mixed cb ?_
      simp (disch:=omega) only [↓wr,↓reduceIte,wq,ai,ah,an,ab,af,ag,aj,isNil,Nat.reduceEqDiff,Nat.reduceAdd,Nat.reduceLT,Nat.reduceLeDiff,Int.reduceNeg,Int.reduceToNat,reduceCtorEq,bP,gU,List.isEmpty_nil])
    have h3:=hp .cM (.emp 2) .cM (.emp 2) (fun H=>by
      refine aH.of mixed cb ?_
      simp (disch:=omega) only [↓wr,↓reduceIte,wq,ai,ah,an,ab,af,ag,aj,isNil,Nat.reduceEqDiff,Nat.reduceAdd,Nat.reduceLT,Nat.reduceLeDiff,Int.reduceNeg,Int.reduceToNat,reduceCtorEq,bP,ot,gU,List.isEmpty_nil])
    refine ⟨by kernel_rfl,?_⟩
    rintro h rfl
    exact ⟨.emp 0,h,bu.eF (bu.eN h1 h) (bu.eN h2 h) (bu.eN h3 h),.refl _,hk.1 rfl 0⟩
  | cons x r =>
    refine aH.of mixed cb ?_
    simp only[List.length_cons] at hl
    simp (disch:=omega) only [↓wr,↓reduceIte,wq,ai,ah,an,ab,af,ag,aj,isNil,Nat.reduceEqDiff,Nat.reduceAdd,Nat.reduceLT,Nat.reduceLeDiff,Int.reduceNeg,Int.reduceToNat,reduceCtorEq,bP,encS]
    refine ⟨?_,?_,?_⟩
    · simp[List.all_map,encS,aN]
    · unfold aW; simp; omega
    · intro n hn
      have:=hk.2 (by simp) n hn
      simp (disch:=omega) only [↓wr,↓reduceIte,wq,ai,ah,an,ab,af,ag,aj,isNil,Nat.reduceEqDiff,Nat.reduceAdd,Nat.reduceLT,Nat.reduceLeDiff,Int.reduceNeg,Int.reduceToNat,reduceCtorEq]
      simpa [cq] using this
theorem EK (l:List Int) (hl:l.length≤100000) (H:View) (K:V→View→Prop) (hk:rN 1 (l.map fun s=>[gi s]) H K):aH Tryz.prog 161 [encI l] H K:=by
  cases l with
  | nil =>
    have hp:∀ v t,Tree v→Tree t→(∀ H,aH Tryz.prog 161 [v] H fun r _=>r=t)→aC Tryz.prog 161 [v] t:=fun v t hv ht h=>aC.tree (by intro x hx; simp at hx; subst hx; exact hv) ht h
    have h1:=hp (.emp 1) (.emp 1) (.emp 1) (.emp 1) (fun H=>by
      refine aH.of mixed cR ?_
      simp (disch:=omega) only [↓wr,↓reduceIte,wq,ai,ah,an,ab,af,ag,aj,isNil,Nat.reduceEqDiff,Nat.reduceAdd,Nat.reduceLT,Nat.reduceLeDiff,Int.reduceNeg,Int.reduceToNat,reduceCtorEq,cI])
    have h2:=hp (.emp 2) (.emp 2) (.emp 2) (.emp 2) (fun H=>by
      refine aH.of mixed cR ?_
      simp (disch:=omega) only [↓wr,↓reduceIte,wq,ai,ah,an,ab,af,ag,aj,isNil,Nat.reduceEqDiff,Nat.reduceAdd,Nat.reduceLT,Nat.reduceLeDiff,Int.reduceNeg,Int.reduceToNat,reduceCtorEq,cI,gU,List.isEmpty_nil])
    have h3:=hp .cM (.emp 2) .cM (.emp 2) (fun H=>by
      refine aH.of mixed cR ?_
      simp (disch:=omega) only [↓wr,↓reduceIte,wq,ai,ah,an,ab,af,ag,aj,isNil,Nat.reduceEqDiff,Nat.reduceAdd,Nat.reduceLT,Nat.reduceLeDiff,Int.reduceNeg,Int.reduceToNat,reduceCtorEq,cI,ot,gU,List.isEmpty_nil])
    refine ⟨by kernel_rfl,?_⟩
    rintro h rfl
    exact ⟨.emp 0,h,bu.eF (bu.eN h1 h) (bu.eN h2 h) (bu.eN h3 h),.refl _,hk.1 rfl 0⟩
  | cons x r =>
    refine aH.of mixed cR ?_
    simp only[List.length_cons] at hl
    simp (disch:=omega) only [↓wr,↓reduceIte,wq,ai,ah,an,ab,af,ag,aj,isNil,Nat.reduceEqDiff,Nat.reduceAdd,Nat.reduceLT,Nat.reduceLeDiff,Int.reduceNeg,Int.reduceToNat,reduceCtorEq,cI,encI]
    refine ⟨?_,?_,?_⟩
    · simp[List.all_map,encI,aN]
    · unfold aW; simp; omega
    · intro n hn
      have:=hk.2 (by simp) n hn
      simp (disch:=omega) only [↓wr,↓reduceIte,wq,ai,ah,an,ab,af,ag,aj,isNil,Nat.reduceEqDiff,Nat.reduceAdd,Nat.reduceLT,Nat.reduceLeDiff,Int.reduceNeg,Int.reduceToNat,reduceCtorEq]
      simpa [cq] using this
theorem EE (l:List Term) (hl:l.length≤100000) (H:View) (K:V→View→Prop) (hk:rN 3 (l.map cq) H K):aH Tryz.prog 159 [cL l] H K:=by
  cases l with
  | nil =>
    have hp:∀ v t,Tree v→Tree t→(∀ H,aH Tryz.prog 159 [v] H fun r _=>r=t)→aC Tryz.prog 159 [v] t:=fun v t hv ht h=>aC.tree (by intro x hx; simp at hx; subst hx; exact hv) ht h
    have h1:=hp (.emp 1) (.emp 1) (.emp 1) (.emp 1) (fun H=>by
      refine aH.of mixed bL ?_
      simp (disch:=omega) only [↓wr,↓reduceIte,wq,ai,ah,an,ab,af,ag,aj,isNil,Nat.reduceEqDiff,Nat.reduceAdd,Nat.reduceLT,Nat.reduceLeDiff,Int.reduceNeg,Int.reduceToNat,reduceCtorEq,bE])
    have h2:=hp (.emp 2) (.emp 2) (.emp 2) (.emp 2) (fun H=>by
      refine aH.of mixed bL ?_
      simp (disch:=omega) only [↓wr,↓reduceIte,wq,ai,ah,an,ab,af,ag,aj,isNil,Nat.reduceEqDiff,Nat.reduceAdd,Nat.reduceLT,Nat.reduceLeDiff,Int.reduceNeg,Int.reduceToNat,reduceCtorEq,bE,gU,List.isEmpty_nil])
    have h3:=hp .cM (.emp 2) .cM (.emp 2) (fun H=>by
      refine aH.of mixed bL ?_
      simp (disch:=omega) only [↓wr,↓reduceIte,wq,ai,ah,an,ab,af,ag,aj,isNil,Nat.reduceEqDiff,Nat.reduceAdd,Nat.reduceLT,Nat.reduceLeDiff,Int.reduceNeg,Int.reduceToNat,reduceCtorEq,bE,ot,gU,List.isEmpty_nil])
    refine ⟨by kernel_rfl,?_⟩
    rintro h rfl
    exact ⟨.emp 0,h,bu.eF (bu.eN h1 h) (bu.eN h2 h) (bu.eN h3 h),.refl _,hk.1 rfl 0⟩
  | cons x r =>
    refine aH.of mixed bL ?_
    simp only[List.length_cons] at hl
    simp (disch:=omega) only [↓wr,↓reduceIte,wq,ai,ah,an,ab,af,ag,aj,isNil,Nat.reduceEqDiff,Nat.reduceAdd,Nat.reduceLT,Nat.reduceLeDiff,Int.reduceNeg,Int.reduceToNat,reduceCtorEq,bE,cL,cq]
    refine ⟨?_,?_,?_⟩
    · simp[List.all_map,cL,cq,aN]
    · unfold aW; simp; omega
    · intro n hn
      have:=hk.2 (by simp) n hn
      simp (disch:=omega) only [↓wr,↓reduceIte,wq,ai,ah,an,ab,af,ag,aj,isNil,Nat.reduceEqDiff,Nat.reduceAdd,Nat.reduceLT,Nat.reduceLeDiff,Int.reduceNeg,Int.reduceToNat,reduceCtorEq]
      simpa [cq] using this
theorem rN.own {sz:Nat} {es:List (List V)} {H:View} : rN sz es H fun r H'=>aV H' r sz es∧dw H H' r :=
  ⟨fun he k=>⟨by rw[he]; exact .nil,.emp⟩,fun _ n hn=>⟨.new,.new hn⟩⟩
theorem FQ (l:List ByteArray) (hl:l.length≤100000) (H:View):aH Tryz.prog 96 [encS l] H fun r H'=>aV H' r 1 (l.map fun s=>[gs s])∧dw H H' r:=EO l hl H _ .own
theorem EZ (l:List Int) (hl:l.length≤100000) (H:View):aH Tryz.prog 161 [encI l] H fun r H'=>aV H' r 1 (l.map fun s=>[gi s])∧dw H H' r:=EK l hl H _ .own
theorem E3 (l:List Term) (hl:l.length≤100000) (H:View):aH Tryz.prog 159 [cL l] H fun r H'=>aV H' r 3 (l.map cq)∧dw H H' r:=EE l hl H _ .own
def im (g:ao):List aG→Int→Bool
  | [],next=>next == g.ax.length
  | r :: l,next=>decide (0≤r.left) && decide (r.left≤next) && ks g r && im g l (if r.left+1 > next then r.left+1 else next)
def mE (g:ao):List ByteArray:=g.ax ++ g.az.map Term.name
def kQ (g:ao):Bool :=
  mr g.az && (decide ((1:Int)≤g.ax.length) && decide ((g.ax.length:Int)≤16)) && (decide ((1:Int)≤g.rules.length) && decide ((g.rules.length:Int)≤40)) && decide (names (mE g)).Nodup && (decide (0≤g.start) && decide (g.start≤(g.ax.length:Int) - 1)) &&
    !(g.ax.any fun s=>!fZ (eR s)) && im g g.rules 0
theorem Ae {l:List ByteArray} : ∀ e∈(l.map fun s=>[gs s]),∀ v∈e,Tree v:=by
  intro e he v hv
  obtain ⟨a,_,rfl⟩:=List.mem_map.1 he
  rw[List.mem_singleton] at hv
  subst hv
  exact .val _
set_option maxHeartbeats 4000000 in
theorem F8 (g:ao) (hg:g.Ok) (hs:g.ax.length+g.az.length≤1000) (H:View):aH Tryz.prog 52 [.agg (aR g)] H fun r _=>r=gb (kQ g):=by
  refine aH.of mixed wV ?_
  have hn:=hg.ax
  have ht:=hg.az
  have hr:=hg.rules
  unfold aU at hn ht hr
  simp (disch:=omega) only [↓wr,↓reduceIte,wq,ai,ah,an,ab,af,ag,aj,isNil,Nat.reduceEqDiff,Nat.reduceAdd,Nat.reduceLT,Nat.reduceLeDiff,Int.reduceNeg,Int.reduceToNat,reduceCtorEq,tx,aR,encS]
  refine aJ.xJ ((FQ g.ax (by omega) H).mono ?_)
  rintro u H1 ⟨hu,hf⟩
  simp (disch:=omega) only [↓wr,↓reduceIte,wq,ai,ah,an,ab,af,ag,aj,isNil,Nat.reduceEqDiff,Nat.reduceAdd,Nat.reduceLT,Nat.reduceLeDiff,Int.reduceNeg,Int.reduceToNat,reduceCtorEq,aR,encS]
  refine cH.up g.az.length (fun i T H=>T 1=.aY (aR g) 0∧(∃ u,T 3=u∧aV H u 1 ((g.ax ++ (g.az.take i).map Term.name).map fun s=>[gs s]))∧T 13=cL g.az∧T 14=gi g.az.length∧T 15=gi i) ?_ ?_
  · exact ⟨rfl,⟨u,rfl,by simpa using hu⟩,rfl,rfl,rfl⟩
  rintro i k T H' hk ⟨h1,⟨u,h3,hu⟩,h13,h14,h15⟩
  simp (disch:=omega) only [↓wr,↓reduceIte,wq,ai,ah,an,ab,af,ag,aj,isNil,Nat.reduceEqDiff,Nat.reduceAdd,Nat.reduceLT,Nat.reduceLeDiff,Int.reduceNeg,Int.reduceToNat,reduceCtorEq,qz,h1,h13,h14,h15,cL]
  refine ay.dec (fun hc=>?_) (fun hc=>?_)
  · have hg2:g.az[i]?=some (g.az[i]'(by omega)):=List.getElem?_eq_getElem (by omega)
    have htk:(g.az.take (i+1)).map Term.name=(g.az.take i).map Term.name ++ [(g.az[i]'(by omega)).name]:=by
      rw[List.take_add_one,hg2,List.map_append]; rfl
    generalize g.az[i]'(by omega)=t at hg2 htk
    simp (disch:=omega) only [↓wr,↓reduceIte,wq,ai,ah,an,ab,af,ag,aj,isNil,Nat.reduceEqDiff,Nat.reduceAdd,Nat.reduceLT,Nat.reduceLeDiff,Int.reduceNeg,Int.reduceToNat,reduceCtorEq,h1,h3,h13,h14,h15,cL,cq,List.getElem?_map,hg2]
    intro b hb
    try simp (disch:=omega) only [↓wr,↓reduceIte,wq,ai,ah,an,ab,af,ag,aj,isNil,Nat.reduceEqDiff,Nat.reduceAdd,Nat.reduceLT,Nat.reduceLeDiff,Int.reduceNeg,Int.reduceToNat,reduceCtorEq,h1,h3,h13,h14,h15,set_set]
    intro m hm
    have hmb:=(eu hm eH).1
    have hm:=(eu (eu hm eH).2 eH).2
    try simp (disch:=omega) only [↓wr,↓reduceIte,wq,ai,ah,an,ab,af,ag,aj,isNil,Nat.reduceEqDiff,Nat.reduceAdd,Nat.reduceLT,Nat.reduceLeDiff,Int.reduceNeg,Int.reduceToNat,reduceCtorEq,h1,h3,h13,h14,h15,e9]
    have hl:((g.ax ++ (g.az.take i).map Term.name).map fun s=>[gs s]).length≤1000:=by simp; omega
    refine r8 (((hu.fresh hb).other (hu.ne hb)).fresh (by simp[View.set,hm,hmb])) (by simp) (by simp[aN]) (by unfold aW; simp at hl ⊢; omega) (by unfold aW; simp at hl ⊢; omega) ?_
    intro u' H2 hu' _
    simp (disch:=omega) only [↓wr,↓reduceIte,wq,ai,ah,an,ab,af,ag,aj,isNil,Nat.reduceEqDiff,Nat.reduceAdd,Nat.reduceLT,Nat.reduceLeDiff,Int.reduceNeg,Int.reduceToNat,reduceCtorEq,h1,h3,h13,h14,h15]
    refine bO hk (by omega) ⟨h1,⟨u',rfl,?_⟩,h13,h14,rfl⟩
    rw[htk]
    simpa using hu'
  · rw[List.take_of_length_le (by omega)] at hu
    have hal:H'=H':=rfl
    have hall:(mE g).length≤1000:=by simp[mE]; omega
    repeat' (first | (refine ay.dec (fun _=>?_) (fun _=>?_)) | (refine ay.eq (fun _=>?_) (fun _=>?_)) | (refine ay.ne (fun _=>?_) (fun _=>?_)) | (refine ay.split (fun _=>?_) (fun _=>?_)) | (refine aJ.pure (Ge g.az hg.az) (by kernel_rfl) ?_) | (refine aJ.pure (lO _ _ _) (by kernel_rfl) ?_) | (refine aJ.Ky (Hh (mE g) hall) (by kernel_rfl) (.val _) ⟨df.own hu Ae,trivial⟩ ?_) | (simp (disch:=omega) only [↓wr,↓reduceIte,wq,ai,ah,an,ab,af,ag,aj,isNil,Nat.reduceEqDiff,Nat.reduceAdd,Nat.reduceLT,Nat.reduceLeDiff,Int.reduceNeg,Int.reduceToNat,reduceCtorEq,h1,h3,h13,h14,h15,aR,encS]))
    all_goals try (simp[kQ, *]; done)
    rename_i e1 e2 e3 e4 e5
    refine aJ.pure (uT g.ax hg.ax 101 [] (by simp) (fun s=>!fZ (eR s)) (fun x _=>Ex x) (by kernel_rfl)) (by kernel_rfl) ?_
    repeat' (first | (refine ay.dec (fun _=>?_) (fun _=>?_)) | (refine ay.eq (fun _=>?_) (fun _=>?_)) | (refine ay.ne (fun _=>?_) (fun _=>?_)) | (refine ay.split (fun _=>?_) (fun _=>?_)) | (simp (disch:=omega) only [↓wr,↓reduceIte,wq,ai,ah,an,ab,af,ag,aj,isNil,Nat.reduceEqDiff,Nat.reduceAdd,Nat.reduceLT,Nat.reduceLeDiff,Int.reduceNeg,Int.reduceToNat,reduceCtorEq,h1,h3,h13,h14,h15,aR,encS]))
    all_goals try (simp[kQ, *]; done)
    rename_i e6
    have hle:g.rules.length≤40:=by simp at e3; omega
    have hpre:∀ b,im g g.rules 0=b→gb b=gb (kQ g):=fun b e=>by
      simp only[kQ,e1,e2,e3,e4,e5,e6,e,decide_true,Bool.true_and,Bool.not_false]
    refine cH.up g.rules.length (fun i T _=>∃ w:Int,0≤w∧w≤i∧im g (g.rules.drop i) w=im g g.rules 0∧T 1=.aY (aR g) 0∧T 6=gi w∧T 62=.aF (g.rules.map bf)∧T 63=gi g.rules.length∧T 64=gi i) ?_ ?_
    · exact ⟨0,by omega,by omega,rfl,h1,rfl,rfl,rfl,rfl⟩
    rintro i k T H' hk ⟨w,hw1,hw2,hi,h1,h6,h62,h63,h64⟩
    simp (disch:=omega) only [↓wr,↓reduceIte,wq,ai,ah,an,ab,af,ag,aj,isNil,Nat.reduceEqDiff,Nat.reduceAdd,Nat.reduceLT,Nat.reduceLeDiff,Int.reduceNeg,Int.reduceToNat,reduceCtorEq,qO,h1,h6,h62,h63,h64,aR]
    refine ay.dec (fun hc=>?_) (fun hc=>?_)
    · have hg2:g.rules[i]?=some (g.rules[i]'(by omega)):=List.getElem?_eq_getElem (by omega)
      rw[mb (show i < g.rules.length by omega)] at hi
      have hmem:g.rules[i]'(by omega)∈g.rules:=List.getElem_mem _
      generalize g.rules[i]'(by omega)=t at hg2 hi hmem
      obtain ⟨⟨hl1,hl2⟩,hp,hr1,hr2⟩:=hg.aT t hmem
      simp only[im] at hi
      simp (disch:=omega) only [↓wr,↓reduceIte,wq,ai,ah,an,ab,af,ag,aj,isNil,Nat.reduceEqDiff,Nat.reduceAdd,Nat.reduceLT,Nat.reduceLeDiff,Int.reduceNeg,Int.reduceToNat,reduceCtorEq,h1,h6,h62,h63,h64,bf,encI,List.getElem?_map,hg2]
      intro b hb
      repeat' (first | (refine ay.dec (fun _=>?_) (fun _=>?_)) | (refine ay.eq (fun _=>?_) (fun _=>?_)) | (refine ay.ne (fun _=>?_) (fun _=>?_)) | (refine ay.split (fun _=>?_) (fun _=>?_)) | (refine aJ.pure (lO _ _ _) (by kernel_rfl) ?_) | (refine aJ.pure (HF g t hg ⟨hr1,hr2⟩) (by kernel_rfl) ?_) | (simp (disch:=omega) only [↓wr,↓reduceIte,wq,ai,ah,an,ab,af,ag,aj,isNil,Nat.reduceEqDiff,Nat.reduceAdd,Nat.reduceLT,Nat.reduceLeDiff,Int.reduceNeg,Int.reduceToNat,reduceCtorEq,h1,h6,h62,h63,h64,aR,bf,encI,encS,set_set]))
      · rename_i e7 e8
        have e7':0≤t.left∧t.left≤w:=by simpa using e7
        rw[e7,e8,Bool.true_and,Bool.true_and] at hi
        have hw:IntKind.wrap .i64 (t.left+1)=t.left+1:=wrap64 (by omega) (by omega)
        refine bO hk (by omega) ⟨_,by split <;> omega,by split <;> (push_cast; omega),hi,h1,?_,h62,h63,rfl⟩
        show gi (if IntKind.wrap .i64 (t.left+1) > w then IntKind.wrap .i64 (t.left+1) else w)=_
        rw[hw]
      · rename_i e7 e8
        rw[e8,Bool.and_false,Bool.false_and] at hi
        exact hpre _ hi.symm
      · rename_i e7
        rw[e7,Bool.false_and,Bool.false_and] at hi
        exact hpre _ hi.symm
    · rw[List.drop_eq_nil_of_le (by omega)] at hi
      simp only[im] at hi
      simp (disch:=omega) only [↓wr,↓reduceIte,wq,ai,ah,an,ab,af,ag,aj,isNil,Nat.reduceEqDiff,Nat.reduceAdd,Nat.reduceLT,Nat.reduceLeDiff,Int.reduceNeg,Int.reduceToNat,reduceCtorEq,h1,h6,h62,h63,h64,aR,encS]
      exact hpre _ hi.symm
theorem DZ (g:ao) (hg:g.Ok) (hs:g.ax.length+g.az.length≤1000):aC Tryz.prog 52 [.agg (aR g)] (gb (kQ g)):=aC.val (ma g) (F8 g hg hs)
theorem Ar (g:ao):∀ (l:List aG) (next:Int),im g l next=gv g l (next - 1)
  | [],next=>by
    simp only[im,gv]
    rw[Bool.eq_iff_iff]; simp
  | r :: l,next=>by
    simp only[im,gv,Ar g l]
    have e1:(if r.left+1 > next then r.left+1 else next) - 1=if r.left > next - 1 then r.left else next - 1:=by
      split <;> split <;> omega
    have e2:next - 1+1=next:=by omega
    rw[e1,e2]
theorem rH (s:ByteArray):∀ (l:List ByteArray) (i:Int),0≤i→(sg s l i < 0∧s ∉ l)∨∃ k:Nat,sg s l i=i+k∧l[k]?=some s∧∀ j < k,l[j]?≠some s
  | [],i,h=>.inl ⟨by simp[sg],by simp⟩
  | x :: l,i,h=>by
    have hx:eT x s=true↔x=s:=by
      unfold eT
      rw[beq_iff_eq]
      constructor
      · intro e; cases x; cases s; simp at e; simp[e]
      · rintro rfl; rfl
    simp only[sg]
    by_cases e:x=s
    · rw[if_pos (hx.2 e)]
      exact .inr ⟨0,by simp,by simp[e],by simp⟩
    · rw[if_neg (fun h=>e (hx.1 h))]
      rcases rH s l (i+1) (by omega) with ⟨h1,h2⟩ | ⟨k,h1,h2,h3⟩
      · exact .inl ⟨h1,by simp[h2,Ne.symm e]⟩
      · refine .inr ⟨k+1,by rw[h1]; push_cast; omega,by simpa using h2,fun j hj=>?_⟩
        cases j with
        | zero=>simp[e]
        | succ j=>simpa using h3 j (by omega)
theorem nF (l:List ByteArray):(∀ (k:Nat) (s:ByteArray),l[k]?=some s→sg s l 0=k)↔l.Nodup:=by
  constructor
  · intro h
    rw[List.nodup_iff_pairwise_ne,List.pairwise_iff_getElem]
    intro i j hi hj hij e
    have h1:=h i l[i] (by simp[hi])
    have h2:=h j l[j] (by simp[hj])
    rw[e] at h1
    omega
  · intro hn k s hk
    rcases rH s l 0 (by omega) with ⟨_,h2⟩ | ⟨j,h1,h2,h3⟩
    · exact absurd (List.mem_of_getElem? hk) h2
    · have hj:j < l.length:=by
        rcases Nat.lt_or_ge j l.length with h | h
        · exact h
        · simp[List.getElem?_eq_none h] at h2
      have hk':k < l.length:=by
        rcases Nat.lt_or_ge k l.length with h | h
        · exact h
        · simp[List.getElem?_eq_none h] at hk
      have:j=k:=(List.getElem_inj hn).1 (by
        rw[List.getElem?_eq_getElem hj] at h2; rw[List.getElem?_eq_getElem hk'] at hk
        simp at h2 hk; rw[h2,hk])
      rw[h1,this]; simp
theorem bytes_inj {a b:ByteArray} : a.data.toList=b.data.toList↔a=b:=by
  constructor
  · intro h; cases a; cases b; simp at h; simp[h]
  · rintro rfl; rfl
theorem ED {l:List ByteArray} : (names l).Nodup↔l.Nodup:=by
  unfold names
  rw[List.nodup_iff_pairwise_ne,List.pairwise_map,List.nodup_iff_pairwise_ne]
  constructor
  · exact fun h=>h.imp fun h e=>h (bytes_inj.2 e)
  · exact fun h=>h.imp fun h e=>h (bytes_inj.1 e)
theorem kA {α:Type} [BEq α] [LawfulBEq α]:∀ (l m:List α),l.Nodup→(∀ x∈l,x∈m)→l.length≤m.length
  | [],m,_,_=>by simp
  | x :: l,m,hn,hs=>by
    rw[List.nodup_cons] at hn
    have hx:x∈m:=hs x (by simp)
    have:=kA l (m.erase x) hn.2 (fun y hy=>by
      have hne:y≠x:=by rintro rfl; exact hn.1 hy
      exact (List.mem_erase_of_ne hne).2 (hs y (by simp[hy])))
    rw[List.length_erase_of_mem hx] at this
    have:0 < m.length:=List.length_pos_of_mem hx
    simp only[List.length_cons]
    omega
def ij (n:Nat):List Int:=(List.range n).map fun (k:Nat)=>(k:Int)+1
theorem qa {n:Nat} {x:Int} : x∈ij n↔1≤x∧x≤n:=by
  simp only[ij,List.mem_map,List.mem_range]
  constructor
  · rintro ⟨k,hk,rfl⟩; omega
  · rintro ⟨h1,h2⟩; exact ⟨(x - 1).toNat,by omega,by omega⟩
theorem Bd (n:Nat):(ij n).Nodup:=by
  rw[ij,List.nodup_iff_pairwise_ne,List.pairwise_map]
  exact (List.nodup_range (n:=n)).imp fun h e=>h (by omega)
theorem ID {l:List Int} {n:Nat} (hn:l.Nodup) (hs:∀ x∈l,1≤x∧x≤n) (hl:l.length=n) {x:Int} (h1:1≤x) (h2:x≤n):x∈l:=by
  refine Classical.byContradiction fun hx=>?_
  have:=kA (x :: l) (ij n) (List.nodup_cons.2 ⟨hx,hn⟩) (fun y hy=>by
    rw[qa]
    rcases List.mem_cons.1 hy with rfl | hy
    · exact ⟨h1,h2⟩
    · exact hs y hy)
  simp[ij] at this
  omega
theorem pz (n:Int):∀ (l:List Term) (w:Int),w≠0→jB n l w=if (∀ t∈l,t.level=n→t.assoc=w) then some w else none
  | [],w,_=>by simp[jB]
  | t :: r,w,hw=>by
    simp only[jB]
    by_cases ht:t.level=n
    · rw[if_pos ht]
      by_cases ha:w=t.assoc
      · rw[if_neg (by simp[ha]),← ha,pz n r w hw]
        congr 1
        simp[ht,ha]
      · rw[if_pos ⟨hw,ha⟩,if_neg (fun h=>ha (h t (by simp) ht).symm)]
    · rw[if_neg ht,pz n r w hw]
      congr 1
      simp[ht]
theorem vr (n:Int):∀ (l:List Term),(∀ t∈l,t.level=n→t.assoc≠0)→(gH l n=true↔∃ a,(∃ t∈l,t.level=n)∧∀ t∈l,t.level=n→t.assoc=a)
  | [],_=>by simp[gH,jB]
  | t :: r,h=>by
    by_cases ht:t.level=n
    · have ha:=h t (by simp) ht
      have e:gH (t :: r) n=match (if (∀ u∈r,u.level=n→u.assoc=t.assoc) then some t.assoc else none) with | some w=>w != 0 | none=>false:=by
        simp only[gH,jB]
        rw[if_pos ht,if_neg (by simp),pz n r _ ha]
        rfl
      rw[e]
      by_cases hr:∀ u∈r,u.level=n→u.assoc=t.assoc
      · rw[if_pos hr]
        simp only[bne_iff_ne,ne_eq,ha,not_false_eq_true,true_iff]
        refine ⟨t.assoc,⟨t,by simp,ht⟩,fun u hu hl=>?_⟩
        rcases List.mem_cons.1 hu with rfl | hu
        · rfl
        · exact hr u hu hl
      · rw[if_neg hr]
        simp only[Bool.false_eq_true,false_iff]
        rintro ⟨a,_,h2⟩
        exact hr fun u hu hl=>(h2 u (by simp[hu]) hl).trans (h2 t (by simp) ht).symm
    · have ih:=vr n r (fun u hu=>h u (by simp[hu]))
      have e:gH (t :: r) n=gH r n:=by
        simp only[gH,jB,if_neg ht]
      rw[e,ih]
      constructor
      · rintro ⟨a,⟨u,hu,hl⟩,h2⟩
        refine ⟨a,⟨u,by simp[hu],hl⟩,fun v hv hl=>?_⟩
        rcases List.mem_cons.1 hv with rfl | hv
        · exact absurd hl ht
        · exact h2 v hv hl
      · rintro ⟨a,⟨u,hu,hl⟩,h2⟩
        rcases List.mem_cons.1 hu with rfl | hu
        · exact absurd hl ht
        · exact ⟨a,⟨u,hu,hl⟩,fun v hv=>h2 v (by simp[hv])⟩
def oK (l:List Term):Prop:=∀ t∈l,∀ u∈l,t.level=u.level→t.level≠0→t.assoc=u.assoc
theorem Bn {κ β:Type} [BEq κ] [LawfulBEq κ] {k:κ} {v:β} : ∀ {a:List (κ × β)},(a.map (·.1)).Nodup→((fW k v a).map (·.1)).Nodup∧∀ x,x∈(fW k v a).map (·.1)↔x=k∨x∈a.map (·.1)
  | [],_=>by simp[fW]
  | y :: a,h=>by
    simp only[List.map_cons,List.nodup_cons] at h
    obtain ⟨h1,h2⟩:=Bn (k:=k) (v:=v) h.2
    simp only[fW]
    by_cases e:k=y.1
    · simp only[e,beq_self_eq_true,if_true,List.map_cons,List.nodup_cons]
      refine ⟨h,fun x=>by simp[e]⟩
    · have:(k == y.1)=false:=by simp[e]
      rw[this]
      simp only[Bool.false_eq_true,if_false,List.map_cons,List.nodup_cons,List.mem_cons]
      refine ⟨⟨fun hm=>?_,h1⟩,fun x=>?_⟩
      · rcases (h2 _).1 hm with e' | hm
        · exact e e'.symm
        · exact h.1 hm
      · rw[h2]
        constructor
        · rintro (h | h | h) <;> simp[h]
        · rintro (h | h | h) <;> simp[h]
theorem rM:∀ (l:List Term) (a:List (Int × Int)) (top:Int),(∀ t∈l,t.level≠0→t.assoc≠0)→(∀ n v,cE a n=some v→v≠0)→(a.map (·.1)).Nodup →
    match iC l a top with
    | some (a',top')=>oK l∧(∀ t∈l,∀ v,t.level≠0→cE a t.level=some v→t.assoc=v)∧(a'.map (·.1)).Nodup∧(∀ n,n∈a'.map (·.1)↔n∈a.map (·.1)∨(n≠0∧∃ t∈l,t.level=n)) ∧
        top≤top'∧(∀ t∈l,t.level≠0→t.level≤top')∧(top'=top∨∃ t∈l,t.level=top'∧t.level≠0)
    | none=>¬ (oK l∧∀ t∈l,∀ v,t.level≠0→cE a t.level=some v→t.assoc=v)
  | [],a,top,_,_,hn=>by
    simp only[iC]
    exact ⟨fun t ht=>by simp at ht,fun t ht=>by simp at ht,hn,fun n=>by simp,by omega,fun t ht=>by simp at ht,by simp⟩
  | t :: r,a,top,h0,hv,hn=>by
    have h0r:∀ u∈r,u.level≠0→u.assoc≠0:=fun u hu=>h0 u (by simp[hu])
    simp only[iC]
    by_cases ht:t.level=0
    · rw[if_pos ht]
      have ih:=rM r a top h0r hv hn
      have one:oK (t :: r)↔oK r:=by
        constructor
        · exact fun h u hu w hw=>h u (by simp[hu]) w (by simp[hw])
        · intro h u hu w hw e hz
          rcases List.mem_cons.1 hu with rfl | hu
          · exact absurd ht hz
          · rcases List.mem_cons.1 hw with rfl | hw
            · exact absurd (e.trans ht) hz
            · exact h u hu w hw e hz
      have con:(∀ u∈t :: r,∀ v,u.level≠0→cE a u.level=some v→u.assoc=v)↔∀ u∈r,∀ v,u.level≠0→cE a u.level=some v→u.assoc=v:=by
        simp[ht]
      have mem:∀ n,(n≠0∧∃ u∈t :: r,u.level=n)↔(n≠0∧∃ u∈r,u.level=n):=fun n=>by
        constructor
        · rintro ⟨h1,u,hu,rfl⟩
          rcases List.mem_cons.1 hu with rfl | hu
          · exact absurd ht h1
          · exact ⟨h1,u,hu,rfl⟩
        · rintro ⟨h1,u,hu,rfl⟩; exact ⟨h1,u,by simp[hu],rfl⟩
      cases hs:iC r a top with
      | none=>rw[hs] at ih; rw[one,con]; exact ih
      | some x =>
        obtain ⟨a',top'⟩:=x
        rw[hs] at ih
        obtain ⟨i1,i2,i3,i4,i5,i6,i7⟩:=ih
        refine ⟨one.2 i1,con.2 i2,i3,fun n=>by rw[i4,mem],i5,?_,?_⟩
        · intro u hu hz
          rcases List.mem_cons.1 hu with rfl | hu
          · exact absurd ht hz
          · exact i6 u hu hz
        · rcases i7 with h | ⟨u,hu,h⟩
          · exact .inl h
          · exact .inr ⟨u,by simp[hu],h⟩
    · rw[if_neg ht]
      have ha:=h0 t (by simp) ht
      by_cases hc:(cE a t.level).getD 0≠0∧(cE a t.level).getD 0≠t.assoc
      · rw[if_pos hc]
        simp only
        rintro ⟨_,h2⟩
        cases hp:cE a t.level with
        | none=>simp[hp] at hc
        | some v =>
          have:=h2 t (by simp) v ht hp
          simp[hp] at hc
          exact hc.2 this.symm
      · rw[if_neg hc]
        have hcon:∀ v,cE a t.level=some v→t.assoc=v:=fun v hp=>by
          have:=hv _ _ hp
          simp[hp] at hc
          exact (hc this).symm
        have hput:∀ n,cE (fW t.level t.assoc a) n=if n=t.level then some t.assoc else cE a n:=fun n=>by
          rw[Az]; simp
        have hk:=Bn (k:=t.level) (v:=t.assoc) hn
        have ih:=rM r (fW t.level t.assoc a) (if t.level > top then t.level else top) h0r (fun n v hp=>by
          rw[hput] at hp
          split at hp
          · simp at hp; rw[← hp]; exact ha
          · exact hv n v hp) hk.1
        have both:(oK (t :: r)∧∀ u∈t :: r,∀ v,u.level≠0→cE a u.level=some v→u.assoc=v)↔(oK r∧∀ u∈r,∀ v,u.level≠0→cE (fW t.level t.assoc a) u.level=some v→u.assoc=v):=by
          constructor
          · rintro ⟨h1,h2⟩
            refine ⟨fun u hu w hw=>h1 u (by simp[hu]) w (by simp[hw]),fun u hu v hz hp=>?_⟩
            rw[hput] at hp
            split at hp
            · rename_i e
              simp at hp; rw[← hp]
              exact h1 u (by simp[hu]) t (by simp) e hz
            · exact h2 u (by simp[hu]) v hz hp
          · rintro ⟨h1,h2⟩
            have h3:∀ u∈r,u.level=t.level→u.assoc=t.assoc:=fun u hu e=>h2 u hu t.assoc (by rw[e]; exact ht) (by rw[hput,if_pos e])
            refine ⟨fun u hu w hw e hz=>?_,fun u hu v hz hp=>?_⟩
            · rcases List.mem_cons.1 hu with e1 | hu2
              · rcases List.mem_cons.1 hw with e2 | hw2
                · rw[e1,e2]
                · rw[e1] at e ⊢
                  exact (h3 w hw2 e.symm).symm
              · rcases List.mem_cons.1 hw with e2 | hw2
                · rw[e2] at e ⊢
                  exact h3 u hu2 e
                · exact h1 u hu2 w hw2 e hz
            · rcases List.mem_cons.1 hu with rfl | hu
              · exact hcon v hp
              · by_cases e:u.level=t.level
                · rw[h3 u hu e]; exact hcon v (by rw[← e]; exact hp)
                · exact h2 u hu v hz (by rw[hput,if_neg e]; exact hp)
        have htop:top≤(if t.level > top then t.level else top)∧t.level≤(if t.level > top then t.level else top):=by split <;> omega
        cases hs:iC r (fW t.level t.assoc a) (if t.level > top then t.level else top) with
        | none=>rw[hs] at ih; simp only; rw[both]; exact ih
        | some x =>
          obtain ⟨a',top'⟩:=x
          rw[hs] at ih
          obtain ⟨i1,i2,i3,i4,i5,i6,i7⟩:=ih
          obtain ⟨b1,b2⟩:=both.2 ⟨i1,i2⟩
          refine ⟨b1,b2,i3,fun n=>?_,by omega,?_,?_⟩
          · rw[i4,hk.2]
            constructor
            · rintro ((rfl | h) | ⟨h1,u,hu,h⟩)
              · exact .inr ⟨ht,t,by simp,rfl⟩
              · exact .inl h
              · exact .inr ⟨h1,u,by simp[hu],h⟩
            · rintro (h | ⟨h1,u,hu,h⟩)
              · exact .inl (.inr h)
              · rcases List.mem_cons.1 hu with rfl | hu
                · exact .inl (.inl h.symm)
                · exact .inr ⟨h1,u,hu,h⟩
          · intro u hu hz
            rcases List.mem_cons.1 hu with rfl | hu
            · omega
            · exact i6 u hu hz
          · rcases i7 with h | ⟨u,hu,h⟩
            · by_cases e:t.level > top
              · rw[if_pos e] at h; exact .inr ⟨t,by simp,h.symm,ht⟩
              · rw[if_neg e] at h; exact .inl h
            · exact .inr ⟨u,by simp[hu],h⟩
theorem vL (l:List Term) (h:∀ t∈l,gS t=true):l8 l=true↔∀ t∈l,∀ n:Int,1≤n→n≤t.level→gH l n=true:=by
  have hb:∀ t∈l,0≤t.level∧(t.level≠0→t.assoc≠0):=fun t ht=>by
    have:=h t ht
    simp only[gS,Bool.and_eq_true,decide_eq_true_eq,beq_iff_eq] at this
    refine ⟨this.1.1.1.1.2,fun h1 h2=>?_⟩
    have e:=this.2
    simp[h1,h2] at e
  have hs:=rM l [] 0 (fun t ht=>(hb t ht).2) (by simp[cE]) (by simp)
  have hL:∀ n:Int,1≤n→(gH l n=true↔∃ a,(∃ t∈l,t.level=n)∧∀ t∈l,t.level=n→t.assoc=a):=fun n hn=>vr n l (fun t ht e=>(hb t ht).2 (by omega))
  unfold l8
  cases hx:iC l [] 0 with
  | none =>
    rw[hx] at hs
    simp only[Bool.false_eq_true,false_iff]
    intro hall
    refine hs ⟨fun t ht u hu e hz=>?_,fun t ht v _ hp=>by simp[cE] at hp⟩
    have h1:=hb t ht
    obtain ⟨a,_,h2⟩:=(hL t.level (by omega)).1 (hall t ht t.level (by omega) (by omega))
    exact (h2 t ht rfl).trans (h2 u hu e.symm).symm
  | some x =>
    obtain ⟨a,top⟩:=x
    rw[hx] at hs
    obtain ⟨i1,_,i3,i4,i5,i6,i7⟩:=hs
    simp only[beq_iff_eq]
    have hmem:∀ n,n∈a.map (·.1)↔n≠0∧∃ t∈l,t.level=n:=fun n=>by rw[i4]; simp
    have hin:∀ x∈a.map (·.1),1≤x∧x≤(top.toNat:Int):=fun x hx=>by
      obtain ⟨h1,t,ht,rfl⟩:=(hmem x).1 hx
      have:=(hb t ht).1
      have:=i6 t ht h1
      omega
    constructor
    · intro hlen t ht n hn1 hn2
      have htop:t.level≤top:=i6 t ht (by omega)
      have hm:=ID i3 hin (by simp; omega) hn1 (show n≤(top.toNat:Int) by omega)
      obtain ⟨hz,u,hu,rfl⟩:=(hmem n).1 hm
      exact (hL _ hn1).2 ⟨u.assoc,⟨u,hu,rfl⟩,fun w hw e=>i1 w hw u hu e (by omega)⟩
    · intro hall
      have h1:a.length≤top.toNat:=by
        have:=kA _ (ij top.toNat) i3 (fun x hx=>qa.2 (hin x hx))
        simpa [ij] using this
      have h2:top.toNat≤a.length:=by
        rcases i7 with e | ⟨t,ht,e,hz⟩
        · subst e; simp
        · have:=kA (ij top.toNat) (a.map (·.1)) (Bd _) (fun x hx=>by
            rw[qa] at hx
            have:=(hb t ht).1
            obtain ⟨_,⟨u,hu,hl⟩,_⟩:=(hL x hx.1).1 (hall t ht x hx.1 (by omega))
            exact (hmem x).2 ⟨by omega,u,hu,hl⟩)
          simpa [ij] using this
      omega
theorem vI (g:ao):∀ (l:List Term) (i:Int),kX g l i=true↔∀ (k:Nat) (t:Term),l[k]?=some t→m8 g (i+k) t=true
  | [],i=>by simp[kX]
  | t :: r,i=>by
    simp only[kX,Bool.and_eq_true,vI g r (i+1)]
    constructor
    · rintro ⟨h1,h2⟩ k u hk
      cases k with
      | zero=>simp at hk; subst hk; simpa using h1
      | succ k =>
        have:=h2 k u (by simpa using hk)
        rw[show i+((k+1:Nat):Int)=i+1+k by push_cast; omega]; exact this
    · intro h
      refine ⟨by simpa using h 0 t rfl,fun k u hk=>?_⟩
      have:=h (k+1) u (by simpa using hk)
      rw[show i+1+(k:Int)=i+((k+1:Nat):Int) by push_cast; omega]; exact this
theorem nB (g:ao):∀ (l:List ByteArray) (i:Int),vU g l i=true↔∀ (k:Nat) (s:ByteArray),l[k]?=some s→nU g (i+k) s=true
  | [],i=>by simp[vU]
  | t :: r,i=>by
    simp only[vU,Bool.and_eq_true,nB g r (i+1)]
    constructor
    · rintro ⟨h1,h2⟩ k u hk
      cases k with
      | zero=>simp at hk; subst hk; simpa using h1
      | succ k =>
        have:=h2 k u (by simpa using hk)
        rw[show i+((k+1:Nat):Int)=i+1+k by push_cast; omega]; exact this
    · intro h
      refine ⟨by simpa using h 0 t rfl,fun k u hk=>?_⟩
      have:=h (k+1) u (by simpa using hk)
      rw[show i+1+(k:Int)=i+((k+1:Nat):Int) by push_cast; omega]; exact this
theorem xR (g:ao) (s:ByteArray):m9 g s < 0↔s ∉ g.az.map Term.name:=by
  unfold m9
  rcases rH s (g.az.map Term.name) 0 (by omega) with ⟨h1,h2⟩ | ⟨k,h1,h2,_⟩
  · exact ⟨fun _=>h2,fun _=>h1⟩
  · constructor
    · intro h; omega
    · intro h; exact absurd (List.mem_of_getElem? h2) h
theorem yD (g:ao) (t:Term):vx g t=true↔∀ n:Int,1≤n→n≤t.level→gH g.az n=true:=by
  simp only[vx,List.all_eq_true,List.mem_range]
  constructor
  · intro h n h1 h2
    have:=h (n - 1).toNat (by omega)
    rwa [show (((n - 1).toNat:Nat):Int)+1=n by omega] at this
  · intro h k hk
    exact h _ (by omega) (by omega)
theorem Eh (g:ao):kQ g=bz g:=by
  rw[Bool.eq_iff_iff]
  simp only[kQ,bz,tc,ve,mr,Bool.and_eq_true,decide_eq_true_eq,vI,nB,Ar,List.all_eq_true,Bool.not_eq_true',List.any_eq_false,Bool.not_eq_true,ED,mE,List.nodup_append,Int.zero_add,Int.zero_sub,Bool.not_not]
  have hT:(∀ (k:Nat) (t:Term),g.az[k]?=some t→m8 g k t=true)↔(∀ t∈g.az,gS t=true)∧(g.az.map Term.name).Nodup∧(∀ t∈g.az,vx g t=true):=by
    rw[← nF]
    constructor
    · intro h
      have h':∀ t∈g.az,∃ k:Nat,g.az[k]?=some t:=fun t ht=>List.getElem?_of_mem ht
      refine ⟨fun t ht=>?_,fun k s hk=>?_,fun t ht=>?_⟩
      · obtain ⟨k,hk⟩:=h' t ht
        have:=h k t hk
        simp only[m8,gS,Bool.and_eq_true,decide_eq_true_eq] at this ⊢
        simp[this]
      · rw[List.getElem?_map,Option.map_eq_some_iff] at hk
        obtain ⟨t,hk,rfl⟩:=hk
        have:=h k t hk
        simp only[m8,Bool.and_eq_true,beq_iff_eq] at this
        exact this.1.1.1.1.1.1.2
      · obtain ⟨k,hk⟩:=h' t ht
        have:=h k t hk
        simp only[m8,Bool.and_eq_true] at this
        exact this.2
    · rintro ⟨h1,h2,h3⟩ k t hk
      have hm:=List.mem_of_getElem? hk
      have a:=h1 t hm
      have b:=h2 k t.name (by rw[List.getElem?_map,hk]; rfl)
      have c:=h3 t hm
      simp only[m8,gS,m9,Bool.and_eq_true,decide_eq_true_eq] at a ⊢
      simp[a,b,c]
  have hN:(∀ (k:Nat) (s:ByteArray),g.ax[k]?=some s→nU g k s=true)↔(∀ s∈g.ax,fZ (eR s)=true)∧g.ax.Nodup∧(∀ s∈g.ax,s ∉ g.az.map Term.name):=by
    rw[← nF]
    constructor
    · intro h
      have h':∀ t∈g.ax,∃ k:Nat,g.ax[k]?=some t:=fun t ht=>List.getElem?_of_mem ht
      refine ⟨fun t ht=>?_,fun k s hk=>?_,fun t ht=>?_⟩
      · obtain ⟨k,hk⟩:=h' t ht
        have:=h k t hk
        simp only[nU,Bool.and_eq_true] at this
        exact this.1.1
      · have:=h k s hk
        simp only[nU,AO,Bool.and_eq_true,beq_iff_eq] at this
        exact this.1.2
      · obtain ⟨k,hk⟩:=h' t ht
        have:=h k t hk
        simp only[nU,Bool.and_eq_true,decide_eq_true_eq] at this
        exact (xR g t).1 this.2
    · rintro ⟨h1,h2,h3⟩ k s hk
      have hm:=List.mem_of_getElem? hk
      have a:=h1 s hm
      have b:=h2 k s hk
      have c:=(xR g s).2 (h3 s hm)
      simp[nU,AO,a,b,c]
  rw[hT,hN]
  constructor
  · rintro ⟨⟨⟨⟨⟨⟨⟨⟨t1,t2⟩,t3⟩,n1,n2⟩,r1,r2⟩,a1,a2,a3⟩,s1,s2⟩,n3⟩,ru⟩
    have hl:=(vL g.az t1).1 t3
    exact ⟨⟨⟨⟨⟨⟨⟨t2,t1,a2,fun t ht=>(yD g t).2 (hl t ht)⟩,⟨by omega,by omega⟩,fun s hs=>by simpa using n3 s hs,a1,fun s hs hm=>a3 s hs s hm rfl⟩,by omega⟩,by omega⟩,s1⟩,by omega⟩,ru⟩
  · rintro ⟨⟨⟨⟨⟨⟨⟨t2,t1,a2,t3⟩,⟨n1,n2⟩,n3,a1,a3⟩,r1⟩,r2⟩,s1⟩,s2⟩,ru⟩
    have hl:=(vL g.az t1).2 (fun t ht=>(yD g t).1 (t3 t ht))
    exact ⟨⟨⟨⟨⟨⟨⟨⟨t1,t2⟩,hl⟩,by omega,by omega⟩,by omega,by omega⟩,a1,a2,fun s hs u hu e=>a3 s hs (e ▸ hu)⟩,s1,by omega⟩,fun s hs=>by simp[n3 s hs]⟩,ru⟩
theorem nb (g:ao) (hg:g.Ok) (hs:g.ax.length+g.az.length≤1000):aC Tryz.prog 52 [.agg (aR g)] (gb (bz g)):=by
  rw[← Eh]; exact DZ g hg hs
def wk (n:Nat) (r:aG):Prop:=cd r.left∧0≤r.left∧r.left < n∧r.right.length≤6∧∀ s∈r.right,cd s∧(s < 0→-1 - s < n)
theorem ao.rj.rP {g:ao} (hg:g.Ok) (h:g.rj) {r:aG} (hr:r∈g.rules):wk g.ax.length r :=
  ⟨(hg.aT r hr).1,(h.left r hr).1,(h.left r hr).2,h.right r hr,fun s hs=>⟨(hg.aT r hr).2.2.2 s hs,fun hn=>h.neg hr hs hn⟩⟩
def qJ:SF:=⟨.seq (ar [bd 2 false]) <|
  .seq (ar [aa 3 0,av 4 .geq 3 0,aa 2 4]) <|
  .ret,
  [.tmp 2],5⟩
theorem tT:bm Tryz.prog 209 []=some qJ:=by kernel_rfl
def tP:SF:=⟨.seq (ar [cX 1 0,bd 2 false]) <|
  .seq (ar [al 3 1 1,ak 4 3,ca 5 91 [(.tmp 4),(.val (.fn 209 [] []))],cF 6 5,aa 2 6]) <|
  .ret,
  [.tmp 2],7⟩
theorem xt:bm Tryz.prog 171 [1]=some tP:=by kernel_rfl
def nA:SF:=⟨.seq (ar [bd 3 false]) <|
  .seq (.region false [⟨none,[aa 4 0,av 5 .lss 4 0,aa 6 5]⟩,⟨(some (6,true)),[ak 7 1,aa 8 0,((some 9),.op (.arith .sub (.val (.val (.int .i64 (-1)))) (.tmp 8))),aL 10 1 7 9,ak 11 10,cF 12 11]⟩,⟨none,[bC 13 6 12,aa 3 13]⟩]) <|
  .ret,
  [.tmp 3],14⟩
theorem rz:bm Tryz.prog 197 []=some nA:=by kernel_rfl
def qy:SF:=⟨.seq (ar [cX 2 0,cX 3 1,bd 4 false]) <|
  .seq (ar [al 5 1 2,ak 6 5,((some 7),.op (.mD 197 [] [(.tmp 3)])),aD 8 91 [6,7],cF 9 8,aa 4 9]) <|
  .ret,
  [.tmp 4],10⟩
theorem uL:bm Tryz.prog 160 [2,3]=some qy:=by kernel_rfl
def lH:SF:=⟨.seq (ar [cX 2 0,((some 4),.op (.aX (.val (.emp 1))))]) <|
  .seq (.seq (.region false [⟨none,[aO 5 3 2,aD 6 171 [5],aa 7 6]⟩,⟨(some (7,true)),[aO 8 3 2,aa 9 1,aD 10 160 [8,9]]⟩,⟨none,[bC 11 7 10]⟩]) <|
  .cond (.tmp 11) (.seq (ar [al 12 0 2,ak 13 12,((some 14),.op (.bg 1 1 [(.val (.int .i64 0))] [(0,(.tmp 13))])),aa 4 14]) <|
  .ret) (.skip)) <|
  .seq (ar [((some 4),.op (.aX (.val (.emp 1))))]) <|
  .ret,
  [.tmp 4],15⟩
theorem pT:bm Tryz.prog 170 [2]=some lH:=by kernel_rfl
def jR:SF:=⟨.seq (ar [cX 2 0,((some 4),.op (.aX (.val (.emp 1))))]) <|
  .seq (.seq (ar [aO 5 3 2,aa 6 1,aD 7 160 [5,6]]) <|
  .cond (.tmp 7) (.seq (ar [al 8 0 2,ak 9 8,((some 10),.op (.bg 1 1 [(.val (.int .i64 0))] [(0,(.tmp 9))])),aa 4 10]) <|
  .ret) (.skip)) <|
  .seq (ar [((some 4),.op (.aX (.val (.emp 1))))]) <|
  .ret,
  [.tmp 4],11⟩
theorem ow:bm Tryz.prog 195 [2]=some jR:=by kernel_rfl
def jw:SC :=
  .seq (ar [aM 24 .lss 23 22]) <|
  .seq (.cond (.tmp 24) (.skip) (.exit 0)) <|
  .seq (.block 1 (.seq (ar [aL 25 1 21 23,ak 26 25,aa 7 26]) <|
  .seq (ar [aa 27 7,av 28 .lss 27 0]) <|
  .cond (.tmp 28) (ar [aa 29 5,aa 30 7,((some 31),.op (.arith .sub (.val (.val (.int .i64 (-1)))) (.tmp 30))),((some 32),.op (.bg 1 1 [(.val (.int .i64 0))] [(0,(.tmp 31))])),((some 33),.op (.app 1 8 (.tmp 29) (.tmp 32))),aa 5 33]) (.skip))) <|
  ar [av 34 .add 23 1,aa 23 34]
def kC:SF:=⟨.seq (ar [cX 3 0,((some 5),.op (.aX (.val (.emp 1))))]) <|
  .seq (.seq (.region false [⟨none,[aa 8 1,al 9 0 3,ak 10 9,aL 11 1 8 10,ak 12 11,cF 13 12,aa 14 13]⟩,⟨(some (14,false)),[aO 15 3 3,ak 16 2,aD 17 160 [15,16],cF 18 17]⟩,⟨none,[bU 19 14 18]⟩]) <|
  .cond (.tmp 19) (.seq (ar [((some 5),.op (.aX (.val (.emp 1))))]) <|
  .ret) (.skip)) <|
  .seq (.seq (ar [al 20 1 3,ak 21 20,aK 22 21,aA 23 0]) <|
  .block 0 (.loop jw)) <|
  .seq (ar [aa 35 5,aa 5 35]) <|
  .ret,
  [.tmp 5],36⟩
theorem oP:bm Tryz.prog 196 [3]=some kC:=by kernel_rfl
theorem Gc (r:aG):∀ v∈[V.agg (bf r)],Tree v:=by intro v hv; simp at hv; subst hv; exact eX _ (dN r)
theorem ua (r:aG) (is:List Bool):∀ v∈[V.agg (bf r),cg is],Tree v:=by
  intro v hv; simp at hv
  rcases hv with rfl | rfl
  · exact eX _ (dN r)
  · exact iT is
theorem G7 (x:Int):aC Tryz.prog 209 [gi x] (gb (decide (0≤x))):=by
  refine aC.val (sM (l:=[.int .i64 x])) fun H=>?_
  refine aH.of mixed tT ?_
  simp (disch:=omega) only [↓wr,↓reduceIte,wq,ai,ah,an,ab,af,ag,aj,isNil,Nat.reduceEqDiff,Nat.reduceAdd,Nat.reduceLT,Nat.reduceLeDiff,Int.reduceNeg,Int.reduceToNat,reduceCtorEq,qJ]
theorem I5 (r:aG) (hr:aU r.right):aC Tryz.prog 171 [.agg (bf r)] (gb (!r.right.any fun s=>decide (0≤s))):=by
  refine aC.val (Gc r) fun H=>?_
  refine aH.of mixed xt ?_
  simp (disch:=omega) only [↓wr,↓reduceIte,wq,ai,ah,an,ab,af,ag,aj,isNil,Nat.reduceEqDiff,Nat.reduceAdd,Nat.reduceLT,Nat.reduceLeDiff,Int.reduceNeg,Int.reduceToNat,reduceCtorEq,tP,bf,encI]
  refine aJ.pure (iE r.right hr 209 [] (by simp) (fun s=>decide (0≤s)) (fun x _=>G7 x) (by kernel_rfl)) (by kernel_rfl) ?_
  simp (disch:=omega) only [↓wr,↓reduceIte,wq,ai,ah,an,ab,af,ag,aj,isNil,Nat.reduceEqDiff,Nat.reduceAdd,Nat.reduceLT,Nat.reduceLeDiff,Int.reduceNeg,Int.reduceToNat,reduceCtorEq]
def xh (is:List Bool) (s:Int):Bool:=decide (s < 0) && !is.getD (-1 - s).toNat false
theorem Eb (is:List Bool) (s:Int) (hs:cd s∧(s < 0→-1 - s < is.length)):aC Tryz.prog 197 [gi s,.aY [cg is] 0] (gb (xh is s)):=by
  refine aC.val ?_ fun H=>?_
  · intro v hv; simp at hv
    rcases hv with rfl | rfl
    · exact .val _
    · exact gE (by intro v hv; simp at hv; subst hv; exact iT is)
  obtain ⟨⟨h1,h2⟩,h3⟩:=hs
  refine aH.of mixed rz ?_
  simp (disch:=omega) only [↓wr,↓reduceIte,wq,ai,ah,an,ab,af,ag,aj,isNil,Nat.reduceEqDiff,Nat.reduceAdd,Nat.reduceLT,Nat.reduceLeDiff,Int.reduceNeg,Int.reduceToNat,reduceCtorEq,nA,cg]
  refine ay.dec (fun h=>?_) (fun h=>?_)
  · have hb:is[(-1 - s).toNat]?=some (is[(-1 - s).toNat]'(by omega)):=List.getElem?_eq_getElem (by omega)
    have hbd:is.getD (-1 - s).toNat false=is[(-1 - s).toNat]'(by omega):=by simp[List.getD_eq_getElem?_getD,hb]
    generalize is[(-1 - s).toNat]'(by omega)=b at hb hbd
    simp (disch:=omega) only [↓wr,↓reduceIte,wq,ai,ah,an,ab,af,ag,aj,isNil,Nat.reduceEqDiff,Nat.reduceAdd,Nat.reduceLT,Nat.reduceLeDiff,Int.reduceNeg,Int.reduceToNat,reduceCtorEq,List.getElem?_map,hb]
    simp only[xh,hbd,h,decide_true,Bool.true_and]
  · simp (disch:=omega) only [↓wr,↓reduceIte,wq,ai,ah,an,ab,af,ag,aj,isNil,Nat.reduceEqDiff,Nat.reduceAdd,Nat.reduceLT,Nat.reduceLeDiff,Int.reduceNeg,Int.reduceToNat,reduceCtorEq]
    simp[xh,h]
theorem El {is:List Bool} {l:List Int} : (!l.any (xh is))=dg l is true:=by
  simp only[dg,List.not_any_eq_all_not]
  congr 1
  funext s
  simp only[xh]
  by_cases h:0≤s
  · simp[h,show ¬ s < 0 by omega]
  · simp[h,show s < 0 by omega]
theorem nq (r:aG) (is:List Bool) (hr:aU r.right) (hs:∀ s∈r.right,cd s∧(s < 0→-1 - s < is.length)):aC Tryz.prog 160 [.agg (bf r),cg is] (gb (dg r.right is true)):=by
  rw[← El]
  refine aC.val (ua r is) fun H=>?_
  refine aH.of mixed uL ?_
  simp (disch:=omega) only [↓wr,↓reduceIte,wq,ai,ah,an,ab,af,ag,aj,isNil,Nat.reduceEqDiff,Nat.reduceAdd,Nat.reduceLT,Nat.reduceLeDiff,Int.reduceNeg,Int.reduceToNat,reduceCtorEq,qy,bf,cg,encI]
  refine aJ.pure (iE r.right hr 197 [.aY [cg is] 0] (by
    intro v hv; simp at hv; subst hv
    exact gE (by intro v hv; simp at hv; subst hv; exact iT is)) (xh is) (fun x hx=>Eb is x (hs x hx)) (by kernel_rfl)) (by kernel_rfl) ?_
  simp (disch:=omega) only [↓wr,↓reduceIte,wq,ai,ah,an,ab,af,ag,aj,isNil,Nat.reduceEqDiff,Nat.reduceAdd,Nat.reduceLT,Nat.reduceLeDiff,Int.reduceNeg,Int.reduceToNat,reduceCtorEq]
theorem BL {is:List Bool} {l:List Int} : ((!l.any fun s=>decide (0≤s)) && dg l is true)=dg l is false:=by
  induction l with
  | nil=>rfl
  | cons s l ih =>
    simp only[dg,List.all_cons,List.any_cons] at ih ⊢
    rw[← ih]
    by_cases h:0≤s
    · simp[h]
    · simp only[h,decide_false,Bool.false_or,if_false]
      cases (l.any fun s=>decide (0≤s)) <;> simp
theorem iH {h:aw} {u:V} {l:List Int} (ho:aV h.view u 1 (l.map fun x=>[gi x])):dh h u (encI l):=dh.Hi (f:=Value.int .i64) ho
theorem A3 (r:aG) (is:List Bool) (hr:wk is.length r):cJ Tryz.prog 170 [.agg (bf r),cg is] (encI (if dg r.right is false=true then [r.left] else [])):=by
  obtain ⟨hl,_,_,hr6,hs⟩:=hr
  have hsh:aU r.right:=by unfold aU; omega
  refine cJ.of (ua r is) ?_
  refine aH.of mixed pT ?_
  rw[← BL]
  simp (disch:=omega) only [↓wr,↓reduceIte,wq,ai,ah,an,ab,af,ag,aj,isNil,Nat.reduceEqDiff,Nat.reduceAdd,Nat.reduceLT,Nat.reduceLeDiff,Int.reduceNeg,Int.reduceToNat,reduceCtorEq,lH,bf,encI]
  refine aJ.pure (I5 r hsh) (by kernel_rfl) ?_
  repeat' (first | (refine ay.dec (fun _=>?_) (fun _=>?_)) | (refine ay.eq (fun _=>?_) (fun _=>?_)) | (refine ay.ne (fun _=>?_) (fun _=>?_)) | (refine ay.split (fun _=>?_) (fun _=>?_)) | (refine aJ.pure (nq r is hsh hs) (by kernel_rfl) ?_) | (simp (disch:=omega) only [↓wr,↓reduceIte,wq,ai,ah,an,ab,af,ag,aj,isNil,Nat.reduceEqDiff,Nat.reduceAdd,Nat.reduceLT,Nat.reduceLeDiff,Int.reduceNeg,Int.reduceToNat,reduceCtorEq,bf,encI]))
  all_goals first
    | (intro n h' hh; rw[if_pos (by simp[*])]; exact iH (l:=[r.left]) (.inr ⟨n,rfl,by rw[hh]; simp[View.set]⟩))
    | (intro h' hh; rw[if_neg (by simp[*])]; exact .emp _)
theorem xy (r:aG) (is:List Bool) (hr:wk is.length r):cJ Tryz.prog 195 [.agg (bf r),cg is] (encI (if dg r.right is true=true then [r.left] else [])):=by
  obtain ⟨hl,_,_,hr6,hs⟩:=hr
  have hsh:aU r.right:=by unfold aU; omega
  refine cJ.of (ua r is) ?_
  refine aH.of mixed ow ?_
  simp (disch:=omega) only [↓wr,↓reduceIte,wq,ai,ah,an,ab,af,ag,aj,isNil,Nat.reduceEqDiff,Nat.reduceAdd,Nat.reduceLT,Nat.reduceLeDiff,Int.reduceNeg,Int.reduceToNat,reduceCtorEq,jR,bf,encI]
  refine aJ.pure (nq r is hsh hs) (by kernel_rfl) ?_
  repeat' (first | (refine ay.dec (fun _=>?_) (fun _=>?_)) | (refine ay.eq (fun _=>?_) (fun _=>?_)) | (refine ay.ne (fun _=>?_) (fun _=>?_)) | (refine ay.split (fun _=>?_) (fun _=>?_)) | (simp (disch:=omega) only [↓wr,↓reduceIte,wq,ai,ah,an,ab,af,ag,aj,isNil,Nat.reduceEqDiff,Nat.reduceAdd,Nat.reduceLT,Nat.reduceLeDiff,Int.reduceNeg,Int.reduceToNat,reduceCtorEq,bf,encI]))
  all_goals first
    | (intro n h' hh; rw[if_pos (by simp[*])]; exact iH (l:=[r.left]) (.inr ⟨n,rfl,by rw[hh]; simp[View.set]⟩))
    | (intro h' hh; rw[if_neg (by simp[*])]; exact .emp _)
def dM (l:List Int):List Int:=(l.filter fun s=>decide (s < 0)).map fun s=>-1 - s
theorem FK (r:aG) (is p:List Bool):∀ v∈[V.agg (bf r),cg is,.aY [cg p] 0],Tree v:=by
  intro v hv; simp at hv
  rcases hv with rfl | rfl | rfl
  · exact eX _ (dN r)
  · exact iT is
  · exact gE (by intro v hv; simp at hv; subst hv; exact iT p)
set_option maxHeartbeats 1000000 in
theorem y9 (r:aG) (is p:List Bool) (hr:wk is.length r) (hp:p.length=is.length) :
    cJ Tryz.prog 196 [.agg (bf r),cg is,.aY [cg p] 0] (encI (if (is.getD r.left.toNat false && dg r.right p true)=true then dM r.right else [])):=by
  obtain ⟨hl,hl0,hl1,hr6,hs⟩:=hr
  have hsh:aU r.right:=by unfold aU; omega
  refine cJ.of (FK r is p) ?_
  refine aH.of mixed oP ?_
  have hb:is[r.left.toNat]?=some (is[r.left.toNat]'(by omega)):=List.getElem?_eq_getElem (by omega)
  have hbd:is.getD r.left.toNat false=is[r.left.toNat]'(by omega):=by simp[List.getD_eq_getElem?_getD,hb]
  generalize is[r.left.toNat]'(by omega)=b at hb hbd
  rw[hbd]
  simp (disch:=omega) only [↓wr,↓reduceIte,wq,ai,ah,an,ab,af,ag,aj,isNil,Nat.reduceEqDiff,Nat.reduceAdd,Nat.reduceLT,Nat.reduceLeDiff,Int.reduceNeg,Int.reduceToNat,reduceCtorEq,kC,bf,encI,cg,List.getElem?_map,hb]
  cases b with
  | false =>
    simp (disch:=omega) only [↓wr,↓reduceIte,wq,ai,ah,an,ab,af,ag,aj,isNil,Nat.reduceEqDiff,Nat.reduceAdd,Nat.reduceLT,Nat.reduceLeDiff,Int.reduceNeg,Int.reduceToNat,reduceCtorEq]
    intro h' hh
    exact .emp _
  | true =>
    simp (disch:=omega) only [↓wr,↓reduceIte,wq,ai,ah,an,ab,af,ag,aj,isNil,Nat.reduceEqDiff,Nat.reduceAdd,Nat.reduceLT,Nat.reduceLeDiff,Int.reduceNeg,Int.reduceToNat,reduceCtorEq,bf,encI,cg]
    refine aJ.pure (nq r p hsh (fun s hs'=>⟨(hs s hs').1,fun h=>by rw[hp]; exact (hs s hs').2 h⟩)) (by kernel_rfl) ?_
    repeat' (first | (refine ay.dec (fun _=>?_) (fun _=>?_)) | (refine ay.eq (fun _=>?_) (fun _=>?_)) | (refine ay.ne (fun _=>?_) (fun _=>?_)) | (refine ay.split (fun _=>?_) (fun _=>?_)) | (simp (disch:=omega) only [↓wr,↓reduceIte,wq,ai,ah,an,ab,af,ag,aj,isNil,Nat.reduceEqDiff,Nat.reduceAdd,Nat.reduceLT,Nat.reduceLeDiff,Int.reduceNeg,Int.reduceToNat,reduceCtorEq,bf,encI,cg]))
    · rename_i ha
      rw[if_pos (by simp[ha])]
      refine cH.up r.right.length (fun i T H=>(∃ u,T 5=u∧aV H u 1 ((dM (r.right.take i)).map fun x=>[gi x]))∧T 21=encI r.right∧T 22=gi r.right.length∧T 23=gi i) ?_ ?_
      · exact ⟨⟨_,rfl,.nil⟩,rfl,rfl,rfl⟩
      rintro i k T H' hk ⟨⟨u,h5,hu⟩,h21,h22,h23⟩
      simp (disch:=omega) only [↓wr,↓reduceIte,wq,ai,ah,an,ab,af,ag,aj,isNil,Nat.reduceEqDiff,Nat.reduceAdd,Nat.reduceLT,Nat.reduceLeDiff,Int.reduceNeg,Int.reduceToNat,reduceCtorEq,jw,h5,h21,h22,h23,encI]
      refine ay.dec (fun hc=>?_) (fun hc=>?_)
      · have hg:r.right[i]?=some (r.right[i]'(by omega)):=List.getElem?_eq_getElem (by omega)
        have hm:r.right[i]'(by omega)∈r.right:=List.getElem_mem _
        have htk:dM (r.right.take (i+1))=dM (r.right.take i) ++ dM [r.right[i]'(by omega)]:=by
          rw[List.take_add_one,hg,dM,List.filter_append,List.map_append]; rfl
        have hlen:(dM (r.right.take i)).length≤6:=by
          have h1:(dM (r.right.take i)).length≤(r.right.take i).length:=by simp only[dM,List.length_map]; exact List.length_filter_le _ _
          have h2:(r.right.take i).length≤i:=List.length_take_le _ _
          omega
        generalize r.right[i]'(by omega)=s at hg hm htk
        obtain ⟨⟨s1,s2⟩,s3⟩:=hs s hm
        simp (disch:=omega) only [↓wr,↓reduceIte,wq,ai,ah,an,ab,af,ag,aj,isNil,Nat.reduceEqDiff,Nat.reduceAdd,Nat.reduceLT,Nat.reduceLeDiff,Int.reduceNeg,Int.reduceToNat,reduceCtorEq,h5,h21,h22,h23,encI,List.getElem?_map,hg]
        refine ay.dec (fun hd=>?_) (fun hd=>?_)
        · simp (disch:=omega) only [↓wr,↓reduceIte,wq,ai,ah,an,ab,af,ag,aj,isNil,Nat.reduceEqDiff,Nat.reduceAdd,Nat.reduceLT,Nat.reduceLeDiff,Int.reduceNeg,Int.reduceToNat,reduceCtorEq,h5,h21,h22,h23]
          intro m hm
          try simp (disch:=omega) only [↓wr,↓reduceIte,wq,ai,ah,an,ab,af,ag,aj,isNil,Nat.reduceEqDiff,Nat.reduceAdd,Nat.reduceLT,Nat.reduceLeDiff,Int.reduceNeg,Int.reduceToNat,reduceCtorEq,h5,h21,h22,h23,e9]
          refine r8 (hu.fresh hm) (by simp) (by simp[aN]) (by unfold aW; simp at hlen ⊢; omega) (by unfold aW; simp at hlen ⊢; omega) ?_
          intro u' H2 hu' _
          simp (disch:=omega) only [↓wr,↓reduceIte,wq,ai,ah,an,ab,af,ag,aj,isNil,Nat.reduceEqDiff,Nat.reduceAdd,Nat.reduceLT,Nat.reduceLeDiff,Int.reduceNeg,Int.reduceToNat,reduceCtorEq,h21,h22,h23]
          refine bO hk (by omega) ⟨⟨u',rfl,?_⟩,h21,h22,rfl⟩
          rw[htk]
          simpa [dM,hd] using hu'
        · simp (disch:=omega) only [↓wr,↓reduceIte,wq,ai,ah,an,ab,af,ag,aj,isNil,Nat.reduceEqDiff,Nat.reduceAdd,Nat.reduceLT,Nat.reduceLeDiff,Int.reduceNeg,Int.reduceToNat,reduceCtorEq,h5,h21,h22,h23]
          refine bO hk (by omega) ⟨⟨u,h5,?_⟩,h21,h22,rfl⟩
          rw[htk]
          simpa [dM,hd] using hu
      · rw[List.take_of_length_le (by omega)] at hu
        simp (disch:=omega) only [↓wr,↓reduceIte,wq,ai,ah,an,ab,af,ag,aj,isNil,Nat.reduceEqDiff,Nat.reduceAdd,Nat.reduceLT,Nat.reduceLeDiff,Int.reduceNeg,Int.reduceToNat,reduceCtorEq,h5,h21,h22,h23]
        intro h' hh
        exact iH (by rw[hh]; exact hu)
    · rename_i ha
      intro h' hh
      rw[if_neg (by simp[ha])]
      exact .emp _
def lT (is:List Bool) (l:List Int):List Bool:=l.foldl (fun is n=>is.set n.toNat true) is
def stepG (comes:aG→List Bool→List Int) (is:List Bool) (r:aG):List Bool:=lT is (comes r is)
def cw (comes:aG→List Bool→List Int) (rules:List aG) (is:List Bool):List Bool:=rules.foldl (stepG comes) is
def ee (a b:List Bool):Prop:=a.length=b.length∧∀ i,a.getD i false=true→b.getD i false=true
theorem ee.refl (a:List Bool):ee a a:=⟨rfl,fun _ h=>h⟩
theorem ee.trans {a b c:List Bool} (h:ee a b) (k:ee b c):ee a c:=⟨h.1.trans k.1,fun i hi=>k.2 i (h.2 i hi)⟩
theorem ee.set (a:List Bool) (i:Nat):ee a (a.set i true):=by
  refine ⟨by simp,fun j h=>?_⟩
  simp only[List.getD_eq_getElem?_getD,List.getElem?_set] at h ⊢
  split
  · split
    · rfl
    · rename_i e h2; rw[← e,List.getElem?_eq_none (by omega)] at h; simp at h
  · exact h
theorem zC:∀ (l:List Int) (is:List Bool),ee is (lT is l)
  | [],is=>.refl _
  | n :: l,is=>(ee.set is n.toNat).trans (zC l _)
theorem nt (comes:aG→List Bool→List Int):∀ (rules:List aG) (is:List Bool),ee is (cw comes rules is)
  | [],is=>.refl _
  | r :: rs,is=>(zC _ _).trans (nt comes rs _)
def c4 (a:List Bool):Nat:=a.countP fun x=>x
theorem uH (a:List Bool):c4 a≤a.length:=List.countP_le_length
theorem ee.c4:∀ {a b:List Bool},ee a b→c4 a≤c4 b∧(c4 a=c4 b→a=b)
  | [],[],_=>⟨Nat.le_refl _,fun _=>rfl⟩
  | [],_ :: _,h=>by simp[ee] at h
  | _ :: _,[],h=>by simp[ee] at h
  | x :: a,y :: b,h=>by
    have hxy:x=true→y=true:=fun e=>by have:=h.2 0 (by simpa using e); simpa using this
    obtain ⟨h1,h2⟩:=ee.c4 (a:=a) (b:=b) ⟨by simpa using h.1,fun i hi=>by have:=h.2 (i+1) (by simpa using hi); simpa using this⟩
    unfold Gv.c4 at h1 h2 ⊢
    simp only[List.countP_cons]
    cases x with
    | true =>
      have:=hxy rfl; subst this
      simp only[if_true]
      exact ⟨by omega,fun e=>by rw[h2 (by omega)]⟩
    | false =>
      cases y with
      | false=>simp only[Bool.false_eq_true,if_false]; exact ⟨by omega,fun e=>by rw[h2 (by omega)]⟩
      | true=>simp only[Bool.false_eq_true,if_false,if_true]; exact ⟨by omega,fun e=>by omega⟩
def eh (comes:aG→List Bool→List Int) (rules:List aG):Nat→List Bool→List Bool
  | 0,is=>is
  | k+1,is=>if cw comes rules is=is then is else eh comes rules k (cw comes rules is)
theorem m5 (comes:aG→List Bool→List Int) (rules:List aG):∀ (k:Nat) (is:List Bool),is.length≤c4 is+k→cw comes rules (eh comes rules k is)=eh comes rules k is∧ee is (eh comes rules k is)
  | 0,is,h=>by
    have h1:=nt comes rules is
    have h2:=uH (cw comes rules is)
    have h3:=h1.c4
    rw[← h1.1] at h2
    have h4:=uH is
    exact ⟨(h3.2 (by omega)).symm,.refl _⟩
  | k+1,is,h=>by
    simp only[eh]
    by_cases e:cw comes rules is=is
    · rw[if_pos e]; exact ⟨e,.refl _⟩
    · rw[if_neg e]
      have h1:=nt comes rules is
      have h3:=h1.c4
      have:c4 is < c4 (cw comes rules is):=by
        rcases Nat.lt_or_ge (c4 is) (c4 (cw comes rules is)) with h | h
        · exact h
        · exact absurd (h3.2 (by omega)).symm e
      obtain ⟨g1,g2⟩:=m5 comes rules k (cw comes rules is) (by rw[← h1.1]; omega)
      exact ⟨g1,h1.trans g2⟩
def qD:SC :=
  .seq (ar [aM 26 .lss 25 24]) <|
  .seq (.cond (.tmp 26) (.skip) (.exit 4)) <|
  .seq (.block 5 (.seq (ar [aL 27 1 23 25,ak 28 27,aa 11 28]) <|
  .seq (.region false [⟨none,[aa 29 7,aa 30 29]⟩,⟨(some (30,false)),[aa 31 1,aa 32 11,aL 33 1 31 32,ak 34 33,cF 35 34]⟩,⟨none,[bU 36 30 35,aa 7 36]⟩]) <|
  ar [aa 37 1,aa 38 11,aL 39 1 37 38,(none,.op (.store 1 (.tmp 39) (.val (.val (.bool true)))))])) <|
  ar [av 40 .add 25 1,aa 25 40]
def qQ:SC :=
  .seq (ar [aM 17 .lss 16 15]) <|
  .seq (.cond (.tmp 17) (.skip) (.exit 2)) <|
  .seq (.block 3 (.seq (ar [aL 18 3 14 16,aO 19 3 18,((some 9),.op (.alloc [(.val (.int .i64 0)),(.emp 1),(.val (.int .i64 0))])),(none,.op (.store 3 (.tmp 9) (.tmp 19)))]) <|
  .seq (ar [aa 20 2,aO 21 3 9,aa 22 1,((some 23),.call (.tmp 20) [(.tmp 21),(.tmp 22)]),aK 24 23,aA 25 0]) <|
  .block 4 (.loop qD))) <|
  ar [av 41 .add 16 1,aa 16 41]
def ll:SC :=
  .seq (.seq (ar [aa 12 7]) <|
  .cond (.tmp 12) (.skip) (.exit 0)) <|
  .block 1 (.seq (ar [bd 7 false]) <|
  .seq (ar [al 13 2 3,ak 14 13,aK 15 14,aA 16 0]) <|
  .block 2 (.loop qQ))
def tt:SF:=⟨.seq (ar [cX 3 0,((some 6),.op (.aX (.val (.emp 1))))]) <|
  .seq (.seq (ar [bd 7 true]) <|
  .block 0 (.loop ll)) <|
  .seq (ar [aa 42 1,aa 6 42]) <|
  .ret,
  [.tmp 6],43⟩
theorem xg:bm Tryz.prog 169 [3]=some tt:=by kernel_rfl
theorem Hf {is:List Bool} {i:Nat} (h:is.getD i false=true):is.set i true=is:=by
  apply List.ext_getElem?
  intro j
  simp only[List.getD_eq_getElem?_getD] at h
  rw[List.getElem?_set]
  split
  · rename_i e; subst e
    split
    · rename_i hl; rw[List.getElem?_eq_getElem hl] at h ⊢; simp at h; simp[h]
    · rename_i hl; rw[List.getElem?_eq_none (by omega)] at h; simp at h
  · rfl
theorem Dx {comes:aG→List Bool→List Int} {rules:List aG} {k:Nat} {is:List Bool} (h:cw comes rules is=is):eh comes rules k is=is:=by
  cases k with
  | zero=>rfl
  | succ k=>simp only[eh,h,if_true]
theorem DP {comes:aG→List Bool→List Int} {rules:List aG} {k:Nat} {is:List Bool} (h:¬ cw comes rules is=is) (hk:is.length≤c4 is+k):∃ j,k=j+1∧eh comes rules k is=eh comes rules j (cw comes rules is)∧(cw comes rules is).length≤c4 (cw comes rules is)+j:=by
  have h1:=nt comes rules is
  have h3:=h1.c4
  have h5:=uH (cw comes rules is)
  have:c4 is < c4 (cw comes rules is):=by
    rcases Nat.lt_or_ge (c4 is) (c4 (cw comes rules is)) with h | h
    · exact h
    · exact absurd (h3.2 (by omega)).symm (by assumption)
  have hl:=h1.1
  obtain ⟨j,rfl⟩:∃ j,k=j+1:=⟨k - 1,by omega⟩
  exact ⟨j,rfl,by simp only[eh]; rw[if_neg h],by omega⟩
theorem Ho {a is:List Bool} {i:Nat} {b:Bool} (hle:ee a is) (hi:i < is.length) (hb:b = !decide (is=a)):(b || !is.getD i false) = !decide (is.set i true=a):=by
  cases hx:is.getD i false with
  | true=>rw[Hf hx,hb]; simp
  | false =>
    have:¬ is.set i true=a:=fun e=>by
      have h1:(is.set i true).getD i false=true:=by simp[List.getD_eq_getElem?_getD,hi]
      rw[e] at h1
      have:=hle.2 i h1
      rw[hx] at this; simp at this
    simp[this]
set_option maxHeartbeats 8000000 in
theorem wX (g:ao) (hr:g.rules.length≤40) (comes:aG→List Bool→List Int) (f:FuncId) (capt capt':List V) (hok:bZ Tryz.prog f=true) (N:Nat) (hN:N≤16)
    (hc:∀ r∈g.rules,∀ is:List Bool,is.length=N→cJ Tryz.prog f (.agg (bf r) :: cg is :: capt') (encI (comes r is))∧(comes r is).length≤100∧∀ n∈comes r is,cd n∧0≤n∧n < N)
    (id:Nat) (is0:List Bool) (his:is0.length=N) (H:View) (hH:H id=.arr 1 (du is0)) (hlent:∀ H':View,(∀ k,H k≠.dead→k≠id→H' k=H k)→ko H' capt capt') :
    aH Tryz.prog 169 [.agg (aR g),.sl id 0 N 1,.fn f [] capt] H fun r H'=>r=.sl id 0 N 1∧H' id=.arr 1 (du (eh comes g.rules 16 is0))∧∀ k,H k≠.dead→k≠id→H' k=H k:=by
  refine aH.of mixed xg ?_
  simp (disch:=omega) only [↓wr,↓reduceIte,wq,ai,ah,an,ab,af,ag,aj,isNil,Nat.reduceEqDiff,Nat.reduceAdd,Nat.reduceLT,Nat.reduceLeDiff,Int.reduceNeg,Int.reduceToNat,reduceCtorEq,tt,aR,encS]
  refine cH.intro (fun k T H'=>∃ is:List Bool,is.length=N∧H' id=.arr 1 (du is)∧(∀ k,H k≠.dead→k≠id→H' k=H k)∧T 1=.sl id 0 N 1∧T 2=.fn f [] capt∧T 3=.aY (aR g) 0 ∧
    ((T 7=gb true∧∃ j,k=j+1∧eh comes g.rules j is=eh comes g.rules 16 is0∧N≤c4 is+j)∨(T 7=gb false∧is=eh comes g.rules 16 is0))) 17 ?_ ?_
  · exact ⟨is0,his,hH,fun _ _ _=>rfl,rfl,rfl,rfl,.inl ⟨rfl,16,rfl,rfl,by omega⟩⟩
  rintro k T H1 ⟨is,hlen,hid,hfr,t1,t2,t3,h7⟩
  rcases h7 with ⟨h7,j,rfl,hgr,hj⟩ | ⟨h7,hgr⟩
  · simp (disch:=omega) only [↓wr,↓reduceIte,wq,ai,ah,an,ab,af,ag,aj,isNil,Nat.reduceEqDiff,Nat.reduceAdd,Nat.reduceLT,Nat.reduceLeDiff,Int.reduceNeg,Int.reduceToNat,reduceCtorEq,ll,t1,t2,t3,h7,aR,encS]
    refine cH.up g.rules.length (fun i T H'=>∃ jW:List Bool,jW.length=N∧ee is jW∧jW=(g.rules.take i).foldl (stepG comes) is∧H' id=.arr 1 (du jW)∧(∀ k,H k≠.dead→k≠id→H' k=H k)∧T 1=.sl id 0 N 1∧T 2=.fn f [] capt∧T 3=.aY (aR g) 0 ∧
      T 7=gb (!decide (jW=is))∧T 14=.aF (g.rules.map bf)∧T 15=gi g.rules.length∧T 16=gi i) ?_ ?_
    · exact ⟨is,hlen,.refl _,rfl,hid,hfr,t1,t2,t3,by simp; rfl,rfl,rfl,rfl⟩
    clear t1 t2 t3 h7 hid hfr
    rintro i k T H1 hk ⟨jW,hlen2,hle2,hst,hid,hfr,t1,t2,t3,h7,h14,h15,h16⟩
    simp (disch:=omega) only [↓wr,↓reduceIte,wq,ai,ah,an,ab,af,ag,aj,isNil,Nat.reduceEqDiff,Nat.reduceAdd,Nat.reduceLT,Nat.reduceLeDiff,Int.reduceNeg,Int.reduceToNat,reduceCtorEq,qQ,t1,t2,t3,h7,h14,h15,h16,aR,encS]
    refine ay.dec (fun hcc=>?_) (fun hcc=>?_)
    · have hg2:g.rules[i]?=some (g.rules[i]'(by omega)):=List.getElem?_eq_getElem (by omega)
      have hmem:g.rules[i]'(by omega)∈g.rules:=List.getElem_mem _
      have htk:(g.rules.take (i+1)).foldl (stepG comes) is=stepG comes ((g.rules.take i).foldl (stepG comes) is) (g.rules[i]'(by omega)):=by
        rw[List.take_add_one,hg2,List.foldl_append]; rfl
      generalize g.rules[i]'(by omega)=r at hg2 hmem htk
      obtain ⟨hcp,hcl,hcn⟩:=hc r hmem jW hlen2
      simp (disch:=omega) only [↓wr,↓reduceIte,wq,ai,ah,an,ab,af,ag,aj,isNil,Nat.reduceEqDiff,Nat.reduceAdd,Nat.reduceLT,Nat.reduceLeDiff,Int.reduceNeg,Int.reduceToNat,reduceCtorEq,t1,t2,t3,h7,h14,h15,h16,bf,encI,List.getElem?_map,hg2]
      intro b hb
      have hbid:b≠id:=by rintro rfl; rw[hid] at hb; simp at hb
      try simp (disch:=omega) only [↓wr,↓reduceIte,wq,ai,ah,an,ab,af,ag,aj,isNil,Nat.reduceEqDiff,Nat.reduceAdd,Nat.reduceLT,Nat.reduceLeDiff,Int.reduceNeg,Int.reduceToNat,reduceCtorEq,t1,t2,t3,h7,h14,h15,h16]
      refine aJ.J2 hcp hok ⟨df.tree (eX _ (dN r)),Dv (by simp[View.set,hbid.symm,hid]) hlen2.symm,hlent _ (fun k hk hki=>?_)⟩ ?_
      · have hkb:k≠b:=by
          rintro rfl
          rw[hfr k hk hki] at hb
          exact hk hb
        simp[View.set,hkb,hfr k hk hki]
      generalize hl:comes r jW=l at hcl hcn
      simp (disch:=omega) only [↓wr,↓reduceIte,wq,ai,ah,an,ab,af,ag,aj,isNil,Nat.reduceEqDiff,Nat.reduceAdd,Nat.reduceLT,Nat.reduceLeDiff,Int.reduceNeg,Int.reduceToNat,reduceCtorEq,t1,t2,t3,h7,h14,h15,h16,encI]
      refine cH.up l.length (fun q T H'=>∃ is3:List Bool,is3.length=N∧ee is is3∧is3=lT jW (l.take q)∧H' id=.arr 1 (du is3)∧(∀ k,H k≠.dead→k≠id→H' k=H k)∧T 1=.sl id 0 N 1∧T 2=.fn f [] capt∧T 3=.aY (aR g) 0 ∧
        T 7=gb (!decide (is3=is))∧T 14=.aF (g.rules.map bf)∧T 15=gi g.rules.length∧T 16=gi i∧T 23=encI l∧T 24=gi l.length∧T 25=gi q) ?_ ?_
      · refine ⟨jW,hlen2,hle2,rfl,by simp[View.set,hbid.symm,hid],fun k hk hki=>?_,t1,t2,t3,h7,h14,h15,h16,rfl,rfl,rfl⟩
        have hkb:k≠b:=by
          rintro rfl
          rw[hfr k hk hki] at hb
          exact hk hb
        simp[View.set,hkb,hfr k hk hki]
      clear t1 t2 t3 h7 h14 h15 h16 hid hfr hb hbid
      rintro q k2 T H1 hk2 ⟨is3,hlen3,hle3,hst3,hid,hfr,t1,t2,t3,h7,h14,h15,h16,h23,h24,h25⟩
      simp (disch:=omega) only [↓wr,↓reduceIte,wq,ai,ah,an,ab,af,ag,aj,isNil,Nat.reduceEqDiff,Nat.reduceAdd,Nat.reduceLT,Nat.reduceLeDiff,Int.reduceNeg,Int.reduceToNat,reduceCtorEq,qD,t1,t2,t3,h7,h14,h15,h16,h23,h24,h25,encI]
      refine ay.dec (fun hqc=>?_) (fun hqc=>?_)
      · have hgq:l[q]?=some (l[q]'(by omega)):=List.getElem?_eq_getElem (by omega)
        have hmq:l[q]'(by omega)∈l:=List.getElem_mem _
        have htq:lT jW (l.take (q+1))=(lT jW (l.take q)).set (l[q]'(by omega)).toNat true:=by
          unfold lT; rw[List.take_add_one,hgq,List.foldl_append]; rfl
        generalize l[q]'(by omega)=n at hgq hmq htq
        obtain ⟨⟨n1,n2⟩,n3,n4⟩:=hcn n hmq
        have hbn:is3.getD n.toNat false=is3[n.toNat]'(by omega):=by simp[List.getD_eq_getElem?_getD,show n.toNat < is3.length by omega]
        have hnew:=Ho hle3 (show n.toNat < is3.length by omega) (b:=!decide (is3=is)) rfl
        rw[hbn] at hnew
        have hbg:=yq (show n.toNat < is3.length by omega)
        generalize is3[n.toNat]'(by omega)=x at hnew hbg hbn
        have fin:∀ (T2:Env),T2 7=gb (!decide (is3.set n.toNat true=is))→T2 1=.sl id 0 N 1→T2 2=.fn f [] capt→T2 3=.aY (aR g) 0→T2 14=.aF (g.rules.map bf)→T2 15=gi g.rules.length→T2 16=gi i→T2 23=encI l→T2 24=gi l.length→T2 25=gi ((q:Int)+1) →
            ∃ k',k' < k2∧CS l.length k' (fun q T H'=>∃ is3:List Bool,is3.length=N∧ee is is3∧is3=lT jW (l.take q)∧H' id=.arr 1 (du is3)∧(∀ k,H k≠.dead→k≠id→H' k=H k)∧T 1=.sl id 0 N 1∧T 2=.fn f [] capt∧T 3=.aY (aR g) 0 ∧
              T 7=gb (!decide (is3=is))∧T 14=.aF (g.rules.map bf)∧T 15=gi g.rules.length∧T 16=gi i∧T 23=encI l∧T 24=gi l.length∧T 25=gi q) T2 (H1.set id (.arr 1 (du (is3.set n.toNat true)))):=by
          intro T2 a7 a1 a2 a3 a14 a15 a16 a23 a24 a25
          refine bO hk2 (by omega) ⟨is3.set n.toNat true,by simp[hlen3],hle3.trans (.set _ _),by rw[htq,← hst3],by simp[View.set],fun k hk hki=>by simp[View.set,hki,hfr k hk hki],a1,a2,a3,a7,a14,a15,a16,a23,a24,by rw[a25]; rfl⟩
        simp (disch:=omega) only [↓wr,↓reduceIte,wq,ai,ah,an,ab,af,ag,aj,isNil,Nat.reduceEqDiff,Nat.reduceAdd,Nat.reduceLT,Nat.reduceLeDiff,Int.reduceNeg,Int.reduceToNat,reduceCtorEq,t1,t2,t3,h7,h14,h15,h16,h23,h24,h25,encI,List.getElem?_map,hgq]
        refine ay.dec (fun e=>?_) (fun e=>?_)
        · simp (disch:=omega) only [↓wr,↓reduceIte,wq,ai,ah,an,ab,af,ag,aj,isNil,Nat.reduceEqDiff,Nat.reduceAdd,Nat.reduceLT,Nat.reduceLeDiff,Int.reduceNeg,Int.reduceToNat,reduceCtorEq,t1,t2,t3,h7,h14,h15,h16,h23,h24,h25,encI,hid,hbg,List.length_map]
          refine ⟨by omega,by omega,?_⟩
          try simp (disch:=omega) only [↓wr,↓reduceIte,wq,ai,ah,an,ab,af,ag,aj,isNil,Nat.reduceEqDiff,Nat.reduceAdd,Nat.reduceLT,Nat.reduceLeDiff,Int.reduceNeg,Int.reduceToNat,reduceCtorEq,t1,t2,t3,h7,h14,h15,h16,h23,h24,h25,encI,hid,hbg,List.length_map]
          refine ⟨by omega,by omega,?_⟩
          rw[sA]
          exact fin _ (by rw[← hnew]; simp[e]; rfl) t1 t2 t3 h14 h15 h16 h23 h24 rfl
        · simp (disch:=omega) only [↓wr,↓reduceIte,wq,ai,ah,an,ab,af,ag,aj,isNil,Nat.reduceEqDiff,Nat.reduceAdd,Nat.reduceLT,Nat.reduceLeDiff,Int.reduceNeg,Int.reduceToNat,reduceCtorEq,t1,t2,t3,h7,h14,h15,h16,h23,h24,h25,encI,hid,hbg,List.length_map]
          refine ⟨by omega,by omega,?_⟩
          rw[sA]
          exact fin _ (by rw[← hnew]; simp[e]; rfl) t1 t2 t3 h14 h15 h16 h23 h24 rfl
      · rw[List.take_of_length_le (by omega)] at hst3
        simp (disch:=omega) only [↓wr,↓reduceIte,wq,ai,ah,an,ab,af,ag,aj,isNil,Nat.reduceEqDiff,Nat.reduceAdd,Nat.reduceLT,Nat.reduceLeDiff,Int.reduceNeg,Int.reduceToNat,reduceCtorEq,t1,t2,t3,h7,h14,h15,h16,h23,h24,h25]
        refine bO hk (by omega) ⟨is3,hlen3,hle3,?_,hid,hfr,t1,t2,t3,h7,h14,h15,rfl⟩
        rw[htk,← hst,stepG,hl,← hst3]
    · rw[List.take_of_length_le (by omega)] at hst
      simp (disch:=omega) only [↓wr,↓reduceIte,wq,ai,ah,an,ab,af,ag,aj,isNil,Nat.reduceEqDiff,Nat.reduceAdd,Nat.reduceLT,Nat.reduceLeDiff,Int.reduceNeg,Int.reduceToNat,reduceCtorEq,t1,t2,t3,h7,h14,h15,h16]
      have hrd:jW=cw comes g.rules is:=hst
      by_cases e:jW=is
      · refine ⟨0,by omega,jW,hlen2,hid,hfr,rfl,.inr ⟨by simp[e],?_⟩⟩
        rw[← hgr,e]
        exact (Dx (by rw[← hrd]; exact e)).symm
      · obtain ⟨j2,rfl,e2,e3⟩:=DP (k:=j) (fun h=>e (hrd.trans h)) (by rw[hlen]; exact hj)
        refine ⟨j2+1,by omega,jW,hlen2,hid,hfr,rfl,.inl ⟨by simp[e],j2,rfl,?_,?_⟩⟩
        · rw[← hgr,e2,hrd]
        · rw[← hrd,hlen2] at e3; exact e3
  · simp (disch:=omega) only [↓wr,↓reduceIte,wq,ai,ah,an,ab,af,ag,aj,isNil,Nat.reduceEqDiff,Nat.reduceAdd,Nat.reduceLT,Nat.reduceLeDiff,Int.reduceNeg,Int.reduceToNat,reduceCtorEq,ll,t1,t2,t3,h7,aR,encS]
    exact ⟨hgr ▸ hid,hfr⟩
theorem uk {α:Type} {f:α→α} {x:α} (h:f x=x):∀ n,iter f n x=x
  | 0=>rfl
  | n+1=>by rw[iter,h,uk h n]
theorem A0 {α:Type} (f:α→α):∀ (a b:Nat) (x:α),iter f (a+b) x=iter f b (iter f a x)
  | 0,b,x=>by rw[Nat.zero_add]; rfl
  | a+1,b,x=>by rw[Nat.add_right_comm,iter,iter,A0 f a b]
theorem u6 (comes:aG→List Bool→List Int) (rules:List aG):∀ (k:Nat) (is:List Bool),eh comes rules k is=iter (cw comes rules) k is
  | 0,is=>rfl
  | k+1,is=>by
    simp only[eh,iter]
    by_cases e:cw comes rules is=is
    · rw[if_pos e,e,uk e]
    · rw[if_neg e,u6 comes rules k]
theorem rS (comes:aG→List Bool→List Int) (rules:List aG) (is:List Bool) (h:is.length≤16):eh comes rules 16 is=iter (cw comes rules) is.length is:=by
  have h1:=(m5 comes rules is.length is (by omega)).1
  rw[u6] at h1 ⊢
  obtain ⟨m,hm⟩:∃ m,16=is.length+m:=⟨16 - is.length,by omega⟩
  rw[hm,A0,uk h1]
def ic (t:Bool) (r:aG) (is:List Bool):List Int:=if dg r.right is t=true then [r.left] else []
def mC (p:List Bool) (r:aG) (is:List Bool):List Int:=if (is.getD r.left.toNat false && dg r.right p true)=true then dM r.right else []
theorem CK (g:ao) (t:Bool):cw (ic t) g.rules=j3 g t:=by
  funext is
  unfold cw j3
  congr 1
  funext is r
  unfold stepG ic di
  split <;> rfl
theorem vq:∀ (l:List Int) (is:List Bool),lT is (dM l)=l.foldl mark is
  | [],is=>rfl
  | s :: l,is=>by
    have ih:=vq l
    unfold lT dM at ih ⊢
    rw[List.foldl_cons,← ih]
    unfold mark
    by_cases h:s < 0
    · rw[if_pos h,List.filter_cons_of_pos (by simpa using h)]; rfl
    · rw[if_neg h,List.filter_cons_of_neg (by simpa using h)]
theorem Dp (g:ao) (p:List Bool):cw (mC p) g.rules=pa g p:=by
  funext is
  unfold cw pa
  congr 1
  funext is r
  unfold stepG mC gj
  split
  · exact vq _ _
  · rfl
theorem A1 {g:ao} (h:bz g=true) (t:Bool):eh (ic t) g.rules 16 (bK g)=aB g t:=by
  have hf:=bq h
  have hl:(bK g).length=g.ax.length:=by simp[bK]
  have:=hf.ax
  rw[rS _ _ _ (by rw[hl]; exact hf.ax),CK,hl,aB,if_pos h]
theorem Gs {g:ao} (h:bz g=true):eh (mC (aB g true)) g.rules 16 ((bK g).set g.start.toNat true)=bk g:=by
  have hf:=bq h
  have hl:((bK g).set g.start.toNat true).length=g.ax.length:=by simp[bK]
  rw[rS _ _ _ (by rw[hl]; exact hf.ax),Dp,hl,bk,if_pos h]
def np:SF:=⟨.seq (ar [cX 1 0,((some 2),.op (.aX (.val (.emp 1))))]) <|
  .seq (.seq (ar [aO 3 4 1,aD 4 52 [3],cF 5 4]) <|
  .cond (.tmp 5) (.seq (ar [((some 2),.op (.aX (.val (.emp 1))))]) <|
  .ret) (.skip)) <|
  .seq (ar [aO 6 4 1,al 7 1 1,ak 8 7,aK 9 8,((some 10),.op (.make 1 1 [(.val (.bool false))] (.tmp 9) (.tmp 9))),ca 11 169 [(.tmp 6),(.tmp 10),(.val (.fn 170 [] []))],aa 2 11]) <|
  .ret,
  [.tmp 2],12⟩
theorem si:bm Tryz.prog 118 [1]=some np:=by kernel_rfl
def lA:SF:=⟨.seq (ar [cX 1 0,((some 2),.op (.aX (.val (.emp 1))))]) <|
  .seq (.seq (ar [aO 3 4 1,aD 4 52 [3],cF 5 4]) <|
  .cond (.tmp 5) (.seq (ar [((some 2),.op (.aX (.val (.emp 1))))]) <|
  .ret) (.skip)) <|
  .seq (ar [aO 6 4 1,al 7 1 1,ak 8 7,aK 9 8,((some 10),.op (.make 1 1 [(.val (.bool false))] (.tmp 9) (.tmp 9))),ca 11 169 [(.tmp 6),(.tmp 10),(.val (.fn 195 [] []))],aa 2 11]) <|
  .ret,
  [.tmp 2],12⟩
theorem qo:bm Tryz.prog 157 [1]=some lA:=by kernel_rfl
def mB:SF:=⟨.seq (ar [cX 1 0,((some 2),.op (.aX (.val (.emp 1))))]) <|
  .seq (.seq (ar [aO 5 4 1,aD 6 52 [5],cF 7 6]) <|
  .cond (.tmp 7) (.seq (ar [((some 2),.op (.aX (.val (.emp 1))))]) <|
  .ret) (.skip)) <|
  .seq (ar [aO 8 4 1,aD 9 157 [8],((some 3),.op (.alloc [(.emp 1)])),(none,.op (.store 1 (.tmp 3) (.tmp 9)))]) <|
  .seq (ar [al 10 1 1,ak 11 10,aK 12 11,((some 13),.op (.make 1 1 [(.val (.bool false))] (.tmp 12) (.tmp 12))),aa 4 13]) <|
  .seq (ar [aa 14 4,al 15 3 1,ak 16 15,aL 17 1 14 16,(none,.op (.store 1 (.tmp 17) (.val (.val (.bool true)))))]) <|
  .seq (ar [aO 18 4 1,aa 19 4,((some 20),.op (.mD 196 [] [(.tmp 3)])),aD 21 169 [18,19,20],aa 2 21]) <|
  .ret,
  [.tmp 2],22⟩
theorem q8:bm Tryz.prog 158 [1]=some mB:=by kernel_rfl
structure ao.Small (g:ao):Prop where
  names:g.ax.length+g.az.length≤1000
theorem rB {h':aw} {id n:Nat} {is:List Bool} (hv:h'.view id=.arr 1 (du is)) (hn:n=is.length):dh h' (.sl id 0 n 1) (cg is):=by
  subst hn; exact sF hv
set_option maxHeartbeats 2000000 in
theorem A8 (g:ao) (hg:g.Ok) (hs:g.Small):cJ Tryz.prog 118 [.agg (aR g)] (cg (aB g false)):=by
  refine cJ.of (ma g) ?_
  refine aH.of mixed si ?_
  have hn:=hg.ax
  unfold aU at hn
  simp (disch:=omega) only [↓wr,↓reduceIte,wq,ai,ah,an,ab,af,ag,aj,isNil,Nat.reduceEqDiff,Nat.reduceAdd,Nat.reduceLT,Nat.reduceLeDiff,Int.reduceNeg,Int.reduceToNat,reduceCtorEq,np,aR,encS]
  refine aJ.pure (nb g hg hs.names) (by kernel_rfl) ?_
  repeat' (first | (refine ay.dec (fun _=>?_) (fun _=>?_)) | (refine ay.eq (fun _=>?_) (fun _=>?_)) | (refine ay.ne (fun _=>?_) (fun _=>?_)) | (refine ay.split (fun _=>?_) (fun _=>?_)) | (simp (disch:=omega) only [↓wr,↓reduceIte,wq,ai,ah,an,ab,af,ag,aj,isNil,Nat.reduceEqDiff,Nat.reduceAdd,Nat.reduceLT,Nat.reduceLeDiff,Int.reduceNeg,Int.reduceToNat,reduceCtorEq,aR,encS]))
  · rename_i hr
    have hf:=bq hr
    have h1:=hf.zt
    have h2:=hf.ax
    try simp (disch:=omega) only [↓wr,↓reduceIte,wq,ai,ah,an,ab,af,ag,aj,isNil,Nat.reduceEqDiff,Nat.reduceAdd,Nat.reduceLT,Nat.reduceLeDiff,Int.reduceNeg,Int.reduceToNat,reduceCtorEq,aR,encS]
    refine ⟨⟨by omega,by unfold aW; omega,by unfold aW; omega⟩,fun h=>by omega,?_⟩
    intro _ n
    try simp (disch:=omega) only [↓wr,↓reduceIte,wq,ai,ah,an,ab,af,ag,aj,isNil,Nat.reduceEqDiff,Nat.reduceAdd,Nat.reduceLT,Nat.reduceLeDiff,Int.reduceNeg,Int.reduceToNat,reduceCtorEq,aR,encS]
    refine aJ.xJ ((wX g hf.rules (ic false) 170 [] [] (by kernel_rfl) g.ax.length h2 (fun r hr' is his=>⟨A3 r is (by rw[his]; exact hf.rP hg hr'),?_,?_⟩) n (bK g) (by simp[bK]) _ (by simp[View.set,bK]) (fun H' _=>trivial)).mono ?_)
    · unfold ic; split <;> simp
    · intro m hm
      unfold ic at hm
      split at hm
      · simp only[List.mem_singleton] at hm; subst hm
        exact ⟨(hg.aT r hr').1,hf.left r hr'⟩
      · simp at hm
    · rintro r H' ⟨rfl,hid,_⟩
      simp (disch:=omega) only [↓wr,↓reduceIte,wq,ai,ah,an,ab,af,ag,aj,isNil,Nat.reduceEqDiff,Nat.reduceAdd,Nat.reduceLT,Nat.reduceLeDiff,Int.reduceNeg,Int.reduceToNat,reduceCtorEq]
      intro h' hh
      rw[A1 hr] at hid
      exact rB (by rw[hh]; exact hid) (ig hr _).symm
  · rename_i hr
    intro h' hh
    simp only[aB,hr]
    exact .emp _
set_option maxHeartbeats 2000000 in
theorem o9 (g:ao) (hg:g.Ok) (hs:g.Small):cJ Tryz.prog 157 [.agg (aR g)] (cg (aB g true)):=by
  refine cJ.of (ma g) ?_
  refine aH.of mixed qo ?_
  have hn:=hg.ax
  unfold aU at hn
  simp (disch:=omega) only [↓wr,↓reduceIte,wq,ai,ah,an,ab,af,ag,aj,isNil,Nat.reduceEqDiff,Nat.reduceAdd,Nat.reduceLT,Nat.reduceLeDiff,Int.reduceNeg,Int.reduceToNat,reduceCtorEq,lA,aR,encS]
  refine aJ.pure (nb g hg hs.names) (by kernel_rfl) ?_
  repeat' (first | (refine ay.dec (fun _=>?_) (fun _=>?_)) | (refine ay.eq (fun _=>?_) (fun _=>?_)) | (refine ay.ne (fun _=>?_) (fun _=>?_)) | (refine ay.split (fun _=>?_) (fun _=>?_)) | (simp (disch:=omega) only [↓wr,↓reduceIte,wq,ai,ah,an,ab,af,ag,aj,isNil,Nat.reduceEqDiff,Nat.reduceAdd,Nat.reduceLT,Nat.reduceLeDiff,Int.reduceNeg,Int.reduceToNat,reduceCtorEq,aR,encS]))
  · rename_i hr
    have hf:=bq hr
    have h1:=hf.zt
    have h2:=hf.ax
    try simp (disch:=omega) only [↓wr,↓reduceIte,wq,ai,ah,an,ab,af,ag,aj,isNil,Nat.reduceEqDiff,Nat.reduceAdd,Nat.reduceLT,Nat.reduceLeDiff,Int.reduceNeg,Int.reduceToNat,reduceCtorEq,aR,encS]
    refine ⟨⟨by omega,by unfold aW; omega,by unfold aW; omega⟩,fun h=>by omega,?_⟩
    intro _ n
    try simp (disch:=omega) only [↓wr,↓reduceIte,wq,ai,ah,an,ab,af,ag,aj,isNil,Nat.reduceEqDiff,Nat.reduceAdd,Nat.reduceLT,Nat.reduceLeDiff,Int.reduceNeg,Int.reduceToNat,reduceCtorEq,aR,encS]
    refine aJ.xJ ((wX g hf.rules (ic true) 195 [] [] (by kernel_rfl) g.ax.length h2 (fun r hr' is his=>⟨xy r is (by rw[his]; exact hf.rP hg hr'),?_,?_⟩) n (bK g) (by simp[bK]) _ (by simp[View.set,bK]) (fun H' _=>trivial)).mono ?_)
    · unfold ic; split <;> simp
    · intro m hm
      unfold ic at hm
      split at hm
      · simp only[List.mem_singleton] at hm; subst hm
        exact ⟨(hg.aT r hr').1,hf.left r hr'⟩
      · simp at hm
    · rintro r H' ⟨rfl,hid,_⟩
      simp (disch:=omega) only [↓wr,↓reduceIte,wq,ai,ah,an,ab,af,ag,aj,isNil,Nat.reduceEqDiff,Nat.reduceAdd,Nat.reduceLT,Nat.reduceLeDiff,Int.reduceNeg,Int.reduceToNat,reduceCtorEq]
      intro h' hh
      rw[A1 hr] at hid
      exact rB (by rw[hh]; exact hid) (ig hr _).symm
  · rename_i hr
    intro h' hh
    simp only[aB,hr]
    exact .emp _
theorem oq {g:ao} (hr:bz g=true):(bk g).length=g.ax.length:=by
  rw[bk,if_pos hr,tW (f:=pa g (aB g true)) (fun is=>tY (fun is x=>E2 _ is x) g.rules is)]
  simp[bK]
set_option maxHeartbeats 2000000 in
theorem y3 (g:ao) (hg:g.Ok) (hs:g.Small):cJ Tryz.prog 158 [.agg (aR g)] (cg (bk g)):=by
  refine cJ.of (ma g) ?_
  refine aH.of mixed q8 ?_
  have hn:=hg.ax
  unfold aU at hn
  simp (disch:=omega) only [↓wr,↓reduceIte,wq,ai,ah,an,ab,af,ag,aj,isNil,Nat.reduceEqDiff,Nat.reduceAdd,Nat.reduceLT,Nat.reduceLeDiff,Int.reduceNeg,Int.reduceToNat,reduceCtorEq,mB,aR,encS]
  refine aJ.pure (nb g hg hs.names) (by kernel_rfl) ?_
  repeat' (first | (refine ay.dec (fun _=>?_) (fun _=>?_)) | (refine ay.eq (fun _=>?_) (fun _=>?_)) | (refine ay.ne (fun _=>?_) (fun _=>?_)) | (refine ay.split (fun _=>?_) (fun _=>?_)) | (simp (disch:=omega) only [↓wr,↓reduceIte,wq,ai,ah,an,ab,af,ag,aj,isNil,Nat.reduceEqDiff,Nat.reduceAdd,Nat.reduceLT,Nat.reduceLeDiff,Int.reduceNeg,Int.reduceToNat,reduceCtorEq,aR,encS]))
  · rename_i hr
    have hf:=bq hr
    have h1:=hf.zt
    have h2:=hf.ax
    have h3:=hf.mM
    have h4:=hf.start
    have hpl:=ig hr true
    try simp (disch:=omega) only [↓wr,↓reduceIte,wq,ai,ah,an,ab,af,ag,aj,isNil,Nat.reduceEqDiff,Nat.reduceAdd,Nat.reduceLT,Nat.reduceLeDiff,Int.reduceNeg,Int.reduceToNat,reduceCtorEq,aR,encS]
    refine aJ.pure (o9 g hg hs).pure (by kernel_rfl) ?_
    simp (disch:=omega) only [↓wr,↓reduceIte,wq,ai,ah,an,ab,af,ag,aj,isNil,Nat.reduceEqDiff,Nat.reduceAdd,Nat.reduceLT,Nat.reduceLeDiff,Int.reduceNeg,Int.reduceToNat,reduceCtorEq,aR,encS,cg]
    intro q
    try simp (disch:=omega) only [↓wr,↓reduceIte,wq,ai,ah,an,ab,af,ag,aj,isNil,Nat.reduceEqDiff,Nat.reduceAdd,Nat.reduceLT,Nat.reduceLeDiff,Int.reduceNeg,Int.reduceToNat,reduceCtorEq,aR,encS,set_set]
    refine ⟨⟨by omega,by unfold aW; omega,by unfold aW; omega⟩,fun h=>by omega,?_⟩
    intro _ n hn'
    have hnq:=(eu hn' eH).1
    try simp (disch:=omega) only [↓wr,↓reduceIte,wq,ai,ah,an,ab,af,ag,aj,isNil,Nat.reduceEqDiff,Nat.reduceAdd,Nat.reduceLT,Nat.reduceLeDiff,Int.reduceNeg,Int.reduceToNat,reduceCtorEq,aR,encS,set_set]
    have hbg:=yq (is:=bK g) (show g.start.toNat < (bK g).length by simp[bK]; omega)
    refine ⟨by omega,by simp; omega,?_⟩
    refine aJ.xJ ((wX g hf.rules (mC (aB g true)) 196 [.ptr q 0 0] [.aY [cg (aB g true)] 0] (by kernel_rfl) g.ax.length h2 (fun r hr' is his=>⟨y9 r is (aB g true) (by rw[his]; exact hf.rP hg hr') (by rw[his,hpl]),?_,?_⟩) n ((bK g).set g.start.toNat true) (by simp[bK]) _ ?_ (fun H' hfr=>⟨df.box (z:=1) ?_ ?_,trivial⟩)).mono ?_)
    · have h6:=hf.right r hr'
      unfold mC
      split
      · have:(dM r.right).length≤r.right.length:=by simp only[dM,List.length_map]; exact List.length_filter_le _ _
        omega
      · simp
    · intro m hm
      unfold mC at hm
      split at hm
      · simp only[dM,List.mem_map,List.mem_filter,decide_eq_true_eq] at hm
        obtain ⟨s,⟨hs',hneg⟩,rfl⟩:=hm
        have a:=hf.neg hr' hs' hneg
        have b:=((hg.aT r hr').2.2.2 s hs').1
        exact ⟨⟨by omega,by omega⟩,by omega,a⟩
      · simp at hm
    · simp only[View.set,if_true]
      congr 1
      rw[← sA]
      unfold bK at hbg ⊢
      rw[Gx,hbg]
      rfl
    · rw[hfr q (by simp[View.set,Ne.symm hnq]) (Ne.symm hnq)]
      simp[View.set,Ne.symm hnq]
      rfl
    · intro v hv; simp at hv; subst hv; exact iT _
    · rintro r H' ⟨rfl,hid,_⟩
      simp (disch:=omega) only [↓wr,↓reduceIte,wq,ai,ah,an,ab,af,ag,aj,isNil,Nat.reduceEqDiff,Nat.reduceAdd,Nat.reduceLT,Nat.reduceLeDiff,Int.reduceNeg,Int.reduceToNat,reduceCtorEq]
      intro h' hh
      rw[Gs hr] at hid
      exact rB (by rw[hh]; exact hid) (by rw[oq hr])
  · rename_i hr
    intro h' hh
    simp only[bk,hr]
    exact .emp _
def bo (p q:List Bool) (r:aG):Bool:=q.getD r.left.toNat false && dg r.right p true
def cr (p q:List Bool):List aG→Int→List Int
  | [],_=>[]
  | r :: l,i=>if bo p q r=true then i :: cr p q l (i+1) else cr p q l (i+1)
def c8 (acc:List Int) (r:aG):List Int:=if r.left∈acc then acc else acc ++ [r.left]
def bV (p q:List Bool) (l:List aG):List Int:=(l.filter (bo p q)).foldl c8 []
def bp (o:List Int) (x:Int):Int:=c7 (fun y=>y == x) o 0
def bh (f:Int→Int) (r:aG):aG:=⟨f r.left,r.right.map fun s=>if s < 0 then -1 - f (-1 - s) else s,r.prec⟩
def iK (g:ao) (f:Int→Int) (p q:List Bool):ao :=
  ⟨g.az,(bV p q g.rules).map fun x=>g.ax.getD x.toNat ⟨#[]⟩,(g.rules.filter (bo p q)).map (bh f),f g.start⟩
def pr:ao:=⟨[],[],[],0⟩
instance:DecidableEq Term:=fun a b=>decidable_of_iff (a.name=b.name∧a.level=b.level∧a.assoc=b.assoc) (by cases a; cases b; simp)
instance:DecidableEq aG:=fun a b=>decidable_of_iff (a.left=b.left∧a.prec=b.prec∧a.right=b.right) (by cases a; cases b; simp[and_comm])
instance:DecidableEq ao:=fun a b=>decidable_of_iff (a.az=b.az∧a.ax=b.ax∧a.rules=b.rules∧a.start=b.start) (by cases a; cases b; simp)
def fE (g:ao):ao × List Int × Int :=
  if bz g=true then
    if (aB g true).getD g.start.toNat false=true then (iK g (bp (bV (aB g true) (bk g) g.rules)) (aB g true) (bk g),cr (aB g true) (bk g) g.rules 0,0)
    else (pr,[],9)
  else (pr,[],1)
theorem zw {g:ao} (hr:bz g=true):fE g=if (aB g true).getD g.start.toNat false=true then (iK g (bp (bV (aB g true) (bk g) g.rules)) (aB g true) (bk g),cr (aB g true) (bk g) g.rules 0,0) else (pr,[],9):=by
  rw[fE,if_pos hr]
theorem mT (p q:List Bool):∀ (a b:List aG) (i:Int),cr p q (a ++ b) i=cr p q a i ++ cr p q b (i+a.length)
  | [],b,i=>by simp[cr]
  | r :: a,b,i=>by
    simp only[List.cons_append,cr,mT p q a b (i+1),List.length_cons]
    have:i+1+(a.length:Int)=i+((a.length+1:Nat):Int):=by push_cast; omega
    rw[this]
    split <;> simp
theorem nM (p q:List Bool):∀ (a:List aG) (i:Int),(cr p q a i).length=(a.filter (bo p q)).length
  | [],i=>rfl
  | r :: a,i=>by
    simp only[cr,List.filter_cons]
    split <;> simp[nM p q a]
theorem r5 (p q:List Bool):∀ (a:List aG) (i:Int) (k:Nat),k < (cr p q a i).length→∃ m:Nat,(cr p q a i)[k]?=some (i+m)∧a[m]?=(a.filter (bo p q))[k]?∧m < a.length
  | [],i,k,h=>by simp[cr] at h
  | r :: a,i,k,h=>by
    simp only[cr,List.filter_cons] at h ⊢
    by_cases hr:bo p q r=true
    · rw[if_pos hr] at h ⊢
      rw[if_pos hr]
      cases k with
      | zero=>exact ⟨0,by simp,by simp,by simp⟩
      | succ k =>
        obtain ⟨m,h1,h2,h3⟩:=r5 p q a (i+1) k (by simpa using h)
        exact ⟨m+1,by rw[List.getElem?_cons_succ,h1]; congr 1; push_cast; omega,by simpa using h2,by simpa using h3⟩
    · rw[if_neg hr] at h ⊢
      rw[if_neg hr]
      obtain ⟨m,h1,h2,h3⟩:=r5 p q a (i+1) k h
      exact ⟨m+1,by rw[h1]; congr 1; push_cast; omega,by simpa using h2,by simpa using h3⟩
theorem yh (p q:List Bool) (l:List aG) (r:aG):bV p q (l ++ [r])=if bo p q r=true then c8 (bV p q l) r else bV p q l:=by
  unfold bV
  rw[List.filter_append]
  by_cases h:bo p q r=true
  · rw[if_pos h,List.filter_cons_of_pos h,List.foldl_append]; rfl
  · rw[if_neg h,List.filter_cons_of_neg h]; simp
theorem AD {o:List Int} {x:Int} : bp o x < 0↔x ∉ o:=by
  have:=pM (fun y=>y == x) o 0 (by omega)
  unfold bp
  rw[← Int.not_le]
  constructor
  · intro h hx
    have e:(o.any fun y=>y == x)=true:=List.any_eq_true.2 ⟨x,hx,by simp⟩
    rw[e] at this; exact h (by simpa using this)
  · intro h hx
    have e:(o.any fun y=>y == x)=true:=by rw[← this]; simpa using hx
    obtain ⟨y,hy,e⟩:=List.any_eq_true.1 e
    simp at e; subst e; exact h hy
theorem tn {α:Type} (p:α→Bool):∀ (a b:List α) (i:Int),0≤i→c7 p (a ++ b) i=if 0≤c7 p a i then c7 p a i else c7 p b (i+a.length)
  | [],b,i,_=>by simp[c7]
  | x :: a,b,i,h=>by
    by_cases hp:p x=true
    · simp[c7,hp,h]
    · simp only[List.cons_append,c7,if_neg hp]
      rw[tn p a b (i+1) (by omega)]
      have:i+1+(a.length:Int)=i+(((x :: a).length:Nat):Int):=by simp; omega
      rw[this]
theorem gQ {o:List Int} {x:Int} (h:x∈o):0≤bp o x∧bp o x < o.length:=by
  have h0:¬ bp o x < 0:=fun e=>AD.1 e h
  refine ⟨by omega,?_⟩
  unfold bp
  have:∀ (l:List Int) (i:Int),c7 (fun z=>z == x) l i < i+l.length∨c7 (fun z=>z == x) l i = -1:=by
    intro l
    induction l with
    | nil=>intro i; right; rfl
    | cons z l ih =>
      intro i
      simp only[c7]
      split
      · left; simp; omega
      · rcases ih (i+1) with h | h
        · left; simp at h ⊢; omega
        · right; exact h
  rcases this o 0 with h1 | h1
  · simpa using h1
  · unfold bp at h0; omega
theorem C4 (o:List Int) (x:Int) : -1≤bp o x∧bp o x≤o.length:=by
  by_cases h:x∈o
  · have:=gQ h; omega
  · have h1:=AD.2 h
    have h2:∀ (l:List Int) (i:Int),0≤i→-1≤c7 (fun z=>z == x) l i:=by
      intro l
      induction l with
      | nil=>intro i _; simp[c7]
      | cons z l ih =>
        intro i hi
        simp only[c7]
        split
        · omega
        · exact ih _ (by omega)
    have:=h2 o 0 (by omega)
    unfold bp at h1 ⊢
    omega
def fG:List Int→Int→List (Int × Int)
  | [],_=>[]
  | x :: l,i=>(x,i) :: fG l (i+1)
theorem nd (x:Int):∀ (o:List Int) (i:Int),cE (fG o i) x=if x∈o then some (c7 (fun y=>y == x) o i) else none
  | [],i=>by simp[fG,cE]
  | y :: o,i=>by
    have ih:=nd x o (i+1)
    unfold cE at ih ⊢
    simp only[fG,List.find?_cons,c7]
    by_cases e:x=y
    · subst e; simp
    · have e2:¬ ((y == x)=true):=by simp[Ne.symm e]
      rw[show (x == y)=false by simp[e],if_neg e2]
      simp only
      rw[ih]
      simp[e]
theorem xV {x v:Int} : ∀ {o:List Int} {i:Int},x ∉ o→fW x v (fG o i)=fG o i ++ [(x,v)]
  | [],i,_=>rfl
  | y :: o,i,h=>by
    simp only[List.mem_cons,not_or] at h
    simp only[fG,fW,show (x == y)=false by simp[h.1],Bool.false_eq_true,if_false,xV h.2,List.cons_append]
theorem wE {x:Int} : ∀ {o:List Int} {i:Int},fG (o ++ [x]) i=fG o i ++ [(x,i+o.length)]
  | [],i=>by simp[fG]
  | y :: o,i=>by
    simp only[List.cons_append,fG,wE (o:=o),List.length_cons]
    congr 4
    push_cast; omega
def cx (o:List Int) (x:Int):Int:=(cE (fG o 0) x).getD 0
theorem tf {o:List Int} {x:Int} (h:x∈o):cx o x=bp o x:=by
  simp[cx,nd,h,bp]
theorem Jd (o:List Int) (x:Int):0≤cx o x∧cx o x≤o.length:=by
  by_cases h:x∈o
  · rw[tf h]; have:=gQ h; omega
  · simp[cx,nd,h]
theorem Gf {g:ao} {p q:List Bool} (hst:g.start∈bV p q g.rules) (hin:∀ r∈g.rules.filter (bo p q),r.left∈bV p q g.rules∧∀ s∈r.right,s < 0→-1 - s∈bV p q g.rules) :
    iK g (cx (bV p q g.rules)) p q=iK g (bp (bV p q g.rules)) p q:=by
  unfold iK
  congr 1
  · apply List.map_congr_left
    intro r hr
    obtain ⟨h1,h2⟩:=hin r hr
    unfold bh
    congr 1
    · exact tf h1
    · apply List.map_congr_left
      intro s hs
      split
      · rename_i h; rw[tf (h2 s hs h)]
      · rfl
  · exact tf hst
theorem oO:∀ (l:List aG) (acc:List Int) (x:Int),x∈l.foldl c8 acc↔x∈acc∨∃ r∈l,r.left=x
  | [],acc,x=>by simp
  | r :: l,acc,x=>by
    rw[List.foldl_cons,oO l]
    have:x∈c8 acc r↔x∈acc∨r.left=x:=by
      unfold c8
      split
      · rename_i h
        constructor
        · exact .inl
        · rintro (h' | rfl)
          · exact h'
          · exact h
      · simp[eq_comm]
    rw[this]
    simp only[List.mem_cons,exists_eq_or_imp]
    constructor
    · rintro ((h | h) | h)
      · exact .inl h
      · exact .inr (.inl h)
      · exact .inr (.inr h)
    · rintro (h | h | h)
      · exact .inl (.inl h)
      · exact .inl (.inr h)
      · exact .inr h
theorem zS {p q:List Bool} {l:List aG} {x:Int} : x∈bV p q l↔∃ r∈l,bo p q r=true∧r.left=x:=by
  unfold bV
  rw[oO]
  simp[List.mem_filter,and_assoc]
abbrev cA (l:List Int):List (List V):=l.map fun x=>[gi x]
abbrev nG (l:List ByteArray):List (List V):=l.map fun s=>[gs s]
theorem zB {l:List Int} {i:Nat} (h:i < l.length):(cA l).getD i []=[gi l[i]]:=by simp[List.getD_eq_getElem?_getD,h]
theorem ints_set (l:List Int) (i:Nat) (x:Int):(cA l).set i [gi x]=cA (l.set i x):=by simp[List.map_set]
abbrev v7:=List (V × aG)
def gJ (b:v7):List (List V):=b.map fun x=>[gi x.2.left,x.1,gi x.2.prec]
def pb (b:v7):List dz:=b.map fun x=>(x.1,1,cA x.2.right)
theorem E8 {h:aw} {u:V} {b:v7} (ho:aV h.view u 3 (gJ b)) (hb:∀ x∈pb b,aV h.view x.1 x.2.1 x.2.2):dh h u (.aF ((b.map (·.2)).map bf)):=by
  refine dh.own ho (by simp[gJ]) (fun i hi=>?_) (fun i j hi hj=>?_)
  all_goals
    simp only[gJ,List.length_map] at hi
    have e1:(gJ b).getD i []=[gi b[i].2.left,b[i].1,gi b[i].2.prec]:=by simp[gJ,List.getD_eq_getElem?_getD,hi]
    have e2:((b.map (·.2)).map bf).getD i []=bf b[i].2:=by simp[List.getD_eq_getElem?_getD,hi]
  · rw[e1,e2]; rfl
  · rw[e1,e2]
    rw[e2] at hj
    have hm:b[i]∈b:=List.getElem_mem _
    have ho:=hb (b[i].1,1,cA b[i].2.right) (List.mem_map.2 ⟨_,hm,rfl⟩)
    match j,hj with
    | 0,_=>exact .val _
    | 1,_=>exact iH ho
    | 2,_=>exact .val _
    | n+3,hj=>exact absurd hj (by simp only[bf,List.length_cons,List.length_nil]; omega)
theorem HS {h:aw} {u:V} {l:List ByteArray} (ho:aV h.view u 1 (nG l)):dh h u (encS l):=dh.Hi (f:=Value.string) ho
theorem EY {h:aw} {u:V} {l:List Term} (ho:aV h.view u 3 (l.map cq)):dh h u (cL l):=by
  refine dh.own ho rfl (fun _ _=>rfl) (fun i j hi hj=>?_)
  simp only[List.length_map] at hi
  have e1:(l.map cq).getD i []=cq l[i]:=by simp[List.getD_eq_getElem?_getD,hi]
  rw[e1] at hj ⊢
  match j,hj with
  | 0,_=>exact .val _
  | 1,_=>exact .val _
  | 2,_=>exact .val _
  | n+3,hj=>exact absurd hj (by simp only[cq,List.length_cons,List.length_nil]; omega)
def xB (x:ao × List Int × Int):V:=.bc [.agg (aR x.1),encI x.2.1,gi x.2.2]
theorem Br {h:aw} {e:Int} {k1 k2 k3 k4:Nat} : dh h (.bc [.agg [.emp k1,.emp k2,.emp k3,gi 0],.emp k4,gi e]) (xB (pr,[],e)):=by
  refine .bc _ _ rfl fun i hi=>?_
  match i,hi with
  | 0,_ =>
    refine .agg _ _ rfl fun j hj=>?_
    match j,hj with
    | 0,_=>exact .emp _
    | 1,_=>exact .emp _
    | 2,_=>exact .emp _
    | 3,_=>exact .val _
    | n+4,hj=>exact absurd hj (by simp only[List.length_cons,List.length_nil]; omega)
  | 1,_=>exact .emp _
  | 2,_=>exact .val _
  | n+3,hi=>exact absurd hi (by simp only[List.length_cons,List.length_nil]; omega)
theorem I1 {h:aw} {u0 u1 u2 u3:V} {x:ao × List Int × Int} {b:v7} (h0:aV h.view u0 3 (x.1.az.map cq)) (h1:aV h.view u1 1 (nG x.1.ax)) (h2:aV h.view u2 3 (gJ b)) (hb:∀ y∈pb b,aV h.view y.1 y.2.1 y.2.2)
    (hr:b.map (·.2)=x.1.rules) (h3:aV h.view u3 1 (cA x.2.1)):dh h (.bc [.agg [u0,u1,u2,gi x.1.start],u3,gi x.2.2]) (xB x):=by
  refine .bc _ _ rfl fun i hi=>?_
  match i,hi with
  | 0,_ =>
    refine .agg _ _ rfl fun j hj=>?_
    match j,hj with
    | 0,_=>exact EY h0
    | 1,_=>exact HS h1
    | 2,_=>have:=E8 h2 hb; rw[hr] at this; exact this
    | 3,_=>exact .val _
    | n+4,hj=>exact absurd hj (by simp only[List.length_cons,List.length_nil]; omega)
  | 1,_=>exact iH h3
  | 2,_=>exact .val _
  | n+3,hi=>exact absurd hi (by simp only[List.length_cons,List.length_nil]; omega)
theorem vd {H:View} {id n:Nat} {l:List Int} (hv:H id=.arr 1 (cA l)) (hn:n=l.length):df H (.sl id 0 n 1) (encI l):=by
  subst hn
  exact df.own (sz:=1) (.inr ⟨id,by simp,hv⟩) fun e he v hv=>by
    obtain ⟨x,_,rfl⟩:=List.mem_map.1 he
    simp at hv; subst hv; exact .val _
theorem aV.elems {H:View} {u:V} {sz:Nat} {es:List (List V)} (h:aV H u sz es):∃ rd,bA H u=some (es,rd):=by
  rcases h with ⟨rfl,k,rfl⟩ | ⟨n,rfl,hn⟩
  · exact ⟨[],rfl⟩
  · cases es with
    | nil=>exact ⟨[],rfl⟩
    | cons e r =>
      refine ⟨[n],?_⟩
      rw[List.length_cons,u4 _ n 0 r.length sz sz _ hn (by simp),List.drop_zero,List.take_of_length_le (by simp)]
theorem dw.step {H H' H1:View} {u u1:V} (h:dw H H' u) (l:Left H' H1 u u1):dw H H1 u1:=fun id hid=>by
  have h1:=h id hid
  have h2:=l id (by rw[h1.1]; exact hid) h1.2
  exact ⟨h2.1.trans h1.1,h2.2⟩
theorem dw.put {H H':View} {u:V} {n:Nat} {o:br} (h:dw H H' u) (hn:H' n=.dead):dw H (H'.set n o) u:=fun id hid=>by
  have h1:=h id hid
  have e:id≠n:=by rintro rfl; rw[h1.1] at hn; exact hid hn
  exact ⟨by simp[View.set,e,h1.1],h1.2⟩
theorem dw.call {H H' H2:View} {u r:V} (h:dw H H' u) (k:dw H' H2 r):dw H H2 u:=fun id hid=>by
  have h1:=h id hid
  have h2:=k id (by rw[h1.1]; exact hid)
  exact ⟨h2.1.trans h1.1,h1.2⟩
theorem jh {P:Program} {t:TypeId} {d:TypeDesc} (hu:P.underlying t=some d) (hd:d=.string∨∃ k,d=.int k) (cs:Array Value) (off:Nat) {v:Value} (hv:cs[off]?=some v):bb P (part t cs off)=some v:=by
  have h0:bb P (isAgg t)=some false:=by
    rcases hd with rfl | ⟨k,rfl⟩
    all_goals simp only[isAgg,aS,c3 hu,Option.bind_some]; rfl
  simp only[part,aS,h0,Option.bind_some,Bool.false_eq_true,if_false,hv]
  rfl
inductive ez (P:Program) (d:Nat) (xs ys:Array Value):List Field→Bool→Prop
  | nil:ez P d xs ys [] true
  | str (f:Field) (l:List Field) (c:Bool) (a b:ByteArray):(f.name≠ "_")→P.underlying f.type=some .string→xs[f.offset]?=some (.string a)→ys[f.offset]?=some (.string b)→ez P d xs ys l c→ez P d xs ys (f :: l) (a == b && c)
  | int (f:Field) (l:List Field) (c:Bool) (k:IntKind) (a b:Int):(f.name≠ "_")→P.underlying f.type=some (.int k)→xs[f.offset]?=some (.int k a)→ys[f.offset]?=some (.int k b)→ez P d xs ys l c→ez P d xs ys (f :: l) (a == b && c)
theorem ez.forIn {P:Program} {d e:Nat} {xs ys:Array Value} {l:List Field} {c:Bool} (h:ez P d xs ys l c) (hd:e=d+1) :
    bb P (forIn l ((none:Option Bool),()) fun f _ =>
        if f.name≠ "_" then do
          let a ← part f.type xs f.offset
          let b ← part f.type ys f.offset
          let e ← Op.equalIn e f.type a b
          if (!e)=true then pure (ForInStep.done (some false,())) else pure (ForInStep.yield (none,()))
        else pure (ForInStep.yield (none,())))=some (if c=true then (none,()) else (some false,())):=by
  subst hd
  induction h with
  | nil=>rfl
  | str f l c a b hn hu hx hy _ ih =>
    have he:bb P (Op.equalIn (d+1) f.type (.string a) (.string b))=some (a == b):=by
      simp only[Op.equalIn,aS,c3 hu,Option.bind_some]; rfl
    rw[List.forIn_cons,aS,if_pos hn,aS,jh hu (.inl rfl) xs _ hx,Option.bind_some,aS,jh hu (.inl rfl) ys _ hy,Option.bind_some,aS,he,Option.bind_some]
    cases a == b with
    | false=>rfl
    | true=>exact ih
  | int f l c k a b hn hu hx hy _ ih =>
    have he:bb P (Op.equalIn (d+1) f.type (.int k a) (.int k b))=some (a == b):=by
      simp only[Op.equalIn,aS,c3 hu,Option.bind_some]; rfl
    rw[List.forIn_cons,aS,if_pos hn,aS,jh hu (.inr ⟨k,rfl⟩) xs _ hx,Option.bind_some,aS,jh hu (.inr ⟨k,rfl⟩) ys _ hy,Option.bind_some,aS,he,Option.bind_some]
    cases a == b with
    | false=>rfl
    | true=>exact ih
theorem ub {P:Program} {t:TypeId} {fs:Array Field} {xs ys:Array Value} {c:Bool} (hu:P.underlying t=some (.struct fs)) (hs:P.stoodInHeld t=false) (h:ez P 9998 xs ys fs.toList c) :
    bb P (Op.equal t (.agg xs) (.agg ys))=some c:=by
  rw[gO]
  rw[Op.equalIn,aS,c3 hu,Option.bind_some]
  have hst:(bb P program)=some P:=rfl
  rw[aS,hst,Option.bind_some,hs]
  simp only[← Array.forIn_toList,Bool.false_eq_true,if_false]
  rw[aS,h.forIn (e:=9999) rfl,Option.bind_some]
  cases c <;> rfl
theorem xn {P:Program} {o:Oper} {T:Env} {op:BinOp} {t u:TypeId} {x y:Operand} {fs:Array Field} {xs ys:Array Value} {c r:Bool} (ho:o.op=.binOp op t x y u) (hu:P.underlying t=some (.struct fs)) (hs:P.stoodInHeld t=false) (hg:P.eqGuardType P.depth t=false)
    (hx:bR (ev T x)=some (.agg xs)) (hy:bR (ev T y)=some (.agg ys)) (h:ez P 9998 xs ys fs.toList c) (hr:(op=.eql∧r=c)∨(op=.neq∧r = !c)) :
    cm P o T=some (.val (.bool r),.none,[]):=by
  have he:=ub hu hs h
  have hst:(bb P program)=some P:=rfl
  unfold cm
  simp only[ho,Op.operands,hx,hy]
  rcases hr with ⟨rfl,rfl⟩ | ⟨rfl,rfl⟩
  · simp[execOp,ho,hx,hy,eqGuard,binOp,eZ,aS,hst,hg,he,plain]
    try simp[bb,pure,plain]
  · simp[execOp,ho,hx,hy,eqGuard,binOp,eZ,aS,hst,hg,he,plain]
    try simp[bb,pure,plain,bne]
theorem BY {P:Program} {T:Env} {H:View} {K:V→View→Prop} {w:bS (T,H,K)} {op:BinOp} {t u ty:TypeId} {x y:Operand} {fs:Array Field} {xs ys:Array Value} {c r:Bool} (hu:P.underlying t=some (.struct fs)) (hs:P.stoodInHeld t=false) (hg:P.eqGuardType P.depth t=false)
    (hx:bR (ev T x)=some (.agg xs)) (hy:bR (ev T y)=some (.agg ys)) (h:ez P 9998 xs ys fs.toList c) (hr:(op=.eql∧r=c)∨(op=.neq∧r = !c)) (hk:K (.val (.bool r)) H):sX P (.binOp op t x y u) ty T H K w:=by
  intro n _
  refine ⟨.val (.bool r),.none,[],?_,hk⟩
  have hn:fj P t=none:=by simp[fj,hu]
  simp only[sI,bw,oper,hn]
  simp only[Option.isSome_none,Bool.false_eq_true,if_false]
  exact xn rfl hu hs hg hx hy h hr
end Gv
