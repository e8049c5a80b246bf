/-
  Part 9 of the proof: what the machine does and what the functions answer.
  Conditions: those that each lemma names.
-/
import Derived.ProofKit
import Derived.SizedLaws
import Derived.Test.YtihmlbdfcmfbdaaGreatSGzA3H
set_option linter.unusedSimpArgs false
set_option linter.unusedVariables false
set_option maxRecDepth 100000
namespace Gv
open Go Go.Proofs
theorem bo.eC {P:Program} {f:FuncId} {h:av} (h1:bo P f [.emp 1] h (.emp 1) h) (h2:bo P f [.emp 2] h (.emp 2) h) (h3:bo P f [.cL] h (.emp 2) h):bo P f [.aI []] h (.emp 0) h:=by
  refine ⟨Nat.le_refl _,fun Z μ F w xs hrel hr hfree=>?_⟩
  obtain ⟨hl,hv⟩:=hrel
  obtain ⟨x,rfl⟩:∃ x,xs=[x]:=by
    match xs,hl with
    | [x],_=>exact ⟨x,rfl⟩
  have h0:ao Z μ w.heap (.aI []) x:=hv 0 (by simp)
  have one:∀ v,ao Z μ w.heap v x→dd Z μ w.heap [v] [x]:=fun v h=>⟨rfl,fun i hi=>by
    simp at hi; subst hi; exact h⟩
  have weak:∀ k,bo P f [if k=3 then .cL else .emp k] h (if k=3 then .emp 2 else .emp k) h→ao Z μ w.heap (if k=3 then .cL else .emp k) x→Calls P f [x].toArray w fun e w'=>∃ x Z' μ',e=.returned x∧ao Z' μ' w'.heap (.emp 0) x∧eF Z' μ' w'.heap (cat h F)∧Ext Z μ w h.length Z' μ' w'∧(∀ id,id < h.length∨h.length≤id→μ' id=μ id):=by
    intro k hk hx
    refine (hk.2 Z μ F w [x] (one _ hx) hr hfree).mono ?_
    rintro e w' ⟨y,Z',μ',rfl,hy,rest⟩
    refine ⟨y,Z',μ',rfl,?_,rest⟩
    have:∀ k',ao Z' μ' w'.heap (.emp k') y→ao Z' μ' w'.heap (.emp 0) y:=fun k' h=>by
      cases h with | emp _ a _ _=>exact .emp 0 a (by simp) (by simp)
    split at hy <;> exact this _ hy
  rcases BF h0 with ⟨_,a,cap,rfl,hz⟩ | ⟨b,off,esz,cap,c,rfl,_,_,_⟩
  · cases a with
    | none =>
      have:=hz rfl
      subst this
      exact weak 1 (by simpa using h1) (.emp 1 none (by simp) (by simp))
    | some a =>
      cases cap with
      | zero=>exact weak 2 (by simpa using h2) (.emp 2 (some a) (by simp) (by simp))
      | succ c=>exact weak 3 (by simpa using h3) (.cL a (c+1))
  · cases cap with
    | zero=>exact weak 2 (by simpa using h2) (.emp 2 (some ⟨b,off,none⟩) (by simp) (by simp))
    | succ c=>exact weak 3 (by simpa using h3) (.cL ⟨b,off,none⟩ (c+1))
def qP (sz:Nat) (es:List (List V)) (H:View) (K:V→View→Prop):Prop :=
  (es=[]→∀ k,K (.emp k) H)∧(es≠[]→∀ n,H n=.dead→K (.sl n 0 es.length sz) (H.set n (.arr sz es)))
def bP:SF:=⟨.seq (aq [((some 2),.op (.bc (.val (.emp 1))))]) <|
  .seq (.seq (aq [aa 3 0,((some 4),.op (.nil true 0 (.tmp 3) (.val (.emp 1))))]) <|
  .cond (.tmp 4) (.seq (aq [((some 2),.op (.bc (.val (.emp 1))))]) <|
  .ret) (.skip)) <|
  .seq (aq [((some 5),.op (.bc (.val (.emp 2)))),aa 6 0,((some 7),.op (.app 1 16 (.tmp 5) (.tmp 6))),aa 2 7]) <|
  .ret,
  [.tmp 2],8⟩
theorem cd:bD Tryz.prog 96 []=some bP:=by kernel_rfl
def cI:SF:=⟨.seq (aq [((some 2),.op (.bc (.val (.emp 1))))]) <|
  .seq (.seq (aq [aa 3 0,((some 4),.op (.nil true 0 (.tmp 3) (.val (.emp 1))))]) <|
  .cond (.tmp 4) (.seq (aq [((some 2),.op (.bc (.val (.emp 1))))]) <|
  .ret) (.skip)) <|
  .seq (aq [((some 5),.op (.bc (.val (.emp 2)))),aa 6 0,((some 7),.op (.app 1 8 (.tmp 5) (.tmp 6))),aa 2 7]) <|
  .ret,
  [.tmp 2],8⟩
theorem cQ:bD Tryz.prog 161 []=some cI:=by kernel_rfl
def bF:SF:=⟨.seq (aq [((some 2),.op (.bc (.val (.emp 1))))]) <|
  .seq (.seq (aq [aa 3 0,((some 4),.op (.nil true 0 (.tmp 3) (.val (.emp 1))))]) <|
  .cond (.tmp 4) (.seq (aq [((some 2),.op (.bc (.val (.emp 1))))]) <|
  .ret) (.skip)) <|
  .seq (aq [((some 5),.op (.bc (.val (.emp 2)))),aa 6 0,((some 7),.op (.app 3 32 (.tmp 5) (.tmp 6))),aa 2 7]) <|
  .ret,
  [.tmp 2],8⟩
theorem bM:bD Tryz.prog 159 []=some bF:=by kernel_rfl
theorem aC.tree {P:Program} {f:FuncId} {vs:List V} {t:V} (hv:∀ v∈vs,Tree v) (ht:Tree t) (h:∀ H,aH P f vs H fun r _=>r=t):aC P f vs t :=
  aC.of hv ((h _).mono fun r H' e h' _=>by rw[e]; exact .tree _ ht)
theorem nL {H:View} : bB H .cL=some ([],[]):=id rfl
theorem hD {H:View} (sz bytes k:Nat) (K:V→View→Prop) (w:bS (H,K)):lR sz bytes (.emp k) [] H K w=K (.emp k) H:=propext Iff.rfl
theorem Eb (l:List ByteArray) (hl:l.length≤100000) (H:View) (K:V→View→Prop) (hk:qP 1 (l.map fun s=>[gs s]) H K):aH Tryz.prog 96 [encS l] H K:=by
  cases l with
  | nil =>
    have hp:∀ v t,Tree v→Tree t→(∀ H,aH Tryz.prog 96 [v] H fun r _=>r=t)→aC Tryz.prog 96 [v] t:=fun v t hv ht h=>aC.tree (by intro x hx; simp at hx; subst hx; exact hv) ht h
    have h1:=hp (.emp 1) (.emp 1) (.emp 1) (.emp 1) (fun H=>by
      refine aH.of mixed cd ?_
      simp (disch:=omega) only [↓wr,↓reduceIte,wq,ai,ag,ak,ab,ae,af,aj,isNil,Nat.reduceEqDiff,Nat.reduceAdd,Nat.reduceLT,Nat.reduceLeDiff,Int.reduceNeg,Int.reduceToNat,reduceCtorEq,bP])
    have h2:=hp (.emp 2) (.emp 2) (.emp 2) (.emp 2) (fun H=>by
      refine aH.of mixed cd ?_
      simp (disch:=omega) only [↓wr,↓reduceIte,wq,ai,ag,ak,ab,ae,af,aj,isNil,Nat.reduceEqDiff,Nat.reduceAdd,Nat.reduceLT,Nat.reduceLeDiff,Int.reduceNeg,Int.reduceToNat,reduceCtorEq,bP,hD,List.isEmpty_nil])
    have h3:=hp .cL (.emp 2) .cL (.emp 2) (fun H=>by
      refine aH.of mixed cd ?_
      simp (disch:=omega) only [↓wr,↓reduceIte,wq,ai,ag,ak,ab,ae,af,aj,isNil,Nat.reduceEqDiff,Nat.reduceAdd,Nat.reduceLT,Nat.reduceLeDiff,Int.reduceNeg,Int.reduceToNat,reduceCtorEq,bP,nL,hD,List.isEmpty_nil])
    refine ⟨by kernel_rfl,?_⟩
    rintro h rfl
    exact ⟨.emp 0,h,bo.eC (bo.eQ h1 h) (bo.eQ h2 h) (bo.eQ h3 h),.refl _,hk.1 rfl 0⟩
  | cons x r =>
    refine aH.of mixed cd ?_
    simp only[List.length_cons] at hl
    simp (disch:=omega) only [↓wr,↓reduceIte,wq,ai,ag,ak,ab,ae,af,aj,isNil,Nat.reduceEqDiff,Nat.reduceAdd,Nat.reduceLT,Nat.reduceLeDiff,Int.reduceNeg,Int.reduceToNat,reduceCtorEq,bP,encS]
    refine ⟨?_,?_,?_⟩
    · simp[List.all_map,encS,aL]
    · unfold bb; simp; omega
    · intro n hn
      have:=hk.2 (by simp) n hn
      simp (disch:=omega) only [↓wr,↓reduceIte,wq,ai,ag,ak,ab,ae,af,aj,isNil,Nat.reduceEqDiff,Nat.reduceAdd,Nat.reduceLT,Nat.reduceLeDiff,Int.reduceNeg,Int.reduceToNat,reduceCtorEq]
      simpa [cF] using this
theorem EX (l:List Int) (hl:l.length≤100000) (H:View) (K:V→View→Prop) (hk:qP 1 (l.map fun s=>[gi s]) H K):aH Tryz.prog 161 [encI l] H K:=by
  cases l with
  | nil =>
    have hp:∀ v t,Tree v→Tree t→(∀ H,aH Tryz.prog 161 [v] H fun r _=>r=t)→aC Tryz.prog 161 [v] t:=fun v t hv ht h=>aC.tree (by intro x hx; simp at hx; subst hx; exact hv) ht h
    have h1:=hp (.emp 1) (.emp 1) (.emp 1) (.emp 1) (fun H=>by
      refine aH.of mixed cQ ?_
      simp (disch:=omega) only [↓wr,↓reduceIte,wq,ai,ag,ak,ab,ae,af,aj,isNil,Nat.reduceEqDiff,Nat.reduceAdd,Nat.reduceLT,Nat.reduceLeDiff,Int.reduceNeg,Int.reduceToNat,reduceCtorEq,cI])
    have h2:=hp (.emp 2) (.emp 2) (.emp 2) (.emp 2) (fun H=>by
      refine aH.of mixed cQ ?_
      simp (disch:=omega) only [↓wr,↓reduceIte,wq,ai,ag,ak,ab,ae,af,aj,isNil,Nat.reduceEqDiff,Nat.reduceAdd,Nat.reduceLT,Nat.reduceLeDiff,Int.reduceNeg,Int.reduceToNat,reduceCtorEq,cI,hD,List.isEmpty_nil])
    have h3:=hp .cL (.emp 2) .cL (.emp 2) (fun H=>by
      refine aH.of mixed cQ ?_
      simp (disch:=omega) only [↓wr,↓reduceIte,wq,ai,ag,ak,ab,ae,af,aj,isNil,Nat.reduceEqDiff,Nat.reduceAdd,Nat.reduceLT,Nat.reduceLeDiff,Int.reduceNeg,Int.reduceToNat,reduceCtorEq,cI,nL,hD,List.isEmpty_nil])
    refine ⟨by kernel_rfl,?_⟩
    rintro h rfl
    exact ⟨.emp 0,h,bo.eC (bo.eQ h1 h) (bo.eQ h2 h) (bo.eQ h3 h),.refl _,hk.1 rfl 0⟩
  | cons x r =>
    refine aH.of mixed cQ ?_
    simp only[List.length_cons] at hl
    simp (disch:=omega) only [↓wr,↓reduceIte,wq,ai,ag,ak,ab,ae,af,aj,isNil,Nat.reduceEqDiff,Nat.reduceAdd,Nat.reduceLT,Nat.reduceLeDiff,Int.reduceNeg,Int.reduceToNat,reduceCtorEq,cI,encI]
    refine ⟨?_,?_,?_⟩
    · simp[List.all_map,encI,aL]
    · unfold bb; simp; omega
    · intro n hn
      have:=hk.2 (by simp) n hn
      simp (disch:=omega) only [↓wr,↓reduceIte,wq,ai,ag,ak,ab,ae,af,aj,isNil,Nat.reduceEqDiff,Nat.reduceAdd,Nat.reduceLT,Nat.reduceLeDiff,Int.reduceNeg,Int.reduceToNat,reduceCtorEq]
      simpa [cF] using this
theorem EA (l:List Term) (hl:l.length≤100000) (H:View) (K:V→View→Prop) (hk:qP 3 (l.map cF) H K):aH Tryz.prog 159 [cK l] H K:=by
  cases l with
  | nil =>
    have hp:∀ v t,Tree v→Tree t→(∀ H,aH Tryz.prog 159 [v] H fun r _=>r=t)→aC Tryz.prog 159 [v] t:=fun v t hv ht h=>aC.tree (by intro x hx; simp at hx; subst hx; exact hv) ht h
    have h1:=hp (.emp 1) (.emp 1) (.emp 1) (.emp 1) (fun H=>by
      refine aH.of mixed bM ?_
      simp (disch:=omega) only [↓wr,↓reduceIte,wq,ai,ag,ak,ab,ae,af,aj,isNil,Nat.reduceEqDiff,Nat.reduceAdd,Nat.reduceLT,Nat.reduceLeDiff,Int.reduceNeg,Int.reduceToNat,reduceCtorEq,bF])
    have h2:=hp (.emp 2) (.emp 2) (.emp 2) (.emp 2) (fun H=>by
      refine aH.of mixed bM ?_
      simp (disch:=omega) only [↓wr,↓reduceIte,wq,ai,ag,ak,ab,ae,af,aj,isNil,Nat.reduceEqDiff,Nat.reduceAdd,Nat.reduceLT,Nat.reduceLeDiff,Int.reduceNeg,Int.reduceToNat,reduceCtorEq,bF,hD,List.isEmpty_nil])
    have h3:=hp .cL (.emp 2) .cL (.emp 2) (fun H=>by
      refine aH.of mixed bM ?_
      simp (disch:=omega) only [↓wr,↓reduceIte,wq,ai,ag,ak,ab,ae,af,aj,isNil,Nat.reduceEqDiff,Nat.reduceAdd,Nat.reduceLT,Nat.reduceLeDiff,Int.reduceNeg,Int.reduceToNat,reduceCtorEq,bF,nL,hD,List.isEmpty_nil])
    refine ⟨by kernel_rfl,?_⟩
    rintro h rfl
    exact ⟨.emp 0,h,bo.eC (bo.eQ h1 h) (bo.eQ h2 h) (bo.eQ h3 h),.refl _,hk.1 rfl 0⟩
  | cons x r =>
    refine aH.of mixed bM ?_
    simp only[List.length_cons] at hl
    simp (disch:=omega) only [↓wr,↓reduceIte,wq,ai,ag,ak,ab,ae,af,aj,isNil,Nat.reduceEqDiff,Nat.reduceAdd,Nat.reduceLT,Nat.reduceLeDiff,Int.reduceNeg,Int.reduceToNat,reduceCtorEq,bF,cK,cF]
    refine ⟨?_,?_,?_⟩
    · simp[List.all_map,cK,cF,aL]
    · unfold bb; simp; omega
    · intro n hn
      have:=hk.2 (by simp) n hn
      simp (disch:=omega) only [↓wr,↓reduceIte,wq,ai,ag,ak,ab,ae,af,aj,isNil,Nat.reduceEqDiff,Nat.reduceAdd,Nat.reduceLT,Nat.reduceLeDiff,Int.reduceNeg,Int.reduceToNat,reduceCtorEq]
      simpa [cF] using this
theorem qP.own {sz:Nat} {es:List (List V)} {H:View} : qP sz es H fun r H'=>aU H' r sz es∧dB H H' r :=
  ⟨fun he k=>⟨by rw[he]; exact .nil,.emp⟩,fun _ n hn=>⟨.new,.new hn⟩⟩
theorem Fs (l:List ByteArray) (hl:l.length≤100000) (H:View):aH Tryz.prog 96 [encS l] H fun r H'=>aU H' r 1 (l.map fun s=>[gs s])∧dB H H' r:=Eb l hl H _ .own
theorem E4 (l:List Int) (hl:l.length≤100000) (H:View):aH Tryz.prog 161 [encI l] H fun r H'=>aU H' r 1 (l.map fun s=>[gi s])∧dB H H' r:=EX l hl H _ .own
theorem FQ (l:List Term) (hl:l.length≤100000) (H:View):aH Tryz.prog 159 [cK l] H fun r H'=>aU H' r 3 (l.map cF)∧dB H H' r:=EA l hl H _ .own
def iu (g:al):List aE→Int→Bool
  | [],next=>next == g.ay.length
  | r :: l,next=>decide (0≤r.left) && decide (r.left≤next) && kr g r && iu g l (if r.left+1 > next then r.left+1 else next)
def mz (g:al):List ByteArray:=g.ay ++ g.az.map Term.name
def lf (g:al):Bool :=
  my g.az && (decide ((1:Int)≤g.ay.length) && decide ((g.ay.length:Int)≤16)) && (decide ((1:Int)≤g.rules.length) && decide ((g.rules.length:Int)≤40)) && decide (names (mz g)).Nodup && (decide (0≤g.start) && decide (g.start≤(g.ay.length:Int) - 1)) &&
    !(g.ay.any fun s=>!gx (eZ s)) && iu g g.rules 0
theorem y6 {l:List ByteArray} : ∀ e∈(l.map fun s=>[gs s]),∀ v∈e,Tree v:=by
  intro e he v hv
  obtain ⟨a,_,rfl⟩:=List.mem_map.1 he
  rw[List.mem_singleton] at hv
  subst hv
  exact .val _
set_option maxHeartbeats 4000000 in
theorem Fi (g:al) (hg:g.Ok) (hs:g.ay.length+g.az.length≤1000) (H:View):aH Tryz.prog 52 [.agg (aX g)] H fun r _=>r=gb (lf g):=by
  refine aH.of mixed wO ?_
  have hn:=hg.ay
  have ht:=hg.az
  have hr:=hg.rules
  unfold aJ at hn ht hr
  simp (disch:=omega) only [↓wr,↓reduceIte,wq,ai,ag,ak,ab,ae,af,aj,isNil,Nat.reduceEqDiff,Nat.reduceAdd,Nat.reduceLT,Nat.reduceLeDiff,Int.reduceNeg,Int.reduceToNat,reduceCtorEq,tj,aX,encS]
  refine aN.wi ((Fs g.ay (by omega) H).mono ?_)
  rintro u H1 ⟨hu,hf⟩
  simp (disch:=omega) only [↓wr,↓reduceIte,wq,ai,ag,ak,ab,ae,af,aj,isNil,Nat.reduceEqDiff,Nat.reduceAdd,Nat.reduceLT,Nat.reduceLeDiff,Int.reduceNeg,Int.reduceToNat,reduceCtorEq,aX,encS]
  refine cD.up g.az.length (fun i T H=>T 1=.aS (aX g) 0∧(∃ u,T 3=u∧aU H u 1 ((g.ay ++ (g.az.take i).map Term.name).map fun s=>[gs s]))∧T 13=cK g.az∧T 14=gi g.az.length∧T 15=gi i) ?_ ?_
  · exact ⟨rfl,⟨u,rfl,by simpa using hu⟩,rfl,rfl,rfl⟩
  rintro i k T H' hk ⟨h1,⟨u,h3,hu⟩,h13,h14,h15⟩
  simp (disch:=omega) only [↓wr,↓reduceIte,wq,ai,ag,ak,ab,ae,af,aj,isNil,Nat.reduceEqDiff,Nat.reduceAdd,Nat.reduceLT,Nat.reduceLeDiff,Int.reduceNeg,Int.reduceToNat,reduceCtorEq,qi,h1,h13,h14,h15,cK]
  refine ax.dec (fun hc=>?_) (fun hc=>?_)
  · have hg2:g.az[i]?=some (g.az[i]'(by omega)):=List.getElem?_eq_getElem (by omega)
    have htk:(g.az.take (i+1)).map Term.name=(g.az.take i).map Term.name ++ [(g.az[i]'(by omega)).name]:=by
      rw[List.take_add_one,hg2,List.map_append]; rfl
    generalize g.az[i]'(by omega)=t at hg2 htk
    simp (disch:=omega) only [↓wr,↓reduceIte,wq,ai,ag,ak,ab,ae,af,aj,isNil,Nat.reduceEqDiff,Nat.reduceAdd,Nat.reduceLT,Nat.reduceLeDiff,Int.reduceNeg,Int.reduceToNat,reduceCtorEq,h1,h3,h13,h14,h15,cK,cF,List.getElem?_map,hg2]
    intro b hb
    try simp (disch:=omega) only [↓wr,↓reduceIte,wq,ai,ag,ak,ab,ae,af,aj,isNil,Nat.reduceEqDiff,Nat.reduceAdd,Nat.reduceLT,Nat.reduceLeDiff,Int.reduceNeg,Int.reduceToNat,reduceCtorEq,h1,h3,h13,h14,h15,set_set]
    intro m hm
    have hmb:=(eA hm eK).1
    have hm:=(eA (eA hm eK).2 eK).2
    try simp (disch:=omega) only [↓wr,↓reduceIte,wq,ai,ag,ak,ab,ae,af,aj,isNil,Nat.reduceEqDiff,Nat.reduceAdd,Nat.reduceLT,Nat.reduceLeDiff,Int.reduceNeg,Int.reduceToNat,reduceCtorEq,h1,h3,h13,h14,h15,iw]
    have hl:((g.ay ++ (g.az.take i).map Term.name).map fun s=>[gs s]).length≤1000:=by simp; omega
    refine qQ (((hu.fresh hb).other (hu.ne hb)).fresh (by simp[View.set,hm,hmb])) (by simp) (by simp[aL]) (by unfold bb; simp at hl ⊢; omega) (by unfold bb; simp at hl ⊢; omega) ?_
    intro u' H2 hu' _
    simp (disch:=omega) only [↓wr,↓reduceIte,wq,ai,ag,ak,ab,ae,af,aj,isNil,Nat.reduceEqDiff,Nat.reduceAdd,Nat.reduceLT,Nat.reduceLeDiff,Int.reduceNeg,Int.reduceToNat,reduceCtorEq,h1,h3,h13,h14,h15]
    refine bI hk (by omega) ⟨h1,⟨u',rfl,?_⟩,h13,h14,rfl⟩
    rw[htk]
    simpa using hu'
  · rw[List.take_of_length_le (by omega)] at hu
    have hal:H'=H':=rfl
    have hall:(mz g).length≤1000:=by simp[mz]; omega
    repeat' (first | (refine ax.dec (fun _=>?_) (fun _=>?_)) | (refine ax.eq (fun _=>?_) (fun _=>?_)) | (refine ax.ne (fun _=>?_) (fun _=>?_)) | (refine ax.split (fun _=>?_) (fun _=>?_)) | (refine aN.pure (FF g.az hg.az) (by kernel_rfl) ?_) | (refine aN.pure (lU _ _ _) (by kernel_rfl) ?_) | (refine aN.JB (F4 (mz g) hall) (by kernel_rfl) (.val _) ⟨dz.own hu y6,trivial⟩ ?_) | (simp (disch:=omega) only [↓wr,↓reduceIte,wq,ai,ag,ak,ab,ae,af,aj,isNil,Nat.reduceEqDiff,Nat.reduceAdd,Nat.reduceLT,Nat.reduceLeDiff,Int.reduceNeg,Int.reduceToNat,reduceCtorEq,h1,h3,h13,h14,h15,aX,encS]))
    all_goals try (simp[lf, *]; done)
    rename_i e1 e2 e3 e4 e5
    refine aN.pure (tH g.ay hg.ay 101 [] (by simp) (fun s=>!gx (eZ s)) (fun x _=>Dy x) (by kernel_rfl)) (by kernel_rfl) ?_
    repeat' (first | (refine ax.dec (fun _=>?_) (fun _=>?_)) | (refine ax.eq (fun _=>?_) (fun _=>?_)) | (refine ax.ne (fun _=>?_) (fun _=>?_)) | (refine ax.split (fun _=>?_) (fun _=>?_)) | (simp (disch:=omega) only [↓wr,↓reduceIte,wq,ai,ag,ak,ab,ae,af,aj,isNil,Nat.reduceEqDiff,Nat.reduceAdd,Nat.reduceLT,Nat.reduceLeDiff,Int.reduceNeg,Int.reduceToNat,reduceCtorEq,h1,h3,h13,h14,h15,aX,encS]))
    all_goals try (simp[lf, *]; done)
    rename_i e6
    have hle:g.rules.length≤40:=by simp at e3; omega
    have hpre:∀ b,iu g g.rules 0=b→gb b=gb (lf g):=fun b e=>by
      simp only[lf,e1,e2,e3,e4,e5,e6,e,decide_true,Bool.true_and,Bool.not_false]
    refine cD.up g.rules.length (fun i T _=>∃ w:Int,0≤w∧w≤i∧iu g (g.rules.drop i) w=iu g g.rules 0∧T 1=.aS (aX g) 0∧T 6=gi w∧T 62=.aI (g.rules.map bf)∧T 63=gi g.rules.length∧T 64=gi i) ?_ ?_
    · exact ⟨0,by omega,by omega,rfl,h1,rfl,rfl,rfl,rfl⟩
    rintro i k T H' hk ⟨w,hw1,hw2,hi,h1,h6,h62,h63,h64⟩
    simp (disch:=omega) only [↓wr,↓reduceIte,wq,ai,ag,ak,ab,ae,af,aj,isNil,Nat.reduceEqDiff,Nat.reduceAdd,Nat.reduceLT,Nat.reduceLeDiff,Int.reduceNeg,Int.reduceToNat,reduceCtorEq,qA,h1,h6,h62,h63,h64,aX]
    refine ax.dec (fun hc=>?_) (fun hc=>?_)
    · have hg2:g.rules[i]?=some (g.rules[i]'(by omega)):=List.getElem?_eq_getElem (by omega)
      rw[kb (show i < g.rules.length by omega)] at hi
      have hmem:g.rules[i]'(by omega)∈g.rules:=List.getElem_mem _
      generalize g.rules[i]'(by omega)=t at hg2 hi hmem
      obtain ⟨⟨hl1,hl2⟩,hp,hr1,hr2⟩:=hg.aZ t hmem
      simp only[iu] at hi
      simp (disch:=omega) only [↓wr,↓reduceIte,wq,ai,ag,ak,ab,ae,af,aj,isNil,Nat.reduceEqDiff,Nat.reduceAdd,Nat.reduceLT,Nat.reduceLeDiff,Int.reduceNeg,Int.reduceToNat,reduceCtorEq,h1,h6,h62,h63,h64,bf,encI,List.getElem?_map,hg2]
      intro b hb
      repeat' (first | (refine ax.dec (fun _=>?_) (fun _=>?_)) | (refine ax.eq (fun _=>?_) (fun _=>?_)) | (refine ax.ne (fun _=>?_) (fun _=>?_)) | (refine ax.split (fun _=>?_) (fun _=>?_)) | (refine aN.pure (lU _ _ _) (by kernel_rfl) ?_) | (refine aN.pure (Gy g t hg ⟨hr1,hr2⟩) (by kernel_rfl) ?_) | (simp (disch:=omega) only [↓wr,↓reduceIte,wq,ai,ag,ak,ab,ae,af,aj,isNil,Nat.reduceEqDiff,Nat.reduceAdd,Nat.reduceLT,Nat.reduceLeDiff,Int.reduceNeg,Int.reduceToNat,reduceCtorEq,h1,h6,h62,h63,h64,aX,bf,encI,encS,set_set]))
      · rename_i e7 e8
        have e7':0≤t.left∧t.left≤w:=by simpa using e7
        rw[e7,e8,Bool.true_and,Bool.true_and] at hi
        have hw:IntKind.wrap .i64 (t.left+1)=t.left+1:=wrap64 (by omega) (by omega)
        refine bI hk (by omega) ⟨_,by split <;> omega,by split <;> (push_cast; omega),hi,h1,?_,h62,h63,rfl⟩
        show gi (if IntKind.wrap .i64 (t.left+1) > w then IntKind.wrap .i64 (t.left+1) else w)=_
        rw[hw]
      · rename_i e7 e8
        rw[e8,Bool.and_false,Bool.false_and] at hi
        exact hpre _ hi.symm
      · rename_i e7
        rw[e7,Bool.false_and,Bool.false_and] at hi
        exact hpre _ hi.symm
    · rw[List.drop_eq_nil_of_le (by omega)] at hi
      simp only[iu] at hi
      simp (disch:=omega) only [↓wr,↓reduceIte,wq,ai,ag,ak,ab,ae,af,aj,isNil,Nat.reduceEqDiff,Nat.reduceAdd,Nat.reduceLT,Nat.reduceLeDiff,Int.reduceNeg,Int.reduceToNat,reduceCtorEq,h1,h6,h62,h63,h64,aX,encS]
      exact hpre _ hi.symm
theorem CO (g:al) (hg:g.Ok) (hs:g.ay.length+g.az.length≤1000):aC Tryz.prog 52 [.agg (aX g)] (gb (lf g)):=aC.val (oZ g) (Fi g hg hs)
theorem yW (g:al):∀ (l:List aE) (next:Int),iu g l next=gJ g l (next - 1)
  | [],next=>by
    simp only[iu,gJ]
    rw[Bool.eq_iff_iff]; simp
  | r :: l,next=>by
    simp only[iu,gJ,yW g l]
    have e1:(if r.left+1 > next then r.left+1 else next) - 1=if r.left > next - 1 then r.left else next - 1:=by
      split <;> split <;> omega
    have e2:next - 1+1=next:=by omega
    rw[e1,e2]
theorem qX (s:ByteArray):∀ (l:List ByteArray) (i:Int),0≤i→(rT s l i < 0∧s ∉ l)∨∃ k:Nat,rT s l i=i+k∧l[k]?=some s∧∀ j < k,l[j]?≠some s
  | [],i,h=>.inl ⟨by simp[rT],by simp⟩
  | x :: l,i,h=>by
    have hx:eX x s=true↔x=s:=by
      unfold eX
      rw[beq_iff_eq]
      constructor
      · intro e; cases x; cases s; simp at e; simp[e]
      · rintro rfl; rfl
    simp only[rT]
    by_cases e:x=s
    · rw[if_pos (hx.2 e)]
      exact .inr ⟨0,by simp,by simp[e],by simp⟩
    · rw[if_neg (fun h=>e (hx.1 h))]
      rcases qX s l (i+1) (by omega) with ⟨h1,h2⟩ | ⟨k,h1,h2,h3⟩
      · exact .inl ⟨h1,by simp[h2,Ne.symm e]⟩
      · refine .inr ⟨k+1,by rw[h1]; push_cast; omega,by simpa using h2,fun j hj=>?_⟩
        cases j with
        | zero=>simp[e]
        | succ j=>simpa using h3 j (by omega)
theorem nr (l:List ByteArray):(∀ (k:Nat) (s:ByteArray),l[k]?=some s→rT s l 0=k)↔l.Nodup:=by
  constructor
  · intro h
    rw[List.nodup_iff_pairwise_ne,List.pairwise_iff_getElem]
    intro i j hi hj hij e
    have h1:=h i l[i] (by simp[hi])
    have h2:=h j l[j] (by simp[hj])
    rw[e] at h1
    omega
  · intro hn k s hk
    rcases qX s l 0 (by omega) with ⟨_,h2⟩ | ⟨j,h1,h2,h3⟩
    · exact absurd (List.mem_of_getElem? hk) h2
    · have hj:j < l.length:=by
        rcases Nat.lt_or_ge j l.length with h | h
        · exact h
        · simp[List.getElem?_eq_none h] at h2
      have hk':k < l.length:=by
        rcases Nat.lt_or_ge k l.length with h | h
        · exact h
        · simp[List.getElem?_eq_none h] at hk
      have:j=k:=(List.getElem_inj hn).1 (by
        rw[List.getElem?_eq_getElem hj] at h2; rw[List.getElem?_eq_getElem hk'] at hk
        simp at h2 hk; rw[h2,hk])
      rw[h1,this]; simp
theorem bytes_inj {a b:ByteArray} : a.data.toList=b.data.toList↔a=b:=by
  constructor
  · intro h; cases a; cases b; simp at h; simp[h]
  · rintro rfl; rfl
theorem EV {l:List ByteArray} : (names l).Nodup↔l.Nodup:=by
  unfold names
  rw[List.nodup_iff_pairwise_ne,List.pairwise_map,List.nodup_iff_pairwise_ne]
  constructor
  · exact fun h=>h.imp fun h e=>h (bytes_inj.2 e)
  · exact fun h=>h.imp fun h e=>h (bytes_inj.1 e)
theorem kM {α:Type} [BEq α] [LawfulBEq α]:∀ (l m:List α),l.Nodup→(∀ x∈l,x∈m)→l.length≤m.length
  | [],m,_,_=>by simp
  | x :: l,m,hn,hs=>by
    rw[List.nodup_cons] at hn
    have hx:x∈m:=hs x (by simp)
    have:=kM l (m.erase x) hn.2 (fun y hy=>by
      have hne:y≠x:=by rintro rfl; exact hn.1 hy
      exact (List.mem_erase_of_ne hne).2 (hs y (by simp[hy])))
    rw[List.length_erase_of_mem hx] at this
    have:0 < m.length:=List.length_pos_of_mem hx
    simp only[List.length_cons]
    omega
def iz (n:Nat):List Int:=(List.range n).map fun (k:Nat)=>(k:Int)+1
theorem pP {n:Nat} {x:Int} : x∈iz n↔1≤x∧x≤n:=by
  simp only[iz,List.mem_map,List.mem_range]
  constructor
  · rintro ⟨k,hk,rfl⟩; omega
  · rintro ⟨h1,h2⟩; exact ⟨(x - 1).toNat,by omega,by omega⟩
theorem As (n:Nat):(iz n).Nodup:=by
  rw[iz,List.nodup_iff_pairwise_ne,List.pairwise_map]
  exact (List.nodup_range (n:=n)).imp fun h e=>h (by omega)
theorem HU {l:List Int} {n:Nat} (hn:l.Nodup) (hs:∀ x∈l,1≤x∧x≤n) (hl:l.length=n) {x:Int} (h1:1≤x) (h2:x≤n):x∈l:=by
  refine Classical.byContradiction fun hx=>?_
  have:=kM (x :: l) (iz n) (List.nodup_cons.2 ⟨hx,hn⟩) (fun y hy=>by
    rw[pP]
    rcases List.mem_cons.1 hy with rfl | hy
    · exact ⟨h1,h2⟩
    · exact hs y hy)
  simp[iz] at this
  omega
theorem p9 (n:Int):∀ (l:List Term) (w:Int),w≠0→jn n l w=if (∀ t∈l,t.level=n→t.assoc=w) then some w else none
  | [],w,_=>by simp[jn]
  | t :: r,w,hw=>by
    simp only[jn]
    by_cases ht:t.level=n
    · rw[if_pos ht]
      by_cases ha:w=t.assoc
      · rw[if_neg (by simp[ha]),← ha,p9 n r w hw]
        congr 1
        simp[ht,ha]
      · rw[if_pos ⟨hw,ha⟩,if_neg (fun h=>ha (h t (by simp) ht).symm)]
    · rw[if_neg ht,p9 n r w hw]
      congr 1
      simp[ht]
theorem uL (n:Int):∀ (l:List Term),(∀ t∈l,t.level=n→t.assoc≠0)→(gO l n=true↔∃ a,(∃ t∈l,t.level=n)∧∀ t∈l,t.level=n→t.assoc=a)
  | [],_=>by simp[gO,jn]
  | t :: r,h=>by
    by_cases ht:t.level=n
    · have ha:=h t (by simp) ht
      have e:gO (t :: r) n=match (if (∀ u∈r,u.level=n→u.assoc=t.assoc) then some t.assoc else none) with | some w=>w != 0 | none=>false:=by
        simp only[gO,jn]
        rw[if_pos ht,if_neg (by simp),p9 n r _ ha]
        rfl
      rw[e]
      by_cases hr:∀ u∈r,u.level=n→u.assoc=t.assoc
      · rw[if_pos hr]
        simp only[bne_iff_ne,ne_eq,ha,not_false_eq_true,true_iff]
        refine ⟨t.assoc,⟨t,by simp,ht⟩,fun u hu hl=>?_⟩
        rcases List.mem_cons.1 hu with rfl | hu
        · rfl
        · exact hr u hu hl
      · rw[if_neg hr]
        simp only[Bool.false_eq_true,false_iff]
        rintro ⟨a,_,h2⟩
        exact hr fun u hu hl=>(h2 u (by simp[hu]) hl).trans (h2 t (by simp) ht).symm
    · have ih:=uL n r (fun u hu=>h u (by simp[hu]))
      have e:gO (t :: r) n=gO r n:=by
        simp only[gO,jn,if_neg ht]
      rw[e,ih]
      constructor
      · rintro ⟨a,⟨u,hu,hl⟩,h2⟩
        refine ⟨a,⟨u,by simp[hu],hl⟩,fun v hv hl=>?_⟩
        rcases List.mem_cons.1 hv with rfl | hv
        · exact absurd hl ht
        · exact h2 v hv hl
      · rintro ⟨a,⟨u,hu,hl⟩,h2⟩
        rcases List.mem_cons.1 hu with rfl | hu
        · exact absurd hl ht
        · exact ⟨a,⟨u,hu,hl⟩,fun v hv=>h2 v (by simp[hv])⟩
def oT (l:List Term):Prop:=∀ t∈l,∀ u∈l,t.level=u.level→t.level≠0→t.assoc=u.assoc
theorem zT {κ β:Type} [BEq κ] [LawfulBEq κ] {k:κ} {v:β} : ∀ {a:List (κ × β)},(a.map (·.1)).Nodup→((gh k v a).map (·.1)).Nodup∧∀ x,x∈(gh k v a).map (·.1)↔x=k∨x∈a.map (·.1)
  | [],_=>by simp[gh]
  | y :: a,h=>by
    simp only[List.map_cons,List.nodup_cons] at h
    obtain ⟨h1,h2⟩:=zT (k:=k) (v:=v) h.2
    simp only[gh]
    by_cases e:k=y.1
    · simp only[e,beq_self_eq_true,if_true,List.map_cons,List.nodup_cons]
      refine ⟨h,fun x=>by simp[e]⟩
    · have:(k == y.1)=false:=by simp[e]
      rw[this]
      simp only[Bool.false_eq_true,if_false,List.map_cons,List.nodup_cons,List.mem_cons]
      refine ⟨⟨fun hm=>?_,h1⟩,fun x=>?_⟩
      · rcases (h2 _).1 hm with e' | hm
        · exact e e'.symm
        · exact h.1 hm
      · rw[h2]
        constructor
        · rintro (h | h | h) <;> simp[h]
        · rintro (h | h | h) <;> simp[h]
theorem rS:∀ (l:List Term) (a:List (Int × Int)) (top:Int),(∀ t∈l,t.level≠0→t.assoc≠0)→(∀ n v,cE a n=some v→v≠0)→(a.map (·.1)).Nodup →
    match iN l a top with
    | some (a',top')=>oT l∧(∀ t∈l,∀ v,t.level≠0→cE a t.level=some v→t.assoc=v)∧(a'.map (·.1)).Nodup∧(∀ n,n∈a'.map (·.1)↔n∈a.map (·.1)∨(n≠0∧∃ t∈l,t.level=n)) ∧
        top≤top'∧(∀ t∈l,t.level≠0→t.level≤top')∧(top'=top∨∃ t∈l,t.level=top'∧t.level≠0)
    | none=>¬ (oT l∧∀ t∈l,∀ v,t.level≠0→cE a t.level=some v→t.assoc=v)
  | [],a,top,_,_,hn=>by
    simp only[iN]
    exact ⟨fun t ht=>by simp at ht,fun t ht=>by simp at ht,hn,fun n=>by simp,by omega,fun t ht=>by simp at ht,by simp⟩
  | t :: r,a,top,h0,hv,hn=>by
    have h0r:∀ u∈r,u.level≠0→u.assoc≠0:=fun u hu=>h0 u (by simp[hu])
    simp only[iN]
    by_cases ht:t.level=0
    · rw[if_pos ht]
      have ih:=rS r a top h0r hv hn
      have one:oT (t :: r)↔oT r:=by
        constructor
        · exact fun h u hu w hw=>h u (by simp[hu]) w (by simp[hw])
        · intro h u hu w hw e hz
          rcases List.mem_cons.1 hu with rfl | hu
          · exact absurd ht hz
          · rcases List.mem_cons.1 hw with rfl | hw
            · exact absurd (e.trans ht) hz
            · exact h u hu w hw e hz
      have con:(∀ u∈t :: r,∀ v,u.level≠0→cE a u.level=some v→u.assoc=v)↔∀ u∈r,∀ v,u.level≠0→cE a u.level=some v→u.assoc=v:=by
        simp[ht]
      have mem:∀ n,(n≠0∧∃ u∈t :: r,u.level=n)↔(n≠0∧∃ u∈r,u.level=n):=fun n=>by
        constructor
        · rintro ⟨h1,u,hu,rfl⟩
          rcases List.mem_cons.1 hu with rfl | hu
          · exact absurd ht h1
          · exact ⟨h1,u,hu,rfl⟩
        · rintro ⟨h1,u,hu,rfl⟩; exact ⟨h1,u,by simp[hu],rfl⟩
      cases hs:iN r a top with
      | none=>rw[hs] at ih; rw[one,con]; exact ih
      | some x =>
        obtain ⟨a',top'⟩:=x
        rw[hs] at ih
        obtain ⟨i1,i2,i3,i4,i5,i6,i7⟩:=ih
        refine ⟨one.2 i1,con.2 i2,i3,fun n=>by rw[i4,mem],i5,?_,?_⟩
        · intro u hu hz
          rcases List.mem_cons.1 hu with rfl | hu
          · exact absurd ht hz
          · exact i6 u hu hz
        · rcases i7 with h | ⟨u,hu,h⟩
          · exact .inl h
          · exact .inr ⟨u,by simp[hu],h⟩
    · rw[if_neg ht]
      have ha:=h0 t (by simp) ht
      by_cases hc:(cE a t.level).getD 0≠0∧(cE a t.level).getD 0≠t.assoc
      · rw[if_pos hc]
        simp only
        rintro ⟨_,h2⟩
        cases hp:cE a t.level with
        | none=>simp[hp] at hc
        | some v =>
          have:=h2 t (by simp) v ht hp
          simp[hp] at hc
          exact hc.2 this.symm
      · rw[if_neg hc]
        have hcon:∀ v,cE a t.level=some v→t.assoc=v:=fun v hp=>by
          have:=hv _ _ hp
          simp[hp] at hc
          exact (hc this).symm
        have hput:∀ n,cE (gh t.level t.assoc a) n=if n=t.level then some t.assoc else cE a n:=fun n=>by
          rw[Ai]; simp
        have hk:=zT (k:=t.level) (v:=t.assoc) hn
        have ih:=rS r (gh t.level t.assoc a) (if t.level > top then t.level else top) h0r (fun n v hp=>by
          rw[hput] at hp
          split at hp
          · simp at hp; rw[← hp]; exact ha
          · exact hv n v hp) hk.1
        have both:(oT (t :: r)∧∀ u∈t :: r,∀ v,u.level≠0→cE a u.level=some v→u.assoc=v)↔(oT r∧∀ u∈r,∀ v,u.level≠0→cE (gh t.level t.assoc a) u.level=some v→u.assoc=v):=by
          constructor
          · rintro ⟨h1,h2⟩
            refine ⟨fun u hu w hw=>h1 u (by simp[hu]) w (by simp[hw]),fun u hu v hz hp=>?_⟩
            rw[hput] at hp
            split at hp
            · rename_i e
              simp at hp; rw[← hp]
              exact h1 u (by simp[hu]) t (by simp) e hz
            · exact h2 u (by simp[hu]) v hz hp
          · rintro ⟨h1,h2⟩
            have h3:∀ u∈r,u.level=t.level→u.assoc=t.assoc:=fun u hu e=>h2 u hu t.assoc (by rw[e]; exact ht) (by rw[hput,if_pos e])
            refine ⟨fun u hu w hw e hz=>?_,fun u hu v hz hp=>?_⟩
            · rcases List.mem_cons.1 hu with e1 | hu2
              · rcases List.mem_cons.1 hw with e2 | hw2
                · rw[e1,e2]
                · rw[e1] at e ⊢
                  exact (h3 w hw2 e.symm).symm
              · rcases List.mem_cons.1 hw with e2 | hw2
                · rw[e2] at e ⊢
                  exact h3 u hu2 e
                · exact h1 u hu2 w hw2 e hz
            · rcases List.mem_cons.1 hu with rfl | hu
              · exact hcon v hp
              · by_cases e:u.level=t.level
                · rw[h3 u hu e]; exact hcon v (by rw[← e]; exact hp)
                · exact h2 u hu v hz (by rw[hput,if_neg e]; exact hp)
        have htop:top≤(if t.level > top then t.level else top)∧t.level≤(if t.level > top then t.level else top):=by split <;> omega
        cases hs:iN r (gh t.level t.assoc a) (if t.level > top then t.level else top) with
        | none=>rw[hs] at ih; simp only; rw[both]; exact ih
        | some x =>
          obtain ⟨a',top'⟩:=x
          rw[hs] at ih
          obtain ⟨i1,i2,i3,i4,i5,i6,i7⟩:=ih
          obtain ⟨b1,b2⟩:=both.2 ⟨i1,i2⟩
          refine ⟨b1,b2,i3,fun n=>?_,by omega,?_,?_⟩
          · rw[i4,hk.2]
            constructor
            · rintro ((rfl | h) | ⟨h1,u,hu,h⟩)
              · exact .inr ⟨ht,t,by simp,rfl⟩
              · exact .inl h
              · exact .inr ⟨h1,u,by simp[hu],h⟩
            · rintro (h | ⟨h1,u,hu,h⟩)
              · exact .inl (.inr h)
              · rcases List.mem_cons.1 hu with rfl | hu
                · exact .inl (.inl h.symm)
                · exact .inr ⟨h1,u,hu,h⟩
          · intro u hu hz
            rcases List.mem_cons.1 hu with rfl | hu
            · omega
            · exact i6 u hu hz
          · rcases i7 with h | ⟨u,hu,h⟩
            · by_cases e:t.level > top
              · rw[if_pos e] at h; exact .inr ⟨t,by simp,h.symm,ht⟩
              · rw[if_neg e] at h; exact .inl h
            · exact .inr ⟨u,by simp[hu],h⟩
theorem uT (l:List Term) (h:∀ t∈l,hQ t=true):l9 l=true↔∀ t∈l,∀ n:Int,1≤n→n≤t.level→gO l n=true:=by
  have hb:∀ t∈l,0≤t.level∧(t.level≠0→t.assoc≠0):=fun t ht=>by
    have:=h t ht
    simp only[hQ,Bool.and_eq_true,decide_eq_true_eq,beq_iff_eq] at this
    refine ⟨this.1.1.1.1.2,fun h1 h2=>?_⟩
    have e:=this.2
    simp[h1,h2] at e
  have hs:=rS l [] 0 (fun t ht=>(hb t ht).2) (by simp[cE]) (by simp)
  have hL:∀ n:Int,1≤n→(gO l n=true↔∃ a,(∃ t∈l,t.level=n)∧∀ t∈l,t.level=n→t.assoc=a):=fun n hn=>uL n l (fun t ht e=>(hb t ht).2 (by omega))
  unfold l9
  cases hx:iN l [] 0 with
  | none =>
    rw[hx] at hs
    simp only[Bool.false_eq_true,false_iff]
    intro hall
    refine hs ⟨fun t ht u hu e hz=>?_,fun t ht v _ hp=>by simp[cE] at hp⟩
    have h1:=hb t ht
    obtain ⟨a,_,h2⟩:=(hL t.level (by omega)).1 (hall t ht t.level (by omega) (by omega))
    exact (h2 t ht rfl).trans (h2 u hu e.symm).symm
  | some x =>
    obtain ⟨a,top⟩:=x
    rw[hx] at hs
    obtain ⟨i1,_,i3,i4,i5,i6,i7⟩:=hs
    simp only[beq_iff_eq]
    have hmem:∀ n,n∈a.map (·.1)↔n≠0∧∃ t∈l,t.level=n:=fun n=>by rw[i4]; simp
    have hin:∀ x∈a.map (·.1),1≤x∧x≤(top.toNat:Int):=fun x hx=>by
      obtain ⟨h1,t,ht,rfl⟩:=(hmem x).1 hx
      have:=(hb t ht).1
      have:=i6 t ht h1
      omega
    constructor
    · intro hlen t ht n hn1 hn2
      have htop:t.level≤top:=i6 t ht (by omega)
      have hm:=HU i3 hin (by simp; omega) hn1 (show n≤(top.toNat:Int) by omega)
      obtain ⟨hz,u,hu,rfl⟩:=(hmem n).1 hm
      exact (hL _ hn1).2 ⟨u.assoc,⟨u,hu,rfl⟩,fun w hw e=>i1 w hw u hu e (by omega)⟩
    · intro hall
      have h1:a.length≤top.toNat:=by
        have:=kM _ (iz top.toNat) i3 (fun x hx=>pP.2 (hin x hx))
        simpa [iz] using this
      have h2:top.toNat≤a.length:=by
        rcases i7 with e | ⟨t,ht,e,hz⟩
        · subst e; simp
        · have:=kM (iz top.toNat) (a.map (·.1)) (As _) (fun x hx=>by
            rw[pP] at hx
            have:=(hb t ht).1
            obtain ⟨_,⟨u,hu,hl⟩,_⟩:=(hL x hx.1).1 (hall t ht x hx.1 (by omega))
            exact (hmem x).2 ⟨by omega,u,hu,hl⟩)
          simpa [iz] using this
      omega
theorem vD (g:al):∀ (l:List Term) (i:Int),kN g l i=true↔∀ (k:Nat) (t:Term),l[k]?=some t→mZ g (i+k) t=true
  | [],i=>by simp[kN]
  | t :: r,i=>by
    simp only[kN,Bool.and_eq_true,vD g r (i+1)]
    constructor
    · rintro ⟨h1,h2⟩ k u hk
      cases k with
      | zero=>simp at hk; subst hk; simpa using h1
      | succ k =>
        have:=h2 k u (by simpa using hk)
        rw[show i+((k+1:Nat):Int)=i+1+k by push_cast; omega]; exact this
    · intro h
      refine ⟨by simpa using h 0 t rfl,fun k u hk=>?_⟩
      have:=h (k+1) u (by simpa using hk)
      rw[show i+1+(k:Int)=i+((k+1:Nat):Int) by push_cast; omega]; exact this
theorem nd (g:al):∀ (l:List ByteArray) (i:Int),vG g l i=true↔∀ (k:Nat) (s:ByteArray),l[k]?=some s→og g (i+k) s=true
  | [],i=>by simp[vG]
  | t :: r,i=>by
    simp only[vG,Bool.and_eq_true,nd g r (i+1)]
    constructor
    · rintro ⟨h1,h2⟩ k u hk
      cases k with
      | zero=>simp at hk; subst hk; simpa using h1
      | succ k =>
        have:=h2 k u (by simpa using hk)
        rw[show i+((k+1:Nat):Int)=i+1+k by push_cast; omega]; exact this
    · intro h
      refine ⟨by simpa using h 0 t rfl,fun k u hk=>?_⟩
      have:=h (k+1) u (by simpa using hk)
      rw[show i+1+(k:Int)=i+((k+1:Nat):Int) by push_cast; omega]; exact this
theorem xl (g:al) (s:ByteArray):nC g s < 0↔s ∉ g.az.map Term.name:=by
  unfold nC
  rcases qX s (g.az.map Term.name) 0 (by omega) with ⟨h1,h2⟩ | ⟨k,h1,h2,_⟩
  · exact ⟨fun _=>h2,fun _=>h1⟩
  · constructor
    · intro h; omega
    · intro h; exact absurd (List.mem_of_getElem? h2) h
theorem xF (g:al) (t:Term):uX g t=true↔∀ n:Int,1≤n→n≤t.level→gO g.az n=true:=by
  simp only[uX,List.all_eq_true,List.mem_range]
  constructor
  · intro h n h1 h2
    have:=h (n - 1).toNat (by omega)
    rwa [show (((n - 1).toNat:Nat):Int)+1=n by omega] at this
  · intro h k hk
    exact h _ (by omega) (by omega)
theorem CP (g:al):lf g=bu g:=by
  rw[Bool.eq_iff_iff]
  simp only[lf,bu,sC,vJ,my,Bool.and_eq_true,decide_eq_true_eq,vD,nd,yW,List.all_eq_true,Bool.not_eq_true',List.any_eq_false,Bool.not_eq_true,EV,mz,List.nodup_append,Int.zero_add,Int.zero_sub,Bool.not_not]
  have hT:(∀ (k:Nat) (t:Term),g.az[k]?=some t→mZ g k t=true)↔(∀ t∈g.az,hQ t=true)∧(g.az.map Term.name).Nodup∧(∀ t∈g.az,uX g t=true):=by
    rw[← nr]
    constructor
    · intro h
      have h':∀ t∈g.az,∃ k:Nat,g.az[k]?=some t:=fun t ht=>List.getElem?_of_mem ht
      refine ⟨fun t ht=>?_,fun k s hk=>?_,fun t ht=>?_⟩
      · obtain ⟨k,hk⟩:=h' t ht
        have:=h k t hk
        simp only[mZ,hQ,Bool.and_eq_true,decide_eq_true_eq] at this ⊢
        simp[this]
      · rw[List.getElem?_map,Option.map_eq_some_iff] at hk
        obtain ⟨t,hk,rfl⟩:=hk
        have:=h k t hk
        simp only[mZ,Bool.and_eq_true,beq_iff_eq] at this
        exact this.1.1.1.1.1.1.2
      · obtain ⟨k,hk⟩:=h' t ht
        have:=h k t hk
        simp only[mZ,Bool.and_eq_true] at this
        exact this.2
    · rintro ⟨h1,h2,h3⟩ k t hk
      have hm:=List.mem_of_getElem? hk
      have a:=h1 t hm
      have b:=h2 k t.name (by rw[List.getElem?_map,hk]; rfl)
      have c:=h3 t hm
      simp only[mZ,hQ,nC,Bool.and_eq_true,decide_eq_true_eq] at a ⊢
      simp[a,b,c]
  have hN:(∀ (k:Nat) (s:ByteArray),g.ay[k]?=some s→og g k s=true)↔(∀ s∈g.ay,gx (eZ s)=true)∧g.ay.Nodup∧(∀ s∈g.ay,s ∉ g.az.map Term.name):=by
    rw[← nr]
    constructor
    · intro h
      have h':∀ t∈g.ay,∃ k:Nat,g.ay[k]?=some t:=fun t ht=>List.getElem?_of_mem ht
      refine ⟨fun t ht=>?_,fun k s hk=>?_,fun t ht=>?_⟩
      · obtain ⟨k,hk⟩:=h' t ht
        have:=h k t hk
        simp only[og,Bool.and_eq_true] at this
        exact this.1.1
      · have:=h k s hk
        simp only[og,zo,Bool.and_eq_true,beq_iff_eq] at this
        exact this.1.2
      · obtain ⟨k,hk⟩:=h' t ht
        have:=h k t hk
        simp only[og,Bool.and_eq_true,decide_eq_true_eq] at this
        exact (xl g t).1 this.2
    · rintro ⟨h1,h2,h3⟩ k s hk
      have hm:=List.mem_of_getElem? hk
      have a:=h1 s hm
      have b:=h2 k s hk
      have c:=(xl g s).2 (h3 s hm)
      simp[og,zo,a,b,c]
  rw[hT,hN]
  constructor
  · rintro ⟨⟨⟨⟨⟨⟨⟨⟨t1,t2⟩,t3⟩,n1,n2⟩,r1,r2⟩,a1,a2,a3⟩,s1,s2⟩,n3⟩,ru⟩
    have hl:=(uT g.az t1).1 t3
    exact ⟨⟨⟨⟨⟨⟨⟨t2,t1,a2,fun t ht=>(xF g t).2 (hl t ht)⟩,⟨by omega,by omega⟩,fun s hs=>by simpa using n3 s hs,a1,fun s hs hm=>a3 s hs s hm rfl⟩,by omega⟩,by omega⟩,s1⟩,by omega⟩,ru⟩
  · rintro ⟨⟨⟨⟨⟨⟨⟨t2,t1,a2,t3⟩,⟨n1,n2⟩,n3,a1,a3⟩,r1⟩,r2⟩,s1⟩,s2⟩,ru⟩
    have hl:=(uT g.az t1).2 (fun t ht=>(xF g t).1 (t3 t ht))
    exact ⟨⟨⟨⟨⟨⟨⟨⟨t1,t2⟩,hl⟩,by omega,by omega⟩,by omega,by omega⟩,a1,a2,fun s hs u hu e=>a3 s hs (e ▸ hu)⟩,s1,by omega⟩,fun s hs=>by simp[n3 s hs]⟩,ru⟩
theorem mY (g:al) (hg:g.Ok) (hs:g.ay.length+g.az.length≤1000):aC Tryz.prog 52 [.agg (aX g)] (gb (bu g)):=by
  rw[← CP]; exact CO g hg hs
def zK (n:Nat) (r:aE):Prop:=bw r.left∧0≤r.left∧r.left < n∧r.right.length≤6∧∀ s∈r.right,bw s∧(s < 0→-1 - s < n)
theorem al.sd.u5 {g:al} (hg:g.Ok) (h:g.sd) {r:aE} (hr:r∈g.rules):zK g.ay.length r :=
  ⟨(hg.aZ r hr).1,(h.left r hr).1,(h.left r hr).2,h.right r hr,fun s hs=>⟨(hg.aZ r hr).2.2.2 s hs,fun hn=>h.neg hr hs hn⟩⟩
def nG:SF:=⟨.seq (aq [aY 3 false]) <|
  .seq (.region false [⟨none,[aa 4 0,aw 5 .lss 4 0,aa 6 5]⟩,⟨(some (6,true)),[ar 7 1,aa 8 0,((some 9),.op (.arith .sub (.val (.val (.int .i64 (-1)))) (.tmp 8))),ba 10 1 7 9,ar 11 10,cw 12 11]⟩,⟨none,[bq 13 6 12,aa 3 13]⟩]) <|
  .ret,
  [.tmp 3],14⟩
theorem rO:bD Tryz.prog 197 []=some nG:=by kernel_rfl
def qj:SF:=⟨.seq (aq [c5 2 0,c5 3 1,aY 4 false]) <|
  .seq (aq [an 5 1 2,ar 6 5,((some 7),.op (.mj 197 [] [(.tmp 3)])),aD 8 91 [6,7],cw 9 8,aa 4 9]) <|
  .ret,
  [.tmp 4],10⟩
theorem uf:bD Tryz.prog 160 [2,3]=some qj:=by kernel_rfl
def j0:SF:=⟨.seq (aq [c5 2 0,((some 4),.op (.bc (.val (.emp 1))))]) <|
  .seq (.seq (aq [aO 5 3 2,aa 6 1,aD 7 160 [5,6]]) <|
  .cond (.tmp 7) (.seq (aq [an 8 0 2,ar 9 8,((some 10),.op (.bz 1 1 [(.val (.int .i64 0))] [(0,(.tmp 9))])),aa 4 10]) <|
  .ret) (.skip)) <|
  .seq (aq [((some 4),.op (.bc (.val (.emp 1))))]) <|
  .ret,
  [.tmp 4],11⟩
theorem nS:bD Tryz.prog 195 [2]=some j0:=by kernel_rfl
def ju:SC :=
  .seq (aq [aQ 24 .lss 23 22]) <|
  .seq (.cond (.tmp 24) (.skip) (.exit 0)) <|
  .seq (.block 1 (.seq (aq [ba 25 1 21 23,ar 26 25,aa 7 26]) <|
  .seq (aq [aa 27 7,aw 28 .lss 27 0]) <|
  .cond (.tmp 28) (aq [aa 29 5,aa 30 7,((some 31),.op (.arith .sub (.val (.val (.int .i64 (-1)))) (.tmp 30))),((some 32),.op (.bz 1 1 [(.val (.int .i64 0))] [(0,(.tmp 31))])),((some 33),.op (.app 1 8 (.tmp 29) (.tmp 32))),aa 5 33]) (.skip))) <|
  aq [aw 34 .add 23 1,aa 23 34]
def k9:SF:=⟨.seq (aq [c5 3 0,((some 5),.op (.bc (.val (.emp 1))))]) <|
  .seq (.seq (.region false [⟨none,[aa 8 1,an 9 0 3,ar 10 9,ba 11 1 8 10,ar 12 11,cw 13 12,aa 14 13]⟩,⟨(some (14,false)),[aO 15 3 3,ar 16 2,aD 17 160 [15,16],cw 18 17]⟩,⟨none,[bV 19 14 18]⟩]) <|
  .cond (.tmp 19) (.seq (aq [((some 5),.op (.bc (.val (.emp 1))))]) <|
  .ret) (.skip)) <|
  .seq (.seq (aq [an 20 1 3,ar 21 20,aR 22 21,aA 23 0]) <|
  .block 0 (.loop ju)) <|
  .seq (aq [aa 35 5,aa 5 35]) <|
  .ret,
  [.tmp 5],36⟩
theorem pf:bD Tryz.prog 196 [3]=some k9:=by kernel_rfl
theorem zI (r:aE) (is:List Bool):∀ v∈[V.agg (bf r),cB is],Tree v:=by
  intro v hv; simp at hv
  rcases hv with rfl | rfl
  · exact fL _ (ey r)
  · exact jb is
def wL (is:List Bool) (s:Int):Bool:=decide (s < 0) && !is.getD (-1 - s).toNat false
theorem CY (is:List Bool) (s:Int) (hs:bw s∧(s < 0→-1 - s < is.length)):aC Tryz.prog 197 [gi s,.aS [cB is] 0] (gb (wL is s)):=by
  refine aC.val ?_ fun H=>?_
  · intro v hv; simp at hv
    rcases hv with rfl | rfl
    · exact .val _
    · exact gE (by intro v hv; simp at hv; subst hv; exact jb is)
  obtain ⟨⟨h1,h2⟩,h3⟩:=hs
  refine aH.of mixed rO ?_
  simp (disch:=omega) only [↓wr,↓reduceIte,wq,ai,ag,ak,ab,ae,af,aj,isNil,Nat.reduceEqDiff,Nat.reduceAdd,Nat.reduceLT,Nat.reduceLeDiff,Int.reduceNeg,Int.reduceToNat,reduceCtorEq,nG,cB]
  refine ax.dec (fun h=>?_) (fun h=>?_)
  · have hb:is[(-1 - s).toNat]?=some (is[(-1 - s).toNat]'(by omega)):=List.getElem?_eq_getElem (by omega)
    have hbd:is.getD (-1 - s).toNat false=is[(-1 - s).toNat]'(by omega):=by simp[List.getD_eq_getElem?_getD,hb]
    generalize is[(-1 - s).toNat]'(by omega)=b at hb hbd
    simp (disch:=omega) only [↓wr,↓reduceIte,wq,ai,ag,ak,ab,ae,af,aj,isNil,Nat.reduceEqDiff,Nat.reduceAdd,Nat.reduceLT,Nat.reduceLeDiff,Int.reduceNeg,Int.reduceToNat,reduceCtorEq,List.getElem?_map,hb]
    simp only[wL,hbd,h,decide_true,Bool.true_and]
  · simp (disch:=omega) only [↓wr,↓reduceIte,wq,ai,ag,ak,ab,ae,af,aj,isNil,Nat.reduceEqDiff,Nat.reduceAdd,Nat.reduceLT,Nat.reduceLeDiff,Int.reduceNeg,Int.reduceToNat,reduceCtorEq]
    simp[wL,h]
theorem Df {is:List Bool} {l:List Int} : (!l.any (wL is))=eh l is true:=by
  simp only[eh,List.not_any_eq_all_not]
  congr 1
  funext s
  simp only[wL]
  by_cases h:0≤s
  · simp[h,show ¬ s < 0 by omega]
  · simp[h,show s < 0 by omega]
theorem rP (r:aE) (is:List Bool) (hr:aJ r.right) (hs:∀ s∈r.right,bw s∧(s < 0→-1 - s < is.length)):aC Tryz.prog 160 [.agg (bf r),cB is] (gb (eh r.right is true)):=by
  rw[← Df]
  refine aC.val (zI r is) fun H=>?_
  refine aH.of mixed uf ?_
  simp (disch:=omega) only [↓wr,↓reduceIte,wq,ai,ag,ak,ab,ae,af,aj,isNil,Nat.reduceEqDiff,Nat.reduceAdd,Nat.reduceLT,Nat.reduceLeDiff,Int.reduceNeg,Int.reduceToNat,reduceCtorEq,qj,bf,cB,encI]
  refine aN.pure (mn r.right hr 197 [.aS [cB is] 0] (by
    intro v hv; simp at hv; subst hv
    exact gE (by intro v hv; simp at hv; subst hv; exact jb is)) (wL is) (fun x hx=>CY is x (hs x hx)) (by kernel_rfl)) (by kernel_rfl) ?_
  simp (disch:=omega) only [↓wr,↓reduceIte,wq,ai,ag,ak,ab,ae,af,aj,isNil,Nat.reduceEqDiff,Nat.reduceAdd,Nat.reduceLT,Nat.reduceLeDiff,Int.reduceNeg,Int.reduceToNat,reduceCtorEq]
theorem pM {h:av} {u:V} {l:List Int} (ho:aU h.view u 1 (l.map fun x=>[gi x])):dp h u (encI l):=dp.GN (f:=Value.int .i64) ho
theorem wk (r:aE) (is:List Bool) (hr:zK is.length r):dJ Tryz.prog 195 [.agg (bf r),cB is] (encI (if eh r.right is true=true then [r.left] else [])):=by
  obtain ⟨hl,_,_,hr6,hs⟩:=hr
  have hsh:aJ r.right:=by unfold aJ; omega
  refine dJ.of (zI r is) ?_
  refine aH.of mixed nS ?_
  simp (disch:=omega) only [↓wr,↓reduceIte,wq,ai,ag,ak,ab,ae,af,aj,isNil,Nat.reduceEqDiff,Nat.reduceAdd,Nat.reduceLT,Nat.reduceLeDiff,Int.reduceNeg,Int.reduceToNat,reduceCtorEq,j0,bf,encI]
  refine aN.pure (rP r is hsh hs) (by kernel_rfl) ?_
  repeat' (first | (refine ax.dec (fun _=>?_) (fun _=>?_)) | (refine ax.eq (fun _=>?_) (fun _=>?_)) | (refine ax.ne (fun _=>?_) (fun _=>?_)) | (refine ax.split (fun _=>?_) (fun _=>?_)) | (simp (disch:=omega) only [↓wr,↓reduceIte,wq,ai,ag,ak,ab,ae,af,aj,isNil,Nat.reduceEqDiff,Nat.reduceAdd,Nat.reduceLT,Nat.reduceLeDiff,Int.reduceNeg,Int.reduceToNat,reduceCtorEq,bf,encI]))
  all_goals first
    | (intro n h' hh; rw[if_pos (by simp[*])]; exact pM (l:=[r.left]) (.inr ⟨n,rfl,by rw[hh]; simp[View.set]⟩))
    | (intro h' hh; rw[if_neg (by simp[*])]; exact .emp _)
def dT (l:List Int):List Int:=(l.filter fun s=>decide (s < 0)).map fun s=>-1 - s
theorem EN (r:aE) (is p:List Bool):∀ v∈[V.agg (bf r),cB is,.aS [cB p] 0],Tree v:=by
  intro v hv; simp at hv
  rcases hv with rfl | rfl | rfl
  · exact fL _ (ey r)
  · exact jb is
  · exact gE (by intro v hv; simp at hv; subst hv; exact jb p)
set_option maxHeartbeats 1000000 in
theorem yw (r:aE) (is p:List Bool) (hr:zK is.length r) (hp:p.length=is.length) :
    dJ Tryz.prog 196 [.agg (bf r),cB is,.aS [cB p] 0] (encI (if (is.getD r.left.toNat false && eh r.right p true)=true then dT r.right else [])):=by
  obtain ⟨hl,hl0,hl1,hr6,hs⟩:=hr
  have hsh:aJ r.right:=by unfold aJ; omega
  refine dJ.of (EN r is p) ?_
  refine aH.of mixed pf ?_
  have hb:is[r.left.toNat]?=some (is[r.left.toNat]'(by omega)):=List.getElem?_eq_getElem (by omega)
  have hbd:is.getD r.left.toNat false=is[r.left.toNat]'(by omega):=by simp[List.getD_eq_getElem?_getD,hb]
  generalize is[r.left.toNat]'(by omega)=b at hb hbd
  rw[hbd]
  simp (disch:=omega) only [↓wr,↓reduceIte,wq,ai,ag,ak,ab,ae,af,aj,isNil,Nat.reduceEqDiff,Nat.reduceAdd,Nat.reduceLT,Nat.reduceLeDiff,Int.reduceNeg,Int.reduceToNat,reduceCtorEq,k9,bf,encI,cB,List.getElem?_map,hb]
  cases b with
  | false =>
    simp (disch:=omega) only [↓wr,↓reduceIte,wq,ai,ag,ak,ab,ae,af,aj,isNil,Nat.reduceEqDiff,Nat.reduceAdd,Nat.reduceLT,Nat.reduceLeDiff,Int.reduceNeg,Int.reduceToNat,reduceCtorEq]
    intro h' hh
    exact .emp _
  | true =>
    simp (disch:=omega) only [↓wr,↓reduceIte,wq,ai,ag,ak,ab,ae,af,aj,isNil,Nat.reduceEqDiff,Nat.reduceAdd,Nat.reduceLT,Nat.reduceLeDiff,Int.reduceNeg,Int.reduceToNat,reduceCtorEq,bf,encI,cB]
    refine aN.pure (rP r p hsh (fun s hs'=>⟨(hs s hs').1,fun h=>by rw[hp]; exact (hs s hs').2 h⟩)) (by kernel_rfl) ?_
    repeat' (first | (refine ax.dec (fun _=>?_) (fun _=>?_)) | (refine ax.eq (fun _=>?_) (fun _=>?_)) | (refine ax.ne (fun _=>?_) (fun _=>?_)) | (refine ax.split (fun _=>?_) (fun _=>?_)) | (simp (disch:=omega) only [↓wr,↓reduceIte,wq,ai,ag,ak,ab,ae,af,aj,isNil,Nat.reduceEqDiff,Nat.reduceAdd,Nat.reduceLT,Nat.reduceLeDiff,Int.reduceNeg,Int.reduceToNat,reduceCtorEq,bf,encI,cB]))
    · rename_i ha
      rw[if_pos (by simp[ha])]
      refine cD.up r.right.length (fun i T H=>(∃ u,T 5=u∧aU H u 1 ((dT (r.right.take i)).map fun x=>[gi x]))∧T 21=encI r.right∧T 22=gi r.right.length∧T 23=gi i) ?_ ?_
      · exact ⟨⟨_,rfl,.nil⟩,rfl,rfl,rfl⟩
      rintro i k T H' hk ⟨⟨u,h5,hu⟩,h21,h22,h23⟩
      simp (disch:=omega) only [↓wr,↓reduceIte,wq,ai,ag,ak,ab,ae,af,aj,isNil,Nat.reduceEqDiff,Nat.reduceAdd,Nat.reduceLT,Nat.reduceLeDiff,Int.reduceNeg,Int.reduceToNat,reduceCtorEq,ju,h5,h21,h22,h23,encI]
      refine ax.dec (fun hc=>?_) (fun hc=>?_)
      · have hg:r.right[i]?=some (r.right[i]'(by omega)):=List.getElem?_eq_getElem (by omega)
        have hm:r.right[i]'(by omega)∈r.right:=List.getElem_mem _
        have htk:dT (r.right.take (i+1))=dT (r.right.take i) ++ dT [r.right[i]'(by omega)]:=by
          rw[List.take_add_one,hg,dT,List.filter_append,List.map_append]; rfl
        have hlen:(dT (r.right.take i)).length≤6:=by
          have h1:(dT (r.right.take i)).length≤(r.right.take i).length:=by simp only[dT,List.length_map]; exact List.length_filter_le _ _
          have h2:(r.right.take i).length≤i:=List.length_take_le _ _
          omega
        generalize r.right[i]'(by omega)=s at hg hm htk
        obtain ⟨⟨s1,s2⟩,s3⟩:=hs s hm
        simp (disch:=omega) only [↓wr,↓reduceIte,wq,ai,ag,ak,ab,ae,af,aj,isNil,Nat.reduceEqDiff,Nat.reduceAdd,Nat.reduceLT,Nat.reduceLeDiff,Int.reduceNeg,Int.reduceToNat,reduceCtorEq,h5,h21,h22,h23,encI,List.getElem?_map,hg]
        refine ax.dec (fun hd=>?_) (fun hd=>?_)
        · simp (disch:=omega) only [↓wr,↓reduceIte,wq,ai,ag,ak,ab,ae,af,aj,isNil,Nat.reduceEqDiff,Nat.reduceAdd,Nat.reduceLT,Nat.reduceLeDiff,Int.reduceNeg,Int.reduceToNat,reduceCtorEq,h5,h21,h22,h23]
          intro m hm
          try simp (disch:=omega) only [↓wr,↓reduceIte,wq,ai,ag,ak,ab,ae,af,aj,isNil,Nat.reduceEqDiff,Nat.reduceAdd,Nat.reduceLT,Nat.reduceLeDiff,Int.reduceNeg,Int.reduceToNat,reduceCtorEq,h5,h21,h22,h23,iw]
          refine qQ (hu.fresh hm) (by simp) (by simp[aL]) (by unfold bb; simp at hlen ⊢; omega) (by unfold bb; simp at hlen ⊢; omega) ?_
          intro u' H2 hu' _
          simp (disch:=omega) only [↓wr,↓reduceIte,wq,ai,ag,ak,ab,ae,af,aj,isNil,Nat.reduceEqDiff,Nat.reduceAdd,Nat.reduceLT,Nat.reduceLeDiff,Int.reduceNeg,Int.reduceToNat,reduceCtorEq,h21,h22,h23]
          refine bI hk (by omega) ⟨⟨u',rfl,?_⟩,h21,h22,rfl⟩
          rw[htk]
          simpa [dT,hd] using hu'
        · simp (disch:=omega) only [↓wr,↓reduceIte,wq,ai,ag,ak,ab,ae,af,aj,isNil,Nat.reduceEqDiff,Nat.reduceAdd,Nat.reduceLT,Nat.reduceLeDiff,Int.reduceNeg,Int.reduceToNat,reduceCtorEq,h5,h21,h22,h23]
          refine bI hk (by omega) ⟨⟨u,h5,?_⟩,h21,h22,rfl⟩
          rw[htk]
          simpa [dT,hd] using hu
      · rw[List.take_of_length_le (by omega)] at hu
        simp (disch:=omega) only [↓wr,↓reduceIte,wq,ai,ag,ak,ab,ae,af,aj,isNil,Nat.reduceEqDiff,Nat.reduceAdd,Nat.reduceLT,Nat.reduceLeDiff,Int.reduceNeg,Int.reduceToNat,reduceCtorEq,h5,h21,h22,h23]
        intro h' hh
        exact pM (by rw[hh]; exact hu)
    · rename_i ha
      intro h' hh
      rw[if_neg (by simp[ha])]
      exact .emp _
def lY (is:List Bool) (l:List Int):List Bool:=l.foldl (fun is n=>is.set n.toNat true) is
def stepG (comes:aE→List Bool→List Int) (is:List Bool) (r:aE):List Bool:=lY is (comes r is)
def cA (comes:aE→List Bool→List Int) (rules:List aE) (is:List Bool):List Bool:=rules.foldl (stepG comes) is
def ei (a b:List Bool):Prop:=a.length=b.length∧∀ i,a.getD i false=true→b.getD i false=true
theorem ei.refl (a:List Bool):ei a a:=⟨rfl,fun _ h=>h⟩
theorem ei.trans {a b c:List Bool} (h:ei a b) (k:ei b c):ei a c:=⟨h.1.trans k.1,fun i hi=>k.2 i (h.2 i hi)⟩
theorem ei.set (a:List Bool) (i:Nat):ei a (a.set i true):=by
  refine ⟨by simp,fun j h=>?_⟩
  simp only[List.getD_eq_getElem?_getD,List.getElem?_set] at h ⊢
  split
  · split
    · rfl
    · rename_i e h2; rw[← e,List.getElem?_eq_none (by omega)] at h; simp at h
  · exact h
theorem Ap:∀ (l:List Int) (is:List Bool),ei is (lY is l)
  | [],is=>.refl _
  | n :: l,is=>(ei.set is n.toNat).trans (Ap l _)
theorem m0 (comes:aE→List Bool→List Int):∀ (rules:List aE) (is:List Bool),ei is (cA comes rules is)
  | [],is=>.refl _
  | r :: rs,is=>(Ap _ _).trans (m0 comes rs _)
def c3 (a:List Bool):Nat:=a.countP fun x=>x
theorem tI (a:List Bool):c3 a≤a.length:=List.countP_le_length
theorem ei.c3:∀ {a b:List Bool},ei a b→c3 a≤c3 b∧(c3 a=c3 b→a=b)
  | [],[],_=>⟨Nat.le_refl _,fun _=>rfl⟩
  | [],_ :: _,h=>by simp[ei] at h
  | _ :: _,[],h=>by simp[ei] at h
  | x :: a,y :: b,h=>by
    have hxy:x=true→y=true:=fun e=>by have:=h.2 0 (by simpa using e); simpa using this
    obtain ⟨h1,h2⟩:=ei.c3 (a:=a) (b:=b) ⟨by simpa using h.1,fun i hi=>by have:=h.2 (i+1) (by simpa using hi); simpa using this⟩
    unfold Gv.c3 at h1 h2 ⊢
    simp only[List.countP_cons]
    cases x with
    | true =>
      have:=hxy rfl; subst this
      simp only[if_true]
      exact ⟨by omega,fun e=>by rw[h2 (by omega)]⟩
    | false =>
      cases y with
      | false=>simp only[Bool.false_eq_true,if_false]; exact ⟨by omega,fun e=>by rw[h2 (by omega)]⟩
      | true=>simp only[Bool.false_eq_true,if_false,if_true]; exact ⟨by omega,fun e=>by omega⟩
def en (comes:aE→List Bool→List Int) (rules:List aE):Nat→List Bool→List Bool
  | 0,is=>is
  | k+1,is=>if cA comes rules is=is then is else en comes rules k (cA comes rules is)
theorem nf (comes:aE→List Bool→List Int) (rules:List aE):∀ (k:Nat) (is:List Bool),is.length≤c3 is+k→cA comes rules (en comes rules k is)=en comes rules k is∧ei is (en comes rules k is)
  | 0,is,h=>by
    have h1:=m0 comes rules is
    have h2:=tI (cA comes rules is)
    have h3:=h1.c3
    rw[← h1.1] at h2
    have h4:=tI is
    exact ⟨(h3.2 (by omega)).symm,.refl _⟩
  | k+1,is,h=>by
    simp only[en]
    by_cases e:cA comes rules is=is
    · rw[if_pos e]; exact ⟨e,.refl _⟩
    · rw[if_neg e]
      have h1:=m0 comes rules is
      have h3:=h1.c3
      have:c3 is < c3 (cA comes rules is):=by
        rcases Nat.lt_or_ge (c3 is) (c3 (cA comes rules is)) with h | h
        · exact h
        · exact absurd (h3.2 (by omega)).symm e
      obtain ⟨g1,g2⟩:=nf comes rules k (cA comes rules is) (by rw[← h1.1]; omega)
      exact ⟨g1,h1.trans g2⟩
def qh:SC :=
  .seq (aq [aQ 26 .lss 25 24]) <|
  .seq (.cond (.tmp 26) (.skip) (.exit 4)) <|
  .seq (.block 5 (.seq (aq [ba 27 1 23 25,ar 28 27,aa 11 28]) <|
  .seq (.region false [⟨none,[aa 29 7,aa 30 29]⟩,⟨(some (30,false)),[aa 31 1,aa 32 11,ba 33 1 31 32,ar 34 33,cw 35 34]⟩,⟨none,[bV 36 30 35,aa 7 36]⟩]) <|
  aq [aa 37 1,aa 38 11,ba 39 1 37 38,(none,.op (.store 1 (.tmp 39) (.val (.val (.bool true)))))])) <|
  aq [aw 40 .add 25 1,aa 25 40]
def qv:SC :=
  .seq (aq [aQ 17 .lss 16 15]) <|
  .seq (.cond (.tmp 17) (.skip) (.exit 2)) <|
  .seq (.block 3 (.seq (aq [ba 18 3 14 16,aO 19 3 18,((some 9),.op (.alloc [(.val (.int .i64 0)),(.emp 1),(.val (.int .i64 0))])),(none,.op (.store 3 (.tmp 9) (.tmp 19)))]) <|
  .seq (aq [aa 20 2,aO 21 3 9,aa 22 1,((some 23),.call (.tmp 20) [(.tmp 21),(.tmp 22)]),aR 24 23,aA 25 0]) <|
  .block 4 (.loop qh))) <|
  aq [aw 41 .add 16 1,aa 16 41]
def lq:SC :=
  .seq (.seq (aq [aa 12 7]) <|
  .cond (.tmp 12) (.skip) (.exit 0)) <|
  .block 1 (.seq (aq [aY 7 false]) <|
  .seq (aq [an 13 2 3,ar 14 13,aR 15 14,aA 16 0]) <|
  .block 2 (.loop qv))
def s7:SF:=⟨.seq (aq [c5 3 0,((some 6),.op (.bc (.val (.emp 1))))]) <|
  .seq (.seq (aq [aY 7 true]) <|
  .block 0 (.loop lq)) <|
  .seq (aq [aa 42 1,aa 6 42]) <|
  .ret,
  [.tmp 6],43⟩
theorem wJ:bD Tryz.prog 169 [3]=some s7:=by kernel_rfl
theorem GV {is:List Bool} {i:Nat} (h:is.getD i false=true):is.set i true=is:=by
  apply List.ext_getElem?
  intro j
  simp only[List.getD_eq_getElem?_getD] at h
  rw[List.getElem?_set]
  split
  · rename_i e; subst e
    split
    · rename_i hl; rw[List.getElem?_eq_getElem hl] at h ⊢; simp at h; simp[h]
    · rename_i hl; rw[List.getElem?_eq_none (by omega)] at h; simp at h
  · rfl
theorem Dv {comes:aE→List Bool→List Int} {rules:List aE} {k:Nat} {is:List Bool} (h:cA comes rules is=is):en comes rules k is=is:=by
  cases k with
  | zero=>rfl
  | succ k=>simp only[en,h,if_true]
theorem C9 {comes:aE→List Bool→List Int} {rules:List aE} {k:Nat} {is:List Bool} (h:¬ cA comes rules is=is) (hk:is.length≤c3 is+k):∃ j,k=j+1∧en comes rules k is=en comes rules j (cA comes rules is)∧(cA comes rules is).length≤c3 (cA comes rules is)+j:=by
  have h1:=m0 comes rules is
  have h3:=h1.c3
  have h5:=tI (cA comes rules is)
  have:c3 is < c3 (cA comes rules is):=by
    rcases Nat.lt_or_ge (c3 is) (c3 (cA comes rules is)) with h | h
    · exact h
    · exact absurd (h3.2 (by omega)).symm (by assumption)
  have hl:=h1.1
  obtain ⟨j,rfl⟩:∃ j,k=j+1:=⟨k - 1,by omega⟩
  exact ⟨j,rfl,by simp only[en]; rw[if_neg h],by omega⟩
theorem GK {a is:List Bool} {i:Nat} {b:Bool} (hle:ei a is) (hi:i < is.length) (hb:b = !decide (is=a)):(b || !is.getD i false) = !decide (is.set i true=a):=by
  cases hx:is.getD i false with
  | true=>rw[GV hx,hb]; simp
  | false =>
    have:¬ is.set i true=a:=fun e=>by
      have h1:(is.set i true).getD i false=true:=by simp[List.getD_eq_getElem?_getD,hi]
      rw[e] at h1
      have:=hle.2 i h1
      rw[hx] at this; simp at this
    simp[this]
set_option maxHeartbeats 8000000 in
theorem Bc (g:al) (hr:g.rules.length≤40) (comes:aE→List Bool→List Int) (f:FuncId) (capt capt':List V) (hok:b7 Tryz.prog f=true) (N:Nat) (hN:N≤16)
    (hc:∀ r∈g.rules,∀ is:List Bool,is.length=N→dJ Tryz.prog f (.agg (bf r) :: cB is :: capt') (encI (comes r is))∧(comes r is).length≤100∧∀ n∈comes r is,bw n∧0≤n∧n < N)
    (id:Nat) (is0:List Bool) (his:is0.length=N) (H:View) (hH:H id=.arr 1 (dA is0)) (hlent:∀ H':View,(∀ k,H k≠.dead→k≠id→H' k=H k)→kF H' capt capt') :
    aH Tryz.prog 169 [.agg (aX g),.sl id 0 N 1,.fn f [] capt] H fun r H'=>r=.sl id 0 N 1∧H' id=.arr 1 (dA (en comes g.rules 16 is0))∧∀ k,H k≠.dead→k≠id→H' k=H k:=by
  refine aH.of mixed wJ ?_
  simp (disch:=omega) only [↓wr,↓reduceIte,wq,ai,ag,ak,ab,ae,af,aj,isNil,Nat.reduceEqDiff,Nat.reduceAdd,Nat.reduceLT,Nat.reduceLeDiff,Int.reduceNeg,Int.reduceToNat,reduceCtorEq,s7,aX,encS]
  refine cD.intro (fun k T H'=>∃ is:List Bool,is.length=N∧H' id=.arr 1 (dA is)∧(∀ k,H k≠.dead→k≠id→H' k=H k)∧T 1=.sl id 0 N 1∧T 2=.fn f [] capt∧T 3=.aS (aX g) 0 ∧
    ((T 7=gb true∧∃ j,k=j+1∧en comes g.rules j is=en comes g.rules 16 is0∧N≤c3 is+j)∨(T 7=gb false∧is=en comes g.rules 16 is0))) 17 ?_ ?_
  · exact ⟨is0,his,hH,fun _ _ _=>rfl,rfl,rfl,rfl,.inl ⟨rfl,16,rfl,rfl,by omega⟩⟩
  rintro k T H1 ⟨is,hlen,hid,hfr,t1,t2,t3,h7⟩
  rcases h7 with ⟨h7,j,rfl,hgr,hj⟩ | ⟨h7,hgr⟩
  · simp (disch:=omega) only [↓wr,↓reduceIte,wq,ai,ag,ak,ab,ae,af,aj,isNil,Nat.reduceEqDiff,Nat.reduceAdd,Nat.reduceLT,Nat.reduceLeDiff,Int.reduceNeg,Int.reduceToNat,reduceCtorEq,lq,t1,t2,t3,h7,aX,encS]
    refine cD.up g.rules.length (fun i T H'=>∃ jV:List Bool,jV.length=N∧ei is jV∧jV=(g.rules.take i).foldl (stepG comes) is∧H' id=.arr 1 (dA jV)∧(∀ k,H k≠.dead→k≠id→H' k=H k)∧T 1=.sl id 0 N 1∧T 2=.fn f [] capt∧T 3=.aS (aX g) 0 ∧
      T 7=gb (!decide (jV=is))∧T 14=.aI (g.rules.map bf)∧T 15=gi g.rules.length∧T 16=gi i) ?_ ?_
    · exact ⟨is,hlen,.refl _,rfl,hid,hfr,t1,t2,t3,by simp; rfl,rfl,rfl,rfl⟩
    clear t1 t2 t3 h7 hid hfr
    rintro i k T H1 hk ⟨jV,hlen2,hle2,hst,hid,hfr,t1,t2,t3,h7,h14,h15,h16⟩
    simp (disch:=omega) only [↓wr,↓reduceIte,wq,ai,ag,ak,ab,ae,af,aj,isNil,Nat.reduceEqDiff,Nat.reduceAdd,Nat.reduceLT,Nat.reduceLeDiff,Int.reduceNeg,Int.reduceToNat,reduceCtorEq,qv,t1,t2,t3,h7,h14,h15,h16,aX,encS]
    refine ax.dec (fun hcc=>?_) (fun hcc=>?_)
    · have hg2:g.rules[i]?=some (g.rules[i]'(by omega)):=List.getElem?_eq_getElem (by omega)
      have hmem:g.rules[i]'(by omega)∈g.rules:=List.getElem_mem _
      have htk:(g.rules.take (i+1)).foldl (stepG comes) is=stepG comes ((g.rules.take i).foldl (stepG comes) is) (g.rules[i]'(by omega)):=by
        rw[List.take_add_one,hg2,List.foldl_append]; rfl
      generalize g.rules[i]'(by omega)=r at hg2 hmem htk
      obtain ⟨hcp,hcl,hcn⟩:=hc r hmem jV hlen2
      simp (disch:=omega) only [↓wr,↓reduceIte,wq,ai,ag,ak,ab,ae,af,aj,isNil,Nat.reduceEqDiff,Nat.reduceAdd,Nat.reduceLT,Nat.reduceLeDiff,Int.reduceNeg,Int.reduceToNat,reduceCtorEq,t1,t2,t3,h7,h14,h15,h16,bf,encI,List.getElem?_map,hg2]
      intro b hb
      have hbid:b≠id:=by rintro rfl; rw[hid] at hb; simp at hb
      try simp (disch:=omega) only [↓wr,↓reduceIte,wq,ai,ag,ak,ab,ae,af,aj,isNil,Nat.reduceEqDiff,Nat.reduceAdd,Nat.reduceLT,Nat.reduceLeDiff,Int.reduceNeg,Int.reduceToNat,reduceCtorEq,t1,t2,t3,h7,h14,h15,h16]
      refine aN.I8 hcp hok ⟨dz.tree (fL _ (ey r)),CV (by simp[View.set,hbid.symm,hid]) hlen2.symm,hlent _ (fun k hk hki=>?_)⟩ ?_
      · have hkb:k≠b:=by
          rintro rfl
          rw[hfr k hk hki] at hb
          exact hk hb
        simp[View.set,hkb,hfr k hk hki]
      generalize hl:comes r jV=l at hcl hcn
      simp (disch:=omega) only [↓wr,↓reduceIte,wq,ai,ag,ak,ab,ae,af,aj,isNil,Nat.reduceEqDiff,Nat.reduceAdd,Nat.reduceLT,Nat.reduceLeDiff,Int.reduceNeg,Int.reduceToNat,reduceCtorEq,t1,t2,t3,h7,h14,h15,h16,encI]
      refine cD.up l.length (fun q T H'=>∃ is3:List Bool,is3.length=N∧ei is is3∧is3=lY jV (l.take q)∧H' id=.arr 1 (dA is3)∧(∀ k,H k≠.dead→k≠id→H' k=H k)∧T 1=.sl id 0 N 1∧T 2=.fn f [] capt∧T 3=.aS (aX g) 0 ∧
        T 7=gb (!decide (is3=is))∧T 14=.aI (g.rules.map bf)∧T 15=gi g.rules.length∧T 16=gi i∧T 23=encI l∧T 24=gi l.length∧T 25=gi q) ?_ ?_
      · refine ⟨jV,hlen2,hle2,rfl,by simp[View.set,hbid.symm,hid],fun k hk hki=>?_,t1,t2,t3,h7,h14,h15,h16,rfl,rfl,rfl⟩
        have hkb:k≠b:=by
          rintro rfl
          rw[hfr k hk hki] at hb
          exact hk hb
        simp[View.set,hkb,hfr k hk hki]
      clear t1 t2 t3 h7 h14 h15 h16 hid hfr hb hbid
      rintro q k2 T H1 hk2 ⟨is3,hlen3,hle3,hst3,hid,hfr,t1,t2,t3,h7,h14,h15,h16,h23,h24,h25⟩
      simp (disch:=omega) only [↓wr,↓reduceIte,wq,ai,ag,ak,ab,ae,af,aj,isNil,Nat.reduceEqDiff,Nat.reduceAdd,Nat.reduceLT,Nat.reduceLeDiff,Int.reduceNeg,Int.reduceToNat,reduceCtorEq,qh,t1,t2,t3,h7,h14,h15,h16,h23,h24,h25,encI]
      refine ax.dec (fun hqc=>?_) (fun hqc=>?_)
      · have hgq:l[q]?=some (l[q]'(by omega)):=List.getElem?_eq_getElem (by omega)
        have hmq:l[q]'(by omega)∈l:=List.getElem_mem _
        have htq:lY jV (l.take (q+1))=(lY jV (l.take q)).set (l[q]'(by omega)).toNat true:=by
          unfold lY; rw[List.take_add_one,hgq,List.foldl_append]; rfl
        generalize l[q]'(by omega)=n at hgq hmq htq
        obtain ⟨⟨n1,n2⟩,n3,n4⟩:=hcn n hmq
        have hbn:is3.getD n.toNat false=is3[n.toNat]'(by omega):=by simp[List.getD_eq_getElem?_getD,show n.toNat < is3.length by omega]
        have hnew:=GK hle3 (show n.toNat < is3.length by omega) (b:=!decide (is3=is)) rfl
        rw[hbn] at hnew
        have hbg:=yi (show n.toNat < is3.length by omega)
        generalize is3[n.toNat]'(by omega)=x at hnew hbg hbn
        have fin:∀ (T2:Env),T2 7=gb (!decide (is3.set n.toNat true=is))→T2 1=.sl id 0 N 1→T2 2=.fn f [] capt→T2 3=.aS (aX g) 0→T2 14=.aI (g.rules.map bf)→T2 15=gi g.rules.length→T2 16=gi i→T2 23=encI l→T2 24=gi l.length→T2 25=gi ((q:Int)+1) →
            ∃ k',k' < k2∧Ba l.length k' (fun q T H'=>∃ is3:List Bool,is3.length=N∧ei is is3∧is3=lY jV (l.take q)∧H' id=.arr 1 (dA is3)∧(∀ k,H k≠.dead→k≠id→H' k=H k)∧T 1=.sl id 0 N 1∧T 2=.fn f [] capt∧T 3=.aS (aX g) 0 ∧
              T 7=gb (!decide (is3=is))∧T 14=.aI (g.rules.map bf)∧T 15=gi g.rules.length∧T 16=gi i∧T 23=encI l∧T 24=gi l.length∧T 25=gi q) T2 (H1.set id (.arr 1 (dA (is3.set n.toNat true)))):=by
          intro T2 a7 a1 a2 a3 a14 a15 a16 a23 a24 a25
          refine bI hk2 (by omega) ⟨is3.set n.toNat true,by simp[hlen3],hle3.trans (.set _ _),by rw[htq,← hst3],by simp[View.set],fun k hk hki=>by simp[View.set,hki,hfr k hk hki],a1,a2,a3,a7,a14,a15,a16,a23,a24,by rw[a25]; rfl⟩
        simp (disch:=omega) only [↓wr,↓reduceIte,wq,ai,ag,ak,ab,ae,af,aj,isNil,Nat.reduceEqDiff,Nat.reduceAdd,Nat.reduceLT,Nat.reduceLeDiff,Int.reduceNeg,Int.reduceToNat,reduceCtorEq,t1,t2,t3,h7,h14,h15,h16,h23,h24,h25,encI,List.getElem?_map,hgq]
        refine ax.dec (fun e=>?_) (fun e=>?_)
        · simp (disch:=omega) only [↓wr,↓reduceIte,wq,ai,ag,ak,ab,ae,af,aj,isNil,Nat.reduceEqDiff,Nat.reduceAdd,Nat.reduceLT,Nat.reduceLeDiff,Int.reduceNeg,Int.reduceToNat,reduceCtorEq,t1,t2,t3,h7,h14,h15,h16,h23,h24,h25,encI,hid,hbg,List.length_map]
          refine ⟨by omega,by omega,?_⟩
          try simp (disch:=omega) only [↓wr,↓reduceIte,wq,ai,ag,ak,ab,ae,af,aj,isNil,Nat.reduceEqDiff,Nat.reduceAdd,Nat.reduceLT,Nat.reduceLeDiff,Int.reduceNeg,Int.reduceToNat,reduceCtorEq,t1,t2,t3,h7,h14,h15,h16,h23,h24,h25,encI,hid,hbg,List.length_map]
          refine ⟨by omega,by omega,?_⟩
          rw[r7]
          exact fin _ (by rw[← hnew]; simp[e]; rfl) t1 t2 t3 h14 h15 h16 h23 h24 rfl
        · simp (disch:=omega) only [↓wr,↓reduceIte,wq,ai,ag,ak,ab,ae,af,aj,isNil,Nat.reduceEqDiff,Nat.reduceAdd,Nat.reduceLT,Nat.reduceLeDiff,Int.reduceNeg,Int.reduceToNat,reduceCtorEq,t1,t2,t3,h7,h14,h15,h16,h23,h24,h25,encI,hid,hbg,List.length_map]
          refine ⟨by omega,by omega,?_⟩
          rw[r7]
          exact fin _ (by rw[← hnew]; simp[e]; rfl) t1 t2 t3 h14 h15 h16 h23 h24 rfl
      · rw[List.take_of_length_le (by omega)] at hst3
        simp (disch:=omega) only [↓wr,↓reduceIte,wq,ai,ag,ak,ab,ae,af,aj,isNil,Nat.reduceEqDiff,Nat.reduceAdd,Nat.reduceLT,Nat.reduceLeDiff,Int.reduceNeg,Int.reduceToNat,reduceCtorEq,t1,t2,t3,h7,h14,h15,h16,h23,h24,h25]
        refine bI hk (by omega) ⟨is3,hlen3,hle3,?_,hid,hfr,t1,t2,t3,h7,h14,h15,rfl⟩
        rw[htk,← hst,stepG,hl,← hst3]
    · rw[List.take_of_length_le (by omega)] at hst
      simp (disch:=omega) only [↓wr,↓reduceIte,wq,ai,ag,ak,ab,ae,af,aj,isNil,Nat.reduceEqDiff,Nat.reduceAdd,Nat.reduceLT,Nat.reduceLeDiff,Int.reduceNeg,Int.reduceToNat,reduceCtorEq,t1,t2,t3,h7,h14,h15,h16]
      have hrd:jV=cA comes g.rules is:=hst
      by_cases e:jV=is
      · refine ⟨0,by omega,jV,hlen2,hid,hfr,rfl,.inr ⟨by simp[e],?_⟩⟩
        rw[← hgr,e]
        exact (Dv (by rw[← hrd]; exact e)).symm
      · obtain ⟨j2,rfl,e2,e3⟩:=C9 (k:=j) (fun h=>e (hrd.trans h)) (by rw[hlen]; exact hj)
        refine ⟨j2+1,by omega,jV,hlen2,hid,hfr,rfl,.inl ⟨by simp[e],j2,rfl,?_,?_⟩⟩
        · rw[← hgr,e2,hrd]
        · rw[← hrd,hlen2] at e3; exact e3
  · simp (disch:=omega) only [↓wr,↓reduceIte,wq,ai,ag,ak,ab,ae,af,aj,isNil,Nat.reduceEqDiff,Nat.reduceAdd,Nat.reduceLT,Nat.reduceLeDiff,Int.reduceNeg,Int.reduceToNat,reduceCtorEq,lq,t1,t2,t3,h7,aX,encS]
    exact ⟨hgr ▸ hid,hfr⟩
theorem tV {α:Type} {f:α→α} {x:α} (h:f x=x):∀ n,iter f n x=x
  | 0=>rfl
  | n+1=>by rw[iter,h,tV h n]
theorem zU {α:Type} (f:α→α):∀ (a b:Nat) (x:α),iter f (a+b) x=iter f b (iter f a x)
  | 0,b,x=>by rw[Nat.zero_add]; rfl
  | a+1,b,x=>by rw[Nat.add_right_comm,iter,iter,zU f a b]
theorem vw (comes:aE→List Bool→List Int) (rules:List aE):∀ (k:Nat) (is:List Bool),en comes rules k is=iter (cA comes rules) k is
  | 0,is=>rfl
  | k+1,is=>by
    simp only[en,iter]
    by_cases e:cA comes rules is=is
    · rw[if_pos e,e,tV e]
    · rw[if_neg e,vw comes rules k]
theorem ra (comes:aE→List Bool→List Int) (rules:List aE) (is:List Bool) (h:is.length≤16):en comes rules 16 is=iter (cA comes rules) is.length is:=by
  have h1:=(nf comes rules is.length is (by omega)).1
  rw[vw] at h1 ⊢
  obtain ⟨m,hm⟩:∃ m,16=is.length+m:=⟨16 - is.length,by omega⟩
  rw[hm,zU,tV h1]
def mE (t:Bool) (r:aE) (is:List Bool):List Int:=if eh r.right is t=true then [r.left] else []
def mS (p:List Bool) (r:aE) (is:List Bool):List Int:=if (is.getD r.left.toNat false && eh r.right p true)=true then dT r.right else []
theorem Cu (g:al) (t:Bool):cA (mE t) g.rules=kn g t:=by
  funext is
  unfold cA kn
  congr 1
  funext is r
  unfold stepG mE dn
  split <;> rfl
theorem uD:∀ (l:List Int) (is:List Bool),lY is (dT l)=l.foldl mark is
  | [],is=>rfl
  | s :: l,is=>by
    have ih:=uD l
    unfold lY dT at ih ⊢
    rw[List.foldl_cons,← ih]
    unfold mark
    by_cases h:s < 0
    · rw[if_pos h,List.filter_cons_of_pos (by simpa using h)]; rfl
    · rw[if_neg h,List.filter_cons_of_neg (by simpa using h)]
theorem BK (g:al) (p:List Bool):cA (mS p) g.rules=oH g p:=by
  funext is
  unfold cA oH
  congr 1
  funext is r
  unfold stepG mS gm
  split
  · exact uD _ _
  · rfl
theorem DQ {g:al} (h:bu g=true) (t:Bool):en (mE t) g.rules 16 (cb g)=aB g t:=by
  have hf:=bA h
  have hl:(cb g).length=g.ay.length:=by simp[cb]
  have:=hf.ay
  rw[ra _ _ _ (by rw[hl]; exact hf.ay),Cu,hl,aB,if_pos h]
theorem Es {g:al} (h:bu g=true):en (mS (aB g true)) g.rules 16 ((cb g).set g.start.toNat true)=bh g:=by
  have hf:=bA h
  have hl:((cb g).set g.start.toNat true).length=g.ay.length:=by simp[cb]
  rw[ra _ _ _ (by rw[hl]; exact hf.ay),BK,hl,bh,if_pos h]
def lJ:SF:=⟨.seq (aq [c5 1 0,((some 2),.op (.bc (.val (.emp 1))))]) <|
  .seq (.seq (aq [aO 3 4 1,aD 4 52 [3],cw 5 4]) <|
  .cond (.tmp 5) (.seq (aq [((some 2),.op (.bc (.val (.emp 1))))]) <|
  .ret) (.skip)) <|
  .seq (aq [aO 6 4 1,an 7 1 1,ar 8 7,aR 9 8,((some 10),.op (.make 1 1 [(.val (.bool false))] (.tmp 9) (.tmp 9))),cn 11 169 [(.tmp 6),(.tmp 10),(.val (.fn 195 [] []))],aa 2 11]) <|
  .ret,
  [.tmp 2],12⟩
theorem pK:bD Tryz.prog 157 [1]=some lJ:=by kernel_rfl
def mK:SF:=⟨.seq (aq [c5 1 0,((some 2),.op (.bc (.val (.emp 1))))]) <|
  .seq (.seq (aq [aO 5 4 1,aD 6 52 [5],cw 7 6]) <|
  .cond (.tmp 7) (.seq (aq [((some 2),.op (.bc (.val (.emp 1))))]) <|
  .ret) (.skip)) <|
  .seq (aq [aO 8 4 1,aD 9 157 [8],((some 3),.op (.alloc [(.emp 1)])),(none,.op (.store 1 (.tmp 3) (.tmp 9)))]) <|
  .seq (aq [an 10 1 1,ar 11 10,aR 12 11,((some 13),.op (.make 1 1 [(.val (.bool false))] (.tmp 12) (.tmp 12))),aa 4 13]) <|
  .seq (aq [aa 14 4,an 15 3 1,ar 16 15,ba 17 1 14 16,(none,.op (.store 1 (.tmp 17) (.val (.val (.bool true)))))]) <|
  .seq (aq [aO 18 4 1,aa 19 4,((some 20),.op (.mj 196 [] [(.tmp 3)])),aD 21 169 [18,19,20],aa 2 21]) <|
  .ret,
  [.tmp 2],22⟩
theorem qO:bD Tryz.prog 158 [1]=some mK:=by kernel_rfl
structure al.Small (g:al):Prop where
  names:g.ay.length+g.az.length≤1000
theorem xd {h':av} {id n:Nat} {is:List Bool} (hv:h'.view id=.arr 1 (dA is)) (hn:n=is.length):dp h' (.sl id 0 n 1) (cB is):=by
  subst hn; exact qT hv
set_option maxHeartbeats 2000000 in
theorem pa (g:al) (hg:g.Ok) (hs:g.Small):dJ Tryz.prog 157 [.agg (aX g)] (cB (aB g true)):=by
  refine dJ.of (oZ g) ?_
  refine aH.of mixed pK ?_
  have hn:=hg.ay
  unfold aJ at hn
  simp (disch:=omega) only [↓wr,↓reduceIte,wq,ai,ag,ak,ab,ae,af,aj,isNil,Nat.reduceEqDiff,Nat.reduceAdd,Nat.reduceLT,Nat.reduceLeDiff,Int.reduceNeg,Int.reduceToNat,reduceCtorEq,lJ,aX,encS]
  refine aN.pure (mY g hg hs.names) (by kernel_rfl) ?_
  repeat' (first | (refine ax.dec (fun _=>?_) (fun _=>?_)) | (refine ax.eq (fun _=>?_) (fun _=>?_)) | (refine ax.ne (fun _=>?_) (fun _=>?_)) | (refine ax.split (fun _=>?_) (fun _=>?_)) | (simp (disch:=omega) only [↓wr,↓reduceIte,wq,ai,ag,ak,ab,ae,af,aj,isNil,Nat.reduceEqDiff,Nat.reduceAdd,Nat.reduceLT,Nat.reduceLeDiff,Int.reduceNeg,Int.reduceToNat,reduceCtorEq,aX,encS]))
  · rename_i hr
    have hf:=bA hr
    have h1:=hf.Dc
    have h2:=hf.ay
    try simp (disch:=omega) only [↓wr,↓reduceIte,wq,ai,ag,ak,ab,ae,af,aj,isNil,Nat.reduceEqDiff,Nat.reduceAdd,Nat.reduceLT,Nat.reduceLeDiff,Int.reduceNeg,Int.reduceToNat,reduceCtorEq,aX,encS]
    refine ⟨⟨by omega,by unfold bb; omega,by unfold bb; omega⟩,fun h=>by omega,?_⟩
    intro _ n
    try simp (disch:=omega) only [↓wr,↓reduceIte,wq,ai,ag,ak,ab,ae,af,aj,isNil,Nat.reduceEqDiff,Nat.reduceAdd,Nat.reduceLT,Nat.reduceLeDiff,Int.reduceNeg,Int.reduceToNat,reduceCtorEq,aX,encS]
    refine aN.wi ((Bc g hf.rules (mE true) 195 [] [] (by kernel_rfl) g.ay.length h2 (fun r hr' is his=>⟨wk r is (by rw[his]; exact hf.u5 hg hr'),?_,?_⟩) n (cb g) (by simp[cb]) _ (by simp[View.set,cb]) (fun H' _=>trivial)).mono ?_)
    · unfold mE; split <;> simp
    · intro m hm
      unfold mE at hm
      split at hm
      · simp only[List.mem_singleton] at hm; subst hm
        exact ⟨(hg.aZ r hr').1,hf.left r hr'⟩
      · simp at hm
    · rintro r H' ⟨rfl,hid,_⟩
      simp (disch:=omega) only [↓wr,↓reduceIte,wq,ai,ag,ak,ab,ae,af,aj,isNil,Nat.reduceEqDiff,Nat.reduceAdd,Nat.reduceLT,Nat.reduceLeDiff,Int.reduceNeg,Int.reduceToNat,reduceCtorEq]
      intro h' hh
      rw[DQ hr] at hid
      exact xd (by rw[hh]; exact hid) (kB hr _).symm
  · rename_i hr
    intro h' hh
    simp only[aB,hr]
    exact .emp _
theorem od {g:al} (hr:bu g=true):(bh g).length=g.ay.length:=by
  rw[bh,if_pos hr,uc (f:=oH g (aB g true)) (fun is=>ua (fun is x=>Eh _ is x) g.rules is)]
  simp[cb]
set_option maxHeartbeats 2000000 in
theorem yl (g:al) (hg:g.Ok) (hs:g.Small):dJ Tryz.prog 158 [.agg (aX g)] (cB (bh g)):=by
  refine dJ.of (oZ g) ?_
  refine aH.of mixed qO ?_
  have hn:=hg.ay
  unfold aJ at hn
  simp (disch:=omega) only [↓wr,↓reduceIte,wq,ai,ag,ak,ab,ae,af,aj,isNil,Nat.reduceEqDiff,Nat.reduceAdd,Nat.reduceLT,Nat.reduceLeDiff,Int.reduceNeg,Int.reduceToNat,reduceCtorEq,mK,aX,encS]
  refine aN.pure (mY g hg hs.names) (by kernel_rfl) ?_
  repeat' (first | (refine ax.dec (fun _=>?_) (fun _=>?_)) | (refine ax.eq (fun _=>?_) (fun _=>?_)) | (refine ax.ne (fun _=>?_) (fun _=>?_)) | (refine ax.split (fun _=>?_) (fun _=>?_)) | (simp (disch:=omega) only [↓wr,↓reduceIte,wq,ai,ag,ak,ab,ae,af,aj,isNil,Nat.reduceEqDiff,Nat.reduceAdd,Nat.reduceLT,Nat.reduceLeDiff,Int.reduceNeg,Int.reduceToNat,reduceCtorEq,aX,encS]))
  · rename_i hr
    have hf:=bA hr
    have h1:=hf.Dc
    have h2:=hf.ay
    have h3:=hf.mI
    have h4:=hf.start
    have hpl:=kB hr true
    try simp (disch:=omega) only [↓wr,↓reduceIte,wq,ai,ag,ak,ab,ae,af,aj,isNil,Nat.reduceEqDiff,Nat.reduceAdd,Nat.reduceLT,Nat.reduceLeDiff,Int.reduceNeg,Int.reduceToNat,reduceCtorEq,aX,encS]
    refine aN.pure (pa g hg hs).pure (by kernel_rfl) ?_
    simp (disch:=omega) only [↓wr,↓reduceIte,wq,ai,ag,ak,ab,ae,af,aj,isNil,Nat.reduceEqDiff,Nat.reduceAdd,Nat.reduceLT,Nat.reduceLeDiff,Int.reduceNeg,Int.reduceToNat,reduceCtorEq,aX,encS,cB]
    intro q
    try simp (disch:=omega) only [↓wr,↓reduceIte,wq,ai,ag,ak,ab,ae,af,aj,isNil,Nat.reduceEqDiff,Nat.reduceAdd,Nat.reduceLT,Nat.reduceLeDiff,Int.reduceNeg,Int.reduceToNat,reduceCtorEq,aX,encS,set_set]
    refine ⟨⟨by omega,by unfold bb; omega,by unfold bb; omega⟩,fun h=>by omega,?_⟩
    intro _ n hn'
    have hnq:=(eA hn' eK).1
    try simp (disch:=omega) only [↓wr,↓reduceIte,wq,ai,ag,ak,ab,ae,af,aj,isNil,Nat.reduceEqDiff,Nat.reduceAdd,Nat.reduceLT,Nat.reduceLeDiff,Int.reduceNeg,Int.reduceToNat,reduceCtorEq,aX,encS,set_set]
    have hbg:=yi (is:=cb g) (show g.start.toNat < (cb g).length by simp[cb]; omega)
    refine ⟨by omega,by simp; omega,?_⟩
    refine aN.wi ((Bc g hf.rules (mS (aB g true)) 196 [.ptr q 0 0] [.aS [cB (aB g true)] 0] (by kernel_rfl) g.ay.length h2 (fun r hr' is his=>⟨yw r is (aB g true) (by rw[his]; exact hf.u5 hg hr') (by rw[his,hpl]),?_,?_⟩) n ((cb g).set g.start.toNat true) (by simp[cb]) _ ?_ (fun H' hfr=>⟨dz.box (z:=1) ?_ ?_,trivial⟩)).mono ?_)
    · have h6:=hf.right r hr'
      unfold mS
      split
      · have:(dT r.right).length≤r.right.length:=by simp only[dT,List.length_map]; exact List.length_filter_le _ _
        omega
      · simp
    · intro m hm
      unfold mS at hm
      split at hm
      · simp only[dT,List.mem_map,List.mem_filter,decide_eq_true_eq] at hm
        obtain ⟨s,⟨hs',hneg⟩,rfl⟩:=hm
        have a:=hf.neg hr' hs' hneg
        have b:=((hg.aZ r hr').2.2.2 s hs').1
        exact ⟨⟨by omega,by omega⟩,by omega,a⟩
      · simp at hm
    · simp only[View.set,if_true]
      congr 1
      rw[← r7]
      unfold cb at hbg ⊢
      rw[Ea,hbg]
      rfl
    · rw[hfr q (by simp[View.set,Ne.symm hnq]) (Ne.symm hnq)]
      simp[View.set,Ne.symm hnq]
      rfl
    · intro v hv; simp at hv; subst hv; exact jb _
    · rintro r H' ⟨rfl,hid,_⟩
      simp (disch:=omega) only [↓wr,↓reduceIte,wq,ai,ag,ak,ab,ae,af,aj,isNil,Nat.reduceEqDiff,Nat.reduceAdd,Nat.reduceLT,Nat.reduceLeDiff,Int.reduceNeg,Int.reduceToNat,reduceCtorEq]
      intro h' hh
      rw[Es hr] at hid
      exact xd (by rw[hh]; exact hid) (by rw[od hr])
  · rename_i hr
    intro h' hh
    simp only[bh,hr]
    exact .emp _
def bj (p q:List Bool) (r:aE):Bool:=q.getD r.left.toNat false && eh r.right p true
def ct (p q:List Bool):List aE→Int→List Int
  | [],_=>[]
  | r :: l,i=>if bj p q r=true then i :: ct p q l (i+1) else ct p q l (i+1)
def c9 (acc:List Int) (r:aE):List Int:=if r.left∈acc then acc else acc ++ [r.left]
def bW (p q:List Bool) (l:List aE):List Int:=(l.filter (bj p q)).foldl c9 []
def bk (o:List Int) (x:Int):Int:=cp (fun y=>y == x) o 0
def bd (f:Int→Int) (r:aE):aE:=⟨f r.left,r.right.map fun s=>if s < 0 then -1 - f (-1 - s) else s,r.prec⟩
def iM (g:al) (f:Int→Int) (p q:List Bool):al :=
  ⟨g.az,(bW p q g.rules).map fun x=>g.ay.getD x.toNat ⟨#[]⟩,(g.rules.filter (bj p q)).map (bd f),f g.start⟩
def np:al:=⟨[],[],[],0⟩
instance:DecidableEq Term:=fun a b=>decidable_of_iff (a.name=b.name∧a.level=b.level∧a.assoc=b.assoc) (by cases a; cases b; simp)
instance:DecidableEq aE:=fun a b=>decidable_of_iff (a.left=b.left∧a.prec=b.prec∧a.right=b.right) (by cases a; cases b; simp[and_comm])
instance:DecidableEq al:=fun a b=>decidable_of_iff (a.az=b.az∧a.ay=b.ay∧a.rules=b.rules∧a.start=b.start) (by cases a; cases b; simp)
def fN (g:al):al × List Int × Int :=
  if bu g=true then
    if (aB g true).getD g.start.toNat false=true then (iM g (bk (bW (aB g true) (bh g) g.rules)) (aB g true) (bh g),ct (aB g true) (bh g) g.rules 0,0)
    else (np,[],9)
  else (np,[],1)
theorem AE {g:al} (hr:bu g=true):fN g=if (aB g true).getD g.start.toNat false=true then (iM g (bk (bW (aB g true) (bh g) g.rules)) (aB g true) (bh g),ct (aB g true) (bh g) g.rules 0,0) else (np,[],9):=by
  rw[fN,if_pos hr]
theorem mh (p q:List Bool):∀ (a b:List aE) (i:Int),ct p q (a ++ b) i=ct p q a i ++ ct p q b (i+a.length)
  | [],b,i=>by simp[ct]
  | r :: a,b,i=>by
    simp only[List.cons_append,ct,mh p q a b (i+1),List.length_cons]
    have:i+1+(a.length:Int)=i+((a.length+1:Nat):Int):=by push_cast; omega
    rw[this]
    split <;> simp
theorem nB (p q:List Bool):∀ (a:List aE) (i:Int),(ct p q a i).length=(a.filter (bj p q)).length
  | [],i=>rfl
  | r :: a,i=>by
    simp only[ct,List.filter_cons]
    split <;> simp[nB p q a]
theorem qU (p q:List Bool):∀ (a:List aE) (i:Int) (k:Nat),k < (ct p q a i).length→∃ m:Nat,(ct p q a i)[k]?=some (i+m)∧a[m]?=(a.filter (bj p q))[k]?∧m < a.length
  | [],i,k,h=>by simp[ct] at h
  | r :: a,i,k,h=>by
    simp only[ct,List.filter_cons] at h ⊢
    by_cases hr:bj p q r=true
    · rw[if_pos hr] at h ⊢
      rw[if_pos hr]
      cases k with
      | zero=>exact ⟨0,by simp,by simp,by simp⟩
      | succ k =>
        obtain ⟨m,h1,h2,h3⟩:=qU p q a (i+1) k (by simpa using h)
        exact ⟨m+1,by rw[List.getElem?_cons_succ,h1]; congr 1; push_cast; omega,by simpa using h2,by simpa using h3⟩
    · rw[if_neg hr] at h ⊢
      rw[if_neg hr]
      obtain ⟨m,h1,h2,h3⟩:=qU p q a (i+1) k h
      exact ⟨m+1,by rw[h1]; congr 1; push_cast; omega,by simpa using h2,by simpa using h3⟩
theorem xJ (p q:List Bool) (l:List aE) (r:aE):bW p q (l ++ [r])=if bj p q r=true then c9 (bW p q l) r else bW p q l:=by
  unfold bW
  rw[List.filter_append]
  by_cases h:bj p q r=true
  · rw[if_pos h,List.filter_cons_of_pos h,List.foldl_append]; rfl
  · rw[if_neg h,List.filter_cons_of_neg h]; simp
theorem Ay {o:List Int} {x:Int} : bk o x < 0↔x ∉ o:=by
  have:=pZ (fun y=>y == x) o 0 (by omega)
  unfold bk
  rw[← Int.not_le]
  constructor
  · intro h hx
    have e:(o.any fun y=>y == x)=true:=List.any_eq_true.2 ⟨x,hx,by simp⟩
    rw[e] at this; exact h (by simpa using this)
  · intro h hx
    have e:(o.any fun y=>y == x)=true:=by rw[← this]; simpa using hx
    obtain ⟨y,hy,e⟩:=List.any_eq_true.1 e
    simp at e; subst e; exact h hy
theorem sX {α:Type} (p:α→Bool):∀ (a b:List α) (i:Int),0≤i→cp p (a ++ b) i=if 0≤cp p a i then cp p a i else cp p b (i+a.length)
  | [],b,i,_=>by simp[cp]
  | x :: a,b,i,h=>by
    by_cases hp:p x=true
    · simp[cp,hp,h]
    · simp only[List.cons_append,cp,if_neg hp]
      rw[sX p a b (i+1) (by omega)]
      have:i+1+(a.length:Int)=i+(((x :: a).length:Nat):Int):=by simp; omega
      rw[this]
theorem gU {o:List Int} {x:Int} (h:x∈o):0≤bk o x∧bk o x < o.length:=by
  have h0:¬ bk o x < 0:=fun e=>Ay.1 e h
  refine ⟨by omega,?_⟩
  unfold bk
  have:∀ (l:List Int) (i:Int),cp (fun z=>z == x) l i < i+l.length∨cp (fun z=>z == x) l i = -1:=by
    intro l
    induction l with
    | nil=>intro i; right; rfl
    | cons z l ih =>
      intro i
      simp only[cp]
      split
      · left; simp; omega
      · rcases ih (i+1) with h | h
        · left; simp at h ⊢; omega
        · right; exact h
  rcases this o 0 with h1 | h1
  · simpa using h1
  · unfold bk at h0; omega
theorem Ck (o:List Int) (x:Int) : -1≤bk o x∧bk o x≤o.length:=by
  by_cases h:x∈o
  · have:=gU h; omega
  · have h1:=Ay.2 h
    have h2:∀ (l:List Int) (i:Int),0≤i→-1≤cp (fun z=>z == x) l i:=by
      intro l
      induction l with
      | nil=>intro i _; simp[cp]
      | cons z l ih =>
        intro i hi
        simp only[cp]
        split
        · omega
        · exact ih _ (by omega)
    have:=h2 o 0 (by omega)
    unfold bk at h1 ⊢
    omega
def fR:List Int→Int→List (Int × Int)
  | [],_=>[]
  | x :: l,i=>(x,i) :: fR l (i+1)
theorem m5 (x:Int):∀ (o:List Int) (i:Int),cE (fR o i) x=if x∈o then some (cp (fun y=>y == x) o i) else none
  | [],i=>by simp[fR,cE]
  | y :: o,i=>by
    have ih:=m5 x o (i+1)
    unfold cE at ih ⊢
    simp only[fR,List.find?_cons,cp]
    by_cases e:x=y
    · subst e; simp
    · have e2:¬ ((y == x)=true):=by simp[Ne.symm e]
      rw[show (x == y)=false by simp[e],if_neg e2]
      simp only
      rw[ih]
      simp[e]
theorem xj {x v:Int} : ∀ {o:List Int} {i:Int},x ∉ o→gh x v (fR o i)=fR o i ++ [(x,v)]
  | [],i,_=>rfl
  | y :: o,i,h=>by
    simp only[List.mem_cons,not_or] at h
    simp only[fR,gh,show (x == y)=false by simp[h.1],Bool.false_eq_true,if_false,xj h.2,List.cons_append]
theorem vd {x:Int} : ∀ {o:List Int} {i:Int},fR (o ++ [x]) i=fR o i ++ [(x,i+o.length)]
  | [],i=>by simp[fR]
  | y :: o,i=>by
    simp only[List.cons_append,fR,vd (o:=o),List.length_cons]
    congr 4
    push_cast; omega
def cz (o:List Int) (x:Int):Int:=(cE (fR o 0) x).getD 0
theorem sB {o:List Int} {x:Int} (h:x∈o):cz o x=bk o x:=by
  simp[cz,m5,h,bk]
theorem HR (o:List Int) (x:Int):0≤cz o x∧cz o x≤o.length:=by
  by_cases h:x∈o
  · rw[sB h]; have:=gU h; omega
  · simp[cz,m5,h]
theorem Fv {g:al} {p q:List Bool} (hst:g.start∈bW p q g.rules) (hin:∀ r∈g.rules.filter (bj p q),r.left∈bW p q g.rules∧∀ s∈r.right,s < 0→-1 - s∈bW p q g.rules) :
    iM g (cz (bW p q g.rules)) p q=iM g (bk (bW p q g.rules)) p q:=by
  unfold iM
  congr 1
  · apply List.map_congr_left
    intro r hr
    obtain ⟨h1,h2⟩:=hin r hr
    unfold bd
    congr 1
    · exact sB h1
    · apply List.map_congr_left
      intro s hs
      split
      · rename_i h; rw[sB (h2 s hs h)]
      · rfl
  · exact sB hst
theorem oS:∀ (l:List aE) (acc:List Int) (x:Int),x∈l.foldl c9 acc↔x∈acc∨∃ r∈l,r.left=x
  | [],acc,x=>by simp
  | r :: l,acc,x=>by
    rw[List.foldl_cons,oS l]
    have:x∈c9 acc r↔x∈acc∨r.left=x:=by
      unfold c9
      split
      · rename_i h
        constructor
        · exact .inl
        · rintro (h' | rfl)
          · exact h'
          · exact h
      · simp[eq_comm]
    rw[this]
    simp only[List.mem_cons,exists_eq_or_imp]
    constructor
    · rintro ((h | h) | h)
      · exact .inl h
      · exact .inr (.inl h)
      · exact .inr (.inr h)
    · rintro (h | h | h)
      · exact .inl (.inl h)
      · exact .inl (.inr h)
      · exact .inr h
theorem zx {p q:List Bool} {l:List aE} {x:Int} : x∈bW p q l↔∃ r∈l,bj p q r=true∧r.left=x:=by
  unfold bW
  rw[oS]
  simp[List.mem_filter,and_assoc]
abbrev cU (l:List Int):List (List V):=l.map fun x=>[gi x]
abbrev nk (l:List ByteArray):List (List V):=l.map fun s=>[gs s]
theorem z2 {l:List Int} {i:Nat} (h:i < l.length):(cU l).getD i []=[gi l[i]]:=by simp[List.getD_eq_getElem?_getD,h]
theorem ints_set (l:List Int) (i:Nat) (x:Int):(cU l).set i [gi x]=cU (l.set i x):=by simp[List.map_set]
abbrev vS:=List (V × aE)
def gP (b:vS):List (List V):=b.map fun x=>[gi x.2.left,x.1,gi x.2.prec]
def ot (b:vS):List eD:=b.map fun x=>(x.1,1,cU x.2.right)
theorem Fw {h:av} {u:V} {b:vS} (ho:aU h.view u 3 (gP b)) (hb:∀ x∈ot b,aU h.view x.1 x.2.1 x.2.2):dp h u (.aI ((b.map (·.2)).map bf)):=by
  refine dp.own ho (by simp[gP]) (fun i hi=>?_) (fun i j hi hj=>?_)
  all_goals
    simp only[gP,List.length_map] at hi
    have e1:(gP b).getD i []=[gi b[i].2.left,b[i].1,gi b[i].2.prec]:=by simp[gP,List.getD_eq_getElem?_getD,hi]
    have e2:((b.map (·.2)).map bf).getD i []=bf b[i].2:=by simp[List.getD_eq_getElem?_getD,hi]
  · rw[e1,e2]; rfl
  · rw[e1,e2]
    rw[e2] at hj
    have hm:b[i]∈b:=List.getElem_mem _
    have ho:=hb (b[i].1,1,cU b[i].2.right) (List.mem_map.2 ⟨_,hm,rfl⟩)
    match j,hj with
    | 0,_=>exact .val _
    | 1,_=>exact pM ho
    | 2,_=>exact .val _
    | n+3,hj=>exact absurd hj (by simp only[bf,List.length_cons,List.length_nil]; omega)
theorem Gh {h:av} {u:V} {l:List ByteArray} (ho:aU h.view u 1 (nk l)):dp h u (encS l):=dp.GN (f:=Value.string) ho
theorem Ej {h:av} {u:V} {l:List Term} (ho:aU h.view u 3 (l.map cF)):dp h u (cK l):=by
  refine dp.own ho rfl (fun _ _=>rfl) (fun i j hi hj=>?_)
  simp only[List.length_map] at hi
  have e1:(l.map cF).getD i []=cF l[i]:=by simp[List.getD_eq_getElem?_getD,hi]
  rw[e1] at hj ⊢
  match j,hj with
  | 0,_=>exact .val _
  | 1,_=>exact .val _
  | 2,_=>exact .val _
  | n+3,hj=>exact absurd hj (by simp only[cF,List.length_cons,List.length_nil]; omega)
def wZ (x:al × List Int × Int):V:=.aV [.agg (aX x.1),encI x.2.1,gi x.2.2]
theorem zA {h:av} {e:Int} {k1 k2 k3 k4:Nat} : dp h (.aV [.agg [.emp k1,.emp k2,.emp k3,gi 0],.emp k4,gi e]) (wZ (np,[],e)):=by
  refine .aV _ _ rfl fun i hi=>?_
  match i,hi with
  | 0,_ =>
    refine .agg _ _ rfl fun j hj=>?_
    match j,hj with
    | 0,_=>exact .emp _
    | 1,_=>exact .emp _
    | 2,_=>exact .emp _
    | 3,_=>exact .val _
    | n+4,hj=>exact absurd hj (by simp only[List.length_cons,List.length_nil]; omega)
  | 1,_=>exact .emp _
  | 2,_=>exact .val _
  | n+3,hi=>exact absurd hi (by simp only[List.length_cons,List.length_nil]; omega)
theorem HK {h:av} {u0 u1 u2 u3:V} {x:al × List Int × Int} {b:vS} (h0:aU h.view u0 3 (x.1.az.map cF)) (h1:aU h.view u1 1 (nk x.1.ay)) (h2:aU h.view u2 3 (gP b)) (hb:∀ y∈ot b,aU h.view y.1 y.2.1 y.2.2)
    (hr:b.map (·.2)=x.1.rules) (h3:aU h.view u3 1 (cU x.2.1)):dp h (.aV [.agg [u0,u1,u2,gi x.1.start],u3,gi x.2.2]) (wZ x):=by
  refine .aV _ _ rfl fun i hi=>?_
  match i,hi with
  | 0,_ =>
    refine .agg _ _ rfl fun j hj=>?_
    match j,hj with
    | 0,_=>exact Ej h0
    | 1,_=>exact Gh h1
    | 2,_=>have:=Fw h2 hb; rw[hr] at this; exact this
    | 3,_=>exact .val _
    | n+4,hj=>exact absurd hj (by simp only[List.length_cons,List.length_nil]; omega)
  | 1,_=>exact pM h3
  | 2,_=>exact .val _
  | n+3,hi=>exact absurd hi (by simp only[List.length_cons,List.length_nil]; omega)
theorem xT {a b:V} (ha:Tree a) (hb:Tree b):Tree (.aV [a,b]):=.aV _ fun i hi=>by
  match i,hi with
  | 0,_=>exact ha
  | 1,_=>exact hb
  | n+2,h=>exact absurd h (by simp)
theorem uY {H:View} {id n:Nat} {l:List Int} (hv:H id=.arr 1 (cU l)) (hn:n=l.length):dz H (.sl id 0 n 1) (encI l):=by
  subst hn
  exact dz.own (sz:=1) (.inr ⟨id,by simp,hv⟩) fun e he v hv=>by
    obtain ⟨x,_,rfl⟩:=List.mem_map.1 he
    simp at hv; subst hv; exact .val _
theorem aU.elems {H:View} {u:V} {sz:Nat} {es:List (List V)} (h:aU H u sz es):∃ rd,bB H u=some (es,rd):=by
  rcases h with ⟨rfl,k,rfl⟩ | ⟨n,rfl,hn⟩
  · exact ⟨[],rfl⟩
  · cases es with
    | nil=>exact ⟨[],rfl⟩
    | cons e r =>
      refine ⟨[n],?_⟩
      rw[List.length_cons,uW _ n 0 r.length sz sz _ hn (by simp),List.drop_zero,List.take_of_length_le (by simp)]
theorem dB.step {H H' H1:View} {u u1:V} (h:dB H H' u) (l:Left H' H1 u u1):dB H H1 u1:=fun id hid=>by
  have h1:=h id hid
  have h2:=l id (by rw[h1.1]; exact hid) h1.2
  exact ⟨h2.1.trans h1.1,h2.2⟩
theorem dB.put {H H':View} {u:V} {n:Nat} {o:br} (h:dB H H' u) (hn:H' n=.dead):dB H (H'.set n o) u:=fun id hid=>by
  have h1:=h id hid
  have e:id≠n:=by rintro rfl; rw[h1.1] at hn; exact hid hn
  exact ⟨by simp[View.set,e,h1.1],h1.2⟩
theorem dB.call {H H' H2:View} {u r:V} (h:dB H H' u) (k:dB H' H2 r):dB H H2 u:=fun id hid=>by
  have h1:=h id hid
  have h2:=k id (by rw[h1.1]; exact hid)
  exact ⟨h2.1.trans h1.1,h1.2⟩
theorem jK {P:Program} {t:TypeId} {d:TypeDesc} (hu:P.underlying t=some d) (hd:d=.string∨∃ k,d=.int k) (cs:Array Value) (off:Nat) {v:Value} (hv:cs[off]?=some v):aW P (part t cs off)=some v:=by
  have h0:aW P (isAgg t)=some false:=by
    rcases hd with rfl | ⟨k,rfl⟩
    all_goals simp only[isAgg,aP,c4 hu,Option.bind_some]; rfl
  simp only[part,aP,h0,Option.bind_some,Bool.false_eq_true,if_false,hv]
  rfl
inductive eJ (P:Program) (d:Nat) (xs ys:Array Value):List Field→Bool→Prop
  | nil:eJ P d xs ys [] true
  | str (f:Field) (l:List Field) (c:Bool) (a b:ByteArray):(f.name≠ "_")→P.underlying f.type=some .string→xs[f.offset]?=some (.string a)→ys[f.offset]?=some (.string b)→eJ P d xs ys l c→eJ P d xs ys (f :: l) (a == b && c)
  | int (f:Field) (l:List Field) (c:Bool) (k:IntKind) (a b:Int):(f.name≠ "_")→P.underlying f.type=some (.int k)→xs[f.offset]?=some (.int k a)→ys[f.offset]?=some (.int k b)→eJ P d xs ys l c→eJ P d xs ys (f :: l) (a == b && c)
theorem eJ.forIn {P:Program} {d e:Nat} {xs ys:Array Value} {l:List Field} {c:Bool} (h:eJ P d xs ys l c) (hd:e=d+1) :
    aW P (forIn l ((none:Option Bool),()) fun f _ =>
        if f.name≠ "_" then do
          let a ← part f.type xs f.offset
          let b ← part f.type ys f.offset
          let e ← Op.equalIn e f.type a b
          if (!e)=true then pure (ForInStep.done (some false,())) else pure (ForInStep.yield (none,()))
        else pure (ForInStep.yield (none,())))=some (if c=true then (none,()) else (some false,())):=by
  subst hd
  induction h with
  | nil=>rfl
  | str f l c a b hn hu hx hy _ ih =>
    have he:aW P (Op.equalIn (d+1) f.type (.string a) (.string b))=some (a == b):=by
      simp only[Op.equalIn,aP,c4 hu,Option.bind_some]; rfl
    rw[List.forIn_cons,aP,if_pos hn,aP,jK hu (.inl rfl) xs _ hx,Option.bind_some,aP,jK hu (.inl rfl) ys _ hy,Option.bind_some,aP,he,Option.bind_some]
    cases a == b with
    | false=>rfl
    | true=>exact ih
  | int f l c k a b hn hu hx hy _ ih =>
    have he:aW P (Op.equalIn (d+1) f.type (.int k a) (.int k b))=some (a == b):=by
      simp only[Op.equalIn,aP,c4 hu,Option.bind_some]; rfl
    rw[List.forIn_cons,aP,if_pos hn,aP,jK hu (.inr ⟨k,rfl⟩) xs _ hx,Option.bind_some,aP,jK hu (.inr ⟨k,rfl⟩) ys _ hy,Option.bind_some,aP,he,Option.bind_some]
    cases a == b with
    | false=>rfl
    | true=>exact ih
theorem um {P:Program} {t:TypeId} {fs:Array Field} {xs ys:Array Value} {c:Bool} (hu:P.underlying t=some (.struct fs)) (hs:P.stoodInHeld t=false) (h:eJ P 9998 xs ys fs.toList c) :
    aW P (Op.equal t (.agg xs) (.agg ys))=some c:=by
  rw[g0]
  rw[Op.equalIn,aP,c4 hu,Option.bind_some]
  have hst:(aW P program)=some P:=rfl
  rw[aP,hst,Option.bind_some,hs]
  simp only[← Array.forIn_toList,Bool.false_eq_true,if_false]
  rw[aP,h.forIn (e:=9999) rfl,Option.bind_some]
  cases c <;> rfl
theorem wC {P:Program} {o:Oper} {T:Env} {op:BinOp} {t u:TypeId} {x y:Operand} {fs:Array Field} {xs ys:Array Value} {c r:Bool} (ho:o.op=.binOp op t x y u) (hu:P.underlying t=some (.struct fs)) (hs:P.stoodInHeld t=false) (hg:P.eqGuardType P.depth t=false)
    (hx:bR (ev T x)=some (.agg xs)) (hy:bR (ev T y)=some (.agg ys)) (h:eJ P 9998 xs ys fs.toList c) (hr:(op=.eql∧r=c)∨(op=.neq∧r = !c)) :
    cm P o T=some (.val (.bool r),.none,[]):=by
  have he:=um hu hs h
  have hst:(aW P program)=some P:=rfl
  unfold cm
  simp only[ho,Op.operands,hx,hy]
  rcases hr with ⟨rfl,rfl⟩ | ⟨rfl,rfl⟩
  · simp[execOp,ho,hx,hy,eqGuard,binOp,e9,aP,hst,hg,he,plain]
    try simp[aW,pure,plain]
  · simp[execOp,ho,hx,hy,eqGuard,binOp,e9,aP,hst,hg,he,plain]
    try simp[aW,pure,plain,bne]
theorem A5 {P:Program} {T:Env} {H:View} {K:V→View→Prop} {w:bS (T,H,K)} {op:BinOp} {t u ty:TypeId} {x y:Operand} {fs:Array Field} {xs ys:Array Value} {c r:Bool} (hu:P.underlying t=some (.struct fs)) (hs:P.stoodInHeld t=false) (hg:P.eqGuardType P.depth t=false)
    (hx:bR (ev T x)=some (.agg xs)) (hy:bR (ev T y)=some (.agg ys)) (h:eJ P 9998 xs ys fs.toList c) (hr:(op=.eql∧r=c)∨(op=.neq∧r = !c)) (hk:K (.val (.bool r)) H):sG P (.binOp op t x y u) ty T H K w:=by
  intro n _
  refine ⟨.val (.bool r),.none,[],?_,hk⟩
  have hn:fv P t=none:=by simp[fv,hu]
  simp only[sI,bt,oper,hn]
  simp only[Option.isSome_none,Bool.false_eq_true,if_false]
  exact wC rfl hu hs hg hx hy h hr
def rj (hp:Array Obj) (cs:List Value) (vs:List V):Prop :=
  vs.length=cs.length∧∀ μ i,i < vs.length→ao (fun b=>b < hp.size) μ hp (vs.getD i .any) (cs.getD i undef)
def Wt {H:Type} (P:Program) (t:TypeId) (d:DataW H):Prop:=∀ n∈d.weights P t,n≤reachBytes
def rh (P:Program) (t:TypeId) {α:Type} (f:α→List V) (ok:α→Prop):Prop :=
  ∀ {H:Type} (enc:TypeId × Value→H) (w:World) (base:Nat) (sp:Nat→Bool) (held:Bool) (fuel:Nat) (cs:List Value) (x:DataW H × List MemPlace),
    DataW.trod enc P w base sp held fuel t cs=some x→Wt P t x.1→∃ a,ok a∧rj w.heap cs (f a)
theorem ub {hp:Array Obj} {c:Value} {v:V} (h:∀ μ,ao (fun b=>b < hp.size) μ hp v c):rj hp [c] [v]:=by
  refine ⟨rfl,fun μ i hi=>?_⟩
  match i,hi with
  | 0,_=>exact h μ
theorem IK {P:Program} {t:TypeId} {k:IntKind} (ht:P.underlying t=some (.int k)):rh P t (fun n=>[.val (.int k n)]) (fun n=>(Lit.int k n).wf=true):=by
  intro H enc w base sp held fuel cs x h _
  obtain ⟨n,rfl,_,hw⟩:=DataW.trod_int ht h
  exact ⟨n,hw,ub fun μ=>.val _ rfl⟩
theorem yY {w:World} {base:Nat} {a:Addr} {n:Nat} {cs:List Value} (h:w.cells? base a n=some cs):cs.length=n∧∀ i,i < n→w.cell? (a.add i)=some (cs.getD i undef):=by
  obtain ⟨_,h2,h3⟩:=World.cells?_some h
  refine ⟨h2,fun i hi=>?_⟩
  rw[h3 i hi,List.getD_eq_getElem?_getD,List.getElem?_eq_getElem (by omega)]
  rfl
theorem FB {w:World} {a:Addr} {v:Value} (h:w.cell? a=some v):a.spot=none∧a.block < w.heap.size:=by
  unfold World.cell? at h
  split at h
  · rename_i c _ _ hb
    split at h
    · simp at h
    · rename_i hs
      exact ⟨by simpa using hs,(Array.getElem?_eq_some_iff.1 hb).1⟩
  · simp at h
theorem Ex {H:Type} {P:Program} {e:TypeId} : ∀ {l:List (DataW H)},(∀ n∈DataW.weightsAll P e l,n≤reachBytes)→∀ d∈l,Wt P e d
  | [],_,d,hd=>by simp at hd
  | x :: l,h,d,hd=>by
    simp only[DataW.weightsAll,List.mem_append] at h
    rcases List.mem_cons.1 hd with rfl | hd
    · exact fun n hn=>h n (.inl hn)
    · exact Ex (fun n hn=>h n (.inr hn)) d hd
theorem FX {H:Type} {P:Program} {t e:TypeId} {elems spare:List (DataW H)} (ht:P.underlying t=some (.slice e)) (h:Wt P t (.slice elems spare)) :
    (elems.length+spare.length) * P.bytesOf e≤reachBytes∧∀ d∈elems,Wt P e d:=by
  unfold Wt at h
  unfold DataW.weights at h
  rw[ht] at h
  simp only[List.mem_cons,List.mem_append] at h
  exact ⟨h _ (.inl rfl),Ex fun n hn=>h n (.inr (.inl hn))⟩
theorem Fu {H:Type} {P:Program} {t:TypeId} {fs:Array Field} {parts:List (DataW H)} (ht:P.underlying t=some (.struct fs)) (h:Wt P t (.agg parts)) {j:Nat} {f:Field} {d:DataW H} (hf:fs[j]?=some f) (hd:parts[j]?=some d):Wt P f.type d:=by
  intro n hn
  refine h n ?_
  unfold DataW.weights
  rw[ht]
  exact DataW.weights_mem_each (j:=j) (t:=f.type) (by simp[hf]) hd n hn
theorem Cn {α:Type} {φ:Nat→α→Prop} : ∀ (n:Nat),(∀ i,i < n→∃ a,φ i a)→∃ l:List α,l.length=n∧∀ i (hi:i < l.length),φ i l[i]
  | 0,_=>⟨[],rfl,fun i hi=>by simp at hi⟩
  | n+1,h=>by
    obtain ⟨l,hl,hφ⟩:=Cn n fun i hi=>h i (by omega)
    obtain ⟨a,ha⟩:=h n (by omega)
    refine ⟨l ++ [a],by simp[hl],fun i hi=>?_⟩
    by_cases e:i < l.length
    · rw[List.getElem_append_left e]; exact hφ i e
    · have:i=n:=by simp at hi; omega
      subst this
      rw[List.getElem_append_right (by omega)]
      simp only[hl,Nat.sub_self,List.getElem_cons_zero]; exact ha
theorem pV {P:Program} {t e:TypeId} {α:Type} {f:α→List V} {ok:α→Prop} (ht:P.underlying t=some (.slice e)) (hc:0 < P.cellsOf e) (hb:0 < P.bytesOf e) (he:rh P e f ok) :
    rh P t (fun l:List α=>[.aI (l.map f)]) (fun l=>l.length < 4611686018427387904∧∀ a∈l,ok a):=by
  intro H enc w base sp held fuel cs x h hw
  rcases DataW.trod_slice ht h with ⟨rfl,rfl⟩ | ⟨a,len,cap,elems,rest,n,_,rfl,rfl,hba,hl,hm,hlen,hel,_,_⟩
  · exact ⟨[],⟨by simp,by simp⟩,ub fun μ=>.eC none 0 (by simp)⟩
  obtain ⟨hw1,hw2⟩:=FX ht hw
  simp only[List.length_map] at hw1
  have hlt:len < 4611686018427387904:=by
    have h1:len * 1≤(elems.length+rest.length) * P.bytesOf e:=Nat.mul_le_mul (by omega) hb
    unfold reachBytes at hw1
    omega
  have each:∀ i,i < len→∃ y,ok y∧∃ ci,w.cells? base (a.add (i * P.cellsOf e)) (P.cellsOf e)=some ci∧rj w.heap ci (f y):=by
    intro i hi
    have h1:=hel i hi
    have h2:elems[i]?=some (elems[i]'(by omega)):=List.getElem?_eq_getElem (by omega)
    have hmem:elems[i]'(by omega)∈elems:=List.getElem_mem _
    rw[h2,Option.bind_eq_some_iff] at h1
    obtain ⟨ci,h3,h4⟩:=h1
    obtain ⟨y,h5,h6⟩:=he enc w base sp held n ci _ h4 (hw2 _ (List.mem_map.2 ⟨_,hmem,rfl⟩))
    exact ⟨y,h5,ci,h3,h6⟩
  obtain ⟨l,hll,hφ⟩:=Cn len each
  subst hll
  refine ⟨l,⟨hlt,fun y hy=>?_⟩,ub fun μ=>?_⟩
  · obtain ⟨i,hi,rfl⟩:=List.getElem_of_mem hy
    exact (hφ i hi).1
  by_cases h0:l=[]
  · subst h0
    exact .eC (some a) cap (by simp)
  have hpos:0 < l.length:=List.length_pos_iff.2 h0
  have hcell:∀ i j,i < l.length→j < P.cellsOf e→∃ c,cellAt w.heap a.block (a.off+i * P.cellsOf e+j)=some c∧a.block < w.heap.size∧(i=0→j=0→a.spot=none)∧∀ (hi:i < l.length),ao (fun b=>b < w.heap.size) μ w.heap ((f l[i]).getD j .any) c:=by
    intro i j hi hj
    obtain ⟨_,ci,h1,h2⟩:=hφ i hi
    obtain ⟨h3,h4⟩:=yY h1
    have h5:=h4 j hj
    have h6:=FB h5
    have hbk:((a.add (i * P.cellsOf e)).add j).block=a.block:=by simp only[Addr.add]; split <;> split <;> rfl
    have hof:((a.add (i * P.cellsOf e)).add j).off=a.off+i * P.cellsOf e+j:=by
      simp only[Addr.add]; split <;> split <;> simp_all
    refine ⟨ci.getD j undef,?_,by rw[← hbk]; exact h6.2,?_,fun _=>?_⟩
    · rw[← hof,← hbk,← l8]
      rw[← h5]
      congr 1
      generalize (a.add (i * P.cellsOf e)).add j=b at h6
      cases b
      simp at h6 ⊢
      exact h6.1.symm
    · rintro rfl rfl
      simp[Addr.add] at h6
      exact h6.1
    · exact h2.2 μ j (by rw[h2.1,h3]; exact hj)
  obtain ⟨_,_,hz,hs,_⟩:=hcell 0 0 hpos hc
  have ha:a=⟨a.block,a.off,none⟩:=by
    cases a; simp at hs ⊢; exact hs
  have hlf:∀ i,i < l.length→(f (l[i]?.getD (l[0]'hpos))).length=P.cellsOf e:=fun i hi=>by
    obtain ⟨_,ci,h1,h2⟩:=hφ i hi
    rw[List.getElem?_eq_getElem hi,Option.getD_some,h2.1,(yY h1).1]
  have hgd:∀ i (hi:i < l.length),(l.map f).getD i []=f l[i]:=fun i hi=>by simp[List.getD_eq_getElem?_getD,hi]
  have hcl:(l.map f).length=l.length:=by simp
  have:=ao.aI (Z:=fun b=>b < w.heap.size) (μ:=μ) (hp:=w.heap) (l.map f) a.block a.off (P.cellsOf e) cap (fun i j=>(cellAt w.heap a.block (a.off+i * P.cellsOf e+j)).getD undef) hz (by rw[hcl]; exact hl)
    (fun i hi=>by
      rw[hcl] at hi
      have:=hlf i hi
      rw[List.getElem?_eq_getElem hi,Option.getD_some] at this
      rw[hgd i hi]; exact this)
    (fun i j hi hj=>by
      rw[hcl] at hi
      obtain ⟨c,h1,_⟩:=hcell i j hi hj
      rw[h1]; rfl)
    (fun i j hi hj=>by
      rw[hcl] at hi
      obtain ⟨c,h1,_,_,h2⟩:=hcell i j hi hj
      rw[h1,hgd i hi]; exact h2 hi)
  rw[hcl,← ha] at this
  exact this
theorem q8 {P:Program} {t:TypeId} {fs:Array Field} (ht:P.underlying t=some (.struct fs)) (hf:∀ (i:Nat) (f:Field),fs[i]?=some f→f.offset=i∧P.cellsOf f.type=1) (hn:P.cellsOf t=fs.size)
    {H:Type} {enc:TypeId × Value→H} {w:World} {base:Nat} {sp:Nat→Bool} {held:Bool} {fuel:Nat} {cs:List Value} {x:DataW H × List MemPlace} (h:DataW.trod enc P w base sp held fuel t cs=some x) (hw:Wt P t x.1) :
    cs.length=fs.size∧∀ (i:Nat) (f:Field),fs[i]?=some f→∀ {α:Type} {g:α→List V} {ok:α→Prop},rh P f.type g ok→∃ a,ok a∧rj w.heap [cs.getD i undef] (g a):=by
  obtain ⟨xs,n,rfl,rfl,hl,hlen,hx⟩:=DataW.trod_struct ht h
  refine ⟨by rw[hl,hn],fun i f hi α g ok hr=>?_⟩
  obtain ⟨h1,h2⟩:=hf i f hi
  have hi2:i < fs.size:=(Array.getElem?_eq_some_iff.1 hi).1
  have h3:=hx i f hi
  have h4:xs[i]?=some (xs[i]'(by omega)):=List.getElem?_eq_getElem (by omega)
  rw[h4,h1,h2] at h3
  have h5:(cs.drop i).take 1=[cs.getD i undef]:=by
    rw[List.getD_eq_getElem?_getD,List.getElem?_eq_getElem (by omega),List.drop_eq_getElem_cons (by omega)]
    rfl
  rw[h5] at h3
  exact hr enc w base sp held n _ _ h3 (Fu ht hw hi (by simp[h4]))
theorem jf {hp:Array Obj} {c:Value} {cs:List Value} {v:V} {vs:List V} (h:rj hp [c] [v]) (k:rj hp cs vs):rj hp (c :: cs) (v :: vs):=by
  refine ⟨by simp[k.1],fun μ i hi=>?_⟩
  cases i with
  | zero=>exact h.2 μ 0 (by simp)
  | succ i=>exact k.2 μ i (by simpa using hi)
theorem tz {hp:Array Obj} : rj hp [] []:=⟨rfl,fun μ i hi=>by simp at hi⟩
theorem HD {n:Int} (h:(Lit.int .i64 n).wf=true):bw n:=by
  simp only[Lit.wf,Bool.and_eq_true,decide_eq_true_eq] at h
  exact h
theorem mL:rh Tryz.prog 3 (fun n=>[gi n]) bw:=fun enc w base sp held fuel cs x h hw=>by
  obtain ⟨n,h1,h2⟩:=IK Tryz.underlying3 enc w base sp held fuel cs x h hw
  exact ⟨n,HD h1,h2⟩
theorem HT:rh Tryz.prog 43 (fun l:List Int=>[encI l]) (fun l=>aJ l∧∀ x∈l,bw x) :=
  pV Tryz.underlying43 (of_decide_eq_true (by kernel_rfl)) (of_decide_eq_true (by kernel_rfl)) mL
end Gv
