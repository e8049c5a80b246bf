/-
  Part 10 of the proof: what the machine does and what the functions answer.
  Conditions: those that each lemma names.
-/
import Derived.Test.YtgniimkconobpaaGreatSGzKI
set_option linter.unusedSimpArgs false
set_option linter.unusedVariables false
set_option linter.unusedSimpArgs false
set_option maxRecDepth 100000
namespace Gv
open Go Go.Proofs
theorem bP.eZ {P:Program} {f:FuncId} {h:aF} (h1:bP P f [.emp 1] h (.emp 1) h) (h2:bP P f [.emp 2] h (.emp 2) h) (h3:bP P f [.dD] h (.emp 2) h):bP P f [.bc []] h (.emp 0) h:=by
  refine ⟨Nat.le_refl _,fun Z μ F w xs hrel hr hfree=>?_⟩
  obtain ⟨hl,hv⟩:=hrel
  obtain ⟨x,rfl⟩:∃ x,xs=[x]:=by
    match xs,hl with
    | [x],_=>exact ⟨x,rfl⟩
  have h0:aA Z μ w.heap (.bc []) x:=hv 0 (by simp)
  have one:∀ v,aA Z μ w.heap v x→dR Z μ w.heap [v] [x]:=fun v h=>⟨rfl,fun i hi=>by
    simp at hi; subst hi; exact h⟩
  have weak:∀ k,bP P f [if k=3 then .dD else .emp k] h (if k=3 then .emp 2 else .emp k) h→aA Z μ w.heap (if k=3 then .dD else .emp k) x→Calls P f [x].toArray w fun e w'=>∃ x Z' μ',e=.returned x∧aA Z' μ' w'.heap (.emp 0) x∧fi Z' μ' w'.heap (cat h F)∧Ext Z μ w h.length Z' μ' w'∧(∀ id,id < h.length∨h.length≤id→μ' id=μ id):=by
    intro k hk hx
    refine (hk.2 Z μ F w [x] (one _ hx) hr hfree).mono ?_
    rintro e w' ⟨y,Z',μ',rfl,hy,rest⟩
    refine ⟨y,Z',μ',rfl,?_,rest⟩
    have:∀ k',aA Z' μ' w'.heap (.emp k') y→aA Z' μ' w'.heap (.emp 0) y:=fun k' h=>by
      cases h with | emp _ a _ _=>exact .emp 0 a (by simp) (by simp)
    split at hy <;> exact this _ hy
  rcases CN h0 with ⟨_,a,cap,rfl,hz⟩ | ⟨b,off,esz,cap,c,rfl,_,_,_⟩
  · cases a with
    | none =>
      have:=hz rfl
      subst this
      exact weak 1 (by simpa using h1) (.emp 1 none (by simp) (by simp))
    | some a =>
      cases cap with
      | zero=>exact weak 2 (by simpa using h2) (.emp 2 (some a) (by simp) (by simp))
      | succ c=>exact weak 3 (by simpa using h3) (.dD a (c+1))
  · cases cap with
    | zero=>exact weak 2 (by simpa using h2) (.emp 2 (some ⟨b,off,none⟩) (by simp) (by simp))
    | succ c=>exact weak 3 (by simpa using h3) (.dD ⟨b,off,none⟩ (c+1))
def th (sz:Nat) (es:List (List V)) (H:View) (K:V→View→Prop):Prop :=
  (es=[]→∀ k,K (.emp k) H)∧(es≠[]→∀ n,H n=.dead→K (.sl n 0 es.length sz) (H.set n (.arr sz es)))
def cm:SF:=⟨.seq (al [((some 2),.op (.bu (.val (.emp 1))))]) <|
  .seq (.seq (al [aa 3 0,((some 4),.op (.nil true 0 (.tmp 3) (.val (.emp 1))))]) <|
  .cond (.tmp 4) (.seq (al [((some 2),.op (.bu (.val (.emp 1))))]) <|
  .ret) (.skip)) <|
  .seq (al [((some 5),.op (.bu (.val (.emp 2)))),aa 6 0,((some 7),.op (.app 1 16 (.tmp 5) (.tmp 6))),aa 2 7]) <|
  .ret,
  [.tmp 2],8⟩
theorem cA:aX Tryz.prog 59 []=some cm:=by kernel_rfl
def c7:SF:=⟨.seq (al [((some 2),.op (.bu (.val (.emp 1))))]) <|
  .seq (.seq (al [aa 3 0,((some 4),.op (.nil true 0 (.tmp 3) (.val (.emp 1))))]) <|
  .cond (.tmp 4) (.seq (al [((some 2),.op (.bu (.val (.emp 1))))]) <|
  .ret) (.skip)) <|
  .seq (al [((some 5),.op (.bu (.val (.emp 2)))),aa 6 0,((some 7),.op (.app 1 8 (.tmp 5) (.tmp 6))),aa 2 7]) <|
  .ret,
  [.tmp 2],8⟩
theorem dh:aX Tryz.prog 76 []=some c7:=by kernel_rfl
def bU:SF:=⟨.seq (al [((some 2),.op (.bu (.val (.emp 1))))]) <|
  .seq (.seq (al [aa 3 0,((some 4),.op (.nil true 0 (.tmp 3) (.val (.emp 1))))]) <|
  .cond (.tmp 4) (.seq (al [((some 2),.op (.bu (.val (.emp 1))))]) <|
  .ret) (.skip)) <|
  .seq (al [((some 5),.op (.bu (.val (.emp 2)))),aa 6 0,((some 7),.op (.app 3 32 (.tmp 5) (.tmp 6))),aa 2 7]) <|
  .ret,
  [.tmp 2],8⟩
theorem cb:aX Tryz.prog 74 []=some bU:=by kernel_rfl
theorem aE.tree {P:Program} {f:FuncId} {vs:List V} {t:V} (hv:∀ v∈vs,Tree v) (ht:Tree t) (h:∀ H,aD P f vs H fun r _=>r=t):aE P f vs t :=
  aE.of hv ((h _).mono fun r H' e h' _=>by rw[e]; exact .tree _ ht)
theorem pN {H:View} : b6 H .dD=some ([],[]):=id rfl
theorem iu {H:View} (sz bytes k:Nat) (K:V→View→Prop) (w:cn (H,K)):nK sz bytes (.emp k) [] H K w=K (.emp k) H:=propext Iff.rfl
theorem FP (l:List ByteArray) (hl:l.length≤100000) (H:View) (K:V→View→Prop) (hk:th 1 (l.map fun s=>[gs s]) H K):aD Tryz.prog 59 [encS l] H K:=by
  cases l with
  | nil =>
    have hp:∀ v t,Tree v→Tree t→(∀ H,aD Tryz.prog 59 [v] H fun r _=>r=t)→aE Tryz.prog 59 [v] t:=fun v t hv ht h=>aE.tree (by intro x hx; simp at hx; subst hx; exact hv) ht h
    have h1:=hp (.emp 1) (.emp 1) (.emp 1) (.emp 1) (fun H=>by
      refine aD.of mixed cA ?_
      simp (disch:=omega) only [↓wr,↓reduceIte,wq,ai,ah,ak,ae,af,ag,aj,isNil,Nat.reduceEqDiff,Nat.reduceAdd,Nat.reduceLT,Nat.reduceLeDiff,Int.reduceNeg,Int.reduceToNat,reduceCtorEq,cm])
    have h2:=hp (.emp 2) (.emp 2) (.emp 2) (.emp 2) (fun H=>by
      refine aD.of mixed cA ?_
      simp (disch:=omega) only [↓wr,↓reduceIte,wq,ai,ah,ak,ae,af,ag,aj,isNil,Nat.reduceEqDiff,Nat.reduceAdd,Nat.reduceLT,Nat.reduceLeDiff,Int.reduceNeg,Int.reduceToNat,reduceCtorEq,cm,iu,List.isEmpty_nil])
    have h3:=hp .dD (.emp 2) .dD (.emp 2) (fun H=>by
      refine aD.of mixed cA ?_
      simp (disch:=omega) only [↓wr,↓reduceIte,wq,ai,ah,ak,ae,af,ag,aj,isNil,Nat.reduceEqDiff,Nat.reduceAdd,Nat.reduceLT,Nat.reduceLeDiff,Int.reduceNeg,Int.reduceToNat,reduceCtorEq,cm,pN,iu,List.isEmpty_nil])
    refine ⟨by kernel_rfl,?_⟩
    rintro h rfl
    exact ⟨.emp 0,h,bP.eZ (bP.fj h1 h) (bP.fj h2 h) (bP.fj h3 h),.refl _,hk.1 rfl 0⟩
  | cons x r =>
    refine aD.of mixed cA ?_
    simp only[List.length_cons] at hl
    simp (disch:=omega) only [↓wr,↓reduceIte,wq,ai,ah,ak,ae,af,ag,aj,isNil,Nat.reduceEqDiff,Nat.reduceAdd,Nat.reduceLT,Nat.reduceLeDiff,Int.reduceNeg,Int.reduceToNat,reduceCtorEq,cm,encS]
    refine ⟨?_,?_,?_⟩
    · simp[List.all_map,encS,aS]
    · unfold aI; simp; omega
    · intro n hn
      have:=hk.2 (by simp) n hn
      simp (disch:=omega) only [↓wr,↓reduceIte,wq,ai,ah,ak,ae,af,ag,aj,isNil,Nat.reduceEqDiff,Nat.reduceAdd,Nat.reduceLT,Nat.reduceLeDiff,Int.reduceNeg,Int.reduceToNat,reduceCtorEq]
      simpa [ch] using this
theorem E6 (l:List Int) (hl:l.length≤100000) (H:View) (K:V→View→Prop) (hk:th 1 (l.map fun s=>[gi s]) H K):aD Tryz.prog 76 [encI l] H K:=by
  cases l with
  | nil =>
    have hp:∀ v t,Tree v→Tree t→(∀ H,aD Tryz.prog 76 [v] H fun r _=>r=t)→aE Tryz.prog 76 [v] t:=fun v t hv ht h=>aE.tree (by intro x hx; simp at hx; subst hx; exact hv) ht h
    have h1:=hp (.emp 1) (.emp 1) (.emp 1) (.emp 1) (fun H=>by
      refine aD.of mixed dh ?_
      simp (disch:=omega) only [↓wr,↓reduceIte,wq,ai,ah,ak,ae,af,ag,aj,isNil,Nat.reduceEqDiff,Nat.reduceAdd,Nat.reduceLT,Nat.reduceLeDiff,Int.reduceNeg,Int.reduceToNat,reduceCtorEq,c7])
    have h2:=hp (.emp 2) (.emp 2) (.emp 2) (.emp 2) (fun H=>by
      refine aD.of mixed dh ?_
      simp (disch:=omega) only [↓wr,↓reduceIte,wq,ai,ah,ak,ae,af,ag,aj,isNil,Nat.reduceEqDiff,Nat.reduceAdd,Nat.reduceLT,Nat.reduceLeDiff,Int.reduceNeg,Int.reduceToNat,reduceCtorEq,c7,iu,List.isEmpty_nil])
    have h3:=hp .dD (.emp 2) .dD (.emp 2) (fun H=>by
      refine aD.of mixed dh ?_
      simp (disch:=omega) only [↓wr,↓reduceIte,wq,ai,ah,ak,ae,af,ag,aj,isNil,Nat.reduceEqDiff,Nat.reduceAdd,Nat.reduceLT,Nat.reduceLeDiff,Int.reduceNeg,Int.reduceToNat,reduceCtorEq,c7,pN,iu,List.isEmpty_nil])
    refine ⟨by kernel_rfl,?_⟩
    rintro h rfl
    exact ⟨.emp 0,h,bP.eZ (bP.fj h1 h) (bP.fj h2 h) (bP.fj h3 h),.refl _,hk.1 rfl 0⟩
  | cons x r =>
    refine aD.of mixed dh ?_
    simp only[List.length_cons] at hl
    simp (disch:=omega) only [↓wr,↓reduceIte,wq,ai,ah,ak,ae,af,ag,aj,isNil,Nat.reduceEqDiff,Nat.reduceAdd,Nat.reduceLT,Nat.reduceLeDiff,Int.reduceNeg,Int.reduceToNat,reduceCtorEq,c7,encI]
    refine ⟨?_,?_,?_⟩
    · simp[List.all_map,encI,aS]
    · unfold aI; simp; omega
    · intro n hn
      have:=hk.2 (by simp) n hn
      simp (disch:=omega) only [↓wr,↓reduceIte,wq,ai,ah,ak,ae,af,ag,aj,isNil,Nat.reduceEqDiff,Nat.reduceAdd,Nat.reduceLT,Nat.reduceLeDiff,Int.reduceNeg,Int.reduceToNat,reduceCtorEq]
      simpa [ch] using this
theorem Fm (l:List Term) (hl:l.length≤100000) (H:View) (K:V→View→Prop) (hk:th 3 (l.map ch) H K):aD Tryz.prog 74 [da l] H K:=by
  cases l with
  | nil =>
    have hp:∀ v t,Tree v→Tree t→(∀ H,aD Tryz.prog 74 [v] H fun r _=>r=t)→aE Tryz.prog 74 [v] t:=fun v t hv ht h=>aE.tree (by intro x hx; simp at hx; subst hx; exact hv) ht h
    have h1:=hp (.emp 1) (.emp 1) (.emp 1) (.emp 1) (fun H=>by
      refine aD.of mixed cb ?_
      simp (disch:=omega) only [↓wr,↓reduceIte,wq,ai,ah,ak,ae,af,ag,aj,isNil,Nat.reduceEqDiff,Nat.reduceAdd,Nat.reduceLT,Nat.reduceLeDiff,Int.reduceNeg,Int.reduceToNat,reduceCtorEq,bU])
    have h2:=hp (.emp 2) (.emp 2) (.emp 2) (.emp 2) (fun H=>by
      refine aD.of mixed cb ?_
      simp (disch:=omega) only [↓wr,↓reduceIte,wq,ai,ah,ak,ae,af,ag,aj,isNil,Nat.reduceEqDiff,Nat.reduceAdd,Nat.reduceLT,Nat.reduceLeDiff,Int.reduceNeg,Int.reduceToNat,reduceCtorEq,bU,iu,List.isEmpty_nil])
    have h3:=hp .dD (.emp 2) .dD (.emp 2) (fun H=>by
      refine aD.of mixed cb ?_
      simp (disch:=omega) only [↓wr,↓reduceIte,wq,ai,ah,ak,ae,af,ag,aj,isNil,Nat.reduceEqDiff,Nat.reduceAdd,Nat.reduceLT,Nat.reduceLeDiff,Int.reduceNeg,Int.reduceToNat,reduceCtorEq,bU,pN,iu,List.isEmpty_nil])
    refine ⟨by kernel_rfl,?_⟩
    rintro h rfl
    exact ⟨.emp 0,h,bP.eZ (bP.fj h1 h) (bP.fj h2 h) (bP.fj h3 h),.refl _,hk.1 rfl 0⟩
  | cons x r =>
    refine aD.of mixed cb ?_
    simp only[List.length_cons] at hl
    simp (disch:=omega) only [↓wr,↓reduceIte,wq,ai,ah,ak,ae,af,ag,aj,isNil,Nat.reduceEqDiff,Nat.reduceAdd,Nat.reduceLT,Nat.reduceLeDiff,Int.reduceNeg,Int.reduceToNat,reduceCtorEq,bU,da,ch]
    refine ⟨?_,?_,?_⟩
    · simp[List.all_map,da,ch,aS]
    · unfold aI; simp; omega
    · intro n hn
      have:=hk.2 (by simp) n hn
      simp (disch:=omega) only [↓wr,↓reduceIte,wq,ai,ah,ak,ae,af,ag,aj,isNil,Nat.reduceEqDiff,Nat.reduceAdd,Nat.reduceLT,Nat.reduceLeDiff,Int.reduceNeg,Int.reduceToNat,reduceCtorEq]
      simpa [ch] using this
theorem th.own {sz:Nat} {es:List (List V)} {H:View} : th sz es H fun r H'=>bp H' r sz es∧dJ H H' r :=
  ⟨fun he k=>⟨by rw[he]; exact .nil,.emp⟩,fun _ n hn=>⟨.new,.new hn⟩⟩
theorem Gp (l:List ByteArray) (hl:l.length≤100000) (H:View):aD Tryz.prog 59 [encS l] H fun r H'=>bp H' r 1 (l.map fun s=>[gs s])∧dJ H H' r:=FP l hl H _ .own
theorem F1 (l:List Int) (hl:l.length≤100000) (H:View):aD Tryz.prog 76 [encI l] H fun r H'=>bp H' r 1 (l.map fun s=>[gi s])∧dJ H H' r:=E6 l hl H _ .own
theorem Fe (l:List Term) (hl:l.length≤100000) (H:View):aD Tryz.prog 74 [da l] H fun r H'=>bp H' r 3 (l.map ch)∧dJ H H' r:=Fm l hl H _ .own
end Gv
set_option linter.unusedSimpArgs false
set_option maxRecDepth 100000
namespace Gv
open Go Go.Proofs
def jd (g:av):List aT→Int→Bool
  | [],next=>next == g.au.length
  | r :: l,next=>decide (0≤r.left) && decide (r.left≤next) && fg g r && jd g l (if r.left+1 > next then r.left+1 else next)
def ow (g:av):List ByteArray:=g.au ++ g.aC.map Term.name
def mK (g:av):Bool :=
  oU g.aC && (decide ((1:Int)≤g.au.length) && decide ((g.au.length:Int)≤16)) && (decide ((1:Int)≤g.rules.length) && decide ((g.rules.length:Int)≤40)) && decide (names (ow g)).Nodup && (decide (0≤g.start) && decide (g.start≤(g.au.length:Int) - 1)) &&
    !(g.au.any fun s=>!dZ (dF s)) && jd g g.rules 0
theorem Aq {l:List ByteArray} : ∀ e∈(l.map fun s=>[gs s]),∀ v∈e,Tree v:=by
  intro e he v hv
  obtain ⟨a,_,rfl⟩:=List.mem_map.1 he
  rw[List.mem_singleton] at hv
  subst hv
  exact .val _
set_option maxHeartbeats 4000000 in
theorem Gc (g:av) (hg:g.Ok) (hs:g.au.length+g.aC.length≤1000) (H:View):aD Tryz.prog 38 [.agg (ao g)] H fun r _=>r=gb (mK g):=by
  refine aD.of mixed x3 ?_
  have hn:=hg.au
  have ht:=hg.aC
  have hr:=hg.rules
  unfold aP at hn ht hr
  simp (disch:=omega) only [↓wr,↓reduceIte,wq,ai,ah,ak,ae,af,ag,aj,isNil,Nat.reduceEqDiff,Nat.reduceAdd,Nat.reduceLT,Nat.reduceLeDiff,Int.reduceNeg,Int.reduceToNat,reduceCtorEq,vh,ao,encS]
  refine az.ez ((Gp g.au (by omega) H).mono ?_)
  rintro u H1 ⟨hu,hf⟩
  simp (disch:=omega) only [↓wr,↓reduceIte,wq,ai,ah,ak,ae,af,ag,aj,isNil,Nat.reduceEqDiff,Nat.reduceAdd,Nat.reduceLT,Nat.reduceLeDiff,Int.reduceNeg,Int.reduceToNat,reduceCtorEq,ao,encS]
  refine bo.up g.aC.length (fun i T H=>T 1=.aK (ao g) 0∧(∃ u,T 3=u∧bp H u 1 ((g.au ++ (g.aC.take i).map Term.name).map fun s=>[gs s]))∧T 13=da g.aC∧T 14=gi g.aC.length∧T 15=gi i) ?_ ?_
  · exact ⟨rfl,⟨u,rfl,by simpa using hu⟩,rfl,rfl,rfl⟩
  rintro i k T H' hk ⟨h1,⟨u,h3,hu⟩,h13,h14,h15⟩
  simp (disch:=omega) only [↓wr,↓reduceIte,wq,ai,ah,ak,ae,af,ag,aj,isNil,Nat.reduceEqDiff,Nat.reduceAdd,Nat.reduceLT,Nat.reduceLeDiff,Int.reduceNeg,Int.reduceToNat,reduceCtorEq,sw,h1,h13,h14,h15,da]
  refine aq.dec (fun hc=>?_) (fun hc=>?_)
  · have hg2:g.aC[i]?=some (g.aC[i]'(by omega)):=List.getElem?_eq_getElem (by omega)
    have htk:(g.aC.take (i+1)).map Term.name=(g.aC.take i).map Term.name ++ [(g.aC[i]'(by omega)).name]:=by
      rw[List.take_add_one,hg2,List.map_append]; rfl
    generalize g.aC[i]'(by omega)=t at hg2 htk
    simp (disch:=omega) only [↓wr,↓reduceIte,wq,ai,ah,ak,ae,af,ag,aj,isNil,Nat.reduceEqDiff,Nat.reduceAdd,Nat.reduceLT,Nat.reduceLeDiff,Int.reduceNeg,Int.reduceToNat,reduceCtorEq,h1,h3,h13,h14,h15,da,ch,List.getElem?_map,hg2]
    intro b hb
    try simp (disch:=omega) only [↓wr,↓reduceIte,wq,ai,ah,ak,ae,af,ag,aj,isNil,Nat.reduceEqDiff,Nat.reduceAdd,Nat.reduceLT,Nat.reduceLeDiff,Int.reduceNeg,Int.reduceToNat,reduceCtorEq,h1,h3,h13,h14,h15,set_set]
    intro m hm
    have hmb:=(bJ hm bM).1
    have hm:=(bJ (bJ hm bM).2 bM).2
    try simp (disch:=omega) only [↓wr,↓reduceIte,wq,ai,ah,ak,ae,af,ag,aj,isNil,Nat.reduceEqDiff,Nat.reduceAdd,Nat.reduceLT,Nat.reduceLeDiff,Int.reduceNeg,Int.reduceToNat,reduceCtorEq,h1,h3,h13,h14,h15,de]
    have hl:((g.au ++ (g.aC.take i).map Term.name).map fun s=>[gs s]).length≤1000:=by simp; omega
    refine mY (((hu.fresh hb).other (hu.ne hb)).fresh (by simp[View.set,hm,hmb])) (by simp) (by simp[aS]) (by unfold aI; simp at hl ⊢; omega) (by unfold aI; simp at hl ⊢; omega) ?_
    intro u' H2 hu' _
    simp (disch:=omega) only [↓wr,↓reduceIte,wq,ai,ah,ak,ae,af,ag,aj,isNil,Nat.reduceEqDiff,Nat.reduceAdd,Nat.reduceLT,Nat.reduceLeDiff,Int.reduceNeg,Int.reduceToNat,reduceCtorEq,h1,h3,h13,h14,h15]
    refine aV hk (by omega) ⟨h1,⟨u',rfl,?_⟩,h13,h14,rfl⟩
    rw[htk]
    simpa using hu'
  · rw[List.take_of_length_le (by omega)] at hu
    have hal:H'=H':=rfl
    have hall:(ow g).length≤1000:=by simp[ow]; omega
    repeat' (first | (refine aq.dec (fun _=>?_) (fun _=>?_)) | (refine aq.eq (fun _=>?_) (fun _=>?_)) | (refine aq.ne (fun _=>?_) (fun _=>?_)) | (refine aq.split (fun _=>?_) (fun _=>?_)) | (refine az.pure (Gd g.aC hg.aC) (by kernel_rfl) ?_) | (refine az.pure (nI _ _ _) (by kernel_rfl) ?_) | (refine az.wa (G9 (ow g) hall) (by kernel_rfl) (.val _) ⟨bW.own hu Aq,trivial⟩ ?_) | (simp (disch:=omega) only [↓wr,↓reduceIte,wq,ai,ah,ak,ae,af,ag,aj,isNil,Nat.reduceEqDiff,Nat.reduceAdd,Nat.reduceLT,Nat.reduceLeDiff,Int.reduceNeg,Int.reduceToNat,reduceCtorEq,h1,h3,h13,h14,h15,ao,encS]))
    all_goals try (simp[mK, *]; done)
    rename_i e1 e2 e3 e4 e5
    refine az.pure (vO g.au hg.au 64 [] (by simp) (fun s=>!dZ (dF s)) (fun x _=>D1 x) (by kernel_rfl)) (by kernel_rfl) ?_
    repeat' (first | (refine aq.dec (fun _=>?_) (fun _=>?_)) | (refine aq.eq (fun _=>?_) (fun _=>?_)) | (refine aq.ne (fun _=>?_) (fun _=>?_)) | (refine aq.split (fun _=>?_) (fun _=>?_)) | (simp (disch:=omega) only [↓wr,↓reduceIte,wq,ai,ah,ak,ae,af,ag,aj,isNil,Nat.reduceEqDiff,Nat.reduceAdd,Nat.reduceLT,Nat.reduceLeDiff,Int.reduceNeg,Int.reduceToNat,reduceCtorEq,h1,h3,h13,h14,h15,ao,encS]))
    all_goals try (simp[mK, *]; done)
    rename_i e6
    have hle:g.rules.length≤40:=by simp at e3; omega
    have hpre:∀ b,jd g g.rules 0=b→gb b=gb (mK g):=fun b e=>by
      simp only[mK,e1,e2,e3,e4,e5,e6,e,decide_true,Bool.true_and,Bool.not_false]
    refine bo.up g.rules.length (fun i T _=>∃ w:Int,0≤w∧w≤i∧jd g (g.rules.drop i) w=jd g g.rules 0∧T 1=.aK (ao g) 0∧T 6=gi w∧T 62=.bc (g.rules.map aJ)∧T 63=gi g.rules.length∧T 64=gi i) ?_ ?_
    · exact ⟨0,by omega,by omega,rfl,h1,rfl,rfl,rfl,rfl⟩
    rintro i k T H' hk ⟨w,hw1,hw2,hi,h1,h6,h62,h63,h64⟩
    simp (disch:=omega) only [↓wr,↓reduceIte,wq,ai,ah,ak,ae,af,ag,aj,isNil,Nat.reduceEqDiff,Nat.reduceAdd,Nat.reduceLT,Nat.reduceLeDiff,Int.reduceNeg,Int.reduceToNat,reduceCtorEq,sM,h1,h6,h62,h63,h64,ao]
    refine aq.dec (fun hc=>?_) (fun hc=>?_)
    · have hg2:g.rules[i]?=some (g.rules[i]'(by omega)):=List.getElem?_eq_getElem (by omega)
      rw[dK (show i < g.rules.length by omega)] at hi
      have hmem:g.rules[i]'(by omega)∈g.rules:=List.getElem_mem _
      generalize g.rules[i]'(by omega)=t at hg2 hi hmem
      obtain ⟨⟨hl1,hl2⟩,hp,hr1,hr2⟩:=hg.bj t hmem
      simp only[jd] at hi
      simp (disch:=omega) only [↓wr,↓reduceIte,wq,ai,ah,ak,ae,af,ag,aj,isNil,Nat.reduceEqDiff,Nat.reduceAdd,Nat.reduceLT,Nat.reduceLeDiff,Int.reduceNeg,Int.reduceToNat,reduceCtorEq,h1,h6,h62,h63,h64,aJ,encI,List.getElem?_map,hg2]
      intro b hb
      repeat' (first | (refine aq.dec (fun _=>?_) (fun _=>?_)) | (refine aq.eq (fun _=>?_) (fun _=>?_)) | (refine aq.ne (fun _=>?_) (fun _=>?_)) | (refine aq.split (fun _=>?_) (fun _=>?_)) | (refine az.pure (nI _ _ _) (by kernel_rfl) ?_) | (refine az.pure (Hn g t hg ⟨hr1,hr2⟩) (by kernel_rfl) ?_) | (simp (disch:=omega) only [↓wr,↓reduceIte,wq,ai,ah,ak,ae,af,ag,aj,isNil,Nat.reduceEqDiff,Nat.reduceAdd,Nat.reduceLT,Nat.reduceLeDiff,Int.reduceNeg,Int.reduceToNat,reduceCtorEq,h1,h6,h62,h63,h64,ao,aJ,encI,encS,set_set]))
      · rename_i e7 e8
        have e7':0≤t.left∧t.left≤w:=by simpa using e7
        rw[e7,e8,Bool.true_and,Bool.true_and] at hi
        have hw:IntKind.wrap .i64 (t.left+1)=t.left+1:=wrap64 (by omega) (by omega)
        refine aV hk (by omega) ⟨_,by split <;> omega,by split <;> (push_cast; omega),hi,h1,?_,h62,h63,rfl⟩
        show gi (if IntKind.wrap .i64 (t.left+1) > w then IntKind.wrap .i64 (t.left+1) else w)=_
        rw[hw]
      · rename_i e7 e8
        rw[e8,Bool.and_false,Bool.false_and] at hi
        exact hpre _ hi.symm
      · rename_i e7
        rw[e7,Bool.false_and,Bool.false_and] at hi
        exact hpre _ hi.symm
    · rw[List.drop_eq_nil_of_le (by omega)] at hi
      simp only[jd] at hi
      simp (disch:=omega) only [↓wr,↓reduceIte,wq,ai,ah,ak,ae,af,ag,aj,isNil,Nat.reduceEqDiff,Nat.reduceAdd,Nat.reduceLT,Nat.reduceLeDiff,Int.reduceNeg,Int.reduceToNat,reduceCtorEq,h1,h6,h62,h63,h64,ao,encS]
      exact hpre _ hi.symm
theorem Ek (g:av) (hg:g.Ok) (hs:g.au.length+g.aC.length≤1000):aE Tryz.prog 38 [.agg (ao g)] (gb (mK g)):=aE.val (fk g) (Gc g hg hs)
theorem AJ (g:av):∀ (l:List aT) (next:Int),jd g l next=eH g l (next - 1)
  | [],next=>by
    simp only[jd,eH]
    rw[Bool.eq_iff_iff]; simp
  | r :: l,next=>by
    simp only[jd,eH,AJ g l]
    have e1:(if r.left+1 > next then r.left+1 else next) - 1=if r.left > next - 1 then r.left else next - 1:=by
      split <;> split <;> omega
    have e2:next - 1+1=next:=by omega
    rw[e1,e2]
theorem ub (s:ByteArray):∀ (l:List ByteArray) (i:Int),0≤i→(kh s l i < 0∧s ∉ l)∨∃ k:Nat,kh s l i=i+k∧l[k]?=some s∧∀ j < k,l[j]?≠some s
  | [],i,h=>.inl ⟨by simp[kh],by simp⟩
  | x :: l,i,h=>by
    have hx:iD x s=true↔x=s:=by
      unfold iD
      rw[beq_iff_eq]
      constructor
      · intro e; cases x; cases s; simp at e; simp[e]
      · rintro rfl; rfl
    simp only[kh]
    by_cases e:x=s
    · rw[if_pos (hx.2 e)]
      exact .inr ⟨0,by simp,by simp[e],by simp⟩
    · rw[if_neg (fun h=>e (hx.1 h))]
      rcases ub s l (i+1) (by omega) with ⟨h1,h2⟩ | ⟨k,h1,h2,h3⟩
      · exact .inl ⟨h1,by simp[h2,Ne.symm e]⟩
      · refine .inr ⟨k+1,by rw[h1]; push_cast; omega,by simpa using h2,fun j hj=>?_⟩
        cases j with
        | zero=>simp[e]
        | succ j=>simpa using h3 j (by omega)
theorem pj (l:List ByteArray):(∀ (k:Nat) (s:ByteArray),l[k]?=some s→kh s l 0=k)↔l.Nodup:=by
  constructor
  · intro h
    rw[List.nodup_iff_pairwise_ne,List.pairwise_iff_getElem]
    intro i j hi hj hij e
    have h1:=h i l[i] (by simp[hi])
    have h2:=h j l[j] (by simp[hj])
    rw[e] at h1
    omega
  · intro hn k s hk
    rcases ub s l 0 (by omega) with ⟨_,h2⟩ | ⟨j,h1,h2,h3⟩
    · exact absurd (List.mem_of_getElem? hk) h2
    · have hj:j < l.length:=by
        rcases Nat.lt_or_ge j l.length with h | h
        · exact h
        · simp[List.getElem?_eq_none h] at h2
      have hk':k < l.length:=by
        rcases Nat.lt_or_ge k l.length with h | h
        · exact h
        · simp[List.getElem?_eq_none h] at hk
      have:j=k:=(List.getElem_inj hn).1 (by
        rw[List.getElem?_eq_getElem hj] at h2; rw[List.getElem?_eq_getElem hk'] at hk
        simp at h2 hk; rw[h2,hk])
      rw[h1,this]; simp
theorem bytes_inj {a b:ByteArray} : a.data.toList=b.data.toList↔a=b:=by
  constructor
  · intro h; cases a; cases b; simp at h; simp[h]
  · rintro rfl; rfl
theorem EN {l:List ByteArray} : (names l).Nodup↔l.Nodup:=by
  unfold names
  rw[List.nodup_iff_pairwise_ne,List.pairwise_map,List.nodup_iff_pairwise_ne]
  constructor
  · exact fun h=>h.imp fun h e=>h (bytes_inj.2 e)
  · exact fun h=>h.imp fun h e=>h (bytes_inj.1 e)
end Gv
set_option linter.unusedSimpArgs false
namespace Gv
open Go Go.Proofs
theorem mJ {α:Type} [BEq α] [LawfulBEq α]:∀ (l m:List α),l.Nodup→(∀ x∈l,x∈m)→l.length≤m.length
  | [],m,_,_=>by simp
  | x :: l,m,hn,hs=>by
    rw[List.nodup_cons] at hn
    have hx:x∈m:=hs x (by simp)
    have:=mJ l (m.erase x) hn.2 (fun y hy=>by
      have hne:y≠x:=by rintro rfl; exact hn.1 hy
      exact (List.mem_erase_of_ne hne).2 (hs y (by simp[hy])))
    rw[List.length_erase_of_mem hx] at this
    have:0 < m.length:=List.length_pos_of_mem hx
    simp only[List.length_cons]
    omega
def jg (n:Nat):List Int:=(List.range n).map fun (k:Nat)=>(k:Int)+1
theorem rI {n:Nat} {x:Int} : x∈jg n↔1≤x∧x≤n:=by
  simp only[jg,List.mem_map,List.mem_range]
  constructor
  · rintro ⟨k,hk,rfl⟩; omega
  · rintro ⟨h1,h2⟩; exact ⟨(x - 1).toNat,by omega,by omega⟩
theorem A9 (n:Nat):(jg n).Nodup:=by
  rw[jg,List.nodup_iff_pairwise_ne,List.pairwise_map]
  exact (List.nodup_range (n:=n)).imp fun h e=>h (by omega)
theorem Is {l:List Int} {n:Nat} (hn:l.Nodup) (hs:∀ x∈l,1≤x∧x≤n) (hl:l.length=n) {x:Int} (h1:1≤x) (h2:x≤n):x∈l:=by
  refine Classical.byContradiction fun hx=>?_
  have:=mJ (x :: l) (jg n) (List.nodup_cons.2 ⟨hx,hn⟩) (fun y hy=>by
    rw[rI]
    rcases List.mem_cons.1 hy with rfl | hy
    · exact ⟨h1,h2⟩
    · exact hs y hy)
  simp[jg] at this
  omega
theorem rS (n:Int):∀ (l:List Term) (w:Int),w≠0→fQ n l w=if (∀ t∈l,t.level=n→t.assoc=w) then some w else none
  | [],w,_=>by simp[fQ]
  | t :: r,w,hw=>by
    simp only[fQ]
    by_cases ht:t.level=n
    · rw[if_pos ht]
      by_cases ha:w=t.assoc
      · rw[if_neg (by simp[ha]),← ha,rS n r w hw]
        congr 1
        simp[ht,ha]
      · rw[if_pos ⟨hw,ha⟩,if_neg (fun h=>ha (h t (by simp) ht).symm)]
    · rw[if_neg ht,rS n r w hw]
      congr 1
      simp[ht]
theorem wz (n:Int):∀ (l:List Term),(∀ t∈l,t.level=n→t.assoc≠0)→(eD l n=true↔∃ a,(∃ t∈l,t.level=n)∧∀ t∈l,t.level=n→t.assoc=a)
  | [],_=>by simp[eD,fQ]
  | t :: r,h=>by
    by_cases ht:t.level=n
    · have ha:=h t (by simp) ht
      have e:eD (t :: r) n=match (if (∀ u∈r,u.level=n→u.assoc=t.assoc) then some t.assoc else none) with | some w=>w != 0 | none=>false:=by
        simp only[eD,fQ]
        rw[if_pos ht,if_neg (by simp),rS n r _ ha]
        rfl
      rw[e]
      by_cases hr:∀ u∈r,u.level=n→u.assoc=t.assoc
      · rw[if_pos hr]
        simp only[bne_iff_ne,ne_eq,ha,not_false_eq_true,true_iff]
        refine ⟨t.assoc,⟨t,by simp,ht⟩,fun u hu hl=>?_⟩
        rcases List.mem_cons.1 hu with rfl | hu
        · rfl
        · exact hr u hu hl
      · rw[if_neg hr]
        simp only[Bool.false_eq_true,false_iff]
        rintro ⟨a,_,h2⟩
        exact hr fun u hu hl=>(h2 u (by simp[hu]) hl).trans (h2 t (by simp) ht).symm
    · have ih:=wz n r (fun u hu=>h u (by simp[hu]))
      have e:eD (t :: r) n=eD r n:=by
        simp only[eD,fQ,if_neg ht]
      rw[e,ih]
      constructor
      · rintro ⟨a,⟨u,hu,hl⟩,h2⟩
        refine ⟨a,⟨u,by simp[hu],hl⟩,fun v hv hl=>?_⟩
        rcases List.mem_cons.1 hv with rfl | hv
        · exact absurd hl ht
        · exact h2 v hv hl
      · rintro ⟨a,⟨u,hu,hl⟩,h2⟩
        rcases List.mem_cons.1 hu with rfl | hu
        · exact absurd hl ht
        · exact ⟨a,⟨u,hu,hl⟩,fun v hv=>h2 v (by simp[hv])⟩
def q0 (l:List Term):Prop:=∀ t∈l,∀ u∈l,t.level=u.level→t.level≠0→t.assoc=u.assoc
theorem Bi {κ β:Type} [BEq κ] [LawfulBEq κ] {k:κ} {v:β} : ∀ {a:List (κ × β)},(a.map (·.1)).Nodup→((gF k v a).map (·.1)).Nodup∧∀ x,x∈(gF k v a).map (·.1)↔x=k∨x∈a.map (·.1)
  | [],_=>by simp[gF]
  | y :: a,h=>by
    simp only[List.map_cons,List.nodup_cons] at h
    obtain ⟨h1,h2⟩:=Bi (k:=k) (v:=v) h.2
    simp only[gF]
    by_cases e:k=y.1
    · simp only[e,beq_self_eq_true,if_true,List.map_cons,List.nodup_cons]
      refine ⟨h,fun x=>by simp[e]⟩
    · have:(k == y.1)=false:=by simp[e]
      rw[this]
      simp only[Bool.false_eq_true,if_false,List.map_cons,List.nodup_cons,List.mem_cons]
      refine ⟨⟨fun hm=>?_,h1⟩,fun x=>?_⟩
      · rcases (h2 _).1 hm with e' | hm
        · exact e e'.symm
        · exact h.1 hm
      · rw[h2]
        constructor
        · rintro (h | h | h) <;> simp[h]
        · rintro (h | h | h) <;> simp[h]
theorem tX:∀ (l:List Term) (a:List (Int × Int)) (top:Int),(∀ t∈l,t.level≠0→t.assoc≠0)→(∀ n v,c3 a n=some v→v≠0)→(a.map (·.1)).Nodup →
    match jN l a top with
    | some (a',top')=>q0 l∧(∀ t∈l,∀ v,t.level≠0→c3 a t.level=some v→t.assoc=v)∧(a'.map (·.1)).Nodup∧(∀ n,n∈a'.map (·.1)↔n∈a.map (·.1)∨(n≠0∧∃ t∈l,t.level=n)) ∧
        top≤top'∧(∀ t∈l,t.level≠0→t.level≤top')∧(top'=top∨∃ t∈l,t.level=top'∧t.level≠0)
    | none=>¬ (q0 l∧∀ t∈l,∀ v,t.level≠0→c3 a t.level=some v→t.assoc=v)
  | [],a,top,_,_,hn=>by
    simp only[jN]
    exact ⟨fun t ht=>by simp at ht,fun t ht=>by simp at ht,hn,fun n=>by simp,by omega,fun t ht=>by simp at ht,by simp⟩
  | t :: r,a,top,h0,hv,hn=>by
    have h0r:∀ u∈r,u.level≠0→u.assoc≠0:=fun u hu=>h0 u (by simp[hu])
    simp only[jN]
    by_cases ht:t.level=0
    · rw[if_pos ht]
      have ih:=tX r a top h0r hv hn
      have one:q0 (t :: r)↔q0 r:=by
        constructor
        · exact fun h u hu w hw=>h u (by simp[hu]) w (by simp[hw])
        · intro h u hu w hw e hz
          rcases List.mem_cons.1 hu with rfl | hu
          · exact absurd ht hz
          · rcases List.mem_cons.1 hw with rfl | hw
            · exact absurd (e.trans ht) hz
            · exact h u hu w hw e hz
      have con:(∀ u∈t :: r,∀ v,u.level≠0→c3 a u.level=some v→u.assoc=v)↔∀ u∈r,∀ v,u.level≠0→c3 a u.level=some v→u.assoc=v:=by
        simp[ht]
      have mem:∀ n,(n≠0∧∃ u∈t :: r,u.level=n)↔(n≠0∧∃ u∈r,u.level=n):=fun n=>by
        constructor
        · rintro ⟨h1,u,hu,rfl⟩
          rcases List.mem_cons.1 hu with rfl | hu
          · exact absurd ht h1
          · exact ⟨h1,u,hu,rfl⟩
        · rintro ⟨h1,u,hu,rfl⟩; exact ⟨h1,u,by simp[hu],rfl⟩
      cases hs:jN r a top with
      | none=>rw[hs] at ih; rw[one,con]; exact ih
      | some x =>
        obtain ⟨a',top'⟩:=x
        rw[hs] at ih
        obtain ⟨i1,i2,i3,i4,i5,i6,i7⟩:=ih
        refine ⟨one.2 i1,con.2 i2,i3,fun n=>by rw[i4,mem],i5,?_,?_⟩
        · intro u hu hz
          rcases List.mem_cons.1 hu with rfl | hu
          · exact absurd ht hz
          · exact i6 u hu hz
        · rcases i7 with h | ⟨u,hu,h⟩
          · exact .inl h
          · exact .inr ⟨u,by simp[hu],h⟩
    · rw[if_neg ht]
      have ha:=h0 t (by simp) ht
      by_cases hc:(c3 a t.level).getD 0≠0∧(c3 a t.level).getD 0≠t.assoc
      · rw[if_pos hc]
        simp only
        rintro ⟨_,h2⟩
        cases hp:c3 a t.level with
        | none=>simp[hp] at hc
        | some v =>
          have:=h2 t (by simp) v ht hp
          simp[hp] at hc
          exact hc.2 this.symm
      · rw[if_neg hc]
        have hcon:∀ v,c3 a t.level=some v→t.assoc=v:=fun v hp=>by
          have:=hv _ _ hp
          simp[hp] at hc
          exact (hc this).symm
        have hput:∀ n,c3 (gF t.level t.assoc a) n=if n=t.level then some t.assoc else c3 a n:=fun n=>by
          rw[Az]; simp
        have hk:=Bi (k:=t.level) (v:=t.assoc) hn
        have ih:=tX r (gF t.level t.assoc a) (if t.level > top then t.level else top) h0r (fun n v hp=>by
          rw[hput] at hp
          split at hp
          · simp at hp; rw[← hp]; exact ha
          · exact hv n v hp) hk.1
        have both:(q0 (t :: r)∧∀ u∈t :: r,∀ v,u.level≠0→c3 a u.level=some v→u.assoc=v)↔(q0 r∧∀ u∈r,∀ v,u.level≠0→c3 (gF t.level t.assoc a) u.level=some v→u.assoc=v):=by
          constructor
          · rintro ⟨h1,h2⟩
            refine ⟨fun u hu w hw=>h1 u (by simp[hu]) w (by simp[hw]),fun u hu v hz hp=>?_⟩
            rw[hput] at hp
            split at hp
            · rename_i e
              simp at hp; rw[← hp]
              exact h1 u (by simp[hu]) t (by simp) e hz
            · exact h2 u (by simp[hu]) v hz hp
          · rintro ⟨h1,h2⟩
            have h3:∀ u∈r,u.level=t.level→u.assoc=t.assoc:=fun u hu e=>h2 u hu t.assoc (by rw[e]; exact ht) (by rw[hput,if_pos e])
            refine ⟨fun u hu w hw e hz=>?_,fun u hu v hz hp=>?_⟩
            · rcases List.mem_cons.1 hu with e1 | hu2
              · rcases List.mem_cons.1 hw with e2 | hw2
                · rw[e1,e2]
                · rw[e1] at e ⊢
                  exact (h3 w hw2 e.symm).symm
              · rcases List.mem_cons.1 hw with e2 | hw2
                · rw[e2] at e ⊢
                  exact h3 u hu2 e
                · exact h1 u hu2 w hw2 e hz
            · rcases List.mem_cons.1 hu with rfl | hu
              · exact hcon v hp
              · by_cases e:u.level=t.level
                · rw[h3 u hu e]; exact hcon v (by rw[← e]; exact hp)
                · exact h2 u hu v hz (by rw[hput,if_neg e]; exact hp)
        have htop:top≤(if t.level > top then t.level else top)∧t.level≤(if t.level > top then t.level else top):=by split <;> omega
        cases hs:jN r (gF t.level t.assoc a) (if t.level > top then t.level else top) with
        | none=>rw[hs] at ih; simp only; rw[both]; exact ih
        | some x =>
          obtain ⟨a',top'⟩:=x
          rw[hs] at ih
          obtain ⟨i1,i2,i3,i4,i5,i6,i7⟩:=ih
          obtain ⟨b1,b2⟩:=both.2 ⟨i1,i2⟩
          refine ⟨b1,b2,i3,fun n=>?_,by omega,?_,?_⟩
          · rw[i4,hk.2]
            constructor
            · rintro ((rfl | h) | ⟨h1,u,hu,h⟩)
              · exact .inr ⟨ht,t,by simp,rfl⟩
              · exact .inl h
              · exact .inr ⟨h1,u,by simp[hu],h⟩
            · rintro (h | ⟨h1,u,hu,h⟩)
              · exact .inl (.inr h)
              · rcases List.mem_cons.1 hu with rfl | hu
                · exact .inl (.inl h.symm)
                · exact .inr ⟨h1,u,hu,h⟩
          · intro u hu hz
            rcases List.mem_cons.1 hu with rfl | hu
            · omega
            · exact i6 u hu hz
          · rcases i7 with h | ⟨u,hu,h⟩
            · by_cases e:t.level > top
              · rw[if_pos e] at h; exact .inr ⟨t,by simp,h.symm,ht⟩
              · rw[if_neg e] at h; exact .inl h
            · exact .inr ⟨u,by simp[hu],h⟩
theorem xB (l:List Term) (h:∀ t∈l,iE t=true):om l=true↔∀ t∈l,∀ n:Int,1≤n→n≤t.level→eD l n=true:=by
  have hb:∀ t∈l,0≤t.level∧(t.level≠0→t.assoc≠0):=fun t ht=>by
    have:=h t ht
    simp only[iE,Bool.and_eq_true,decide_eq_true_eq,beq_iff_eq] at this
    refine ⟨this.1.1.1.1.2,fun h1 h2=>?_⟩
    have e:=this.2
    simp[h1,h2] at e
  have hs:=tX l [] 0 (fun t ht=>(hb t ht).2) (by simp[c3]) (by simp)
  have hL:∀ n:Int,1≤n→(eD l n=true↔∃ a,(∃ t∈l,t.level=n)∧∀ t∈l,t.level=n→t.assoc=a):=fun n hn=>wz n l (fun t ht e=>(hb t ht).2 (by omega))
  unfold om
  cases hx:jN l [] 0 with
  | none =>
    rw[hx] at hs
    simp only[Bool.false_eq_true,false_iff]
    intro hall
    refine hs ⟨fun t ht u hu e hz=>?_,fun t ht v _ hp=>by simp[c3] at hp⟩
    have h1:=hb t ht
    obtain ⟨a,_,h2⟩:=(hL t.level (by omega)).1 (hall t ht t.level (by omega) (by omega))
    exact (h2 t ht rfl).trans (h2 u hu e.symm).symm
  | some x =>
    obtain ⟨a,top⟩:=x
    rw[hx] at hs
    obtain ⟨i1,_,i3,i4,i5,i6,i7⟩:=hs
    simp only[beq_iff_eq]
    have hmem:∀ n,n∈a.map (·.1)↔n≠0∧∃ t∈l,t.level=n:=fun n=>by rw[i4]; simp
    have hin:∀ x∈a.map (·.1),1≤x∧x≤(top.toNat:Int):=fun x hx=>by
      obtain ⟨h1,t,ht,rfl⟩:=(hmem x).1 hx
      have:=(hb t ht).1
      have:=i6 t ht h1
      omega
    constructor
    · intro hlen t ht n hn1 hn2
      have htop:t.level≤top:=i6 t ht (by omega)
      have hm:=Is i3 hin (by simp; omega) hn1 (show n≤(top.toNat:Int) by omega)
      obtain ⟨hz,u,hu,rfl⟩:=(hmem n).1 hm
      exact (hL _ hn1).2 ⟨u.assoc,⟨u,hu,rfl⟩,fun w hw e=>i1 w hw u hu e (by omega)⟩
    · intro hall
      have h1:a.length≤top.toNat:=by
        have:=mJ _ (jg top.toNat) i3 (fun x hx=>rI.2 (hin x hx))
        simpa [jg] using this
      have h2:top.toNat≤a.length:=by
        rcases i7 with e | ⟨t,ht,e,hz⟩
        · subst e; simp
        · have:=mJ (jg top.toNat) (a.map (·.1)) (A9 _) (fun x hx=>by
            rw[rI] at hx
            have:=(hb t ht).1
            obtain ⟨_,⟨u,hu,hl⟩,_⟩:=(hL x hx.1).1 (hall t ht x hx.1 (by omega))
            exact (hmem x).2 ⟨by omega,u,hu,hl⟩)
          simpa [jg] using this
      omega
end Gv
set_option linter.unusedSimpArgs false
namespace Gv
open Go Go.Proofs
theorem xG (g:av):∀ (l:List Term) (i:Int),gq g l i=true↔∀ (k:Nat) (t:Term),l[k]?=some t→gR g (i+k) t=true
  | [],i=>by simp[gq]
  | t :: r,i=>by
    simp only[gq,Bool.and_eq_true,xG g r (i+1)]
    constructor
    · rintro ⟨h1,h2⟩ k u hk
      cases k with
      | zero=>simp at hk; subst hk; simpa using h1
      | succ k =>
        have:=h2 k u (by simpa using hk)
        rw[show i+((k+1:Nat):Int)=i+1+k by push_cast; omega]; exact this
    · intro h
      refine ⟨by simpa using h 0 t rfl,fun k u hk=>?_⟩
      have:=h (k+1) u (by simpa using hk)
      rw[show i+1+(k:Int)=i+((k+1:Nat):Int) by push_cast; omega]; exact this
theorem pG (g:av):∀ (l:List ByteArray) (i:Int),nU g l i=true↔∀ (k:Nat) (s:ByteArray),l[k]?=some s→iU g (i+k) s=true
  | [],i=>by simp[nU]
  | t :: r,i=>by
    simp only[nU,Bool.and_eq_true,pG g r (i+1)]
    constructor
    · rintro ⟨h1,h2⟩ k u hk
      cases k with
      | zero=>simp at hk; subst hk; simpa using h1
      | succ k =>
        have:=h2 k u (by simpa using hk)
        rw[show i+((k+1:Nat):Int)=i+1+k by push_cast; omega]; exact this
    · intro h
      refine ⟨by simpa using h 0 t rfl,fun k u hk=>?_⟩
      have:=h (k+1) u (by simpa using hk)
      rw[show i+1+(k:Int)=i+((k+1:Nat):Int) by push_cast; omega]; exact this
theorem zt (g:av) (s:ByteArray):ju g s < 0↔s ∉ g.aC.map Term.name:=by
  unfold ju
  rcases ub s (g.aC.map Term.name) 0 (by omega) with ⟨h1,h2⟩ | ⟨k,h1,h2,_⟩
  · exact ⟨fun _=>h2,fun _=>h1⟩
  · constructor
    · intro h; omega
    · intro h; exact absurd (List.mem_of_getElem? h2) h
theorem zh (g:av) (t:Term):nS g t=true↔∀ n:Int,1≤n→n≤t.level→eD g.aC n=true:=by
  simp only[nS,List.all_eq_true,List.mem_range]
  constructor
  · intro h n h1 h2
    have:=h (n - 1).toNat (by omega)
    rwa [show (((n - 1).toNat:Nat):Int)+1=n by omega] at this
  · intro h k hk
    exact h _ (by omega) (by omega)
theorem DD (g:av):mK g=aR g:=by
  rw[Bool.eq_iff_iff]
  simp only[mK,aR,gA,ik,oU,Bool.and_eq_true,decide_eq_true_eq,xG,pG,AJ,List.all_eq_true,Bool.not_eq_true',List.any_eq_false,Bool.not_eq_true,EN,ow,List.nodup_append,Int.zero_add,Int.zero_sub,Bool.not_not]
  have hT:(∀ (k:Nat) (t:Term),g.aC[k]?=some t→gR g k t=true)↔(∀ t∈g.aC,iE t=true)∧(g.aC.map Term.name).Nodup∧(∀ t∈g.aC,nS g t=true):=by
    rw[← pj]
    constructor
    · intro h
      have h':∀ t∈g.aC,∃ k:Nat,g.aC[k]?=some t:=fun t ht=>List.getElem?_of_mem ht
      refine ⟨fun t ht=>?_,fun k s hk=>?_,fun t ht=>?_⟩
      · obtain ⟨k,hk⟩:=h' t ht
        have:=h k t hk
        simp only[gR,iE,Bool.and_eq_true,decide_eq_true_eq] at this ⊢
        simp[this]
      · rw[List.getElem?_map,Option.map_eq_some_iff] at hk
        obtain ⟨t,hk,rfl⟩:=hk
        have:=h k t hk
        simp only[gR,Bool.and_eq_true,beq_iff_eq] at this
        exact this.1.1.1.1.1.1.2
      · obtain ⟨k,hk⟩:=h' t ht
        have:=h k t hk
        simp only[gR,Bool.and_eq_true] at this
        exact this.2
    · rintro ⟨h1,h2,h3⟩ k t hk
      have hm:=List.mem_of_getElem? hk
      have a:=h1 t hm
      have b:=h2 k t.name (by rw[List.getElem?_map,hk]; rfl)
      have c:=h3 t hm
      simp only[gR,iE,ju,Bool.and_eq_true,decide_eq_true_eq] at a ⊢
      simp[a,b,c]
  have hN:(∀ (k:Nat) (s:ByteArray),g.au[k]?=some s→iU g k s=true)↔(∀ s∈g.au,dZ (dF s)=true)∧g.au.Nodup∧(∀ s∈g.au,s ∉ g.aC.map Term.name):=by
    rw[← pj]
    constructor
    · intro h
      have h':∀ t∈g.au,∃ k:Nat,g.au[k]?=some t:=fun t ht=>List.getElem?_of_mem ht
      refine ⟨fun t ht=>?_,fun k s hk=>?_,fun t ht=>?_⟩
      · obtain ⟨k,hk⟩:=h' t ht
        have:=h k t hk
        simp only[iU,Bool.and_eq_true] at this
        exact this.1.1
      · have:=h k s hk
        simp only[iU,tC,Bool.and_eq_true,beq_iff_eq] at this
        exact this.1.2
      · obtain ⟨k,hk⟩:=h' t ht
        have:=h k t hk
        simp only[iU,Bool.and_eq_true,decide_eq_true_eq] at this
        exact (zt g t).1 this.2
    · rintro ⟨h1,h2,h3⟩ k s hk
      have hm:=List.mem_of_getElem? hk
      have a:=h1 s hm
      have b:=h2 k s hk
      have c:=(zt g s).2 (h3 s hm)
      simp[iU,tC,a,b,c]
  rw[hT,hN]
  constructor
  · rintro ⟨⟨⟨⟨⟨⟨⟨⟨t1,t2⟩,t3⟩,n1,n2⟩,r1,r2⟩,a1,a2,a3⟩,s1,s2⟩,n3⟩,ru⟩
    have hl:=(xB g.aC t1).1 t3
    exact ⟨⟨⟨⟨⟨⟨⟨t2,t1,a2,fun t ht=>(zh g t).2 (hl t ht)⟩,⟨by omega,by omega⟩,fun s hs=>by simpa using n3 s hs,a1,fun s hs hm=>a3 s hs s hm rfl⟩,by omega⟩,by omega⟩,s1⟩,by omega⟩,ru⟩
  · rintro ⟨⟨⟨⟨⟨⟨⟨t2,t1,a2,t3⟩,⟨n1,n2⟩,n3,a1,a3⟩,r1⟩,r2⟩,s1⟩,s2⟩,ru⟩
    have hl:=(xB g.aC t1).2 (fun t ht=>(zh g t).1 (t3 t ht))
    exact ⟨⟨⟨⟨⟨⟨⟨⟨t1,t2⟩,hl⟩,by omega,by omega⟩,by omega,by omega⟩,a1,a2,fun s hs u hu e=>a3 s hs (e ▸ hu)⟩,s1,by omega⟩,fun s hs=>by simp[n3 s hs]⟩,ru⟩
theorem jV (g:av) (hg:g.Ok) (hs:g.au.length+g.aC.length≤1000):aE Tryz.prog 38 [.agg (ao g)] (gb (aR g)):=by
  rw[← DD]; exact Ek g hg hs
end Gv
set_option linter.unusedSimpArgs false
set_option maxRecDepth 100000
namespace Gv
open Go Go.Proofs
def wD (n:Nat) (r:aT):Prop:=bF r.left∧0≤r.left∧r.left < n∧r.right.length≤6∧∀ s∈r.right,bF s∧(s < 0→-1 - s < n)
theorem av.oO.oF {g:av} (hg:g.Ok) (h:g.oO) {r:aT} (hr:r∈g.rules):wD g.au.length r :=
  ⟨(hg.bj r hr).1,(h.left r hr).1,(h.left r hr).2,h.right r hr,fun s hs=>⟨(hg.bj r hr).2.2.2 s hs,fun hn=>h.neg hr hs hn⟩⟩
def sK:SF:=⟨.seq (al [aU 2 false]) <|
  .seq (al [aa 3 0,ay 4 .geq 3 0,aa 2 4]) <|
  .ret,
  [.tmp 2],5⟩
theorem vP:aX Tryz.prog 141 []=some sK:=by kernel_rfl
def ve:SF:=⟨.seq (al [cE 1 0,aU 2 false]) <|
  .seq (al [ar 3 1 1,an 4 3,cG 5 39 [(.tmp 4),(.val (.fn 141 [] []))],bL 6 5,aa 2 6]) <|
  .ret,
  [.tmp 2],7⟩
theorem yn:aX Tryz.prog 99 [1]=some ve:=by kernel_rfl
def pn:SF:=⟨.seq (al [aU 3 false]) <|
  .seq (.region false [⟨none,[aa 4 0,ay 5 .lss 4 0,aa 6 5]⟩,⟨(some (6,true)),[an 7 1,aa 8 0,((some 9),.op (.arith .sub (.val (.val (.int .i64 (-1)))) (.tmp 8))),aN 10 1 7 9,an 11 10,bL 12 11]⟩,⟨none,[br 13 6 12,aa 3 13]⟩]) <|
  .ret,
  [.tmp 3],14⟩
theorem tP:aX Tryz.prog 119 []=some pn:=by kernel_rfl
def sF:SF:=⟨.seq (al [cE 2 0,cE 3 1,aU 4 false]) <|
  .seq (al [ar 5 1 2,an 6 5,((some 7),.op (.oL 119 [] [(.tmp 3)])),aG 8 39 [6,7],bL 9 8,aa 4 9]) <|
  .ret,
  [.tmp 4],10⟩
theorem v7:aX Tryz.prog 75 [2,3]=some sF:=by kernel_rfl
def nA:SF:=⟨.seq (al [cE 2 0,((some 4),.op (.bu (.val (.emp 1))))]) <|
  .seq (.seq (.region false [⟨none,[aM 5 3 2,aG 6 99 [5],aa 7 6]⟩,⟨(some (7,true)),[aM 8 3 2,aa 9 1,aG 10 75 [8,9]]⟩,⟨none,[br 11 7 10]⟩]) <|
  .cond (.tmp 11) (.seq (al [ar 12 0 2,an 13 12,((some 14),.op (.bH 1 1 [(.val (.int .i64 0))] [(0,(.tmp 13))])),aa 4 14]) <|
  .ret) (.skip)) <|
  .seq (al [((some 4),.op (.bu (.val (.emp 1))))]) <|
  .ret,
  [.tmp 4],15⟩
theorem rU:aX Tryz.prog 98 [2]=some nA:=by kernel_rfl
def k9:SF:=⟨.seq (al [cE 2 0,((some 4),.op (.bu (.val (.emp 1))))]) <|
  .seq (.seq (al [aM 5 3 2,aa 6 1,aG 7 75 [5,6]]) <|
  .cond (.tmp 7) (.seq (al [ar 8 0 2,an 9 8,((some 10),.op (.bH 1 1 [(.val (.int .i64 0))] [(0,(.tmp 9))])),aa 4 10]) <|
  .ret) (.skip)) <|
  .seq (al [((some 4),.op (.bu (.val (.emp 1))))]) <|
  .ret,
  [.tmp 4],11⟩
theorem pW:aX Tryz.prog 117 [2]=some k9:=by kernel_rfl
def kb:SC :=
  .seq (al [bb 24 .lss 23 22]) <|
  .seq (.cond (.tmp 24) (.skip) (.exit 0)) <|
  .seq (.block 1 (.seq (al [aN 25 1 21 23,an 26 25,aa 7 26]) <|
  .seq (al [aa 27 7,ay 28 .lss 27 0]) <|
  .cond (.tmp 28) (al [aa 29 5,aa 30 7,((some 31),.op (.arith .sub (.val (.val (.int .i64 (-1)))) (.tmp 30))),((some 32),.op (.bH 1 1 [(.val (.int .i64 0))] [(0,(.tmp 31))])),((some 33),.op (.app 1 8 (.tmp 29) (.tmp 32))),aa 5 33]) (.skip))) <|
  al [ay 34 .add 23 1,aa 23 34]
def mD:SF:=⟨.seq (al [cE 3 0,((some 5),.op (.bu (.val (.emp 1))))]) <|
  .seq (.seq (.region false [⟨none,[aa 8 1,ar 9 0 3,an 10 9,aN 11 1 8 10,an 12 11,bL 13 12,aa 14 13]⟩,⟨(some (14,false)),[aM 15 3 3,an 16 2,aG 17 75 [15,16],bL 18 17]⟩,⟨none,[bt 19 14 18]⟩]) <|
  .cond (.tmp 19) (.seq (al [((some 5),.op (.bu (.val (.emp 1))))]) <|
  .ret) (.skip)) <|
  .seq (.seq (al [ar 20 1 3,an 21 20,aL 22 21,aH 23 0]) <|
  .block 0 (.loop kb)) <|
  .seq (al [aa 35 5,aa 5 35]) <|
  .ret,
  [.tmp 5],36⟩
theorem qz:aX Tryz.prog 118 [3]=some mD:=by kernel_rfl
theorem Fw (r:aT):∀ v∈[V.agg (aJ r)],Tree v:=by intro v hv; simp at hv; subst hv; exact bV _ (fU r)
theorem v8 (r:aT) (is:List Bool):∀ v∈[V.agg (aJ r),bk is],Tree v:=by
  intro v hv; simp at hv
  rcases hv with rfl | rfl
  · exact bV _ (fU r)
  · exact eQ is
theorem G1 (x:Int):aE Tryz.prog 141 [gi x] (gb (decide (0≤x))):=by
  refine aE.val (tw (l:=[.int .i64 x])) fun H=>?_
  refine aD.of mixed vP ?_
  simp (disch:=omega) only [↓wr,↓reduceIte,wq,ai,ah,ak,ae,af,ag,aj,isNil,Nat.reduceEqDiff,Nat.reduceAdd,Nat.reduceLT,Nat.reduceLeDiff,Int.reduceNeg,Int.reduceToNat,reduceCtorEq,sK]
theorem Iq (r:aT) (hr:aP r.right):aE Tryz.prog 99 [.agg (aJ r)] (gb (!r.right.any fun s=>decide (0≤s))):=by
  refine aE.val (Fw r) fun H=>?_
  refine aD.of mixed yn ?_
  simp (disch:=omega) only [↓wr,↓reduceIte,wq,ai,ah,ak,ae,af,ag,aj,isNil,Nat.reduceEqDiff,Nat.reduceAdd,Nat.reduceLT,Nat.reduceLeDiff,Int.reduceNeg,Int.reduceToNat,reduceCtorEq,ve,aJ,encI]
  refine az.pure (ff r.right hr 141 [] (by simp) (fun s=>decide (0≤s)) (fun x _=>G1 x) (by kernel_rfl)) (by kernel_rfl) ?_
  simp (disch:=omega) only [↓wr,↓reduceIte,wq,ai,ah,ak,ae,af,ag,aj,isNil,Nat.reduceEqDiff,Nat.reduceAdd,Nat.reduceLT,Nat.reduceLeDiff,Int.reduceNeg,Int.reduceToNat,reduceCtorEq]
def yr (is:List Bool) (s:Int):Bool:=decide (s < 0) && !is.getD (-1 - s).toNat false
theorem DV (is:List Bool) (s:Int) (hs:bF s∧(s < 0→-1 - s < is.length)):aE Tryz.prog 119 [gi s,.aK [bk is] 0] (gb (yr is s)):=by
  refine aE.val ?_ fun H=>?_
  · intro v hv; simp at hv
    rcases hv with rfl | rfl
    · exact .val _
    · exact en (by intro v hv; simp at hv; subst hv; exact eQ is)
  obtain ⟨⟨h1,h2⟩,h3⟩:=hs
  refine aD.of mixed tP ?_
  simp (disch:=omega) only [↓wr,↓reduceIte,wq,ai,ah,ak,ae,af,ag,aj,isNil,Nat.reduceEqDiff,Nat.reduceAdd,Nat.reduceLT,Nat.reduceLeDiff,Int.reduceNeg,Int.reduceToNat,reduceCtorEq,pn,bk]
  refine aq.dec (fun h=>?_) (fun h=>?_)
  · have hb:is[(-1 - s).toNat]?=some (is[(-1 - s).toNat]'(by omega)):=List.getElem?_eq_getElem (by omega)
    have hbd:is.getD (-1 - s).toNat false=is[(-1 - s).toNat]'(by omega):=by simp[List.getD_eq_getElem?_getD,hb]
    generalize is[(-1 - s).toNat]'(by omega)=b at hb hbd
    simp (disch:=omega) only [↓wr,↓reduceIte,wq,ai,ah,ak,ae,af,ag,aj,isNil,Nat.reduceEqDiff,Nat.reduceAdd,Nat.reduceLT,Nat.reduceLeDiff,Int.reduceNeg,Int.reduceToNat,reduceCtorEq,List.getElem?_map,hb]
    simp only[yr,hbd,h,decide_true,Bool.true_and]
  · simp (disch:=omega) only [↓wr,↓reduceIte,wq,ai,ah,ak,ae,af,ag,aj,isNil,Nat.reduceEqDiff,Nat.reduceAdd,Nat.reduceLT,Nat.reduceLeDiff,Int.reduceNeg,Int.reduceToNat,reduceCtorEq]
    simp[yr,h]
theorem DT {is:List Bool} {l:List Int} : (!l.any (yr is))=cg l is true:=by
  simp only[cg,List.not_any_eq_all_not]
  congr 1
  funext s
  simp only[yr]
  by_cases h:0≤s
  · simp[h,show ¬ s < 0 by omega]
  · simp[h,show s < 0 by omega]
theorem pH (r:aT) (is:List Bool) (hr:aP r.right) (hs:∀ s∈r.right,bF s∧(s < 0→-1 - s < is.length)):aE Tryz.prog 75 [.agg (aJ r),bk is] (gb (cg r.right is true)):=by
  rw[← DT]
  refine aE.val (v8 r is) fun H=>?_
  refine aD.of mixed v7 ?_
  simp (disch:=omega) only [↓wr,↓reduceIte,wq,ai,ah,ak,ae,af,ag,aj,isNil,Nat.reduceEqDiff,Nat.reduceAdd,Nat.reduceLT,Nat.reduceLeDiff,Int.reduceNeg,Int.reduceToNat,reduceCtorEq,sF,aJ,bk,encI]
  refine az.pure (ff r.right hr 119 [.aK [bk is] 0] (by
    intro v hv; simp at hv; subst hv
    exact en (by intro v hv; simp at hv; subst hv; exact eQ is)) (yr is) (fun x hx=>DV is x (hs x hx)) (by kernel_rfl)) (by kernel_rfl) ?_
  simp (disch:=omega) only [↓wr,↓reduceIte,wq,ai,ah,ak,ae,af,ag,aj,isNil,Nat.reduceEqDiff,Nat.reduceAdd,Nat.reduceLT,Nat.reduceLeDiff,Int.reduceNeg,Int.reduceToNat,reduceCtorEq]
theorem B2 {is:List Bool} {l:List Int} : ((!l.any fun s=>decide (0≤s)) && cg l is true)=cg l is false:=by
  induction l with
  | nil=>rfl
  | cons s l ih =>
    simp only[cg,List.all_cons,List.any_cons] at ih ⊢
    rw[← ih]
    by_cases h:0≤s
    · simp[h]
    · simp only[h,decide_false,Bool.false_or,if_false]
      cases (l.any fun s=>decide (0≤s)) <;> simp
theorem ou {h:aF} {u:V} {l:List Int} (ho:bp h.view u 1 (l.map fun x=>[gi x])):dW h u (encI l):=dW.Jh (f:=Value.int .i64) ho
theorem BG (r:aT) (is:List Bool) (hr:wD is.length r):cx Tryz.prog 98 [.agg (aJ r),bk is] (encI (if cg r.right is false=true then [r.left] else [])):=by
  obtain ⟨hl,_,_,hr6,hs⟩:=hr
  have hsh:aP r.right:=by unfold aP; omega
  refine cx.of (v8 r is) ?_
  refine aD.of mixed rU ?_
  rw[← B2]
  simp (disch:=omega) only [↓wr,↓reduceIte,wq,ai,ah,ak,ae,af,ag,aj,isNil,Nat.reduceEqDiff,Nat.reduceAdd,Nat.reduceLT,Nat.reduceLeDiff,Int.reduceNeg,Int.reduceToNat,reduceCtorEq,nA,aJ,encI]
  refine az.pure (Iq r hsh) (by kernel_rfl) ?_
  repeat' (first | (refine aq.dec (fun _=>?_) (fun _=>?_)) | (refine aq.eq (fun _=>?_) (fun _=>?_)) | (refine aq.ne (fun _=>?_) (fun _=>?_)) | (refine aq.split (fun _=>?_) (fun _=>?_)) | (refine az.pure (pH r is hsh hs) (by kernel_rfl) ?_) | (simp (disch:=omega) only [↓wr,↓reduceIte,wq,ai,ah,ak,ae,af,ag,aj,isNil,Nat.reduceEqDiff,Nat.reduceAdd,Nat.reduceLT,Nat.reduceLeDiff,Int.reduceNeg,Int.reduceToNat,reduceCtorEq,aJ,encI]))
  all_goals first
    | (intro n h' hh; rw[if_pos (by simp[*])]; exact ou (l:=[r.left]) (.inr ⟨n,rfl,by rw[hh]; simp[View.set]⟩))
    | (intro h' hh; rw[if_neg (by simp[*])]; exact .emp _)
theorem yk (r:aT) (is:List Bool) (hr:wD is.length r):cx Tryz.prog 117 [.agg (aJ r),bk is] (encI (if cg r.right is true=true then [r.left] else [])):=by
  obtain ⟨hl,_,_,hr6,hs⟩:=hr
  have hsh:aP r.right:=by unfold aP; omega
  refine cx.of (v8 r is) ?_
  refine aD.of mixed pW ?_
  simp (disch:=omega) only [↓wr,↓reduceIte,wq,ai,ah,ak,ae,af,ag,aj,isNil,Nat.reduceEqDiff,Nat.reduceAdd,Nat.reduceLT,Nat.reduceLeDiff,Int.reduceNeg,Int.reduceToNat,reduceCtorEq,k9,aJ,encI]
  refine az.pure (pH r is hsh hs) (by kernel_rfl) ?_
  repeat' (first | (refine aq.dec (fun _=>?_) (fun _=>?_)) | (refine aq.eq (fun _=>?_) (fun _=>?_)) | (refine aq.ne (fun _=>?_) (fun _=>?_)) | (refine aq.split (fun _=>?_) (fun _=>?_)) | (simp (disch:=omega) only [↓wr,↓reduceIte,wq,ai,ah,ak,ae,af,ag,aj,isNil,Nat.reduceEqDiff,Nat.reduceAdd,Nat.reduceLT,Nat.reduceLeDiff,Int.reduceNeg,Int.reduceToNat,reduceCtorEq,aJ,encI]))
  all_goals first
    | (intro n h' hh; rw[if_pos (by simp[*])]; exact ou (l:=[r.left]) (.inr ⟨n,rfl,by rw[hh]; simp[View.set]⟩))
    | (intro h' hh; rw[if_neg (by simp[*])]; exact .emp _)
def er (l:List Int):List Int:=(l.filter fun s=>decide (s < 0)).map fun s=>-1 - s
theorem Ga (r:aT) (is p:List Bool):∀ v∈[V.agg (aJ r),bk is,.aK [bk p] 0],Tree v:=by
  intro v hv; simp at hv
  rcases hv with rfl | rfl | rfl
  · exact bV _ (fU r)
  · exact eQ is
  · exact en (by intro v hv; simp at hv; subst hv; exact eQ p)
set_option maxHeartbeats 1000000 in
theorem zB (r:aT) (is p:List Bool) (hr:wD is.length r) (hp:p.length=is.length) :
    cx Tryz.prog 118 [.agg (aJ r),bk is,.aK [bk p] 0] (encI (if (is.getD r.left.toNat false && cg r.right p true)=true then er r.right else [])):=by
  obtain ⟨hl,hl0,hl1,hr6,hs⟩:=hr
  have hsh:aP r.right:=by unfold aP; omega
  refine cx.of (Ga r is p) ?_
  refine aD.of mixed qz ?_
  have hb:is[r.left.toNat]?=some (is[r.left.toNat]'(by omega)):=List.getElem?_eq_getElem (by omega)
  have hbd:is.getD r.left.toNat false=is[r.left.toNat]'(by omega):=by simp[List.getD_eq_getElem?_getD,hb]
  generalize is[r.left.toNat]'(by omega)=b at hb hbd
  rw[hbd]
  simp (disch:=omega) only [↓wr,↓reduceIte,wq,ai,ah,ak,ae,af,ag,aj,isNil,Nat.reduceEqDiff,Nat.reduceAdd,Nat.reduceLT,Nat.reduceLeDiff,Int.reduceNeg,Int.reduceToNat,reduceCtorEq,mD,aJ,encI,bk,List.getElem?_map,hb]
  cases b with
  | false =>
    simp (disch:=omega) only [↓wr,↓reduceIte,wq,ai,ah,ak,ae,af,ag,aj,isNil,Nat.reduceEqDiff,Nat.reduceAdd,Nat.reduceLT,Nat.reduceLeDiff,Int.reduceNeg,Int.reduceToNat,reduceCtorEq]
    intro h' hh
    exact .emp _
  | true =>
    simp (disch:=omega) only [↓wr,↓reduceIte,wq,ai,ah,ak,ae,af,ag,aj,isNil,Nat.reduceEqDiff,Nat.reduceAdd,Nat.reduceLT,Nat.reduceLeDiff,Int.reduceNeg,Int.reduceToNat,reduceCtorEq,aJ,encI,bk]
    refine az.pure (pH r p hsh (fun s hs'=>⟨(hs s hs').1,fun h=>by rw[hp]; exact (hs s hs').2 h⟩)) (by kernel_rfl) ?_
    repeat' (first | (refine aq.dec (fun _=>?_) (fun _=>?_)) | (refine aq.eq (fun _=>?_) (fun _=>?_)) | (refine aq.ne (fun _=>?_) (fun _=>?_)) | (refine aq.split (fun _=>?_) (fun _=>?_)) | (simp (disch:=omega) only [↓wr,↓reduceIte,wq,ai,ah,ak,ae,af,ag,aj,isNil,Nat.reduceEqDiff,Nat.reduceAdd,Nat.reduceLT,Nat.reduceLeDiff,Int.reduceNeg,Int.reduceToNat,reduceCtorEq,aJ,encI,bk]))
    · rename_i ha
      rw[if_pos (by simp[ha])]
      refine bo.up r.right.length (fun i T H=>(∃ u,T 5=u∧bp H u 1 ((er (r.right.take i)).map fun x=>[gi x]))∧T 21=encI r.right∧T 22=gi r.right.length∧T 23=gi i) ?_ ?_
      · exact ⟨⟨_,rfl,.nil⟩,rfl,rfl,rfl⟩
      rintro i k T H' hk ⟨⟨u,h5,hu⟩,h21,h22,h23⟩
      simp (disch:=omega) only [↓wr,↓reduceIte,wq,ai,ah,ak,ae,af,ag,aj,isNil,Nat.reduceEqDiff,Nat.reduceAdd,Nat.reduceLT,Nat.reduceLeDiff,Int.reduceNeg,Int.reduceToNat,reduceCtorEq,kb,h5,h21,h22,h23,encI]
      refine aq.dec (fun hc=>?_) (fun hc=>?_)
      · have hg:r.right[i]?=some (r.right[i]'(by omega)):=List.getElem?_eq_getElem (by omega)
        have hm:r.right[i]'(by omega)∈r.right:=List.getElem_mem _
        have htk:er (r.right.take (i+1))=er (r.right.take i) ++ er [r.right[i]'(by omega)]:=by
          rw[List.take_add_one,hg,er,List.filter_append,List.map_append]; rfl
        have hlen:(er (r.right.take i)).length≤6:=by
          have h1:(er (r.right.take i)).length≤(r.right.take i).length:=by simp only[er,List.length_map]; exact List.length_filter_le _ _
          have h2:(r.right.take i).length≤i:=List.length_take_le _ _
          omega
        generalize r.right[i]'(by omega)=s at hg hm htk
        obtain ⟨⟨s1,s2⟩,s3⟩:=hs s hm
        simp (disch:=omega) only [↓wr,↓reduceIte,wq,ai,ah,ak,ae,af,ag,aj,isNil,Nat.reduceEqDiff,Nat.reduceAdd,Nat.reduceLT,Nat.reduceLeDiff,Int.reduceNeg,Int.reduceToNat,reduceCtorEq,h5,h21,h22,h23,encI,List.getElem?_map,hg]
        refine aq.dec (fun hd=>?_) (fun hd=>?_)
        · simp (disch:=omega) only [↓wr,↓reduceIte,wq,ai,ah,ak,ae,af,ag,aj,isNil,Nat.reduceEqDiff,Nat.reduceAdd,Nat.reduceLT,Nat.reduceLeDiff,Int.reduceNeg,Int.reduceToNat,reduceCtorEq,h5,h21,h22,h23]
          intro m hm
          try simp (disch:=omega) only [↓wr,↓reduceIte,wq,ai,ah,ak,ae,af,ag,aj,isNil,Nat.reduceEqDiff,Nat.reduceAdd,Nat.reduceLT,Nat.reduceLeDiff,Int.reduceNeg,Int.reduceToNat,reduceCtorEq,h5,h21,h22,h23,de]
          refine mY (hu.fresh hm) (by simp) (by simp[aS]) (by unfold aI; simp at hlen ⊢; omega) (by unfold aI; simp at hlen ⊢; omega) ?_
          intro u' H2 hu' _
          simp (disch:=omega) only [↓wr,↓reduceIte,wq,ai,ah,ak,ae,af,ag,aj,isNil,Nat.reduceEqDiff,Nat.reduceAdd,Nat.reduceLT,Nat.reduceLeDiff,Int.reduceNeg,Int.reduceToNat,reduceCtorEq,h21,h22,h23]
          refine aV hk (by omega) ⟨⟨u',rfl,?_⟩,h21,h22,rfl⟩
          rw[htk]
          simpa [er,hd] using hu'
        · simp (disch:=omega) only [↓wr,↓reduceIte,wq,ai,ah,ak,ae,af,ag,aj,isNil,Nat.reduceEqDiff,Nat.reduceAdd,Nat.reduceLT,Nat.reduceLeDiff,Int.reduceNeg,Int.reduceToNat,reduceCtorEq,h5,h21,h22,h23]
          refine aV hk (by omega) ⟨⟨u,h5,?_⟩,h21,h22,rfl⟩
          rw[htk]
          simpa [er,hd] using hu
      · rw[List.take_of_length_le (by omega)] at hu
        simp (disch:=omega) only [↓wr,↓reduceIte,wq,ai,ah,ak,ae,af,ag,aj,isNil,Nat.reduceEqDiff,Nat.reduceAdd,Nat.reduceLT,Nat.reduceLeDiff,Int.reduceNeg,Int.reduceToNat,reduceCtorEq,h5,h21,h22,h23]
        intro h' hh
        exact ou (by rw[hh]; exact hu)
    · rename_i ha
      intro h' hh
      rw[if_neg (by simp[ha])]
      exact .emp _
end Gv
set_option linter.unusedSimpArgs false
set_option maxRecDepth 100000
namespace Gv
open Go Go.Proofs
def nL (is:List Bool) (l:List Int):List Bool:=l.foldl (fun is n=>is.set n.toNat true) is
def stepG (comes:aT→List Bool→List Int) (is:List Bool) (r:aT):List Bool:=nL is (comes r is)
def cJ (comes:aT→List Bool→List Int) (rules:List aT) (is:List Bool):List Bool:=rules.foldl (stepG comes) is
def eF (a b:List Bool):Prop:=a.length=b.length∧∀ i,a.getD i false=true→b.getD i false=true
theorem eF.refl (a:List Bool):eF a a:=⟨rfl,fun _ h=>h⟩
theorem eF.trans {a b c:List Bool} (h:eF a b) (k:eF b c):eF a c:=⟨h.1.trans k.1,fun i hi=>k.2 i (h.2 i hi)⟩
theorem eF.set (a:List Bool) (i:Nat):eF a (a.set i true):=by
  refine ⟨by simp,fun j h=>?_⟩
  simp only[List.getD_eq_getElem?_getD,List.getElem?_set] at h ⊢
  split
  · split
    · rfl
    · rename_i e h2; rw[← e,List.getElem?_eq_none (by omega)] at h; simp at h
  · exact h
theorem z6:∀ (l:List Int) (is:List Bool),eF is (nL is l)
  | [],is=>.refl _
  | n :: l,is=>(eF.set is n.toNat).trans (z6 l _)
theorem pq (comes:aT→List Bool→List Int):∀ (rules:List aT) (is:List Bool),eF is (cJ comes rules is)
  | [],is=>.refl _
  | r :: rs,is=>(z6 _ _).trans (pq comes rs _)
def bX (a:List Bool):Nat:=a.countP fun x=>x
theorem oH (a:List Bool):bX a≤a.length:=List.countP_le_length
theorem eF.bX:∀ {a b:List Bool},eF a b→bX a≤bX b∧(bX a=bX b→a=b)
  | [],[],_=>⟨Nat.le_refl _,fun _=>rfl⟩
  | [],_ :: _,h=>by simp[eF] at h
  | _ :: _,[],h=>by simp[eF] at h
  | x :: a,y :: b,h=>by
    have hxy:x=true→y=true:=fun e=>by have:=h.2 0 (by simpa using e); simpa using this
    obtain ⟨h1,h2⟩:=eF.bX (a:=a) (b:=b) ⟨by simpa using h.1,fun i hi=>by have:=h.2 (i+1) (by simpa using hi); simpa using this⟩
    unfold Gv.bX at h1 h2 ⊢
    simp only[List.countP_cons]
    cases x with
    | true =>
      have:=hxy rfl; subst this
      simp only[if_true]
      exact ⟨by omega,fun e=>by rw[h2 (by omega)]⟩
    | false =>
      cases y with
      | false=>simp only[Bool.false_eq_true,if_false]; exact ⟨by omega,fun e=>by rw[h2 (by omega)]⟩
      | true=>simp only[Bool.false_eq_true,if_false,if_true]; exact ⟨by omega,fun e=>by omega⟩
def eM (comes:aT→List Bool→List Int) (rules:List aT):Nat→List Bool→List Bool
  | 0,is=>is
  | k+1,is=>if cJ comes rules is=is then is else eM comes rules k (cJ comes rules is)
theorem pA (comes:aT→List Bool→List Int) (rules:List aT):∀ (k:Nat) (is:List Bool),is.length≤bX is+k→cJ comes rules (eM comes rules k is)=eM comes rules k is∧eF is (eM comes rules k is)
  | 0,is,h=>by
    have h1:=pq comes rules is
    have h2:=oH (cJ comes rules is)
    have h3:=h1.bX
    rw[← h1.1] at h2
    have h4:=oH is
    exact ⟨(h3.2 (by omega)).symm,.refl _⟩
  | k+1,is,h=>by
    simp only[eM]
    by_cases e:cJ comes rules is=is
    · rw[if_pos e]; exact ⟨e,.refl _⟩
    · rw[if_neg e]
      have h1:=pq comes rules is
      have h3:=h1.bX
      have:bX is < bX (cJ comes rules is):=by
        rcases Nat.lt_or_ge (bX is) (bX (cJ comes rules is)) with h | h
        · exact h
        · exact absurd (h3.2 (by omega)).symm e
      obtain ⟨g1,g2⟩:=pA comes rules k (cJ comes rules is) (by rw[← h1.1]; omega)
      exact ⟨g1,h1.trans g2⟩
def sA:SC :=
  .seq (al [bb 26 .lss 25 24]) <|
  .seq (.cond (.tmp 26) (.skip) (.exit 4)) <|
  .seq (.block 5 (.seq (al [aN 27 1 23 25,an 28 27,aa 11 28]) <|
  .seq (.region false [⟨none,[aa 29 7,aa 30 29]⟩,⟨(some (30,false)),[aa 31 1,aa 32 11,aN 33 1 31 32,an 34 33,bL 35 34]⟩,⟨none,[bt 36 30 35,aa 7 36]⟩]) <|
  al [aa 37 1,aa 38 11,aN 39 1 37 38,(none,.op (.store 1 (.tmp 39) (.val (.val (.bool true)))))])) <|
  al [ay 40 .add 25 1,aa 25 40]
def sL:SC :=
  .seq (al [bb 17 .lss 16 15]) <|
  .seq (.cond (.tmp 17) (.skip) (.exit 2)) <|
  .seq (.block 3 (.seq (al [aN 18 3 14 16,aM 19 3 18,((some 9),.op (.alloc [(.val (.int .i64 0)),(.emp 1),(.val (.int .i64 0))])),(none,.op (.store 3 (.tmp 9) (.tmp 19)))]) <|
  .seq (al [aa 20 2,aM 21 3 9,aa 22 1,((some 23),.call (.tmp 20) [(.tmp 21),(.tmp 22)]),aL 24 23,aH 25 0]) <|
  .block 4 (.loop sA))) <|
  al [ay 41 .add 16 1,aa 16 41]
def nk:SC :=
  .seq (.seq (al [aa 12 7]) <|
  .cond (.tmp 12) (.skip) (.exit 0)) <|
  .block 1 (.seq (al [aU 7 false]) <|
  .seq (al [ar 13 2 3,an 14 13,aL 15 14,aH 16 0]) <|
  .block 2 (.loop sL))
def u9:SF:=⟨.seq (al [cE 3 0,((some 6),.op (.bu (.val (.emp 1))))]) <|
  .seq (.seq (al [aU 7 true]) <|
  .block 0 (.loop nk)) <|
  .seq (al [aa 42 1,aa 6 42]) <|
  .ret,
  [.tmp 6],43⟩
theorem yf:aX Tryz.prog 97 [3]=some u9:=by kernel_rfl
theorem GQ {is:List Bool} {i:Nat} (h:is.getD i false=true):is.set i true=is:=by
  apply List.ext_getElem?
  intro j
  simp only[List.getD_eq_getElem?_getD] at h
  rw[List.getElem?_set]
  split
  · rename_i e; subst e
    split
    · rename_i hl; rw[List.getElem?_eq_getElem hl] at h ⊢; simp at h; simp[h]
    · rename_i hl; rw[List.getElem?_eq_none (by omega)] at h; simp at h
  · rfl
theorem DO {comes:aT→List Bool→List Int} {rules:List aT} {k:Nat} {is:List Bool} (h:cJ comes rules is=is):eM comes rules k is=is:=by
  cases k with
  | zero=>rfl
  | succ k=>simp only[eM,h,if_true]
theorem Ee {comes:aT→List Bool→List Int} {rules:List aT} {k:Nat} {is:List Bool} (h:¬ cJ comes rules is=is) (hk:is.length≤bX is+k):∃ j,k=j+1∧eM comes rules k is=eM comes rules j (cJ comes rules is)∧(cJ comes rules is).length≤bX (cJ comes rules is)+j:=by
  have h1:=pq comes rules is
  have h3:=h1.bX
  have h5:=oH (cJ comes rules is)
  have:bX is < bX (cJ comes rules is):=by
    rcases Nat.lt_or_ge (bX is) (bX (cJ comes rules is)) with h | h
    · exact h
    · exact absurd (h3.2 (by omega)).symm (by assumption)
  have hl:=h1.1
  obtain ⟨j,rfl⟩:∃ j,k=j+1:=⟨k - 1,by omega⟩
  exact ⟨j,rfl,by simp only[eM]; rw[if_neg h],by omega⟩
theorem Hy {a is:List Bool} {i:Nat} {b:Bool} (hle:eF a is) (hi:i < is.length) (hb:b = !decide (is=a)):(b || !is.getD i false) = !decide (is.set i true=a):=by
  cases hx:is.getD i false with
  | true=>rw[GQ hx,hb]; simp
  | false =>
    have:¬ is.set i true=a:=fun e=>by
      have h1:(is.set i true).getD i false=true:=by simp[List.getD_eq_getElem?_getD,hi]
      rw[e] at h1
      have:=hle.2 i h1
      rw[hx] at this; simp at this
    simp[this]
set_option maxHeartbeats 8000000 in
theorem x4 (g:av) (hr:g.rules.length≤40) (comes:aT→List Bool→List Int) (f:FuncId) (capt capt':List V) (hok:ct Tryz.prog f=true) (N:Nat) (hN:N≤16)
    (hc:∀ r∈g.rules,∀ is:List Bool,is.length=N→cx Tryz.prog f (.agg (aJ r) :: bk is :: capt') (encI (comes r is))∧(comes r is).length≤100∧∀ n∈comes r is,bF n∧0≤n∧n < N)
    (id:Nat) (is0:List Bool) (his:is0.length=N) (H:View) (hH:H id=.arr 1 (bB is0)) (hlent:∀ H':View,(∀ k,H k≠.dead→k≠id→H' k=H k)→kr H' capt capt') :
    aD Tryz.prog 97 [.agg (ao g),.sl id 0 N 1,.fn f [] capt] H fun r H'=>r=.sl id 0 N 1∧H' id=.arr 1 (bB (eM comes g.rules 16 is0))∧∀ k,H k≠.dead→k≠id→H' k=H k:=by
  refine aD.of mixed yf ?_
  simp (disch:=omega) only [↓wr,↓reduceIte,wq,ai,ah,ak,ae,af,ag,aj,isNil,Nat.reduceEqDiff,Nat.reduceAdd,Nat.reduceLT,Nat.reduceLeDiff,Int.reduceNeg,Int.reduceToNat,reduceCtorEq,u9,ao,encS]
  refine bo.intro (fun k T H'=>∃ is:List Bool,is.length=N∧H' id=.arr 1 (bB is)∧(∀ k,H k≠.dead→k≠id→H' k=H k)∧T 1=.sl id 0 N 1∧T 2=.fn f [] capt∧T 3=.aK (ao g) 0 ∧
    ((T 7=gb true∧∃ j,k=j+1∧eM comes g.rules j is=eM comes g.rules 16 is0∧N≤bX is+j)∨(T 7=gb false∧is=eM comes g.rules 16 is0))) 17 ?_ ?_
  · exact ⟨is0,his,hH,fun _ _ _=>rfl,rfl,rfl,rfl,.inl ⟨rfl,16,rfl,rfl,by omega⟩⟩
  rintro k T H1 ⟨is,hlen,hid,hfr,t1,t2,t3,h7⟩
  rcases h7 with ⟨h7,j,rfl,hgr,hj⟩ | ⟨h7,hgr⟩
  · simp (disch:=omega) only [↓wr,↓reduceIte,wq,ai,ah,ak,ae,af,ag,aj,isNil,Nat.reduceEqDiff,Nat.reduceAdd,Nat.reduceLT,Nat.reduceLeDiff,Int.reduceNeg,Int.reduceToNat,reduceCtorEq,nk,t1,t2,t3,h7,ao,encS]
    refine bo.up g.rules.length (fun i T H'=>∃ is2:List Bool,is2.length=N∧eF is is2∧is2=(g.rules.take i).foldl (stepG comes) is∧H' id=.arr 1 (bB is2)∧(∀ k,H k≠.dead→k≠id→H' k=H k)∧T 1=.sl id 0 N 1∧T 2=.fn f [] capt∧T 3=.aK (ao g) 0 ∧
      T 7=gb (!decide (is2=is))∧T 14=.bc (g.rules.map aJ)∧T 15=gi g.rules.length∧T 16=gi i) ?_ ?_
    · exact ⟨is,hlen,.refl _,rfl,hid,hfr,t1,t2,t3,by simp; rfl,rfl,rfl,rfl⟩
    clear t1 t2 t3 h7 hid hfr
    rintro i k T H1 hk ⟨is2,hlen2,hle2,hst,hid,hfr,t1,t2,t3,h7,h14,h15,h16⟩
    simp (disch:=omega) only [↓wr,↓reduceIte,wq,ai,ah,ak,ae,af,ag,aj,isNil,Nat.reduceEqDiff,Nat.reduceAdd,Nat.reduceLT,Nat.reduceLeDiff,Int.reduceNeg,Int.reduceToNat,reduceCtorEq,sL,t1,t2,t3,h7,h14,h15,h16,ao,encS]
    refine aq.dec (fun hcc=>?_) (fun hcc=>?_)
    · have hg2:g.rules[i]?=some (g.rules[i]'(by omega)):=List.getElem?_eq_getElem (by omega)
      have hmem:g.rules[i]'(by omega)∈g.rules:=List.getElem_mem _
      have htk:(g.rules.take (i+1)).foldl (stepG comes) is=stepG comes ((g.rules.take i).foldl (stepG comes) is) (g.rules[i]'(by omega)):=by
        rw[List.take_add_one,hg2,List.foldl_append]; rfl
      generalize g.rules[i]'(by omega)=r at hg2 hmem htk
      obtain ⟨hcp,hcl,hcn⟩:=hc r hmem is2 hlen2
      simp (disch:=omega) only [↓wr,↓reduceIte,wq,ai,ah,ak,ae,af,ag,aj,isNil,Nat.reduceEqDiff,Nat.reduceAdd,Nat.reduceLT,Nat.reduceLeDiff,Int.reduceNeg,Int.reduceToNat,reduceCtorEq,t1,t2,t3,h7,h14,h15,h16,aJ,encI,List.getElem?_map,hg2]
      intro b hb
      have hbid:b≠id:=by rintro rfl; rw[hid] at hb; simp at hb
      try simp (disch:=omega) only [↓wr,↓reduceIte,wq,ai,ah,ak,ae,af,ag,aj,isNil,Nat.reduceEqDiff,Nat.reduceAdd,Nat.reduceLT,Nat.reduceLeDiff,Int.reduceNeg,Int.reduceToNat,reduceCtorEq,t1,t2,t3,h7,h14,h15,h16]
      refine az.zL hcp hok ⟨bW.tree (bV _ (fU r)),xg (by simp[View.set,hbid.symm,hid]) hlen2.symm,hlent _ (fun k hk hki=>?_)⟩ ?_
      · have hkb:k≠b:=by
          rintro rfl
          rw[hfr k hk hki] at hb
          exact hk hb
        simp[View.set,hkb,hfr k hk hki]
      generalize hl:comes r is2=l at hcl hcn
      simp (disch:=omega) only [↓wr,↓reduceIte,wq,ai,ah,ak,ae,af,ag,aj,isNil,Nat.reduceEqDiff,Nat.reduceAdd,Nat.reduceLT,Nat.reduceLeDiff,Int.reduceNeg,Int.reduceToNat,reduceCtorEq,t1,t2,t3,h7,h14,h15,h16,encI]
      refine bo.up l.length (fun q T H'=>∃ is3:List Bool,is3.length=N∧eF is is3∧is3=nL is2 (l.take q)∧H' id=.arr 1 (bB is3)∧(∀ k,H k≠.dead→k≠id→H' k=H k)∧T 1=.sl id 0 N 1∧T 2=.fn f [] capt∧T 3=.aK (ao g) 0 ∧
        T 7=gb (!decide (is3=is))∧T 14=.bc (g.rules.map aJ)∧T 15=gi g.rules.length∧T 16=gi i∧T 23=encI l∧T 24=gi l.length∧T 25=gi q) ?_ ?_
      · refine ⟨is2,hlen2,hle2,rfl,by simp[View.set,hbid.symm,hid],fun k hk hki=>?_,t1,t2,t3,h7,h14,h15,h16,rfl,rfl,rfl⟩
        have hkb:k≠b:=by
          rintro rfl
          rw[hfr k hk hki] at hb
          exact hk hb
        simp[View.set,hkb,hfr k hk hki]
      clear t1 t2 t3 h7 h14 h15 h16 hid hfr hb hbid
      rintro q k2 T H1 hk2 ⟨is3,hlen3,hle3,hst3,hid,hfr,t1,t2,t3,h7,h14,h15,h16,h23,h24,h25⟩
      simp (disch:=omega) only [↓wr,↓reduceIte,wq,ai,ah,ak,ae,af,ag,aj,isNil,Nat.reduceEqDiff,Nat.reduceAdd,Nat.reduceLT,Nat.reduceLeDiff,Int.reduceNeg,Int.reduceToNat,reduceCtorEq,sA,t1,t2,t3,h7,h14,h15,h16,h23,h24,h25,encI]
      refine aq.dec (fun hqc=>?_) (fun hqc=>?_)
      · have hgq:l[q]?=some (l[q]'(by omega)):=List.getElem?_eq_getElem (by omega)
        have hmq:l[q]'(by omega)∈l:=List.getElem_mem _
        have htq:nL is2 (l.take (q+1))=(nL is2 (l.take q)).set (l[q]'(by omega)).toNat true:=by
          unfold nL; rw[List.take_add_one,hgq,List.foldl_append]; rfl
        generalize l[q]'(by omega)=n at hgq hmq htq
        obtain ⟨⟨n1,n2⟩,n3,n4⟩:=hcn n hmq
        have hbn:is3.getD n.toNat false=is3[n.toNat]'(by omega):=by simp[List.getD_eq_getElem?_getD,show n.toNat < is3.length by omega]
        have hnew:=Hy hle3 (show n.toNat < is3.length by omega) (b:=!decide (is3=is)) rfl
        rw[hbn] at hnew
        have hbg:=im (show n.toNat < is3.length by omega)
        generalize is3[n.toNat]'(by omega)=x at hnew hbg hbn
        have fin:∀ (T2:Env),T2 7=gb (!decide (is3.set n.toNat true=is))→T2 1=.sl id 0 N 1→T2 2=.fn f [] capt→T2 3=.aK (ao g) 0→T2 14=.bc (g.rules.map aJ)→T2 15=gi g.rules.length→T2 16=gi i→T2 23=encI l→T2 24=gi l.length→T2 25=gi ((q:Int)+1) →
            ∃ k',k' < k2∧yB l.length k' (fun q T H'=>∃ is3:List Bool,is3.length=N∧eF is is3∧is3=nL is2 (l.take q)∧H' id=.arr 1 (bB is3)∧(∀ k,H k≠.dead→k≠id→H' k=H k)∧T 1=.sl id 0 N 1∧T 2=.fn f [] capt∧T 3=.aK (ao g) 0 ∧
              T 7=gb (!decide (is3=is))∧T 14=.bc (g.rules.map aJ)∧T 15=gi g.rules.length∧T 16=gi i∧T 23=encI l∧T 24=gi l.length∧T 25=gi q) T2 (H1.set id (.arr 1 (bB (is3.set n.toNat true)))):=by
          intro T2 a7 a1 a2 a3 a14 a15 a16 a23 a24 a25
          refine aV hk2 (by omega) ⟨is3.set n.toNat true,by simp[hlen3],hle3.trans (.set _ _),by rw[htq,← hst3],by simp[View.set],fun k hk hki=>by simp[View.set,hki,hfr k hk hki],a1,a2,a3,a7,a14,a15,a16,a23,a24,by rw[a25]; rfl⟩
        simp (disch:=omega) only [↓wr,↓reduceIte,wq,ai,ah,ak,ae,af,ag,aj,isNil,Nat.reduceEqDiff,Nat.reduceAdd,Nat.reduceLT,Nat.reduceLeDiff,Int.reduceNeg,Int.reduceToNat,reduceCtorEq,t1,t2,t3,h7,h14,h15,h16,h23,h24,h25,encI,List.getElem?_map,hgq]
        refine aq.dec (fun e=>?_) (fun e=>?_)
        · simp (disch:=omega) only [↓wr,↓reduceIte,wq,ai,ah,ak,ae,af,ag,aj,isNil,Nat.reduceEqDiff,Nat.reduceAdd,Nat.reduceLT,Nat.reduceLeDiff,Int.reduceNeg,Int.reduceToNat,reduceCtorEq,t1,t2,t3,h7,h14,h15,h16,h23,h24,h25,encI,hid,hbg,List.length_map]
          refine ⟨by omega,by omega,?_⟩
          try simp (disch:=omega) only [↓wr,↓reduceIte,wq,ai,ah,ak,ae,af,ag,aj,isNil,Nat.reduceEqDiff,Nat.reduceAdd,Nat.reduceLT,Nat.reduceLeDiff,Int.reduceNeg,Int.reduceToNat,reduceCtorEq,t1,t2,t3,h7,h14,h15,h16,h23,h24,h25,encI,hid,hbg,List.length_map]
          refine ⟨by omega,by omega,?_⟩
          rw[dM]
          exact fin _ (by rw[← hnew]; simp[e]; rfl) t1 t2 t3 h14 h15 h16 h23 h24 rfl
        · simp (disch:=omega) only [↓wr,↓reduceIte,wq,ai,ah,ak,ae,af,ag,aj,isNil,Nat.reduceEqDiff,Nat.reduceAdd,Nat.reduceLT,Nat.reduceLeDiff,Int.reduceNeg,Int.reduceToNat,reduceCtorEq,t1,t2,t3,h7,h14,h15,h16,h23,h24,h25,encI,hid,hbg,List.length_map]
          refine ⟨by omega,by omega,?_⟩
          rw[dM]
          exact fin _ (by rw[← hnew]; simp[e]; rfl) t1 t2 t3 h14 h15 h16 h23 h24 rfl
      · rw[List.take_of_length_le (by omega)] at hst3
        simp (disch:=omega) only [↓wr,↓reduceIte,wq,ai,ah,ak,ae,af,ag,aj,isNil,Nat.reduceEqDiff,Nat.reduceAdd,Nat.reduceLT,Nat.reduceLeDiff,Int.reduceNeg,Int.reduceToNat,reduceCtorEq,t1,t2,t3,h7,h14,h15,h16,h23,h24,h25]
        refine aV hk (by omega) ⟨is3,hlen3,hle3,?_,hid,hfr,t1,t2,t3,h7,h14,h15,rfl⟩
        rw[htk,← hst,stepG,hl,← hst3]
    · rw[List.take_of_length_le (by omega)] at hst
      simp (disch:=omega) only [↓wr,↓reduceIte,wq,ai,ah,ak,ae,af,ag,aj,isNil,Nat.reduceEqDiff,Nat.reduceAdd,Nat.reduceLT,Nat.reduceLeDiff,Int.reduceNeg,Int.reduceToNat,reduceCtorEq,t1,t2,t3,h7,h14,h15,h16]
      have hrd:is2=cJ comes g.rules is:=hst
      by_cases e:is2=is
      · refine ⟨0,by omega,is2,hlen2,hid,hfr,rfl,.inr ⟨by simp[e],?_⟩⟩
        rw[← hgr,e]
        exact (DO (by rw[← hrd]; exact e)).symm
      · obtain ⟨j2,rfl,e2,e3⟩:=Ee (k:=j) (fun h=>e (hrd.trans h)) (by rw[hlen]; exact hj)
        refine ⟨j2+1,by omega,is2,hlen2,hid,hfr,rfl,.inl ⟨by simp[e],j2,rfl,?_,?_⟩⟩
        · rw[← hgr,e2,hrd]
        · rw[← hrd,hlen2] at e3; exact e3
  · simp (disch:=omega) only [↓wr,↓reduceIte,wq,ai,ah,ak,ae,af,ag,aj,isNil,Nat.reduceEqDiff,Nat.reduceAdd,Nat.reduceLT,Nat.reduceLeDiff,Int.reduceNeg,Int.reduceToNat,reduceCtorEq,nk,t1,t2,t3,h7,ao,encS]
    exact ⟨hgr ▸ hid,hfr⟩
end Gv
set_option linter.unusedSimpArgs false
set_option maxRecDepth 100000
namespace Gv
open Go Go.Proofs
theorem vG {α:Type} {f:α→α} {x:α} (h:f x=x):∀ n,iter f n x=x
  | 0=>rfl
  | n+1=>by rw[iter,h,vG h n]
theorem Aw {α:Type} (f:α→α):∀ (a b:Nat) (x:α),iter f (a+b) x=iter f b (iter f a x)
  | 0,b,x=>by rw[Nat.zero_add]; rfl
  | a+1,b,x=>by rw[Nat.add_right_comm,iter,iter,Aw f a b]
theorem wW (comes:aT→List Bool→List Int) (rules:List aT):∀ (k:Nat) (is:List Bool),eM comes rules k is=iter (cJ comes rules) k is
  | 0,is=>rfl
  | k+1,is=>by
    simp only[eM,iter]
    by_cases e:cJ comes rules is=is
    · rw[if_pos e,e,vG e]
    · rw[if_neg e,wW comes rules k]
theorem ux (comes:aT→List Bool→List Int) (rules:List aT) (is:List Bool) (h:is.length≤16):eM comes rules 16 is=iter (cJ comes rules) is.length is:=by
  have h1:=(pA comes rules is.length is (by omega)).1
  rw[wW] at h1 ⊢
  obtain ⟨m,hm⟩:∃ m,16=is.length+m:=⟨16 - is.length,by omega⟩
  rw[hm,Aw,vG h1]
def jo (t:Bool) (r:aT) (is:List Bool):List Int:=if cg r.right is t=true then [r.left] else []
def oD (p:List Bool) (r:aT) (is:List Bool):List Int:=if (is.getD r.left.toNat false && cg r.right p true)=true then er r.right else []
theorem B7 (g:av) (t:Bool):cJ (jo t) g.rules=fP g t:=by
  funext is
  unfold cJ fP
  congr 1
  funext is r
  unfold stepG jo cF
  split <;> rfl
theorem xt:∀ (l:List Int) (is:List Bool),nL is (er l)=l.foldl mark is
  | [],is=>rfl
  | s :: l,is=>by
    have ih:=xt l
    unfold nL er at ih ⊢
    rw[List.foldl_cons,← ih]
    unfold mark
    by_cases h:s < 0
    · rw[if_pos h,List.filter_cons_of_pos (by simpa using h)]; rfl
    · rw[if_neg h,List.filter_cons_of_neg (by simpa using h)]
theorem Ck (g:av) (p:List Bool):cJ (oD p) g.rules=ky g p:=by
  funext is
  unfold cJ ky
  congr 1
  funext is r
  unfold stepG oD dP
  split
  · exact xt _ _
  · rfl
theorem BC {g:av} (h:aR g=true) (t:Bool):eM (jo t) g.rules 16 (bG g)=aw g t:=by
  have hf:=aO h
  have hl:(bG g).length=g.au.length:=by simp[bG]
  have:=hf.au
  rw[ux _ _ _ (by rw[hl]; exact hf.au),B7,hl,aw,if_pos h]
theorem FH {g:av} (h:aR g=true):eM (oD (aw g true)) g.rules 16 ((bG g).set g.start.toNat true)=aQ g:=by
  have hf:=aO h
  have hl:((bG g).set g.start.toNat true).length=g.au.length:=by simp[bG]
  rw[ux _ _ _ (by rw[hl]; exact hf.au),Ck,hl,aQ,if_pos h]
def o7:SF:=⟨.seq (al [cE 1 0,((some 2),.op (.bu (.val (.emp 1))))]) <|
  .seq (.seq (al [aM 3 4 1,aG 4 38 [3],bL 5 4]) <|
  .cond (.tmp 5) (.seq (al [((some 2),.op (.bu (.val (.emp 1))))]) <|
  .ret) (.skip)) <|
  .seq (al [aM 6 4 1,ar 7 1 1,an 8 7,aL 9 8,((some 10),.op (.make 1 1 [(.val (.bool false))] (.tmp 9) (.tmp 9))),cG 11 97 [(.tmp 6),(.tmp 10),(.val (.fn 98 [] []))],aa 2 11]) <|
  .ret,
  [.tmp 2],12⟩
theorem tv:aX Tryz.prog 54 [1]=some o7:=by kernel_rfl
def nt:SF:=⟨.seq (al [cE 1 0,((some 2),.op (.bu (.val (.emp 1))))]) <|
  .seq (.seq (al [aM 3 4 1,aG 4 38 [3],bL 5 4]) <|
  .cond (.tmp 5) (.seq (al [((some 2),.op (.bu (.val (.emp 1))))]) <|
  .ret) (.skip)) <|
  .seq (al [aM 6 4 1,ar 7 1 1,an 8 7,aL 9 8,((some 10),.op (.make 1 1 [(.val (.bool false))] (.tmp 9) (.tmp 9))),cG 11 97 [(.tmp 6),(.tmp 10),(.val (.fn 117 [] []))],aa 2 11]) <|
  .ret,
  [.tmp 2],12⟩
theorem rQ:aX Tryz.prog 72 [1]=some nt:=by kernel_rfl
def oq:SF:=⟨.seq (al [cE 1 0,((some 2),.op (.bu (.val (.emp 1))))]) <|
  .seq (.seq (al [aM 5 4 1,aG 6 38 [5],bL 7 6]) <|
  .cond (.tmp 7) (.seq (al [((some 2),.op (.bu (.val (.emp 1))))]) <|
  .ret) (.skip)) <|
  .seq (al [aM 8 4 1,aG 9 72 [8],((some 3),.op (.alloc [(.emp 1)])),(none,.op (.store 1 (.tmp 3) (.tmp 9)))]) <|
  .seq (al [ar 10 1 1,an 11 10,aL 12 11,((some 13),.op (.make 1 1 [(.val (.bool false))] (.tmp 12) (.tmp 12))),aa 4 13]) <|
  .seq (al [aa 14 4,ar 15 3 1,an 16 15,aN 17 1 14 16,(none,.op (.store 1 (.tmp 17) (.val (.val (.bool true)))))]) <|
  .seq (al [aM 18 4 1,aa 19 4,((some 20),.op (.oL 118 [] [(.tmp 3)])),aG 21 97 [18,19,20],aa 2 21]) <|
  .ret,
  [.tmp 2],22⟩
theorem sR:aX Tryz.prog 73 [1]=some oq:=by kernel_rfl
structure av.Small (g:av):Prop where
  names:g.au.length+g.aC.length≤1000
theorem tM {h':aF} {id n:Nat} {is:List Bool} (hv:h'.view id=.arr 1 (bB is)) (hn:n=is.length):dW h' (.sl id 0 n 1) (bk is):=by
  subst hn; exact jT hv
set_option maxHeartbeats 2000000 in
theorem Be (g:av) (hg:g.Ok) (hs:g.Small):cx Tryz.prog 54 [.agg (ao g)] (bk (aw g false)):=by
  refine cx.of (fk g) ?_
  refine aD.of mixed tv ?_
  have hn:=hg.au
  unfold aP at hn
  simp (disch:=omega) only [↓wr,↓reduceIte,wq,ai,ah,ak,ae,af,ag,aj,isNil,Nat.reduceEqDiff,Nat.reduceAdd,Nat.reduceLT,Nat.reduceLeDiff,Int.reduceNeg,Int.reduceToNat,reduceCtorEq,o7,ao,encS]
  refine az.pure (jV g hg hs.names) (by kernel_rfl) ?_
  repeat' (first | (refine aq.dec (fun _=>?_) (fun _=>?_)) | (refine aq.eq (fun _=>?_) (fun _=>?_)) | (refine aq.ne (fun _=>?_) (fun _=>?_)) | (refine aq.split (fun _=>?_) (fun _=>?_)) | (simp (disch:=omega) only [↓wr,↓reduceIte,wq,ai,ah,ak,ae,af,ag,aj,isNil,Nat.reduceEqDiff,Nat.reduceAdd,Nat.reduceLT,Nat.reduceLeDiff,Int.reduceNeg,Int.reduceToNat,reduceCtorEq,ao,encS]))
  · rename_i hr
    have hf:=aO hr
    have h1:=hf.nN
    have h2:=hf.au
    try simp (disch:=omega) only [↓wr,↓reduceIte,wq,ai,ah,ak,ae,af,ag,aj,isNil,Nat.reduceEqDiff,Nat.reduceAdd,Nat.reduceLT,Nat.reduceLeDiff,Int.reduceNeg,Int.reduceToNat,reduceCtorEq,ao,encS]
    refine ⟨⟨by omega,by unfold aI; omega,by unfold aI; omega⟩,fun h=>by omega,?_⟩
    intro _ n
    try simp (disch:=omega) only [↓wr,↓reduceIte,wq,ai,ah,ak,ae,af,ag,aj,isNil,Nat.reduceEqDiff,Nat.reduceAdd,Nat.reduceLT,Nat.reduceLeDiff,Int.reduceNeg,Int.reduceToNat,reduceCtorEq,ao,encS]
    refine az.ez ((x4 g hf.rules (jo false) 98 [] [] (by kernel_rfl) g.au.length h2 (fun r hr' is his=>⟨BG r is (by rw[his]; exact hf.oF hg hr'),?_,?_⟩) n (bG g) (by simp[bG]) _ (by simp[View.set,bG]) (fun H' _=>trivial)).mono ?_)
    · unfold jo; split <;> simp
    · intro m hm
      unfold jo at hm
      split at hm
      · simp only[List.mem_singleton] at hm; subst hm
        exact ⟨(hg.bj r hr').1,hf.left r hr'⟩
      · simp at hm
    · rintro r H' ⟨rfl,hid,_⟩
      simp (disch:=omega) only [↓wr,↓reduceIte,wq,ai,ah,ak,ae,af,ag,aj,isNil,Nat.reduceEqDiff,Nat.reduceAdd,Nat.reduceLT,Nat.reduceLeDiff,Int.reduceNeg,Int.reduceToNat,reduceCtorEq]
      intro h' hh
      rw[BC hr] at hid
      exact tM (by rw[hh]; exact hid) (eT hr _).symm
  · rename_i hr
    intro h' hh
    simp only[aw,hr]
    exact .emp _
set_option maxHeartbeats 2000000 in
theorem qi (g:av) (hg:g.Ok) (hs:g.Small):cx Tryz.prog 72 [.agg (ao g)] (bk (aw g true)):=by
  refine cx.of (fk g) ?_
  refine aD.of mixed rQ ?_
  have hn:=hg.au
  unfold aP at hn
  simp (disch:=omega) only [↓wr,↓reduceIte,wq,ai,ah,ak,ae,af,ag,aj,isNil,Nat.reduceEqDiff,Nat.reduceAdd,Nat.reduceLT,Nat.reduceLeDiff,Int.reduceNeg,Int.reduceToNat,reduceCtorEq,nt,ao,encS]
  refine az.pure (jV g hg hs.names) (by kernel_rfl) ?_
  repeat' (first | (refine aq.dec (fun _=>?_) (fun _=>?_)) | (refine aq.eq (fun _=>?_) (fun _=>?_)) | (refine aq.ne (fun _=>?_) (fun _=>?_)) | (refine aq.split (fun _=>?_) (fun _=>?_)) | (simp (disch:=omega) only [↓wr,↓reduceIte,wq,ai,ah,ak,ae,af,ag,aj,isNil,Nat.reduceEqDiff,Nat.reduceAdd,Nat.reduceLT,Nat.reduceLeDiff,Int.reduceNeg,Int.reduceToNat,reduceCtorEq,ao,encS]))
  · rename_i hr
    have hf:=aO hr
    have h1:=hf.nN
    have h2:=hf.au
    try simp (disch:=omega) only [↓wr,↓reduceIte,wq,ai,ah,ak,ae,af,ag,aj,isNil,Nat.reduceEqDiff,Nat.reduceAdd,Nat.reduceLT,Nat.reduceLeDiff,Int.reduceNeg,Int.reduceToNat,reduceCtorEq,ao,encS]
    refine ⟨⟨by omega,by unfold aI; omega,by unfold aI; omega⟩,fun h=>by omega,?_⟩
    intro _ n
    try simp (disch:=omega) only [↓wr,↓reduceIte,wq,ai,ah,ak,ae,af,ag,aj,isNil,Nat.reduceEqDiff,Nat.reduceAdd,Nat.reduceLT,Nat.reduceLeDiff,Int.reduceNeg,Int.reduceToNat,reduceCtorEq,ao,encS]
    refine az.ez ((x4 g hf.rules (jo true) 117 [] [] (by kernel_rfl) g.au.length h2 (fun r hr' is his=>⟨yk r is (by rw[his]; exact hf.oF hg hr'),?_,?_⟩) n (bG g) (by simp[bG]) _ (by simp[View.set,bG]) (fun H' _=>trivial)).mono ?_)
    · unfold jo; split <;> simp
    · intro m hm
      unfold jo at hm
      split at hm
      · simp only[List.mem_singleton] at hm; subst hm
        exact ⟨(hg.bj r hr').1,hf.left r hr'⟩
      · simp at hm
    · rintro r H' ⟨rfl,hid,_⟩
      simp (disch:=omega) only [↓wr,↓reduceIte,wq,ai,ah,ak,ae,af,ag,aj,isNil,Nat.reduceEqDiff,Nat.reduceAdd,Nat.reduceLT,Nat.reduceLeDiff,Int.reduceNeg,Int.reduceToNat,reduceCtorEq]
      intro h' hh
      rw[BC hr] at hid
      exact tM (by rw[hh]; exact hid) (eT hr _).symm
  · rename_i hr
    intro h' hh
    simp only[aw,hr]
    exact .emp _
theorem l0 {g:av} (hr:aR g=true):(aQ g).length=g.au.length:=by
  rw[aQ,if_pos hr,vx (f:=ky g (aw g true)) (fun is=>vD (fun is x=>FV _ is x) g.rules is)]
  simp[bG]
set_option maxHeartbeats 2000000 in
theorem zF (g:av) (hg:g.Ok) (hs:g.Small):cx Tryz.prog 73 [.agg (ao g)] (bk (aQ g)):=by
  refine cx.of (fk g) ?_
  refine aD.of mixed sR ?_
  have hn:=hg.au
  unfold aP at hn
  simp (disch:=omega) only [↓wr,↓reduceIte,wq,ai,ah,ak,ae,af,ag,aj,isNil,Nat.reduceEqDiff,Nat.reduceAdd,Nat.reduceLT,Nat.reduceLeDiff,Int.reduceNeg,Int.reduceToNat,reduceCtorEq,oq,ao,encS]
  refine az.pure (jV g hg hs.names) (by kernel_rfl) ?_
  repeat' (first | (refine aq.dec (fun _=>?_) (fun _=>?_)) | (refine aq.eq (fun _=>?_) (fun _=>?_)) | (refine aq.ne (fun _=>?_) (fun _=>?_)) | (refine aq.split (fun _=>?_) (fun _=>?_)) | (simp (disch:=omega) only [↓wr,↓reduceIte,wq,ai,ah,ak,ae,af,ag,aj,isNil,Nat.reduceEqDiff,Nat.reduceAdd,Nat.reduceLT,Nat.reduceLeDiff,Int.reduceNeg,Int.reduceToNat,reduceCtorEq,ao,encS]))
  · rename_i hr
    have hf:=aO hr
    have h1:=hf.nN
    have h2:=hf.au
    have h3:=hf.dS
    have h4:=hf.start
    have hpl:=eT hr true
    try simp (disch:=omega) only [↓wr,↓reduceIte,wq,ai,ah,ak,ae,af,ag,aj,isNil,Nat.reduceEqDiff,Nat.reduceAdd,Nat.reduceLT,Nat.reduceLeDiff,Int.reduceNeg,Int.reduceToNat,reduceCtorEq,ao,encS]
    refine az.pure (qi g hg hs).pure (by kernel_rfl) ?_
    simp (disch:=omega) only [↓wr,↓reduceIte,wq,ai,ah,ak,ae,af,ag,aj,isNil,Nat.reduceEqDiff,Nat.reduceAdd,Nat.reduceLT,Nat.reduceLeDiff,Int.reduceNeg,Int.reduceToNat,reduceCtorEq,ao,encS,bk]
    intro q
    try simp (disch:=omega) only [↓wr,↓reduceIte,wq,ai,ah,ak,ae,af,ag,aj,isNil,Nat.reduceEqDiff,Nat.reduceAdd,Nat.reduceLT,Nat.reduceLeDiff,Int.reduceNeg,Int.reduceToNat,reduceCtorEq,ao,encS,set_set]
    refine ⟨⟨by omega,by unfold aI; omega,by unfold aI; omega⟩,fun h=>by omega,?_⟩
    intro _ n hn'
    have hnq:=(bJ hn' bM).1
    try simp (disch:=omega) only [↓wr,↓reduceIte,wq,ai,ah,ak,ae,af,ag,aj,isNil,Nat.reduceEqDiff,Nat.reduceAdd,Nat.reduceLT,Nat.reduceLeDiff,Int.reduceNeg,Int.reduceToNat,reduceCtorEq,ao,encS,set_set]
    have hbg:=im (is:=bG g) (show g.start.toNat < (bG g).length by simp[bG]; omega)
    refine ⟨by omega,by simp; omega,?_⟩
    refine az.ez ((x4 g hf.rules (oD (aw g true)) 118 [.ptr q 0 0] [.aK [bk (aw g true)] 0] (by kernel_rfl) g.au.length h2 (fun r hr' is his=>⟨zB r is (aw g true) (by rw[his]; exact hf.oF hg hr') (by rw[his,hpl]),?_,?_⟩) n ((bG g).set g.start.toNat true) (by simp[bG]) _ ?_ (fun H' hfr=>⟨bW.box (z:=1) ?_ ?_,trivial⟩)).mono ?_)
    · have h6:=hf.right r hr'
      unfold oD
      split
      · have:(er r.right).length≤r.right.length:=by simp only[er,List.length_map]; exact List.length_filter_le _ _
        omega
      · simp
    · intro m hm
      unfold oD at hm
      split at hm
      · simp only[er,List.mem_map,List.mem_filter,decide_eq_true_eq] at hm
        obtain ⟨s,⟨hs',hneg⟩,rfl⟩:=hm
        have a:=hf.neg hr' hs' hneg
        have b:=((hg.bj r hr').2.2.2 s hs').1
        exact ⟨⟨by omega,by omega⟩,by omega,a⟩
      · simp at hm
    · simp only[View.set,if_true]
      congr 1
      rw[← dM]
      unfold bG at hbg ⊢
      rw[uk,hbg]
      rfl
    · rw[hfr q (by simp[View.set,Ne.symm hnq]) (Ne.symm hnq)]
      simp[View.set,Ne.symm hnq]
      rfl
    · intro v hv; simp at hv; subst hv; exact eQ _
    · rintro r H' ⟨rfl,hid,_⟩
      simp (disch:=omega) only [↓wr,↓reduceIte,wq,ai,ah,ak,ae,af,ag,aj,isNil,Nat.reduceEqDiff,Nat.reduceAdd,Nat.reduceLT,Nat.reduceLeDiff,Int.reduceNeg,Int.reduceToNat,reduceCtorEq]
      intro h' hh
      rw[FH hr] at hid
      exact tM (by rw[hh]; exact hid) (by rw[l0 hr])
  · rename_i hr
    intro h' hh
    simp only[aQ,hr]
    exact .emp _
end Gv
set_option linter.unusedSimpArgs false
namespace Gv
open Go Go.Proofs
def bq (p q:List Bool) (r:aT):Bool:=q.getD r.left.toNat false && cg r.right p true
def bO (p q:List Bool):List aT→Int→List Int
  | [],_=>[]
  | r :: l,i=>if bq p q r=true then i :: bO p q l (i+1) else bO p q l (i+1)
def cH (acc:List Int) (r:aT):List Int:=if r.left∈acc then acc else acc ++ [r.left]
def bw (p q:List Bool) (l:List aT):List Int:=(l.filter (bq p q)).foldl cH []
def aW (o:List Int) (x:Int):Int:=cO (fun y=>y == x) o 0
def aZ (f:Int→Int) (r:aT):aT:=⟨f r.left,r.right.map fun s=>if s < 0 then -1 - f (-1 - s) else s,r.prec⟩
def eO (g:av) (f:Int→Int) (p q:List Bool):av :=
  ⟨g.aC,(bw p q g.rules).map fun x=>g.au.getD x.toNat ⟨#[]⟩,(g.rules.filter (bq p q)).map (aZ f),f g.start⟩
def u6:av:=⟨[],[],[],0⟩
def dp (g:av):av × List Int × Int :=
  if aR g=true then
    if (aw g true).getD g.start.toNat false=true then (eO g (aW (bw (aw g true) (aQ g) g.rules)) (aw g true) (aQ g),bO (aw g true) (aQ g) g.rules 0,0)
    else (u6,[],9)
  else (u6,[],1)
theorem fa {g:av} (hr:aR g=true):dp g=if (aw g true).getD g.start.toNat false=true then (eO g (aW (bw (aw g true) (aQ g) g.rules)) (aw g true) (aQ g),bO (aw g true) (aQ g) g.rules 0,0) else (u6,[],9):=by
  rw[dp,if_pos hr]
theorem gX (p q:List Bool):∀ (a b:List aT) (i:Int),bO p q (a ++ b) i=bO p q a i ++ bO p q b (i+a.length)
  | [],b,i=>by simp[bO]
  | r :: a,b,i=>by
    simp only[List.cons_append,bO,gX p q a b (i+1),List.length_cons]
    have:i+1+(a.length:Int)=i+((a.length+1:Nat):Int):=by push_cast; omega
    rw[this]
    split <;> simp
theorem hU (p q:List Bool):∀ (a:List aT) (i:Int),(bO p q a i).length=(a.filter (bq p q)).length
  | [],i=>rfl
  | r :: a,i=>by
    simp only[bO,List.filter_cons]
    split <;> simp[hU p q a]
theorem py (p q:List Bool):∀ (a:List aT) (i:Int) (k:Nat),k < (bO p q a i).length→∃ m:Nat,(bO p q a i)[k]?=some (i+m)∧a[m]?=(a.filter (bq p q))[k]?∧m < a.length
  | [],i,k,h=>by simp[bO] at h
  | r :: a,i,k,h=>by
    simp only[bO,List.filter_cons] at h ⊢
    by_cases hr:bq p q r=true
    · rw[if_pos hr] at h ⊢
      rw[if_pos hr]
      cases k with
      | zero=>exact ⟨0,by simp,by simp,by simp⟩
      | succ k =>
        obtain ⟨m,h1,h2,h3⟩:=py p q a (i+1) k (by simpa using h)
        exact ⟨m+1,by rw[List.getElem?_cons_succ,h1]; congr 1; push_cast; omega,by simpa using h2,by simpa using h3⟩
    · rw[if_neg hr] at h ⊢
      rw[if_neg hr]
      obtain ⟨m,h1,h2,h3⟩:=py p q a (i+1) k h
      exact ⟨m+1,by rw[h1]; congr 1; push_cast; omega,by simpa using h2,by simpa using h3⟩
theorem o6 (p q:List Bool) (l:List aT) (r:aT):bw p q (l ++ [r])=if bq p q r=true then cH (bw p q l) r else bw p q l:=by
  unfold bw
  rw[List.filter_append]
  by_cases h:bq p q r=true
  · rw[if_pos h,List.filter_cons_of_pos h,List.foldl_append]; rfl
  · rw[if_neg h,List.filter_cons_of_neg h]; simp
theorem w8 {acc:List Int} {r:aT} (h:acc.Nodup):(cH acc r).Nodup:=by
  unfold cH
  split
  · exact h
  · rename_i hn
    rw[List.nodup_append]
    exact ⟨h,by simp,fun a ha b hb e=>hn (by simp at hb; rw[← hb,← e]; exact ha)⟩
theorem oS {o:List Int} {x:Int} : aW o x < 0↔x ∉ o:=by
  have:=sf (fun y=>y == x) o 0 (by omega)
  unfold aW
  rw[← Int.not_le]
  constructor
  · intro h hx
    have e:(o.any fun y=>y == x)=true:=List.any_eq_true.2 ⟨x,hx,by simp⟩
    rw[e] at this; exact h (by simpa using this)
  · intro h hx
    have e:(o.any fun y=>y == x)=true:=by rw[← this]; simpa using hx
    obtain ⟨y,hy,e⟩:=List.any_eq_true.1 e
    simp at e; subst e; exact h hy
theorem qc {α:Type} (p:α→Bool):∀ (a b:List α) (i:Int),0≤i→cO p (a ++ b) i=if 0≤cO p a i then cO p a i else cO p b (i+a.length)
  | [],b,i,_=>by simp[cO]
  | x :: a,b,i,h=>by
    by_cases hp:p x=true
    · simp[cO,hp,h]
    · simp only[List.cons_append,cO,if_neg hp]
      rw[qc p a b (i+1) (by omega)]
      have:i+1+(a.length:Int)=i+(((x :: a).length:Nat):Int):=by simp; omega
      rw[this]
theorem EY {o:List Int} {x y:Int} (hx:x ∉ o):aW (o ++ [x]) y=if y=x then (o.length:Int) else aW o y:=by
  unfold aW
  rw[qc _ _ _ _ (by omega)]
  by_cases e:y=x
  · subst e
    rw[if_neg (by have:=oS.2 hx; unfold aW at this; omega),if_pos rfl]
    simp[cO]
  · rw[if_neg e]
    split
    · rfl
    · rename_i h
      have:aW o y < 0:=by unfold aW; omega
      have h2:cO (fun z=>z == y) [x] (0+(o.length:Int)) = -1:=by simp[cO,Ne.symm e]
      rw[h2]
      have:∀ (l:List Int) (i:Int),¬ 0≤cO (fun z=>z == y) l i→0≤i→cO (fun z=>z == y) l i = -1:=by
        intro l
        induction l with
        | nil=>intro i _ _; rfl
        | cons z l ih =>
          intro i h1 h2
          simp only[cO] at h1 ⊢
          split
          · rename_i hz; rw[if_pos hz] at h1; omega
          · rename_i hz; rw[if_neg hz] at h1; exact ih _ h1 (by omega)
      exact (this o 0 h (by omega)).symm
theorem iK {o:List Int} {x:Int} (h:x∈o):0≤aW o x∧aW o x < o.length:=by
  have h0:¬ aW o x < 0:=fun e=>oS.1 e h
  refine ⟨by omega,?_⟩
  unfold aW
  have:∀ (l:List Int) (i:Int),cO (fun z=>z == x) l i < i+l.length∨cO (fun z=>z == x) l i = -1:=by
    intro l
    induction l with
    | nil=>intro i; right; rfl
    | cons z l ih =>
      intro i
      simp only[cO]
      split
      · left; simp; omega
      · rcases ih (i+1) with h | h
        · left; simp at h ⊢; omega
        · right; exact h
  rcases this o 0 with h1 | h1
  · simpa using h1
  · unfold aW at h0; omega
theorem xO (o:List Int) (x:Int) : -1≤aW o x∧aW o x≤o.length:=by
  by_cases h:x∈o
  · have:=iK h; omega
  · have h1:=oS.2 h
    have h2:∀ (l:List Int) (i:Int),0≤i→-1≤cO (fun z=>z == x) l i:=by
      intro l
      induction l with
      | nil=>intro i _; simp[cO]
      | cons z l ih =>
        intro i hi
        simp only[cO]
        split
        · omega
        · exact ih _ (by omega)
    have:=h2 o 0 (by omega)
    unfold aW at h1 ⊢
    omega
def gh:List Int→Int→List (Int × Int)
  | [],_=>[]
  | x :: l,i=>(x,i) :: gh l (i+1)
theorem pt (x:Int):∀ (o:List Int) (i:Int),c3 (gh o i) x=if x∈o then some (cO (fun y=>y == x) o i) else none
  | [],i=>by simp[gh,c3]
  | y :: o,i=>by
    have ih:=pt x o (i+1)
    unfold c3 at ih ⊢
    simp only[gh,List.find?_cons,cO]
    by_cases e:x=y
    · subst e; simp
    · have e2:¬ ((y == x)=true):=by simp[Ne.symm e]
      rw[show (x == y)=false by simp[e],if_neg e2]
      simp only
      rw[ih]
      simp[e]
theorem y7 {x v:Int} : ∀ {o:List Int} {i:Int},x ∉ o→gF x v (gh o i)=gh o i ++ [(x,v)]
  | [],i,_=>rfl
  | y :: o,i,h=>by
    simp only[List.mem_cons,not_or] at h
    simp only[gh,gF,show (x == y)=false by simp[h.1],Bool.false_eq_true,if_false,y7 h.2,List.cons_append]
theorem wY {x:Int} : ∀ {o:List Int} {i:Int},gh (o ++ [x]) i=gh o i ++ [(x,i+o.length)]
  | [],i=>by simp[gh]
  | y :: o,i=>by
    simp only[List.cons_append,gh,wY (o:=o),List.length_cons]
    congr 4
    push_cast; omega
def cK (o:List Int) (x:Int):Int:=(c3 (gh o 0) x).getD 0
theorem uW {o:List Int} {x:Int} (h:x∈o):cK o x=aW o x:=by
  simp[cK,pt,h,aW]
theorem Ix (o:List Int) (x:Int):0≤cK o x∧cK o x≤o.length:=by
  by_cases h:x∈o
  · rw[uW h]; have:=iK h; omega
  · simp[cK,pt,h]
theorem Fh {g:av} {p q:List Bool} (hst:g.start∈bw p q g.rules) (hin:∀ r∈g.rules.filter (bq p q),r.left∈bw p q g.rules∧∀ s∈r.right,s < 0→-1 - s∈bw p q g.rules) :
    eO g (cK (bw p q g.rules)) p q=eO g (aW (bw p q g.rules)) p q:=by
  unfold eO
  congr 1
  · apply List.map_congr_left
    intro r hr
    obtain ⟨h1,h2⟩:=hin r hr
    unfold aZ
    congr 1
    · exact uW h1
    · apply List.map_congr_left
      intro s hs
      split
      · rename_i h; rw[uW (h2 s hs h)]
      · rfl
  · exact uW hst
theorem qT:∀ (l:List aT) (acc:List Int) (x:Int),x∈l.foldl cH acc↔x∈acc∨∃ r∈l,r.left=x
  | [],acc,x=>by simp
  | r :: l,acc,x=>by
    rw[List.foldl_cons,qT l]
    have:x∈cH acc r↔x∈acc∨r.left=x:=by
      unfold cH
      split
      · rename_i h
        constructor
        · exact .inl
        · rintro (h' | rfl)
          · exact h'
          · exact h
      · simp[eq_comm]
    rw[this]
    simp only[List.mem_cons,exists_eq_or_imp]
    constructor
    · rintro ((h | h) | h)
      · exact .inl h
      · exact .inr (.inl h)
      · exact .inr (.inr h)
    · rintro (h | h | h)
      · exact .inl (.inl h)
      · exact .inl (.inr h)
      · exact .inr h
theorem oG {p q:List Bool} {l:List aT} {x:Int} : x∈bw p q l↔∃ r∈l,bq p q r=true∧r.left=x:=by
  unfold bw
  rw[qT]
  simp[List.mem_filter,and_assoc]
end Gv
