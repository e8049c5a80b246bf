/-
  Part 10 of the proof: what the machine does and what the functions answer.
  Conditions: those that each lemma names.
-/
import Derived.Test.YtgniimkconobpaaGreatSGzKI
set_option linter.unusedSimpArgs false
set_option linter.unusedVariables false
set_option linter.unusedSimpArgs false
set_option maxRecDepth 100000
namespace Gv
open Go Go.Proofs
theorem bL.fb {P:Program} {f:FuncId} {h:aE} (h1:bL P f [.emp 1] h (.emp 1) h) (h2:bL P f [.emp 2] h (.emp 2) h) (h3:bL P f [.dy] h (.emp 2) h):bL P f [.aV []] h (.emp 0) h:=by
  refine ⟨Nat.le_refl _,fun Z μ F w xs hrel hr hfree=>?_⟩
  obtain ⟨hl,hv⟩:=hrel
  obtain ⟨x,rfl⟩:∃ x,xs=[x]:=by
    match xs,hl with
    | [x],_=>exact ⟨x,rfl⟩
  have h0:ay Z μ w.heap (.aV []) x:=hv 0 (by simp)
  have one:∀ v,ay Z μ w.heap v x→dN Z μ w.heap [v] [x]:=fun v h=>⟨rfl,fun i hi=>by
    simp at hi; subst hi; exact h⟩
  have weak:∀ k,bL P f [if k=3 then .dy else .emp k] h (if k=3 then .emp 2 else .emp k) h→ay Z μ w.heap (if k=3 then .dy else .emp k) x→Calls P f [x].toArray w fun e w'=>∃ x Z' μ',e=.returned x∧ay Z' μ' w'.heap (.emp 0) x∧fh Z' μ' w'.heap (cat h F)∧Ext Z μ w h.length Z' μ' w'∧(∀ id,id < h.length∨h.length≤id→μ' id=μ id):=by
    intro k hk hx
    refine (hk.2 Z μ F w [x] (one _ hx) hr hfree).mono ?_
    rintro e w' ⟨y,Z',μ',rfl,hy,rest⟩
    refine ⟨y,Z',μ',rfl,?_,rest⟩
    have:∀ k',ay Z' μ' w'.heap (.emp k') y→ay Z' μ' w'.heap (.emp 0) y:=fun k' h=>by
      cases h with | emp _ a _ _=>exact .emp 0 a (by simp) (by simp)
    split at hy <;> exact this _ hy
  rcases C8 h0 with ⟨_,a,cap,rfl,hz⟩ | ⟨b,off,esz,cap,c,rfl,_,_,_⟩
  · cases a with
    | none =>
      have:=hz rfl
      subst this
      exact weak 1 (by simpa using h1) (.emp 1 none (by simp) (by simp))
    | some a =>
      cases cap with
      | zero=>exact weak 2 (by simpa using h2) (.emp 2 (some a) (by simp) (by simp))
      | succ c=>exact weak 3 (by simpa using h3) (.dy a (c+1))
  · cases cap with
    | zero=>exact weak 2 (by simpa using h2) (.emp 2 (some ⟨b,off,none⟩) (by simp) (by simp))
    | succ c=>exact weak 3 (by simpa using h3) (.dy ⟨b,off,none⟩ (c+1))
def s8 (sz:Nat) (es:List (List V)) (H:View) (K:V→View→Prop):Prop :=
  (es=[]→∀ k,K (.emp k) H)∧(es≠[]→∀ n,H n=.dead→K (.sl n 0 es.length sz) (H.set n (.arr sz es)))
def cd:SF:=⟨.seq (an [((some 2),.op (.ak (.val (.emp 1))))]) <|
  .seq (.seq (an [aj 3 0,((some 4),.op (.nil true 0 (.tmp 3) (.val (.emp 1))))]) <|
  .cond (.tmp 4) (.seq (an [((some 2),.op (.ak (.val (.emp 1))))]) <|
  .ret) (.skip)) <|
  .seq (an [((some 5),.op (.ak (.val (.emp 2)))),aj 6 0,((some 7),.op (.app 1 16 (.tmp 5) (.tmp 6))),aj 2 7]) <|
  .ret,
  [.tmp 2],8⟩
theorem cA:aR Tryz.prog 59 []=some cd:=by kernel_rfl
def c3:SF:=⟨.seq (an [((some 2),.op (.ak (.val (.emp 1))))]) <|
  .seq (.seq (an [aj 3 0,((some 4),.op (.nil true 0 (.tmp 3) (.val (.emp 1))))]) <|
  .cond (.tmp 4) (.seq (an [((some 2),.op (.ak (.val (.emp 1))))]) <|
  .ret) (.skip)) <|
  .seq (an [((some 5),.op (.ak (.val (.emp 2)))),aj 6 0,((some 7),.op (.app 1 8 (.tmp 5) (.tmp 6))),aj 2 7]) <|
  .ret,
  [.tmp 2],8⟩
theorem df:aR Tryz.prog 76 []=some c3:=by kernel_rfl
def bR:SF:=⟨.seq (an [((some 2),.op (.ak (.val (.emp 1))))]) <|
  .seq (.seq (an [aj 3 0,((some 4),.op (.nil true 0 (.tmp 3) (.val (.emp 1))))]) <|
  .cond (.tmp 4) (.seq (an [((some 2),.op (.ak (.val (.emp 1))))]) <|
  .ret) (.skip)) <|
  .seq (an [((some 5),.op (.ak (.val (.emp 2)))),aj 6 0,((some 7),.op (.app 3 32 (.tmp 5) (.tmp 6))),aj 2 7]) <|
  .ret,
  [.tmp 2],8⟩
theorem bZ:aR Tryz.prog 74 []=some bR:=by kernel_rfl
theorem aC.tree {P:Program} {f:FuncId} {vs:List V} {t:V} (hv:∀ v∈vs,Tree v) (ht:Tree t) (h:∀ H,aB P f vs H fun r _=>r=t):aC P f vs t :=
  aC.of hv ((h _).mono fun r H' e h' _=>by rw[e]; exact .tree _ ht)
theorem pP {H:View} : bX H .dy=some ([],[]):=id rfl
theorem iF {H:View} (sz bytes k:Nat) (K:V→View→Prop) (w:cg (H,K)):nH sz bytes (.emp k) [] H K w=K (.emp k) H:=propext Iff.rfl
theorem Ez (l:List ByteArray) (hl:l.length≤100000) (H:View) (K:V→View→Prop) (hk:s8 1 (l.map fun s=>[gs s]) H K):aB Tryz.prog 59 [encS l] H K:=by
  cases l with
  | nil =>
    have hp:∀ v t,Tree v→Tree t→(∀ H,aB Tryz.prog 59 [v] H fun r _=>r=t)→aC Tryz.prog 59 [v] t:=fun v t hv ht h=>aC.tree (by intro x hx; simp at hx; subst hx; exact hv) ht h
    have h1:=hp (.emp 1) (.emp 1) (.emp 1) (.emp 1) (fun H=>by
      refine aB.of mixed cA ?_
      simp (disch:=omega) only [↓wr,↓reduceIte,wq,ah,ag,al,aa,ae,af,ai,isNil,Nat.reduceEqDiff,Nat.reduceAdd,Nat.reduceLT,Nat.reduceLeDiff,Int.reduceNeg,Int.reduceToNat,reduceCtorEq,cd])
    have h2:=hp (.emp 2) (.emp 2) (.emp 2) (.emp 2) (fun H=>by
      refine aB.of mixed cA ?_
      simp (disch:=omega) only [↓wr,↓reduceIte,wq,ah,ag,al,aa,ae,af,ai,isNil,Nat.reduceEqDiff,Nat.reduceAdd,Nat.reduceLT,Nat.reduceLeDiff,Int.reduceNeg,Int.reduceToNat,reduceCtorEq,cd,iF,List.isEmpty_nil])
    have h3:=hp .dy (.emp 2) .dy (.emp 2) (fun H=>by
      refine aB.of mixed cA ?_
      simp (disch:=omega) only [↓wr,↓reduceIte,wq,ah,ag,al,aa,ae,af,ai,isNil,Nat.reduceEqDiff,Nat.reduceAdd,Nat.reduceLT,Nat.reduceLeDiff,Int.reduceNeg,Int.reduceToNat,reduceCtorEq,cd,pP,iF,List.isEmpty_nil])
    refine ⟨by kernel_rfl,?_⟩
    rintro h rfl
    exact ⟨.emp 0,h,bL.fb (bL.fj h1 h) (bL.fj h2 h) (bL.fj h3 h),.refl _,hk.1 rfl 0⟩
  | cons x r =>
    refine aB.of mixed cA ?_
    simp only[List.length_cons] at hl
    simp (disch:=omega) only [↓wr,↓reduceIte,wq,ah,ag,al,aa,ae,af,ai,isNil,Nat.reduceEqDiff,Nat.reduceAdd,Nat.reduceLT,Nat.reduceLeDiff,Int.reduceNeg,Int.reduceToNat,reduceCtorEq,cd,encS]
    refine ⟨?_,?_,?_⟩
    · simp[List.all_map,encS,aN]
    · unfold aF; simp; omega
    · intro n hn
      have:=hk.2 (by simp) n hn
      simp (disch:=omega) only [↓wr,↓reduceIte,wq,ah,ag,al,aa,ae,af,ai,isNil,Nat.reduceEqDiff,Nat.reduceAdd,Nat.reduceLT,Nat.reduceLeDiff,Int.reduceNeg,Int.reduceToNat,reduceCtorEq]
      simpa [cb] using this
theorem Fj (l:List Int) (hl:l.length≤100000) (H:View) (K:V→View→Prop) (hk:s8 1 (l.map fun s=>[gi s]) H K):aB Tryz.prog 76 [encI l] H K:=by
  cases l with
  | nil =>
    have hp:∀ v t,Tree v→Tree t→(∀ H,aB Tryz.prog 76 [v] H fun r _=>r=t)→aC Tryz.prog 76 [v] t:=fun v t hv ht h=>aC.tree (by intro x hx; simp at hx; subst hx; exact hv) ht h
    have h1:=hp (.emp 1) (.emp 1) (.emp 1) (.emp 1) (fun H=>by
      refine aB.of mixed df ?_
      simp (disch:=omega) only [↓wr,↓reduceIte,wq,ah,ag,al,aa,ae,af,ai,isNil,Nat.reduceEqDiff,Nat.reduceAdd,Nat.reduceLT,Nat.reduceLeDiff,Int.reduceNeg,Int.reduceToNat,reduceCtorEq,c3])
    have h2:=hp (.emp 2) (.emp 2) (.emp 2) (.emp 2) (fun H=>by
      refine aB.of mixed df ?_
      simp (disch:=omega) only [↓wr,↓reduceIte,wq,ah,ag,al,aa,ae,af,ai,isNil,Nat.reduceEqDiff,Nat.reduceAdd,Nat.reduceLT,Nat.reduceLeDiff,Int.reduceNeg,Int.reduceToNat,reduceCtorEq,c3,iF,List.isEmpty_nil])
    have h3:=hp .dy (.emp 2) .dy (.emp 2) (fun H=>by
      refine aB.of mixed df ?_
      simp (disch:=omega) only [↓wr,↓reduceIte,wq,ah,ag,al,aa,ae,af,ai,isNil,Nat.reduceEqDiff,Nat.reduceAdd,Nat.reduceLT,Nat.reduceLeDiff,Int.reduceNeg,Int.reduceToNat,reduceCtorEq,c3,pP,iF,List.isEmpty_nil])
    refine ⟨by kernel_rfl,?_⟩
    rintro h rfl
    exact ⟨.emp 0,h,bL.fb (bL.fj h1 h) (bL.fj h2 h) (bL.fj h3 h),.refl _,hk.1 rfl 0⟩
  | cons x r =>
    refine aB.of mixed df ?_
    simp only[List.length_cons] at hl
    simp (disch:=omega) only [↓wr,↓reduceIte,wq,ah,ag,al,aa,ae,af,ai,isNil,Nat.reduceEqDiff,Nat.reduceAdd,Nat.reduceLT,Nat.reduceLeDiff,Int.reduceNeg,Int.reduceToNat,reduceCtorEq,c3,encI]
    refine ⟨?_,?_,?_⟩
    · simp[List.all_map,encI,aN]
    · unfold aF; simp; omega
    · intro n hn
      have:=hk.2 (by simp) n hn
      simp (disch:=omega) only [↓wr,↓reduceIte,wq,ah,ag,al,aa,ae,af,ai,isNil,Nat.reduceEqDiff,Nat.reduceAdd,Nat.reduceLT,Nat.reduceLeDiff,Int.reduceNeg,Int.reduceToNat,reduceCtorEq]
      simpa [cb] using this
theorem Fs (l:List Term) (hl:l.length≤100000) (H:View) (K:V→View→Prop) (hk:s8 3 (l.map cb) H K):aB Tryz.prog 74 [c7 l] H K:=by
  cases l with
  | nil =>
    have hp:∀ v t,Tree v→Tree t→(∀ H,aB Tryz.prog 74 [v] H fun r _=>r=t)→aC Tryz.prog 74 [v] t:=fun v t hv ht h=>aC.tree (by intro x hx; simp at hx; subst hx; exact hv) ht h
    have h1:=hp (.emp 1) (.emp 1) (.emp 1) (.emp 1) (fun H=>by
      refine aB.of mixed bZ ?_
      simp (disch:=omega) only [↓wr,↓reduceIte,wq,ah,ag,al,aa,ae,af,ai,isNil,Nat.reduceEqDiff,Nat.reduceAdd,Nat.reduceLT,Nat.reduceLeDiff,Int.reduceNeg,Int.reduceToNat,reduceCtorEq,bR])
    have h2:=hp (.emp 2) (.emp 2) (.emp 2) (.emp 2) (fun H=>by
      refine aB.of mixed bZ ?_
      simp (disch:=omega) only [↓wr,↓reduceIte,wq,ah,ag,al,aa,ae,af,ai,isNil,Nat.reduceEqDiff,Nat.reduceAdd,Nat.reduceLT,Nat.reduceLeDiff,Int.reduceNeg,Int.reduceToNat,reduceCtorEq,bR,iF,List.isEmpty_nil])
    have h3:=hp .dy (.emp 2) .dy (.emp 2) (fun H=>by
      refine aB.of mixed bZ ?_
      simp (disch:=omega) only [↓wr,↓reduceIte,wq,ah,ag,al,aa,ae,af,ai,isNil,Nat.reduceEqDiff,Nat.reduceAdd,Nat.reduceLT,Nat.reduceLeDiff,Int.reduceNeg,Int.reduceToNat,reduceCtorEq,bR,pP,iF,List.isEmpty_nil])
    refine ⟨by kernel_rfl,?_⟩
    rintro h rfl
    exact ⟨.emp 0,h,bL.fb (bL.fj h1 h) (bL.fj h2 h) (bL.fj h3 h),.refl _,hk.1 rfl 0⟩
  | cons x r =>
    refine aB.of mixed bZ ?_
    simp only[List.length_cons] at hl
    simp (disch:=omega) only [↓wr,↓reduceIte,wq,ah,ag,al,aa,ae,af,ai,isNil,Nat.reduceEqDiff,Nat.reduceAdd,Nat.reduceLT,Nat.reduceLeDiff,Int.reduceNeg,Int.reduceToNat,reduceCtorEq,bR,c7,cb]
    refine ⟨?_,?_,?_⟩
    · simp[List.all_map,c7,cb,aN]
    · unfold aF; simp; omega
    · intro n hn
      have:=hk.2 (by simp) n hn
      simp (disch:=omega) only [↓wr,↓reduceIte,wq,ah,ag,al,aa,ae,af,ai,isNil,Nat.reduceEqDiff,Nat.reduceAdd,Nat.reduceLT,Nat.reduceLeDiff,Int.reduceNeg,Int.reduceToNat,reduceCtorEq]
      simpa [cb] using this
theorem s8.own {sz:Nat} {es:List (List V)} {H:View} : s8 sz es H fun r H'=>bp H' r sz es∧dG H H' r :=
  ⟨fun he k=>⟨by rw[he]; exact .nil,.emp⟩,fun _ n hn=>⟨.new,.new hn⟩⟩
theorem EO (l:List ByteArray) (hl:l.length≤100000) (H:View):aB Tryz.prog 59 [encS l] H fun r H'=>bp H' r 1 (l.map fun s=>[gs s])∧dG H H' r:=Ez l hl H _ .own
theorem FD (l:List Int) (hl:l.length≤100000) (H:View):aB Tryz.prog 76 [encI l] H fun r H'=>bp H' r 1 (l.map fun s=>[gi s])∧dG H H' r:=Fj l hl H _ .own
theorem EZ (l:List Term) (hl:l.length≤100000) (H:View):aB Tryz.prog 74 [c7 l] H fun r H'=>bp H' r 3 (l.map cb)∧dG H H' r:=Fs l hl H _ .own
end Gv
set_option linter.unusedSimpArgs false
set_option maxRecDepth 100000
namespace Gv
open Go Go.Proofs
def ji (g:au):List aO→Int→Bool
  | [],next=>next == g.ar.length
  | r :: l,next=>decide (0≤r.left) && decide (r.left≤next) && ff g r && ji g l (if r.left+1 > next then r.left+1 else next)
def oM (g:au):List ByteArray:=g.ar ++ g.aA.map Term.name
def mV (g:au):Bool :=
  oB g.aA && (decide ((1:Int)≤g.ar.length) && decide ((g.ar.length:Int)≤16)) && (decide ((1:Int)≤g.rules.length) && decide ((g.rules.length:Int)≤40)) && decide (names (oM g)).Nodup && (decide (0≤g.start) && decide (g.start≤(g.ar.length:Int) - 1)) &&
    !(g.ar.any fun s=>!dY (dD s)) && ji g g.rules 0
theorem Bf {l:List ByteArray} : ∀ e∈(l.map fun s=>[gs s]),∀ v∈e,Tree v:=by
  intro e he v hv
  obtain ⟨a,_,rfl⟩:=List.mem_map.1 he
  rw[List.mem_singleton] at hv
  subst hv
  exact .val _
set_option maxHeartbeats 4000000 in
theorem Fl (g:au) (hg:g.Ok) (hs:g.ar.length+g.aA.length≤1000) (H:View):aB Tryz.prog 38 [.agg (ao g)] H fun r _=>r=gb (mV g):=by
  refine aB.of mixed xK ?_
  have hn:=hg.ar
  have ht:=hg.aA
  have hr:=hg.rules
  unfold aK at hn ht hr
  simp (disch:=omega) only [↓wr,↓reduceIte,wq,ah,ag,al,aa,ae,af,ai,isNil,Nat.reduceEqDiff,Nat.reduceAdd,Nat.reduceLT,Nat.reduceLeDiff,Int.reduceNeg,Int.reduceToNat,reduceCtorEq,vq,ao,encS]
  refine ax.ez ((EO g.ar (by omega) H).mono ?_)
  rintro u H1 ⟨hu,hf⟩
  simp (disch:=omega) only [↓wr,↓reduceIte,wq,ah,ag,al,aa,ae,af,ai,isNil,Nat.reduceEqDiff,Nat.reduceAdd,Nat.reduceLT,Nat.reduceLeDiff,Int.reduceNeg,Int.reduceToNat,reduceCtorEq,ao,encS]
  refine bm.up g.aA.length (fun i T H=>T 1=.aI (ao g) 0∧(∃ u,T 3=u∧bp H u 1 ((g.ar ++ (g.aA.take i).map Term.name).map fun s=>[gs s]))∧T 13=c7 g.aA∧T 14=gi g.aA.length∧T 15=gi i) ?_ ?_
  · exact ⟨rfl,⟨u,rfl,by simpa using hu⟩,rfl,rfl,rfl⟩
  rintro i k T H' hk ⟨h1,⟨u,h3,hu⟩,h13,h14,h15⟩
  simp (disch:=omega) only [↓wr,↓reduceIte,wq,ah,ag,al,aa,ae,af,ai,isNil,Nat.reduceEqDiff,Nat.reduceAdd,Nat.reduceLT,Nat.reduceLeDiff,Int.reduceNeg,Int.reduceToNat,reduceCtorEq,sx,h1,h13,h14,h15,c7]
  refine aq.dec (fun hc=>?_) (fun hc=>?_)
  · have hg2:g.aA[i]?=some (g.aA[i]'(by omega)):=List.getElem?_eq_getElem (by omega)
    have htk:(g.aA.take (i+1)).map Term.name=(g.aA.take i).map Term.name ++ [(g.aA[i]'(by omega)).name]:=by
      rw[List.take_add_one,hg2,List.map_append]; rfl
    generalize g.aA[i]'(by omega)=t at hg2 htk
    simp (disch:=omega) only [↓wr,↓reduceIte,wq,ah,ag,al,aa,ae,af,ai,isNil,Nat.reduceEqDiff,Nat.reduceAdd,Nat.reduceLT,Nat.reduceLeDiff,Int.reduceNeg,Int.reduceToNat,reduceCtorEq,h1,h3,h13,h14,h15,c7,cb,List.getElem?_map,hg2]
    intro b hb
    try simp (disch:=omega) only [↓wr,↓reduceIte,wq,ah,ag,al,aa,ae,af,ai,isNil,Nat.reduceEqDiff,Nat.reduceAdd,Nat.reduceLT,Nat.reduceLeDiff,Int.reduceNeg,Int.reduceToNat,reduceCtorEq,h1,h3,h13,h14,h15,set_set]
    intro m hm
    have hmb:=(bG hm bI).1
    have hm:=(bG (bG hm bI).2 bI).2
    try simp (disch:=omega) only [↓wr,↓reduceIte,wq,ah,ag,al,aa,ae,af,ai,isNil,Nat.reduceEqDiff,Nat.reduceAdd,Nat.reduceLT,Nat.reduceLeDiff,Int.reduceNeg,Int.reduceToNat,reduceCtorEq,h1,h3,h13,h14,h15,dc]
    have hl:((g.ar ++ (g.aA.take i).map Term.name).map fun s=>[gs s]).length≤1000:=by simp; omega
    refine mG (((hu.fresh hb).other (hu.ne hb)).fresh (by simp[View.set,hm,hmb])) (by simp) (by simp[aN]) (by unfold aF; simp at hl ⊢; omega) (by unfold aF; simp at hl ⊢; omega) ?_
    intro u' H2 hu' _
    simp (disch:=omega) only [↓wr,↓reduceIte,wq,ah,ag,al,aa,ae,af,ai,isNil,Nat.reduceEqDiff,Nat.reduceAdd,Nat.reduceLT,Nat.reduceLeDiff,Int.reduceNeg,Int.reduceToNat,reduceCtorEq,h1,h3,h13,h14,h15]
    refine aP hk (by omega) ⟨h1,⟨u',rfl,?_⟩,h13,h14,rfl⟩
    rw[htk]
    simpa using hu'
  · rw[List.take_of_length_le (by omega)] at hu
    have hal:H'=H':=rfl
    have hall:(oM g).length≤1000:=by simp[oM]; omega
    repeat' (first | (refine aq.dec (fun _=>?_) (fun _=>?_)) | (refine aq.eq (fun _=>?_) (fun _=>?_)) | (refine aq.ne (fun _=>?_) (fun _=>?_)) | (refine aq.split (fun _=>?_) (fun _=>?_)) | (refine ax.pure (EW g.aA hg.aA) (by kernel_rfl) ?_) | (refine ax.pure (nN _ _ _) (by kernel_rfl) ?_) | (refine ax.vt (Hw (oM g) hall) (by kernel_rfl) (.val _) ⟨bS.own hu Bf,trivial⟩ ?_) | (simp (disch:=omega) only [↓wr,↓reduceIte,wq,ah,ag,al,aa,ae,af,ai,isNil,Nat.reduceEqDiff,Nat.reduceAdd,Nat.reduceLT,Nat.reduceLeDiff,Int.reduceNeg,Int.reduceToNat,reduceCtorEq,h1,h3,h13,h14,h15,ao,encS]))
    all_goals try (simp[mV, *]; done)
    rename_i e1 e2 e3 e4 e5
    refine ax.pure (vx g.ar hg.ar 64 [] (by simp) (fun s=>!dY (dD s)) (fun x _=>DZ x) (by kernel_rfl)) (by kernel_rfl) ?_
    repeat' (first | (refine aq.dec (fun _=>?_) (fun _=>?_)) | (refine aq.eq (fun _=>?_) (fun _=>?_)) | (refine aq.ne (fun _=>?_) (fun _=>?_)) | (refine aq.split (fun _=>?_) (fun _=>?_)) | (simp (disch:=omega) only [↓wr,↓reduceIte,wq,ah,ag,al,aa,ae,af,ai,isNil,Nat.reduceEqDiff,Nat.reduceAdd,Nat.reduceLT,Nat.reduceLeDiff,Int.reduceNeg,Int.reduceToNat,reduceCtorEq,h1,h3,h13,h14,h15,ao,encS]))
    all_goals try (simp[mV, *]; done)
    rename_i e6
    have hle:g.rules.length≤40:=by simp at e3; omega
    have hpre:∀ b,ji g g.rules 0=b→gb b=gb (mV g):=fun b e=>by
      simp only[mV,e1,e2,e3,e4,e5,e6,e,decide_true,Bool.true_and,Bool.not_false]
    refine bm.up g.rules.length (fun i T _=>∃ w:Int,0≤w∧w≤i∧ji g (g.rules.drop i) w=ji g g.rules 0∧T 1=.aI (ao g) 0∧T 6=gi w∧T 62=.aV (g.rules.map aG)∧T 63=gi g.rules.length∧T 64=gi i) ?_ ?_
    · exact ⟨0,by omega,by omega,rfl,h1,rfl,rfl,rfl,rfl⟩
    rintro i k T H' hk ⟨w,hw1,hw2,hi,h1,h6,h62,h63,h64⟩
    simp (disch:=omega) only [↓wr,↓reduceIte,wq,ah,ag,al,aa,ae,af,ai,isNil,Nat.reduceEqDiff,Nat.reduceAdd,Nat.reduceLT,Nat.reduceLeDiff,Int.reduceNeg,Int.reduceToNat,reduceCtorEq,sq,h1,h6,h62,h63,h64,ao]
    refine aq.dec (fun hc=>?_) (fun hc=>?_)
    · have hg2:g.rules[i]?=some (g.rules[i]'(by omega)):=List.getElem?_eq_getElem (by omega)
      rw[dI (show i < g.rules.length by omega)] at hi
      have hmem:g.rules[i]'(by omega)∈g.rules:=List.getElem_mem _
      generalize g.rules[i]'(by omega)=t at hg2 hi hmem
      obtain ⟨⟨hl1,hl2⟩,hp,hr1,hr2⟩:=hg.bg t hmem
      simp only[ji] at hi
      simp (disch:=omega) only [↓wr,↓reduceIte,wq,ah,ag,al,aa,ae,af,ai,isNil,Nat.reduceEqDiff,Nat.reduceAdd,Nat.reduceLT,Nat.reduceLeDiff,Int.reduceNeg,Int.reduceToNat,reduceCtorEq,h1,h6,h62,h63,h64,aG,encI,List.getElem?_map,hg2]
      intro b hb
      repeat' (first | (refine aq.dec (fun _=>?_) (fun _=>?_)) | (refine aq.eq (fun _=>?_) (fun _=>?_)) | (refine aq.ne (fun _=>?_) (fun _=>?_)) | (refine aq.split (fun _=>?_) (fun _=>?_)) | (refine ax.pure (nN _ _ _) (by kernel_rfl) ?_) | (refine ax.pure (Hn g t hg ⟨hr1,hr2⟩) (by kernel_rfl) ?_) | (simp (disch:=omega) only [↓wr,↓reduceIte,wq,ah,ag,al,aa,ae,af,ai,isNil,Nat.reduceEqDiff,Nat.reduceAdd,Nat.reduceLT,Nat.reduceLeDiff,Int.reduceNeg,Int.reduceToNat,reduceCtorEq,h1,h6,h62,h63,h64,ao,aG,encI,encS,set_set]))
      · rename_i e7 e8
        have e7':0≤t.left∧t.left≤w:=by simpa using e7
        rw[e7,e8,Bool.true_and,Bool.true_and] at hi
        have hw:IntKind.wrap .i64 (t.left+1)=t.left+1:=wrap64 (by omega) (by omega)
        refine aP hk (by omega) ⟨_,by split <;> omega,by split <;> (push_cast; omega),hi,h1,?_,h62,h63,rfl⟩
        show gi (if IntKind.wrap .i64 (t.left+1) > w then IntKind.wrap .i64 (t.left+1) else w)=_
        rw[hw]
      · rename_i e7 e8
        rw[e8,Bool.and_false,Bool.false_and] at hi
        exact hpre _ hi.symm
      · rename_i e7
        rw[e7,Bool.false_and,Bool.false_and] at hi
        exact hpre _ hi.symm
    · rw[List.drop_eq_nil_of_le (by omega)] at hi
      simp only[ji] at hi
      simp (disch:=omega) only [↓wr,↓reduceIte,wq,ah,ag,al,aa,ae,af,ai,isNil,Nat.reduceEqDiff,Nat.reduceAdd,Nat.reduceLT,Nat.reduceLeDiff,Int.reduceNeg,Int.reduceToNat,reduceCtorEq,h1,h6,h62,h63,h64,ao,encS]
      exact hpre _ hi.symm
theorem D0 (g:au) (hg:g.Ok) (hs:g.ar.length+g.aA.length≤1000):aC Tryz.prog 38 [.agg (ao g)] (gb (mV g)):=aC.val (fi g) (Fl g hg hs)
theorem Be (g:au):∀ (l:List aO) (next:Int),ji g l next=eE g l (next - 1)
  | [],next=>by
    simp only[ji,eE]
    rw[Bool.eq_iff_iff]; simp
  | r :: l,next=>by
    simp only[ji,eE,Be g l]
    have e1:(if r.left+1 > next then r.left+1 else next) - 1=if r.left > next - 1 then r.left else next - 1:=by
      split <;> split <;> omega
    have e2:next - 1+1=next:=by omega
    rw[e1,e2]
theorem tV (s:ByteArray):∀ (l:List ByteArray) (i:Int),0≤i→(ki s l i < 0∧s ∉ l)∨∃ k:Nat,ki s l i=i+k∧l[k]?=some s∧∀ j < k,l[j]?≠some s
  | [],i,h=>.inl ⟨by simp[ki],by simp⟩
  | x :: l,i,h=>by
    have hx:iE x s=true↔x=s:=by
      unfold iE
      rw[beq_iff_eq]
      constructor
      · intro e; cases x; cases s; simp at e; simp[e]
      · rintro rfl; rfl
    simp only[ki]
    by_cases e:x=s
    · rw[if_pos (hx.2 e)]
      exact .inr ⟨0,by simp,by simp[e],by simp⟩
    · rw[if_neg (fun h=>e (hx.1 h))]
      rcases tV s l (i+1) (by omega) with ⟨h1,h2⟩ | ⟨k,h1,h2,h3⟩
      · exact .inl ⟨h1,by simp[h2,Ne.symm e]⟩
      · refine .inr ⟨k+1,by rw[h1]; push_cast; omega,by simpa using h2,fun j hj=>?_⟩
        cases j with
        | zero=>simp[e]
        | succ j=>simpa using h3 j (by omega)
theorem pn (l:List ByteArray):(∀ (k:Nat) (s:ByteArray),l[k]?=some s→ki s l 0=k)↔l.Nodup:=by
  constructor
  · intro h
    rw[List.nodup_iff_pairwise_ne,List.pairwise_iff_getElem]
    intro i j hi hj hij e
    have h1:=h i l[i] (by simp[hi])
    have h2:=h j l[j] (by simp[hj])
    rw[e] at h1
    omega
  · intro hn k s hk
    rcases tV s l 0 (by omega) with ⟨_,h2⟩ | ⟨j,h1,h2,h3⟩
    · exact absurd (List.mem_of_getElem? hk) h2
    · have hj:j < l.length:=by
        rcases Nat.lt_or_ge j l.length with h | h
        · exact h
        · simp[List.getElem?_eq_none h] at h2
      have hk':k < l.length:=by
        rcases Nat.lt_or_ge k l.length with h | h
        · exact h
        · simp[List.getElem?_eq_none h] at hk
      have:j=k:=(List.getElem_inj hn).1 (by
        rw[List.getElem?_eq_getElem hj] at h2; rw[List.getElem?_eq_getElem hk'] at hk
        simp at h2 hk; rw[h2,hk])
      rw[h1,this]; simp
theorem bytes_inj {a b:ByteArray} : a.data.toList=b.data.toList↔a=b:=by
  constructor
  · intro h; cases a; cases b; simp at h; simp[h]
  · rintro rfl; rfl
theorem Gb {l:List ByteArray} : (names l).Nodup↔l.Nodup:=by
  unfold names
  rw[List.nodup_iff_pairwise_ne,List.pairwise_map,List.nodup_iff_pairwise_ne]
  constructor
  · exact fun h=>h.imp fun h e=>h (bytes_inj.2 e)
  · exact fun h=>h.imp fun h e=>h (bytes_inj.1 e)
end Gv
set_option linter.unusedSimpArgs false
namespace Gv
open Go Go.Proofs
theorem mI {α:Type} [BEq α] [LawfulBEq α]:∀ (l m:List α),l.Nodup→(∀ x∈l,x∈m)→l.length≤m.length
  | [],m,_,_=>by simp
  | x :: l,m,hn,hs=>by
    rw[List.nodup_cons] at hn
    have hx:x∈m:=hs x (by simp)
    have:=mI l (m.erase x) hn.2 (fun y hy=>by
      have hne:y≠x:=by rintro rfl; exact hn.1 hy
      exact (List.mem_erase_of_ne hne).2 (hs y (by simp[hy])))
    rw[List.length_erase_of_mem hx] at this
    have:0 < m.length:=List.length_pos_of_mem hx
    simp only[List.length_cons]
    omega
def jo (n:Nat):List Int:=(List.range n).map fun (k:Nat)=>(k:Int)+1
theorem rq {n:Nat} {x:Int} : x∈jo n↔1≤x∧x≤n:=by
  simp only[jo,List.mem_map,List.mem_range]
  constructor
  · rintro ⟨k,hk,rfl⟩; omega
  · rintro ⟨h1,h2⟩; exact ⟨(x - 1).toNat,by omega,by omega⟩
theorem Ao (n:Nat):(jo n).Nodup:=by
  rw[jo,List.nodup_iff_pairwise_ne,List.pairwise_map]
  exact (List.nodup_range (n:=n)).imp fun h e=>h (by omega)
theorem IA {l:List Int} {n:Nat} (hn:l.Nodup) (hs:∀ x∈l,1≤x∧x≤n) (hl:l.length=n) {x:Int} (h1:1≤x) (h2:x≤n):x∈l:=by
  refine Classical.byContradiction fun hx=>?_
  have:=mI (x :: l) (jo n) (List.nodup_cons.2 ⟨hx,hn⟩) (fun y hy=>by
    rw[rq]
    rcases List.mem_cons.1 hy with rfl | hy
    · exact ⟨h1,h2⟩
    · exact hs y hy)
  simp[jo] at this
  omega
theorem rW (n:Int):∀ (l:List Term) (w:Int),w≠0→fP n l w=if (∀ t∈l,t.level=n→t.assoc=w) then some w else none
  | [],w,_=>by simp[fP]
  | t :: r,w,hw=>by
    simp only[fP]
    by_cases ht:t.level=n
    · rw[if_pos ht]
      by_cases ha:w=t.assoc
      · rw[if_neg (by simp[ha]),← ha,rW n r w hw]
        congr 1
        simp[ht,ha]
      · rw[if_pos ⟨hw,ha⟩,if_neg (fun h=>ha (h t (by simp) ht).symm)]
    · rw[if_neg ht,rW n r w hw]
      congr 1
      simp[ht]
theorem w5 (n:Int):∀ (l:List Term),(∀ t∈l,t.level=n→t.assoc≠0)→(eF l n=true↔∃ a,(∃ t∈l,t.level=n)∧∀ t∈l,t.level=n→t.assoc=a)
  | [],_=>by simp[eF,fP]
  | t :: r,h=>by
    by_cases ht:t.level=n
    · have ha:=h t (by simp) ht
      have e:eF (t :: r) n=match (if (∀ u∈r,u.level=n→u.assoc=t.assoc) then some t.assoc else none) with | some w=>w != 0 | none=>false:=by
        simp only[eF,fP]
        rw[if_pos ht,if_neg (by simp),rW n r _ ha]
        rfl
      rw[e]
      by_cases hr:∀ u∈r,u.level=n→u.assoc=t.assoc
      · rw[if_pos hr]
        simp only[bne_iff_ne,ne_eq,ha,not_false_eq_true,true_iff]
        refine ⟨t.assoc,⟨t,by simp,ht⟩,fun u hu hl=>?_⟩
        rcases List.mem_cons.1 hu with rfl | hu
        · rfl
        · exact hr u hu hl
      · rw[if_neg hr]
        simp only[Bool.false_eq_true,false_iff]
        rintro ⟨a,_,h2⟩
        exact hr fun u hu hl=>(h2 u (by simp[hu]) hl).trans (h2 t (by simp) ht).symm
    · have ih:=w5 n r (fun u hu=>h u (by simp[hu]))
      have e:eF (t :: r) n=eF r n:=by
        simp only[eF,fP,if_neg ht]
      rw[e,ih]
      constructor
      · rintro ⟨a,⟨u,hu,hl⟩,h2⟩
        refine ⟨a,⟨u,by simp[hu],hl⟩,fun v hv hl=>?_⟩
        rcases List.mem_cons.1 hv with rfl | hv
        · exact absurd hl ht
        · exact h2 v hv hl
      · rintro ⟨a,⟨u,hu,hl⟩,h2⟩
        rcases List.mem_cons.1 hu with rfl | hu
        · exact absurd hl ht
        · exact ⟨a,⟨u,hu,hl⟩,fun v hv=>h2 v (by simp[hv])⟩
def qz (l:List Term):Prop:=∀ t∈l,∀ u∈l,t.level=u.level→t.level≠0→t.assoc=u.assoc
theorem Aq {κ β:Type} [BEq κ] [LawfulBEq κ] {k:κ} {v:β} : ∀ {a:List (κ × β)},(a.map (·.1)).Nodup→((gD k v a).map (·.1)).Nodup∧∀ x,x∈(gD k v a).map (·.1)↔x=k∨x∈a.map (·.1)
  | [],_=>by simp[gD]
  | y :: a,h=>by
    simp only[List.map_cons,List.nodup_cons] at h
    obtain ⟨h1,h2⟩:=Aq (k:=k) (v:=v) h.2
    simp only[gD]
    by_cases e:k=y.1
    · simp only[e,beq_self_eq_true,if_true,List.map_cons,List.nodup_cons]
      refine ⟨h,fun x=>by simp[e]⟩
    · have:(k == y.1)=false:=by simp[e]
      rw[this]
      simp only[Bool.false_eq_true,if_false,List.map_cons,List.nodup_cons,List.mem_cons]
      refine ⟨⟨fun hm=>?_,h1⟩,fun x=>?_⟩
      · rcases (h2 _).1 hm with e' | hm
        · exact e e'.symm
        · exact h.1 hm
      · rw[h2]
        constructor
        · rintro (h | h | h) <;> simp[h]
        · rintro (h | h | h) <;> simp[h]
theorem tI:∀ (l:List Term) (a:List (Int × Int)) (top:Int),(∀ t∈l,t.level≠0→t.assoc≠0)→(∀ n v,cX a n=some v→v≠0)→(a.map (·.1)).Nodup →
    match jM l a top with
    | some (a',top')=>qz l∧(∀ t∈l,∀ v,t.level≠0→cX a t.level=some v→t.assoc=v)∧(a'.map (·.1)).Nodup∧(∀ n,n∈a'.map (·.1)↔n∈a.map (·.1)∨(n≠0∧∃ t∈l,t.level=n)) ∧
        top≤top'∧(∀ t∈l,t.level≠0→t.level≤top')∧(top'=top∨∃ t∈l,t.level=top'∧t.level≠0)
    | none=>¬ (qz l∧∀ t∈l,∀ v,t.level≠0→cX a t.level=some v→t.assoc=v)
  | [],a,top,_,_,hn=>by
    simp only[jM]
    exact ⟨fun t ht=>by simp at ht,fun t ht=>by simp at ht,hn,fun n=>by simp,by omega,fun t ht=>by simp at ht,by simp⟩
  | t :: r,a,top,h0,hv,hn=>by
    have h0r:∀ u∈r,u.level≠0→u.assoc≠0:=fun u hu=>h0 u (by simp[hu])
    simp only[jM]
    by_cases ht:t.level=0
    · rw[if_pos ht]
      have ih:=tI r a top h0r hv hn
      have one:qz (t :: r)↔qz r:=by
        constructor
        · exact fun h u hu w hw=>h u (by simp[hu]) w (by simp[hw])
        · intro h u hu w hw e hz
          rcases List.mem_cons.1 hu with rfl | hu
          · exact absurd ht hz
          · rcases List.mem_cons.1 hw with rfl | hw
            · exact absurd (e.trans ht) hz
            · exact h u hu w hw e hz
      have con:(∀ u∈t :: r,∀ v,u.level≠0→cX a u.level=some v→u.assoc=v)↔∀ u∈r,∀ v,u.level≠0→cX a u.level=some v→u.assoc=v:=by
        simp[ht]
      have mem:∀ n,(n≠0∧∃ u∈t :: r,u.level=n)↔(n≠0∧∃ u∈r,u.level=n):=fun n=>by
        constructor
        · rintro ⟨h1,u,hu,rfl⟩
          rcases List.mem_cons.1 hu with rfl | hu
          · exact absurd ht h1
          · exact ⟨h1,u,hu,rfl⟩
        · rintro ⟨h1,u,hu,rfl⟩; exact ⟨h1,u,by simp[hu],rfl⟩
      cases hs:jM r a top with
      | none=>rw[hs] at ih; rw[one,con]; exact ih
      | some x =>
        obtain ⟨a',top'⟩:=x
        rw[hs] at ih
        obtain ⟨i1,i2,i3,i4,i5,i6,i7⟩:=ih
        refine ⟨one.2 i1,con.2 i2,i3,fun n=>by rw[i4,mem],i5,?_,?_⟩
        · intro u hu hz
          rcases List.mem_cons.1 hu with rfl | hu
          · exact absurd ht hz
          · exact i6 u hu hz
        · rcases i7 with h | ⟨u,hu,h⟩
          · exact .inl h
          · exact .inr ⟨u,by simp[hu],h⟩
    · rw[if_neg ht]
      have ha:=h0 t (by simp) ht
      by_cases hc:(cX a t.level).getD 0≠0∧(cX a t.level).getD 0≠t.assoc
      · rw[if_pos hc]
        simp only
        rintro ⟨_,h2⟩
        cases hp:cX a t.level with
        | none=>simp[hp] at hc
        | some v =>
          have:=h2 t (by simp) v ht hp
          simp[hp] at hc
          exact hc.2 this.symm
      · rw[if_neg hc]
        have hcon:∀ v,cX a t.level=some v→t.assoc=v:=fun v hp=>by
          have:=hv _ _ hp
          simp[hp] at hc
          exact (hc this).symm
        have hput:∀ n,cX (gD t.level t.assoc a) n=if n=t.level then some t.assoc else cX a n:=fun n=>by
          rw[An]; simp
        have hk:=Aq (k:=t.level) (v:=t.assoc) hn
        have ih:=tI r (gD t.level t.assoc a) (if t.level > top then t.level else top) h0r (fun n v hp=>by
          rw[hput] at hp
          split at hp
          · simp at hp; rw[← hp]; exact ha
          · exact hv n v hp) hk.1
        have both:(qz (t :: r)∧∀ u∈t :: r,∀ v,u.level≠0→cX a u.level=some v→u.assoc=v)↔(qz r∧∀ u∈r,∀ v,u.level≠0→cX (gD t.level t.assoc a) u.level=some v→u.assoc=v):=by
          constructor
          · rintro ⟨h1,h2⟩
            refine ⟨fun u hu w hw=>h1 u (by simp[hu]) w (by simp[hw]),fun u hu v hz hp=>?_⟩
            rw[hput] at hp
            split at hp
            · rename_i e
              simp at hp; rw[← hp]
              exact h1 u (by simp[hu]) t (by simp) e hz
            · exact h2 u (by simp[hu]) v hz hp
          · rintro ⟨h1,h2⟩
            have h3:∀ u∈r,u.level=t.level→u.assoc=t.assoc:=fun u hu e=>h2 u hu t.assoc (by rw[e]; exact ht) (by rw[hput,if_pos e])
            refine ⟨fun u hu w hw e hz=>?_,fun u hu v hz hp=>?_⟩
            · rcases List.mem_cons.1 hu with e1 | hu2
              · rcases List.mem_cons.1 hw with e2 | hw2
                · rw[e1,e2]
                · rw[e1] at e ⊢
                  exact (h3 w hw2 e.symm).symm
              · rcases List.mem_cons.1 hw with e2 | hw2
                · rw[e2] at e ⊢
                  exact h3 u hu2 e
                · exact h1 u hu2 w hw2 e hz
            · rcases List.mem_cons.1 hu with rfl | hu
              · exact hcon v hp
              · by_cases e:u.level=t.level
                · rw[h3 u hu e]; exact hcon v (by rw[← e]; exact hp)
                · exact h2 u hu v hz (by rw[hput,if_neg e]; exact hp)
        have htop:top≤(if t.level > top then t.level else top)∧t.level≤(if t.level > top then t.level else top):=by split <;> omega
        cases hs:jM r (gD t.level t.assoc a) (if t.level > top then t.level else top) with
        | none=>rw[hs] at ih; simp only; rw[both]; exact ih
        | some x =>
          obtain ⟨a',top'⟩:=x
          rw[hs] at ih
          obtain ⟨i1,i2,i3,i4,i5,i6,i7⟩:=ih
          obtain ⟨b1,b2⟩:=both.2 ⟨i1,i2⟩
          refine ⟨b1,b2,i3,fun n=>?_,by omega,?_,?_⟩
          · rw[i4,hk.2]
            constructor
            · rintro ((rfl | h) | ⟨h1,u,hu,h⟩)
              · exact .inr ⟨ht,t,by simp,rfl⟩
              · exact .inl h
              · exact .inr ⟨h1,u,by simp[hu],h⟩
            · rintro (h | ⟨h1,u,hu,h⟩)
              · exact .inl (.inr h)
              · rcases List.mem_cons.1 hu with rfl | hu
                · exact .inl (.inl h.symm)
                · exact .inr ⟨h1,u,hu,h⟩
          · intro u hu hz
            rcases List.mem_cons.1 hu with rfl | hu
            · omega
            · exact i6 u hu hz
          · rcases i7 with h | ⟨u,hu,h⟩
            · by_cases e:t.level > top
              · rw[if_pos e] at h; exact .inr ⟨t,by simp,h.symm,ht⟩
              · rw[if_neg e] at h; exact .inl h
            · exact .inr ⟨u,by simp[hu],h⟩
theorem xt (l:List Term) (h:∀ t∈l,iu t=true):nW l=true↔∀ t∈l,∀ n:Int,1≤n→n≤t.level→eF l n=true:=by
  have hb:∀ t∈l,0≤t.level∧(t.level≠0→t.assoc≠0):=fun t ht=>by
    have:=h t ht
    simp only[iu,Bool.and_eq_true,decide_eq_true_eq,beq_iff_eq] at this
    refine ⟨this.1.1.1.1.2,fun h1 h2=>?_⟩
    have e:=this.2
    simp[h1,h2] at e
  have hs:=tI l [] 0 (fun t ht=>(hb t ht).2) (by simp[cX]) (by simp)
  have hL:∀ n:Int,1≤n→(eF l n=true↔∃ a,(∃ t∈l,t.level=n)∧∀ t∈l,t.level=n→t.assoc=a):=fun n hn=>w5 n l (fun t ht e=>(hb t ht).2 (by omega))
  unfold nW
  cases hx:jM l [] 0 with
  | none =>
    rw[hx] at hs
    simp only[Bool.false_eq_true,false_iff]
    intro hall
    refine hs ⟨fun t ht u hu e hz=>?_,fun t ht v _ hp=>by simp[cX] at hp⟩
    have h1:=hb t ht
    obtain ⟨a,_,h2⟩:=(hL t.level (by omega)).1 (hall t ht t.level (by omega) (by omega))
    exact (h2 t ht rfl).trans (h2 u hu e.symm).symm
  | some x =>
    obtain ⟨a,top⟩:=x
    rw[hx] at hs
    obtain ⟨i1,_,i3,i4,i5,i6,i7⟩:=hs
    simp only[beq_iff_eq]
    have hmem:∀ n,n∈a.map (·.1)↔n≠0∧∃ t∈l,t.level=n:=fun n=>by rw[i4]; simp
    have hin:∀ x∈a.map (·.1),1≤x∧x≤(top.toNat:Int):=fun x hx=>by
      obtain ⟨h1,t,ht,rfl⟩:=(hmem x).1 hx
      have:=(hb t ht).1
      have:=i6 t ht h1
      omega
    constructor
    · intro hlen t ht n hn1 hn2
      have htop:t.level≤top:=i6 t ht (by omega)
      have hm:=IA i3 hin (by simp; omega) hn1 (show n≤(top.toNat:Int) by omega)
      obtain ⟨hz,u,hu,rfl⟩:=(hmem n).1 hm
      exact (hL _ hn1).2 ⟨u.assoc,⟨u,hu,rfl⟩,fun w hw e=>i1 w hw u hu e (by omega)⟩
    · intro hall
      have h1:a.length≤top.toNat:=by
        have:=mI _ (jo top.toNat) i3 (fun x hx=>rq.2 (hin x hx))
        simpa [jo] using this
      have h2:top.toNat≤a.length:=by
        rcases i7 with e | ⟨t,ht,e,hz⟩
        · subst e; simp
        · have:=mI (jo top.toNat) (a.map (·.1)) (Ao _) (fun x hx=>by
            rw[rq] at hx
            have:=(hb t ht).1
            obtain ⟨_,⟨u,hu,hl⟩,_⟩:=(hL x hx.1).1 (hall t ht x hx.1 (by omega))
            exact (hmem x).2 ⟨by omega,u,hu,hl⟩)
          simpa [jo] using this
      omega
end Gv
set_option linter.unusedSimpArgs false
namespace Gv
open Go Go.Proofs
theorem wo (g:au):∀ (l:List Term) (i:Int),gn g l i=true↔∀ (k:Nat) (t:Term),l[k]?=some t→gG g (i+k) t=true
  | [],i=>by simp[gn]
  | t :: r,i=>by
    simp only[gn,Bool.and_eq_true,wo g r (i+1)]
    constructor
    · rintro ⟨h1,h2⟩ k u hk
      cases k with
      | zero=>simp at hk; subst hk; simpa using h1
      | succ k =>
        have:=h2 k u (by simpa using hk)
        rw[show i+((k+1:Nat):Int)=i+1+k by push_cast; omega]; exact this
    · intro h
      refine ⟨by simpa using h 0 t rfl,fun k u hk=>?_⟩
      have:=h (k+1) u (by simpa using hk)
      rw[show i+1+(k:Int)=i+((k+1:Nat):Int) by push_cast; omega]; exact this
theorem pa (g:au):∀ (l:List ByteArray) (i:Int),nF g l i=true↔∀ (k:Nat) (s:ByteArray),l[k]?=some s→iV g (i+k) s=true
  | [],i=>by simp[nF]
  | t :: r,i=>by
    simp only[nF,Bool.and_eq_true,pa g r (i+1)]
    constructor
    · rintro ⟨h1,h2⟩ k u hk
      cases k with
      | zero=>simp at hk; subst hk; simpa using h1
      | succ k =>
        have:=h2 k u (by simpa using hk)
        rw[show i+((k+1:Nat):Int)=i+1+k by push_cast; omega]; exact this
    · intro h
      refine ⟨by simpa using h 0 t rfl,fun k u hk=>?_⟩
      have:=h (k+1) u (by simpa using hk)
      rw[show i+1+(k:Int)=i+((k+1:Nat):Int) by push_cast; omega]; exact this
theorem zt (g:au) (s:ByteArray):jw g s < 0↔s ∉ g.aA.map Term.name:=by
  unfold jw
  rcases tV s (g.aA.map Term.name) 0 (by omega) with ⟨h1,h2⟩ | ⟨k,h1,h2,_⟩
  · exact ⟨fun _=>h2,fun _=>h1⟩
  · constructor
    · intro h; omega
    · intro h; exact absurd (List.mem_of_getElem? h2) h
theorem yD (g:au) (t:Term):nT g t=true↔∀ n:Int,1≤n→n≤t.level→eF g.aA n=true:=by
  simp only[nT,List.all_eq_true,List.mem_range]
  constructor
  · intro h n h1 h2
    have:=h (n - 1).toNat (by omega)
    rwa [show (((n - 1).toNat:Nat):Int)+1=n by omega] at this
  · intro h k hk
    exact h _ (by omega) (by omega)
theorem DD (g:au):mV g=aM g:=by
  rw[Bool.eq_iff_iff]
  simp only[mV,aM,gA,hX,oB,Bool.and_eq_true,decide_eq_true_eq,wo,pa,Be,List.all_eq_true,Bool.not_eq_true',List.any_eq_false,Bool.not_eq_true,Gb,oM,List.nodup_append,Int.zero_add,Int.zero_sub,Bool.not_not]
  have hT:(∀ (k:Nat) (t:Term),g.aA[k]?=some t→gG g k t=true)↔(∀ t∈g.aA,iu t=true)∧(g.aA.map Term.name).Nodup∧(∀ t∈g.aA,nT g t=true):=by
    rw[← pn]
    constructor
    · intro h
      have h':∀ t∈g.aA,∃ k:Nat,g.aA[k]?=some t:=fun t ht=>List.getElem?_of_mem ht
      refine ⟨fun t ht=>?_,fun k s hk=>?_,fun t ht=>?_⟩
      · obtain ⟨k,hk⟩:=h' t ht
        have:=h k t hk
        simp only[gG,iu,Bool.and_eq_true,decide_eq_true_eq] at this ⊢
        simp[this]
      · rw[List.getElem?_map,Option.map_eq_some_iff] at hk
        obtain ⟨t,hk,rfl⟩:=hk
        have:=h k t hk
        simp only[gG,Bool.and_eq_true,beq_iff_eq] at this
        exact this.1.1.1.1.1.1.2
      · obtain ⟨k,hk⟩:=h' t ht
        have:=h k t hk
        simp only[gG,Bool.and_eq_true] at this
        exact this.2
    · rintro ⟨h1,h2,h3⟩ k t hk
      have hm:=List.mem_of_getElem? hk
      have a:=h1 t hm
      have b:=h2 k t.name (by rw[List.getElem?_map,hk]; rfl)
      have c:=h3 t hm
      simp only[gG,iu,jw,Bool.and_eq_true,decide_eq_true_eq] at a ⊢
      simp[a,b,c]
  have hN:(∀ (k:Nat) (s:ByteArray),g.ar[k]?=some s→iV g k s=true)↔(∀ s∈g.ar,dY (dD s)=true)∧g.ar.Nodup∧(∀ s∈g.ar,s ∉ g.aA.map Term.name):=by
    rw[← pn]
    constructor
    · intro h
      have h':∀ t∈g.ar,∃ k:Nat,g.ar[k]?=some t:=fun t ht=>List.getElem?_of_mem ht
      refine ⟨fun t ht=>?_,fun k s hk=>?_,fun t ht=>?_⟩
      · obtain ⟨k,hk⟩:=h' t ht
        have:=h k t hk
        simp only[iV,Bool.and_eq_true] at this
        exact this.1.1
      · have:=h k s hk
        simp only[iV,tT,Bool.and_eq_true,beq_iff_eq] at this
        exact this.1.2
      · obtain ⟨k,hk⟩:=h' t ht
        have:=h k t hk
        simp only[iV,Bool.and_eq_true,decide_eq_true_eq] at this
        exact (zt g t).1 this.2
    · rintro ⟨h1,h2,h3⟩ k s hk
      have hm:=List.mem_of_getElem? hk
      have a:=h1 s hm
      have b:=h2 k s hk
      have c:=(zt g s).2 (h3 s hm)
      simp[iV,tT,a,b,c]
  rw[hT,hN]
  constructor
  · rintro ⟨⟨⟨⟨⟨⟨⟨⟨t1,t2⟩,t3⟩,n1,n2⟩,r1,r2⟩,a1,a2,a3⟩,s1,s2⟩,n3⟩,ru⟩
    have hl:=(xt g.aA t1).1 t3
    exact ⟨⟨⟨⟨⟨⟨⟨t2,t1,a2,fun t ht=>(yD g t).2 (hl t ht)⟩,⟨by omega,by omega⟩,fun s hs=>by simpa using n3 s hs,a1,fun s hs hm=>a3 s hs s hm rfl⟩,by omega⟩,by omega⟩,s1⟩,by omega⟩,ru⟩
  · rintro ⟨⟨⟨⟨⟨⟨⟨t2,t1,a2,t3⟩,⟨n1,n2⟩,n3,a1,a3⟩,r1⟩,r2⟩,s1⟩,s2⟩,ru⟩
    have hl:=(xt g.aA t1).2 (fun t ht=>(yD g t).1 (t3 t ht))
    exact ⟨⟨⟨⟨⟨⟨⟨⟨t1,t2⟩,hl⟩,by omega,by omega⟩,by omega,by omega⟩,a1,a2,fun s hs u hu e=>a3 s hs (e ▸ hu)⟩,s1,by omega⟩,fun s hs=>by simp[n3 s hs]⟩,ru⟩
theorem jW (g:au) (hg:g.Ok) (hs:g.ar.length+g.aA.length≤1000):aC Tryz.prog 38 [.agg (ao g)] (gb (aM g)):=by
  rw[← DD]; exact D0 g hg hs
end Gv
set_option linter.unusedSimpArgs false
set_option maxRecDepth 100000
namespace Gv
open Go Go.Proofs
def wu (n:Nat) (r:aO):Prop:=bB r.left∧0≤r.left∧r.left < n∧r.right.length≤6∧∀ s∈r.right,bB s∧(s < 0→-1 - s < n)
theorem au.oU.oV {g:au} (hg:g.Ok) (h:g.oU) {r:aO} (hr:r∈g.rules):wu g.ar.length r :=
  ⟨(hg.bg r hr).1,(h.left r hr).1,(h.left r hr).2,h.right r hr,fun s hs=>⟨(hg.bg r hr).2.2.2 s hs,fun hn=>h.neg hr hs hn⟩⟩
def sF:SF:=⟨.seq (an [bb 2 false]) <|
  .seq (an [aj 3 0,aH 4 .geq 3 0,aj 2 4]) <|
  .ret,
  [.tmp 2],5⟩
theorem vC:aR Tryz.prog 141 []=some sF:=by kernel_rfl
def vo:SF:=⟨.seq (an [da 1 0,bb 2 false]) <|
  .seq (an [aD 3 1 1,av 4 3,oE 5 39 [(.tmp 4),(.val (.fn 141 [] []))],bP 6 5,aj 2 6]) <|
  .ret,
  [.tmp 2],7⟩
theorem ye:aR Tryz.prog 99 [1]=some vo:=by kernel_rfl
def pg:SF:=⟨.seq (an [bb 3 false]) <|
  .seq (.region false [⟨none,[aj 4 0,aH 5 .lss 4 0,aj 6 5]⟩,⟨(some (6,true)),[av 7 1,aj 8 0,((some 9),.op (.arith .sub (.val (.val (.int .i64 (-1)))) (.tmp 8))),aW 10 1 7 9,av 11 10,bP 12 11]⟩,⟨none,[cx 13 6 12,aj 3 13]⟩]) <|
  .ret,
  [.tmp 3],14⟩
theorem s9:aR Tryz.prog 119 []=some pg:=by kernel_rfl
def sm:SF:=⟨.seq (an [da 2 0,da 3 1,bb 4 false]) <|
  .seq (an [aD 5 1 2,av 6 5,((some 7),.op (.ox 119 [] [(.tmp 3)])),aY 8 39 [6,7],bP 9 8,aj 4 9]) <|
  .ret,
  [.tmp 4],10⟩
theorem vB:aR Tryz.prog 75 [2,3]=some sm:=by kernel_rfl
def nB:SF:=⟨.seq (an [da 2 0,((some 4),.op (.ak (.val (.emp 1))))]) <|
  .seq (.seq (.region false [⟨none,[bo 5 3 2,aY 6 99 [5],aj 7 6]⟩,⟨(some (7,true)),[bo 8 3 2,aj 9 1,aY 10 75 [8,9]]⟩,⟨none,[cx 11 7 10]⟩]) <|
  .cond (.tmp 11) (.seq (an [aD 12 0 2,av 13 12,((some 14),.op (.bE 1 1 [(.val (.int .i64 0))] [(0,(.tmp 13))])),aj 4 14]) <|
  .ret) (.skip)) <|
  .seq (an [((some 4),.op (.ak (.val (.emp 1))))]) <|
  .ret,
  [.tmp 4],15⟩
theorem rn:aR Tryz.prog 98 [2]=some nB:=by kernel_rfl
def ll:SF:=⟨.seq (an [da 2 0,((some 4),.op (.ak (.val (.emp 1))))]) <|
  .seq (.seq (an [bo 5 3 2,aj 6 1,aY 7 75 [5,6]]) <|
  .cond (.tmp 7) (.seq (an [aD 8 0 2,av 9 8,((some 10),.op (.bE 1 1 [(.val (.int .i64 0))] [(0,(.tmp 9))])),aj 4 10]) <|
  .ret) (.skip)) <|
  .seq (an [((some 4),.op (.ak (.val (.emp 1))))]) <|
  .ret,
  [.tmp 4],11⟩
theorem pK:aR Tryz.prog 117 [2]=some ll:=by kernel_rfl
def ko:SC :=
  .seq (an [bu 24 .lss 23 22]) <|
  .seq (.cond (.tmp 24) (.skip) (.exit 0)) <|
  .seq (.block 1 (.seq (an [aW 25 1 21 23,av 26 25,aj 7 26]) <|
  .seq (an [aj 27 7,aH 28 .lss 27 0]) <|
  .cond (.tmp 28) (an [aj 29 5,aj 30 7,((some 31),.op (.arith .sub (.val (.val (.int .i64 (-1)))) (.tmp 30))),((some 32),.op (.bE 1 1 [(.val (.int .i64 0))] [(0,(.tmp 31))])),((some 33),.op (.app 1 8 (.tmp 29) (.tmp 32))),aj 5 33]) (.skip))) <|
  an [aH 34 .add 23 1,aj 23 34]
def mA:SF:=⟨.seq (an [da 3 0,((some 5),.op (.ak (.val (.emp 1))))]) <|
  .seq (.seq (.region false [⟨none,[aj 8 1,aD 9 0 3,av 10 9,aW 11 1 8 10,av 12 11,bP 13 12,aj 14 13]⟩,⟨(some (14,false)),[bo 15 3 3,av 16 2,aY 17 75 [15,16],bP 18 17]⟩,⟨none,[bN 19 14 18]⟩]) <|
  .cond (.tmp 19) (.seq (an [((some 5),.op (.ak (.val (.emp 1))))]) <|
  .ret) (.skip)) <|
  .seq (.seq (an [aD 20 1 3,av 21 20,aX 22 21,bk 23 0]) <|
  .block 0 (.loop ko)) <|
  .seq (an [aj 35 5,aj 5 35]) <|
  .ret,
  [.tmp 5],36⟩
theorem qU:aR Tryz.prog 118 [3]=some mA:=by kernel_rfl
theorem FT (r:aO):∀ v∈[V.agg (aG r)],Tree v:=by intro v hv; simp at hv; subst hv; exact bT _ (fS r)
theorem vP (r:aO) (is:List Bool):∀ v∈[V.agg (aG r),bf is],Tree v:=by
  intro v hv; simp at hv
  rcases hv with rfl | rfl
  · exact bT _ (fS r)
  · exact eT is
theorem Hj (x:Int):aC Tryz.prog 141 [gi x] (gb (decide (0≤x))):=by
  refine aC.val (tg (l:=[.int .i64 x])) fun H=>?_
  refine aB.of mixed vC ?_
  simp (disch:=omega) only [↓wr,↓reduceIte,wq,ah,ag,al,aa,ae,af,ai,isNil,Nat.reduceEqDiff,Nat.reduceAdd,Nat.reduceLT,Nat.reduceLeDiff,Int.reduceNeg,Int.reduceToNat,reduceCtorEq,sF]
theorem It (r:aO) (hr:aK r.right):aC Tryz.prog 99 [.agg (aG r)] (gb (!r.right.any fun s=>decide (0≤s))):=by
  refine aC.val (FT r) fun H=>?_
  refine aB.of mixed ye ?_
  simp (disch:=omega) only [↓wr,↓reduceIte,wq,ah,ag,al,aa,ae,af,ai,isNil,Nat.reduceEqDiff,Nat.reduceAdd,Nat.reduceLT,Nat.reduceLeDiff,Int.reduceNeg,Int.reduceToNat,reduceCtorEq,vo,aG,encI]
  refine ax.pure (eV r.right hr 141 [] (by simp) (fun s=>decide (0≤s)) (fun x _=>Hj x) (by kernel_rfl)) (by kernel_rfl) ?_
  simp (disch:=omega) only [↓wr,↓reduceIte,wq,ah,ag,al,aa,ae,af,ai,isNil,Nat.reduceEqDiff,Nat.reduceAdd,Nat.reduceLT,Nat.reduceLeDiff,Int.reduceNeg,Int.reduceToNat,reduceCtorEq]
def yd (is:List Bool) (s:Int):Bool:=decide (s < 0) && !is.getD (-1 - s).toNat false
theorem DY (is:List Bool) (s:Int) (hs:bB s∧(s < 0→-1 - s < is.length)):aC Tryz.prog 119 [gi s,.aI [bf is] 0] (gb (yd is s)):=by
  refine aC.val ?_ fun H=>?_
  · intro v hv; simp at hv
    rcases hv with rfl | rfl
    · exact .val _
    · exact en (by intro v hv; simp at hv; subst hv; exact eT is)
  obtain ⟨⟨h1,h2⟩,h3⟩:=hs
  refine aB.of mixed s9 ?_
  simp (disch:=omega) only [↓wr,↓reduceIte,wq,ah,ag,al,aa,ae,af,ai,isNil,Nat.reduceEqDiff,Nat.reduceAdd,Nat.reduceLT,Nat.reduceLeDiff,Int.reduceNeg,Int.reduceToNat,reduceCtorEq,pg,bf]
  refine aq.dec (fun h=>?_) (fun h=>?_)
  · have hb:is[(-1 - s).toNat]?=some (is[(-1 - s).toNat]'(by omega)):=List.getElem?_eq_getElem (by omega)
    have hbd:is.getD (-1 - s).toNat false=is[(-1 - s).toNat]'(by omega):=by simp[List.getD_eq_getElem?_getD,hb]
    generalize is[(-1 - s).toNat]'(by omega)=b at hb hbd
    simp (disch:=omega) only [↓wr,↓reduceIte,wq,ah,ag,al,aa,ae,af,ai,isNil,Nat.reduceEqDiff,Nat.reduceAdd,Nat.reduceLT,Nat.reduceLeDiff,Int.reduceNeg,Int.reduceToNat,reduceCtorEq,List.getElem?_map,hb]
    simp only[yd,hbd,h,decide_true,Bool.true_and]
  · simp (disch:=omega) only [↓wr,↓reduceIte,wq,ah,ag,al,aa,ae,af,ai,isNil,Nat.reduceEqDiff,Nat.reduceAdd,Nat.reduceLT,Nat.reduceLeDiff,Int.reduceNeg,Int.reduceToNat,reduceCtorEq]
    simp[yd,h]
theorem D5 {is:List Bool} {l:List Int} : (!l.any (yd is))=ca l is true:=by
  simp only[ca,List.not_any_eq_all_not]
  congr 1
  funext s
  simp only[yd]
  by_cases h:0≤s
  · simp[h,show ¬ s < 0 by omega]
  · simp[h,show s < 0 by omega]
theorem pA (r:aO) (is:List Bool) (hr:aK r.right) (hs:∀ s∈r.right,bB s∧(s < 0→-1 - s < is.length)):aC Tryz.prog 75 [.agg (aG r),bf is] (gb (ca r.right is true)):=by
  rw[← D5]
  refine aC.val (vP r is) fun H=>?_
  refine aB.of mixed vB ?_
  simp (disch:=omega) only [↓wr,↓reduceIte,wq,ah,ag,al,aa,ae,af,ai,isNil,Nat.reduceEqDiff,Nat.reduceAdd,Nat.reduceLT,Nat.reduceLeDiff,Int.reduceNeg,Int.reduceToNat,reduceCtorEq,sm,aG,bf,encI]
  refine ax.pure (eV r.right hr 119 [.aI [bf is] 0] (by
    intro v hv; simp at hv; subst hv
    exact en (by intro v hv; simp at hv; subst hv; exact eT is)) (yd is) (fun x hx=>DY is x (hs x hx)) (by kernel_rfl)) (by kernel_rfl) ?_
  simp (disch:=omega) only [↓wr,↓reduceIte,wq,ah,ag,al,aa,ae,af,ai,isNil,Nat.reduceEqDiff,Nat.reduceAdd,Nat.reduceLT,Nat.reduceLeDiff,Int.reduceNeg,Int.reduceToNat,reduceCtorEq]
theorem BW {is:List Bool} {l:List Int} : ((!l.any fun s=>decide (0≤s)) && ca l is true)=ca l is false:=by
  induction l with
  | nil=>rfl
  | cons s l ih =>
    simp only[ca,List.all_cons,List.any_cons] at ih ⊢
    rw[← ih]
    by_cases h:0≤s
    · simp[h]
    · simp only[h,decide_false,Bool.false_or,if_false]
      cases (l.any fun s=>decide (0≤s)) <;> simp
theorem oJ {h:aE} {u:V} {l:List Int} (ho:bp h.view u 1 (l.map fun x=>[gi x])):dV h u (encI l):=dV.I9 (f:=Value.int .i64) ho
theorem Ad (r:aO) (is:List Bool) (hr:wu is.length r):cq Tryz.prog 98 [.agg (aG r),bf is] (encI (if ca r.right is false=true then [r.left] else [])):=by
  obtain ⟨hl,_,_,hr6,hs⟩:=hr
  have hsh:aK r.right:=by unfold aK; omega
  refine cq.of (vP r is) ?_
  refine aB.of mixed rn ?_
  rw[← BW]
  simp (disch:=omega) only [↓wr,↓reduceIte,wq,ah,ag,al,aa,ae,af,ai,isNil,Nat.reduceEqDiff,Nat.reduceAdd,Nat.reduceLT,Nat.reduceLeDiff,Int.reduceNeg,Int.reduceToNat,reduceCtorEq,nB,aG,encI]
  refine ax.pure (It r hsh) (by kernel_rfl) ?_
  repeat' (first | (refine aq.dec (fun _=>?_) (fun _=>?_)) | (refine aq.eq (fun _=>?_) (fun _=>?_)) | (refine aq.ne (fun _=>?_) (fun _=>?_)) | (refine aq.split (fun _=>?_) (fun _=>?_)) | (refine ax.pure (pA r is hsh hs) (by kernel_rfl) ?_) | (simp (disch:=omega) only [↓wr,↓reduceIte,wq,ah,ag,al,aa,ae,af,ai,isNil,Nat.reduceEqDiff,Nat.reduceAdd,Nat.reduceLT,Nat.reduceLeDiff,Int.reduceNeg,Int.reduceToNat,reduceCtorEq,aG,encI]))
  all_goals first
    | (intro n h' hh; rw[if_pos (by simp[*])]; exact oJ (l:=[r.left]) (.inr ⟨n,rfl,by rw[hh]; simp[View.set]⟩))
    | (intro h' hh; rw[if_neg (by simp[*])]; exact .emp _)
theorem xU (r:aO) (is:List Bool) (hr:wu is.length r):cq Tryz.prog 117 [.agg (aG r),bf is] (encI (if ca r.right is true=true then [r.left] else [])):=by
  obtain ⟨hl,_,_,hr6,hs⟩:=hr
  have hsh:aK r.right:=by unfold aK; omega
  refine cq.of (vP r is) ?_
  refine aB.of mixed pK ?_
  simp (disch:=omega) only [↓wr,↓reduceIte,wq,ah,ag,al,aa,ae,af,ai,isNil,Nat.reduceEqDiff,Nat.reduceAdd,Nat.reduceLT,Nat.reduceLeDiff,Int.reduceNeg,Int.reduceToNat,reduceCtorEq,ll,aG,encI]
  refine ax.pure (pA r is hsh hs) (by kernel_rfl) ?_
  repeat' (first | (refine aq.dec (fun _=>?_) (fun _=>?_)) | (refine aq.eq (fun _=>?_) (fun _=>?_)) | (refine aq.ne (fun _=>?_) (fun _=>?_)) | (refine aq.split (fun _=>?_) (fun _=>?_)) | (simp (disch:=omega) only [↓wr,↓reduceIte,wq,ah,ag,al,aa,ae,af,ai,isNil,Nat.reduceEqDiff,Nat.reduceAdd,Nat.reduceLT,Nat.reduceLeDiff,Int.reduceNeg,Int.reduceToNat,reduceCtorEq,aG,encI]))
  all_goals first
    | (intro n h' hh; rw[if_pos (by simp[*])]; exact oJ (l:=[r.left]) (.inr ⟨n,rfl,by rw[hh]; simp[View.set]⟩))
    | (intro h' hh; rw[if_neg (by simp[*])]; exact .emp _)
def dZ (l:List Int):List Int:=(l.filter fun s=>decide (s < 0)).map fun s=>-1 - s
theorem FQ (r:aO) (is p:List Bool):∀ v∈[V.agg (aG r),bf is,.aI [bf p] 0],Tree v:=by
  intro v hv; simp at hv
  rcases hv with rfl | rfl | rfl
  · exact bT _ (fS r)
  · exact eT is
  · exact en (by intro v hv; simp at hv; subst hv; exact eT p)
set_option maxHeartbeats 1000000 in
theorem zG (r:aO) (is p:List Bool) (hr:wu is.length r) (hp:p.length=is.length) :
    cq Tryz.prog 118 [.agg (aG r),bf is,.aI [bf p] 0] (encI (if (is.getD r.left.toNat false && ca r.right p true)=true then dZ r.right else [])):=by
  obtain ⟨hl,hl0,hl1,hr6,hs⟩:=hr
  have hsh:aK r.right:=by unfold aK; omega
  refine cq.of (FQ r is p) ?_
  refine aB.of mixed qU ?_
  have hb:is[r.left.toNat]?=some (is[r.left.toNat]'(by omega)):=List.getElem?_eq_getElem (by omega)
  have hbd:is.getD r.left.toNat false=is[r.left.toNat]'(by omega):=by simp[List.getD_eq_getElem?_getD,hb]
  generalize is[r.left.toNat]'(by omega)=b at hb hbd
  rw[hbd]
  simp (disch:=omega) only [↓wr,↓reduceIte,wq,ah,ag,al,aa,ae,af,ai,isNil,Nat.reduceEqDiff,Nat.reduceAdd,Nat.reduceLT,Nat.reduceLeDiff,Int.reduceNeg,Int.reduceToNat,reduceCtorEq,mA,aG,encI,bf,List.getElem?_map,hb]
  cases b with
  | false =>
    simp (disch:=omega) only [↓wr,↓reduceIte,wq,ah,ag,al,aa,ae,af,ai,isNil,Nat.reduceEqDiff,Nat.reduceAdd,Nat.reduceLT,Nat.reduceLeDiff,Int.reduceNeg,Int.reduceToNat,reduceCtorEq]
    intro h' hh
    exact .emp _
  | true =>
    simp (disch:=omega) only [↓wr,↓reduceIte,wq,ah,ag,al,aa,ae,af,ai,isNil,Nat.reduceEqDiff,Nat.reduceAdd,Nat.reduceLT,Nat.reduceLeDiff,Int.reduceNeg,Int.reduceToNat,reduceCtorEq,aG,encI,bf]
    refine ax.pure (pA r p hsh (fun s hs'=>⟨(hs s hs').1,fun h=>by rw[hp]; exact (hs s hs').2 h⟩)) (by kernel_rfl) ?_
    repeat' (first | (refine aq.dec (fun _=>?_) (fun _=>?_)) | (refine aq.eq (fun _=>?_) (fun _=>?_)) | (refine aq.ne (fun _=>?_) (fun _=>?_)) | (refine aq.split (fun _=>?_) (fun _=>?_)) | (simp (disch:=omega) only [↓wr,↓reduceIte,wq,ah,ag,al,aa,ae,af,ai,isNil,Nat.reduceEqDiff,Nat.reduceAdd,Nat.reduceLT,Nat.reduceLeDiff,Int.reduceNeg,Int.reduceToNat,reduceCtorEq,aG,encI,bf]))
    · rename_i ha
      rw[if_pos (by simp[ha])]
      refine bm.up r.right.length (fun i T H=>(∃ u,T 5=u∧bp H u 1 ((dZ (r.right.take i)).map fun x=>[gi x]))∧T 21=encI r.right∧T 22=gi r.right.length∧T 23=gi i) ?_ ?_
      · exact ⟨⟨_,rfl,.nil⟩,rfl,rfl,rfl⟩
      rintro i k T H' hk ⟨⟨u,h5,hu⟩,h21,h22,h23⟩
      simp (disch:=omega) only [↓wr,↓reduceIte,wq,ah,ag,al,aa,ae,af,ai,isNil,Nat.reduceEqDiff,Nat.reduceAdd,Nat.reduceLT,Nat.reduceLeDiff,Int.reduceNeg,Int.reduceToNat,reduceCtorEq,ko,h5,h21,h22,h23,encI]
      refine aq.dec (fun hc=>?_) (fun hc=>?_)
      · have hg:r.right[i]?=some (r.right[i]'(by omega)):=List.getElem?_eq_getElem (by omega)
        have hm:r.right[i]'(by omega)∈r.right:=List.getElem_mem _
        have htk:dZ (r.right.take (i+1))=dZ (r.right.take i) ++ dZ [r.right[i]'(by omega)]:=by
          rw[List.take_add_one,hg,dZ,List.filter_append,List.map_append]; rfl
        have hlen:(dZ (r.right.take i)).length≤6:=by
          have h1:(dZ (r.right.take i)).length≤(r.right.take i).length:=by simp only[dZ,List.length_map]; exact List.length_filter_le _ _
          have h2:(r.right.take i).length≤i:=List.length_take_le _ _
          omega
        generalize r.right[i]'(by omega)=s at hg hm htk
        obtain ⟨⟨s1,s2⟩,s3⟩:=hs s hm
        simp (disch:=omega) only [↓wr,↓reduceIte,wq,ah,ag,al,aa,ae,af,ai,isNil,Nat.reduceEqDiff,Nat.reduceAdd,Nat.reduceLT,Nat.reduceLeDiff,Int.reduceNeg,Int.reduceToNat,reduceCtorEq,h5,h21,h22,h23,encI,List.getElem?_map,hg]
        refine aq.dec (fun hd=>?_) (fun hd=>?_)
        · simp (disch:=omega) only [↓wr,↓reduceIte,wq,ah,ag,al,aa,ae,af,ai,isNil,Nat.reduceEqDiff,Nat.reduceAdd,Nat.reduceLT,Nat.reduceLeDiff,Int.reduceNeg,Int.reduceToNat,reduceCtorEq,h5,h21,h22,h23]
          intro m hm
          try simp (disch:=omega) only [↓wr,↓reduceIte,wq,ah,ag,al,aa,ae,af,ai,isNil,Nat.reduceEqDiff,Nat.reduceAdd,Nat.reduceLT,Nat.reduceLeDiff,Int.reduceNeg,Int.reduceToNat,reduceCtorEq,h5,h21,h22,h23,dc]
          refine mG (hu.fresh hm) (by simp) (by simp[aN]) (by unfold aF; simp at hlen ⊢; omega) (by unfold aF; simp at hlen ⊢; omega) ?_
          intro u' H2 hu' _
          simp (disch:=omega) only [↓wr,↓reduceIte,wq,ah,ag,al,aa,ae,af,ai,isNil,Nat.reduceEqDiff,Nat.reduceAdd,Nat.reduceLT,Nat.reduceLeDiff,Int.reduceNeg,Int.reduceToNat,reduceCtorEq,h21,h22,h23]
          refine aP hk (by omega) ⟨⟨u',rfl,?_⟩,h21,h22,rfl⟩
          rw[htk]
          simpa [dZ,hd] using hu'
        · simp (disch:=omega) only [↓wr,↓reduceIte,wq,ah,ag,al,aa,ae,af,ai,isNil,Nat.reduceEqDiff,Nat.reduceAdd,Nat.reduceLT,Nat.reduceLeDiff,Int.reduceNeg,Int.reduceToNat,reduceCtorEq,h5,h21,h22,h23]
          refine aP hk (by omega) ⟨⟨u,h5,?_⟩,h21,h22,rfl⟩
          rw[htk]
          simpa [dZ,hd] using hu
      · rw[List.take_of_length_le (by omega)] at hu
        simp (disch:=omega) only [↓wr,↓reduceIte,wq,ah,ag,al,aa,ae,af,ai,isNil,Nat.reduceEqDiff,Nat.reduceAdd,Nat.reduceLT,Nat.reduceLeDiff,Int.reduceNeg,Int.reduceToNat,reduceCtorEq,h5,h21,h22,h23]
        intro h' hh
        exact oJ (by rw[hh]; exact hu)
    · rename_i ha
      intro h' hh
      rw[if_neg (by simp[ha])]
      exact .emp _
end Gv
set_option linter.unusedSimpArgs false
set_option maxRecDepth 100000
namespace Gv
open Go Go.Proofs
def nK (is:List Bool) (l:List Int):List Bool:=l.foldl (fun is n=>is.set n.toNat true) is
def stepG (comes:aO→List Bool→List Int) (is:List Bool) (r:aO):List Bool:=nK is (comes r is)
def cK (comes:aO→List Bool→List Int) (rules:List aO) (is:List Bool):List Bool:=rules.foldl (stepG comes) is
def eA (a b:List Bool):Prop:=a.length=b.length∧∀ i,a.getD i false=true→b.getD i false=true
theorem eA.refl (a:List Bool):eA a a:=⟨rfl,fun _ h=>h⟩
theorem eA.trans {a b c:List Bool} (h:eA a b) (k:eA b c):eA a c:=⟨h.1.trans k.1,fun i hi=>k.2 i (h.2 i hi)⟩
theorem eA.set (a:List Bool) (i:Nat):eA a (a.set i true):=by
  refine ⟨by simp,fun j h=>?_⟩
  simp only[List.getD_eq_getElem?_getD,List.getElem?_set] at h ⊢
  split
  · split
    · rfl
    · rename_i e h2; rw[← e,List.getElem?_eq_none (by omega)] at h; simp at h
  · exact h
theorem Bm:∀ (l:List Int) (is:List Bool),eA is (nK is l)
  | [],is=>.refl _
  | n :: l,is=>(eA.set is n.toNat).trans (Bm l _)
theorem pF (comes:aO→List Bool→List Int):∀ (rules:List aO) (is:List Bool),eA is (cK comes rules is)
  | [],is=>.refl _
  | r :: rs,is=>(Bm _ _).trans (pF comes rs _)
def bU (a:List Bool):Nat:=a.countP fun x=>x
theorem om (a:List Bool):bU a≤a.length:=List.countP_le_length
theorem eA.bU:∀ {a b:List Bool},eA a b→bU a≤bU b∧(bU a=bU b→a=b)
  | [],[],_=>⟨Nat.le_refl _,fun _=>rfl⟩
  | [],_ :: _,h=>by simp[eA] at h
  | _ :: _,[],h=>by simp[eA] at h
  | x :: a,y :: b,h=>by
    have hxy:x=true→y=true:=fun e=>by have:=h.2 0 (by simpa using e); simpa using this
    obtain ⟨h1,h2⟩:=eA.bU (a:=a) (b:=b) ⟨by simpa using h.1,fun i hi=>by have:=h.2 (i+1) (by simpa using hi); simpa using this⟩
    unfold Gv.bU at h1 h2 ⊢
    simp only[List.countP_cons]
    cases x with
    | true =>
      have:=hxy rfl; subst this
      simp only[if_true]
      exact ⟨by omega,fun e=>by rw[h2 (by omega)]⟩
    | false =>
      cases y with
      | false=>simp only[Bool.false_eq_true,if_false]; exact ⟨by omega,fun e=>by rw[h2 (by omega)]⟩
      | true=>simp only[Bool.false_eq_true,if_false,if_true]; exact ⟨by omega,fun e=>by omega⟩
def eK (comes:aO→List Bool→List Int) (rules:List aO):Nat→List Bool→List Bool
  | 0,is=>is
  | k+1,is=>if cK comes rules is=is then is else eK comes rules k (cK comes rules is)
theorem pr (comes:aO→List Bool→List Int) (rules:List aO):∀ (k:Nat) (is:List Bool),is.length≤bU is+k→cK comes rules (eK comes rules k is)=eK comes rules k is∧eA is (eK comes rules k is)
  | 0,is,h=>by
    have h1:=pF comes rules is
    have h2:=om (cK comes rules is)
    have h3:=h1.bU
    rw[← h1.1] at h2
    have h4:=om is
    exact ⟨(h3.2 (by omega)).symm,.refl _⟩
  | k+1,is,h=>by
    simp only[eK]
    by_cases e:cK comes rules is=is
    · rw[if_pos e]; exact ⟨e,.refl _⟩
    · rw[if_neg e]
      have h1:=pF comes rules is
      have h3:=h1.bU
      have:bU is < bU (cK comes rules is):=by
        rcases Nat.lt_or_ge (bU is) (bU (cK comes rules is)) with h | h
        · exact h
        · exact absurd (h3.2 (by omega)).symm e
      obtain ⟨g1,g2⟩:=pr comes rules k (cK comes rules is) (by rw[← h1.1]; omega)
      exact ⟨g1,h1.trans g2⟩
def sy:SC :=
  .seq (an [bu 26 .lss 25 24]) <|
  .seq (.cond (.tmp 26) (.skip) (.exit 4)) <|
  .seq (.block 5 (.seq (an [aW 27 1 23 25,av 28 27,aj 11 28]) <|
  .seq (.region false [⟨none,[aj 29 7,aj 30 29]⟩,⟨(some (30,false)),[aj 31 1,aj 32 11,aW 33 1 31 32,av 34 33,bP 35 34]⟩,⟨none,[bN 36 30 35,aj 7 36]⟩]) <|
  an [aj 37 1,aj 38 11,aW 39 1 37 38,(none,.op (.store 1 (.tmp 39) (.val (.val (.bool true)))))])) <|
  an [aH 40 .add 25 1,aj 25 40]
def sr:SC :=
  .seq (an [bu 17 .lss 16 15]) <|
  .seq (.cond (.tmp 17) (.skip) (.exit 2)) <|
  .seq (.block 3 (.seq (an [aW 18 3 14 16,bo 19 3 18,((some 9),.op (.alloc [(.val (.int .i64 0)),(.emp 1),(.val (.int .i64 0))])),(none,.op (.store 3 (.tmp 9) (.tmp 19)))]) <|
  .seq (an [aj 20 2,bo 21 3 9,aj 22 1,((some 23),.call (.tmp 20) [(.tmp 21),(.tmp 22)]),aX 24 23,bk 25 0]) <|
  .block 4 (.loop sy))) <|
  an [aH 41 .add 16 1,aj 16 41]
def m8:SC :=
  .seq (.seq (an [aj 12 7]) <|
  .cond (.tmp 12) (.skip) (.exit 0)) <|
  .block 1 (.seq (an [bb 7 false]) <|
  .seq (an [aD 13 2 3,av 14 13,aX 15 14,bk 16 0]) <|
  .block 2 (.loop sr))
def vg:SF:=⟨.seq (an [da 3 0,((some 6),.op (.ak (.val (.emp 1))))]) <|
  .seq (.seq (an [bb 7 true]) <|
  .block 0 (.loop m8)) <|
  .seq (an [aj 42 1,aj 6 42]) <|
  .ret,
  [.tmp 6],43⟩
theorem xP:aR Tryz.prog 97 [3]=some vg:=by kernel_rfl
theorem Hy {is:List Bool} {i:Nat} (h:is.getD i false=true):is.set i true=is:=by
  apply List.ext_getElem?
  intro j
  simp only[List.getD_eq_getElem?_getD] at h
  rw[List.getElem?_set]
  split
  · rename_i e; subst e
    split
    · rename_i hl; rw[List.getElem?_eq_getElem hl] at h ⊢; simp at h; simp[h]
    · rename_i hl; rw[List.getElem?_eq_none (by omega)] at h; simp at h
  · rfl
theorem Eh {comes:aO→List Bool→List Int} {rules:List aO} {k:Nat} {is:List Bool} (h:cK comes rules is=is):eK comes rules k is=is:=by
  cases k with
  | zero=>rfl
  | succ k=>simp only[eK,h,if_true]
theorem D7 {comes:aO→List Bool→List Int} {rules:List aO} {k:Nat} {is:List Bool} (h:¬ cK comes rules is=is) (hk:is.length≤bU is+k):∃ j,k=j+1∧eK comes rules k is=eK comes rules j (cK comes rules is)∧(cK comes rules is).length≤bU (cK comes rules is)+j:=by
  have h1:=pF comes rules is
  have h3:=h1.bU
  have h5:=om (cK comes rules is)
  have:bU is < bU (cK comes rules is):=by
    rcases Nat.lt_or_ge (bU is) (bU (cK comes rules is)) with h | h
    · exact h
    · exact absurd (h3.2 (by omega)).symm (by assumption)
  have hl:=h1.1
  obtain ⟨j,rfl⟩:∃ j,k=j+1:=⟨k - 1,by omega⟩
  exact ⟨j,rfl,by simp only[eK]; rw[if_neg h],by omega⟩
theorem HG {a is:List Bool} {i:Nat} {b:Bool} (hle:eA a is) (hi:i < is.length) (hb:b = !decide (is=a)):(b || !is.getD i false) = !decide (is.set i true=a):=by
  cases hx:is.getD i false with
  | true=>rw[Hy hx,hb]; simp
  | false =>
    have:¬ is.set i true=a:=fun e=>by
      have h1:(is.set i true).getD i false=true:=by simp[List.getD_eq_getElem?_getD,hi]
      rw[e] at h1
      have:=hle.2 i h1
      rw[hx] at this; simp at this
    simp[this]
set_option maxHeartbeats 8000000 in
theorem yl (g:au) (hr:g.rules.length≤40) (comes:aO→List Bool→List Int) (f:FuncId) (capt capt':List V) (hok:cp Tryz.prog f=true) (N:Nat) (hN:N≤16)
    (hc:∀ r∈g.rules,∀ is:List Bool,is.length=N→cq Tryz.prog f (.agg (aG r) :: bf is :: capt') (encI (comes r is))∧(comes r is).length≤100∧∀ n∈comes r is,bB n∧0≤n∧n < N)
    (id:Nat) (is0:List Bool) (his:is0.length=N) (H:View) (hH:H id=.arr 1 (bw is0)) (hlent:∀ H':View,(∀ k,H k≠.dead→k≠id→H' k=H k)→kr H' capt capt') :
    aB Tryz.prog 97 [.agg (ao g),.sl id 0 N 1,.fn f [] capt] H fun r H'=>r=.sl id 0 N 1∧H' id=.arr 1 (bw (eK comes g.rules 16 is0))∧∀ k,H k≠.dead→k≠id→H' k=H k:=by
  refine aB.of mixed xP ?_
  simp (disch:=omega) only [↓wr,↓reduceIte,wq,ah,ag,al,aa,ae,af,ai,isNil,Nat.reduceEqDiff,Nat.reduceAdd,Nat.reduceLT,Nat.reduceLeDiff,Int.reduceNeg,Int.reduceToNat,reduceCtorEq,vg,ao,encS]
  refine bm.intro (fun k T H'=>∃ is:List Bool,is.length=N∧H' id=.arr 1 (bw is)∧(∀ k,H k≠.dead→k≠id→H' k=H k)∧T 1=.sl id 0 N 1∧T 2=.fn f [] capt∧T 3=.aI (ao g) 0 ∧
    ((T 7=gb true∧∃ j,k=j+1∧eK comes g.rules j is=eK comes g.rules 16 is0∧N≤bU is+j)∨(T 7=gb false∧is=eK comes g.rules 16 is0))) 17 ?_ ?_
  · exact ⟨is0,his,hH,fun _ _ _=>rfl,rfl,rfl,rfl,.inl ⟨rfl,16,rfl,rfl,by omega⟩⟩
  rintro k T H1 ⟨is,hlen,hid,hfr,t1,t2,t3,h7⟩
  rcases h7 with ⟨h7,j,rfl,hgr,hj⟩ | ⟨h7,hgr⟩
  · simp (disch:=omega) only [↓wr,↓reduceIte,wq,ah,ag,al,aa,ae,af,ai,isNil,Nat.reduceEqDiff,Nat.reduceAdd,Nat.reduceLT,Nat.reduceLeDiff,Int.reduceNeg,Int.reduceToNat,reduceCtorEq,m8,t1,t2,t3,h7,ao,encS]
    refine bm.up g.rules.length (fun i T H'=>∃ is2:List Bool,is2.length=N∧eA is is2∧is2=(g.rules.take i).foldl (stepG comes) is∧H' id=.arr 1 (bw is2)∧(∀ k,H k≠.dead→k≠id→H' k=H k)∧T 1=.sl id 0 N 1∧T 2=.fn f [] capt∧T 3=.aI (ao g) 0 ∧
      T 7=gb (!decide (is2=is))∧T 14=.aV (g.rules.map aG)∧T 15=gi g.rules.length∧T 16=gi i) ?_ ?_
    · exact ⟨is,hlen,.refl _,rfl,hid,hfr,t1,t2,t3,by simp; rfl,rfl,rfl,rfl⟩
    clear t1 t2 t3 h7 hid hfr
    rintro i k T H1 hk ⟨is2,hlen2,hle2,hst,hid,hfr,t1,t2,t3,h7,h14,h15,h16⟩
    simp (disch:=omega) only [↓wr,↓reduceIte,wq,ah,ag,al,aa,ae,af,ai,isNil,Nat.reduceEqDiff,Nat.reduceAdd,Nat.reduceLT,Nat.reduceLeDiff,Int.reduceNeg,Int.reduceToNat,reduceCtorEq,sr,t1,t2,t3,h7,h14,h15,h16,ao,encS]
    refine aq.dec (fun hcc=>?_) (fun hcc=>?_)
    · have hg2:g.rules[i]?=some (g.rules[i]'(by omega)):=List.getElem?_eq_getElem (by omega)
      have hmem:g.rules[i]'(by omega)∈g.rules:=List.getElem_mem _
      have htk:(g.rules.take (i+1)).foldl (stepG comes) is=stepG comes ((g.rules.take i).foldl (stepG comes) is) (g.rules[i]'(by omega)):=by
        rw[List.take_add_one,hg2,List.foldl_append]; rfl
      generalize g.rules[i]'(by omega)=r at hg2 hmem htk
      obtain ⟨hcp,hcl,hcn⟩:=hc r hmem is2 hlen2
      simp (disch:=omega) only [↓wr,↓reduceIte,wq,ah,ag,al,aa,ae,af,ai,isNil,Nat.reduceEqDiff,Nat.reduceAdd,Nat.reduceLT,Nat.reduceLeDiff,Int.reduceNeg,Int.reduceToNat,reduceCtorEq,t1,t2,t3,h7,h14,h15,h16,aG,encI,List.getElem?_map,hg2]
      intro b hb
      have hbid:b≠id:=by rintro rfl; rw[hid] at hb; simp at hb
      try simp (disch:=omega) only [↓wr,↓reduceIte,wq,ah,ag,al,aa,ae,af,ai,isNil,Nat.reduceEqDiff,Nat.reduceAdd,Nat.reduceLT,Nat.reduceLeDiff,Int.reduceNeg,Int.reduceToNat,reduceCtorEq,t1,t2,t3,h7,h14,h15,h16]
      refine ax.zR hcp hok ⟨bS.tree (bT _ (fS r)),xf (by simp[View.set,hbid.symm,hid]) hlen2.symm,hlent _ (fun k hk hki=>?_)⟩ ?_
      · have hkb:k≠b:=by
          rintro rfl
          rw[hfr k hk hki] at hb
          exact hk hb
        simp[View.set,hkb,hfr k hk hki]
      generalize hl:comes r is2=l at hcl hcn
      simp (disch:=omega) only [↓wr,↓reduceIte,wq,ah,ag,al,aa,ae,af,ai,isNil,Nat.reduceEqDiff,Nat.reduceAdd,Nat.reduceLT,Nat.reduceLeDiff,Int.reduceNeg,Int.reduceToNat,reduceCtorEq,t1,t2,t3,h7,h14,h15,h16,encI]
      refine bm.up l.length (fun q T H'=>∃ is3:List Bool,is3.length=N∧eA is is3∧is3=nK is2 (l.take q)∧H' id=.arr 1 (bw is3)∧(∀ k,H k≠.dead→k≠id→H' k=H k)∧T 1=.sl id 0 N 1∧T 2=.fn f [] capt∧T 3=.aI (ao g) 0 ∧
        T 7=gb (!decide (is3=is))∧T 14=.aV (g.rules.map aG)∧T 15=gi g.rules.length∧T 16=gi i∧T 23=encI l∧T 24=gi l.length∧T 25=gi q) ?_ ?_
      · refine ⟨is2,hlen2,hle2,rfl,by simp[View.set,hbid.symm,hid],fun k hk hki=>?_,t1,t2,t3,h7,h14,h15,h16,rfl,rfl,rfl⟩
        have hkb:k≠b:=by
          rintro rfl
          rw[hfr k hk hki] at hb
          exact hk hb
        simp[View.set,hkb,hfr k hk hki]
      clear t1 t2 t3 h7 h14 h15 h16 hid hfr hb hbid
      rintro q k2 T H1 hk2 ⟨is3,hlen3,hle3,hst3,hid,hfr,t1,t2,t3,h7,h14,h15,h16,h23,h24,h25⟩
      simp (disch:=omega) only [↓wr,↓reduceIte,wq,ah,ag,al,aa,ae,af,ai,isNil,Nat.reduceEqDiff,Nat.reduceAdd,Nat.reduceLT,Nat.reduceLeDiff,Int.reduceNeg,Int.reduceToNat,reduceCtorEq,sy,t1,t2,t3,h7,h14,h15,h16,h23,h24,h25,encI]
      refine aq.dec (fun hqc=>?_) (fun hqc=>?_)
      · have hgq:l[q]?=some (l[q]'(by omega)):=List.getElem?_eq_getElem (by omega)
        have hmq:l[q]'(by omega)∈l:=List.getElem_mem _
        have htq:nK is2 (l.take (q+1))=(nK is2 (l.take q)).set (l[q]'(by omega)).toNat true:=by
          unfold nK; rw[List.take_add_one,hgq,List.foldl_append]; rfl
        generalize l[q]'(by omega)=n at hgq hmq htq
        obtain ⟨⟨n1,n2⟩,n3,n4⟩:=hcn n hmq
        have hbn:is3.getD n.toNat false=is3[n.toNat]'(by omega):=by simp[List.getD_eq_getElem?_getD,show n.toNat < is3.length by omega]
        have hnew:=HG hle3 (show n.toNat < is3.length by omega) (b:=!decide (is3=is)) rfl
        rw[hbn] at hnew
        have hbg:=gY (show n.toNat < is3.length by omega)
        generalize is3[n.toNat]'(by omega)=x at hnew hbg hbn
        have fin:∀ (T2:Env),T2 7=gb (!decide (is3.set n.toNat true=is))→T2 1=.sl id 0 N 1→T2 2=.fn f [] capt→T2 3=.aI (ao g) 0→T2 14=.aV (g.rules.map aG)→T2 15=gi g.rules.length→T2 16=gi i→T2 23=encI l→T2 24=gi l.length→T2 25=gi ((q:Int)+1) →
            ∃ k',k' < k2∧zw l.length k' (fun q T H'=>∃ is3:List Bool,is3.length=N∧eA is is3∧is3=nK is2 (l.take q)∧H' id=.arr 1 (bw is3)∧(∀ k,H k≠.dead→k≠id→H' k=H k)∧T 1=.sl id 0 N 1∧T 2=.fn f [] capt∧T 3=.aI (ao g) 0 ∧
              T 7=gb (!decide (is3=is))∧T 14=.aV (g.rules.map aG)∧T 15=gi g.rules.length∧T 16=gi i∧T 23=encI l∧T 24=gi l.length∧T 25=gi q) T2 (H1.set id (.arr 1 (bw (is3.set n.toNat true)))):=by
          intro T2 a7 a1 a2 a3 a14 a15 a16 a23 a24 a25
          refine aP hk2 (by omega) ⟨is3.set n.toNat true,by simp[hlen3],hle3.trans (.set _ _),by rw[htq,← hst3],by simp[View.set],fun k hk hki=>by simp[View.set,hki,hfr k hk hki],a1,a2,a3,a7,a14,a15,a16,a23,a24,by rw[a25]; rfl⟩
        simp (disch:=omega) only [↓wr,↓reduceIte,wq,ah,ag,al,aa,ae,af,ai,isNil,Nat.reduceEqDiff,Nat.reduceAdd,Nat.reduceLT,Nat.reduceLeDiff,Int.reduceNeg,Int.reduceToNat,reduceCtorEq,t1,t2,t3,h7,h14,h15,h16,h23,h24,h25,encI,List.getElem?_map,hgq]
        refine aq.dec (fun e=>?_) (fun e=>?_)
        · simp (disch:=omega) only [↓wr,↓reduceIte,wq,ah,ag,al,aa,ae,af,ai,isNil,Nat.reduceEqDiff,Nat.reduceAdd,Nat.reduceLT,Nat.reduceLeDiff,Int.reduceNeg,Int.reduceToNat,reduceCtorEq,t1,t2,t3,h7,h14,h15,h16,h23,h24,h25,encI,hid,hbg,List.length_map]
          refine ⟨by omega,by omega,?_⟩
          try simp (disch:=omega) only [↓wr,↓reduceIte,wq,ah,ag,al,aa,ae,af,ai,isNil,Nat.reduceEqDiff,Nat.reduceAdd,Nat.reduceLT,Nat.reduceLeDiff,Int.reduceNeg,Int.reduceToNat,reduceCtorEq,t1,t2,t3,h7,h14,h15,h16,h23,h24,h25,encI,hid,hbg,List.length_map]
          refine ⟨by omega,by omega,?_⟩
          rw[dK]
          exact fin _ (by rw[← hnew]; simp[e]; rfl) t1 t2 t3 h14 h15 h16 h23 h24 rfl
        · simp (disch:=omega) only [↓wr,↓reduceIte,wq,ah,ag,al,aa,ae,af,ai,isNil,Nat.reduceEqDiff,Nat.reduceAdd,Nat.reduceLT,Nat.reduceLeDiff,Int.reduceNeg,Int.reduceToNat,reduceCtorEq,t1,t2,t3,h7,h14,h15,h16,h23,h24,h25,encI,hid,hbg,List.length_map]
          refine ⟨by omega,by omega,?_⟩
          rw[dK]
          exact fin _ (by rw[← hnew]; simp[e]; rfl) t1 t2 t3 h14 h15 h16 h23 h24 rfl
      · rw[List.take_of_length_le (by omega)] at hst3
        simp (disch:=omega) only [↓wr,↓reduceIte,wq,ah,ag,al,aa,ae,af,ai,isNil,Nat.reduceEqDiff,Nat.reduceAdd,Nat.reduceLT,Nat.reduceLeDiff,Int.reduceNeg,Int.reduceToNat,reduceCtorEq,t1,t2,t3,h7,h14,h15,h16,h23,h24,h25]
        refine aP hk (by omega) ⟨is3,hlen3,hle3,?_,hid,hfr,t1,t2,t3,h7,h14,h15,rfl⟩
        rw[htk,← hst,stepG,hl,← hst3]
    · rw[List.take_of_length_le (by omega)] at hst
      simp (disch:=omega) only [↓wr,↓reduceIte,wq,ah,ag,al,aa,ae,af,ai,isNil,Nat.reduceEqDiff,Nat.reduceAdd,Nat.reduceLT,Nat.reduceLeDiff,Int.reduceNeg,Int.reduceToNat,reduceCtorEq,t1,t2,t3,h7,h14,h15,h16]
      have hrd:is2=cK comes g.rules is:=hst
      by_cases e:is2=is
      · refine ⟨0,by omega,is2,hlen2,hid,hfr,rfl,.inr ⟨by simp[e],?_⟩⟩
        rw[← hgr,e]
        exact (Eh (by rw[← hrd]; exact e)).symm
      · obtain ⟨j2,rfl,e2,e3⟩:=D7 (k:=j) (fun h=>e (hrd.trans h)) (by rw[hlen]; exact hj)
        refine ⟨j2+1,by omega,is2,hlen2,hid,hfr,rfl,.inl ⟨by simp[e],j2,rfl,?_,?_⟩⟩
        · rw[← hgr,e2,hrd]
        · rw[← hrd,hlen2] at e3; exact e3
  · simp (disch:=omega) only [↓wr,↓reduceIte,wq,ah,ag,al,aa,ae,af,ai,isNil,Nat.reduceEqDiff,Nat.reduceAdd,Nat.reduceLT,Nat.reduceLeDiff,Int.reduceNeg,Int.reduceToNat,reduceCtorEq,m8,t1,t2,t3,h7,ao,encS]
    exact ⟨hgr ▸ hid,hfr⟩
end Gv
set_option linter.unusedSimpArgs false
set_option maxRecDepth 100000
namespace Gv
open Go Go.Proofs
theorem vE {α:Type} {f:α→α} {x:α} (h:f x=x):∀ n,iter f n x=x
  | 0=>rfl
  | n+1=>by rw[iter,h,vE h n]
theorem AD {α:Type} (f:α→α):∀ (a b:Nat) (x:α),iter f (a+b) x=iter f b (iter f a x)
  | 0,b,x=>by rw[Nat.zero_add]; rfl
  | a+1,b,x=>by rw[Nat.add_right_comm,iter,iter,AD f a b]
theorem wk (comes:aO→List Bool→List Int) (rules:List aO):∀ (k:Nat) (is:List Bool),eK comes rules k is=iter (cK comes rules) k is
  | 0,is=>rfl
  | k+1,is=>by
    simp only[eK,iter]
    by_cases e:cK comes rules is=is
    · rw[if_pos e,e,vE e]
    · rw[if_neg e,wk comes rules k]
theorem uj (comes:aO→List Bool→List Int) (rules:List aO) (is:List Bool) (h:is.length≤16):eK comes rules 16 is=iter (cK comes rules) is.length is:=by
  have h1:=(pr comes rules is.length is (by omega)).1
  rw[wk] at h1 ⊢
  obtain ⟨m,hm⟩:∃ m,16=is.length+m:=⟨16 - is.length,by omega⟩
  rw[hm,AD,vE h1]
def jn (t:Bool) (r:aO) (is:List Bool):List Int:=if ca r.right is t=true then [r.left] else []
def oF (p:List Bool) (r:aO) (is:List Bool):List Int:=if (is.getD r.left.toNat false && ca r.right p true)=true then dZ r.right else []
theorem Dq (g:au) (t:Bool):cK (jn t) g.rules=fN g t:=by
  funext is
  unfold cK fN
  congr 1
  funext is r
  unfold stepG jn cD
  split <;> rfl
theorem wy:∀ (l:List Int) (is:List Bool),nK is (dZ l)=l.foldl mark is
  | [],is=>rfl
  | s :: l,is=>by
    have ih:=wy l
    unfold nK dZ at ih ⊢
    rw[List.foldl_cons,← ih]
    unfold mark
    by_cases h:s < 0
    · rw[if_pos h,List.filter_cons_of_pos (by simpa using h)]; rfl
    · rw[if_neg h,List.filter_cons_of_neg (by simpa using h)]
theorem C7 (g:au) (p:List Bool):cK (oF p) g.rules=kn g p:=by
  funext is
  unfold cK kn
  congr 1
  funext is r
  unfold stepG oF dP
  split
  · exact wy _ _
  · rfl
theorem Ax {g:au} (h:aM g=true) (t:Bool):eK (jn t) g.rules 16 (bD g)=aw g t:=by
  have hf:=aJ h
  have hl:(bD g).length=g.ar.length:=by simp[bD]
  have:=hf.ar
  rw[uj _ _ _ (by rw[hl]; exact hf.ar),Dq,hl,aw,if_pos h]
theorem E4 {g:au} (h:aM g=true):eK (oF (aw g true)) g.rules 16 ((bD g).set g.start.toNat true)=aL g:=by
  have hf:=aJ h
  have hl:((bD g).set g.start.toNat true).length=g.ar.length:=by simp[bD]
  rw[uj _ _ _ (by rw[hl]; exact hf.ar),C7,hl,aL,if_pos h]
def pq:SF:=⟨.seq (an [da 1 0,((some 2),.op (.ak (.val (.emp 1))))]) <|
  .seq (.seq (an [bo 3 4 1,aY 4 38 [3],bP 5 4]) <|
  .cond (.tmp 5) (.seq (an [((some 2),.op (.ak (.val (.emp 1))))]) <|
  .ret) (.skip)) <|
  .seq (an [bo 6 4 1,aD 7 1 1,av 8 7,aX 9 8,((some 10),.op (.make 1 1 [(.val (.bool false))] (.tmp 9) (.tmp 9))),oE 11 97 [(.tmp 6),(.tmp 10),(.val (.fn 98 [] []))],aj 2 11]) <|
  .ret,
  [.tmp 2],12⟩
theorem tR:aR Tryz.prog 54 [1]=some pq:=by kernel_rfl
def nE:SF:=⟨.seq (an [da 1 0,((some 2),.op (.ak (.val (.emp 1))))]) <|
  .seq (.seq (an [bo 3 4 1,aY 4 38 [3],bP 5 4]) <|
  .cond (.tmp 5) (.seq (an [((some 2),.op (.ak (.val (.emp 1))))]) <|
  .ret) (.skip)) <|
  .seq (an [bo 6 4 1,aD 7 1 1,av 8 7,aX 9 8,((some 10),.op (.make 1 1 [(.val (.bool false))] (.tmp 9) (.tmp 9))),oE 11 97 [(.tmp 6),(.tmp 10),(.val (.fn 117 [] []))],aj 2 11]) <|
  .ret,
  [.tmp 2],12⟩
theorem rf:aR Tryz.prog 72 [1]=some nE:=by kernel_rfl
def ov:SF:=⟨.seq (an [da 1 0,((some 2),.op (.ak (.val (.emp 1))))]) <|
  .seq (.seq (an [bo 5 4 1,aY 6 38 [5],bP 7 6]) <|
  .cond (.tmp 7) (.seq (an [((some 2),.op (.ak (.val (.emp 1))))]) <|
  .ret) (.skip)) <|
  .seq (an [bo 8 4 1,aY 9 72 [8],((some 3),.op (.alloc [(.emp 1)])),(none,.op (.store 1 (.tmp 3) (.tmp 9)))]) <|
  .seq (an [aD 10 1 1,av 11 10,aX 12 11,((some 13),.op (.make 1 1 [(.val (.bool false))] (.tmp 12) (.tmp 12))),aj 4 13]) <|
  .seq (an [aj 14 4,aD 15 3 1,av 16 15,aW 17 1 14 16,(none,.op (.store 1 (.tmp 17) (.val (.val (.bool true)))))]) <|
  .seq (an [bo 18 4 1,aj 19 4,((some 20),.op (.ox 118 [] [(.tmp 3)])),aY 21 97 [18,19,20],aj 2 21]) <|
  .ret,
  [.tmp 2],22⟩
theorem sY:aR Tryz.prog 73 [1]=some ov:=by kernel_rfl
structure au.Small (g:au):Prop where
  names:g.ar.length+g.aA.length≤1000
theorem td {h':aE} {id n:Nat} {is:List Bool} (hv:h'.view id=.arr 1 (bw is)) (hn:n=is.length):dV h' (.sl id 0 n 1) (bf is):=by
  subst hn; exact j9 hv
set_option maxHeartbeats 2000000 in
theorem AG (g:au) (hg:g.Ok) (hs:g.Small):cq Tryz.prog 54 [.agg (ao g)] (bf (aw g false)):=by
  refine cq.of (fi g) ?_
  refine aB.of mixed tR ?_
  have hn:=hg.ar
  unfold aK at hn
  simp (disch:=omega) only [↓wr,↓reduceIte,wq,ah,ag,al,aa,ae,af,ai,isNil,Nat.reduceEqDiff,Nat.reduceAdd,Nat.reduceLT,Nat.reduceLeDiff,Int.reduceNeg,Int.reduceToNat,reduceCtorEq,pq,ao,encS]
  refine ax.pure (jW g hg hs.names) (by kernel_rfl) ?_
  repeat' (first | (refine aq.dec (fun _=>?_) (fun _=>?_)) | (refine aq.eq (fun _=>?_) (fun _=>?_)) | (refine aq.ne (fun _=>?_) (fun _=>?_)) | (refine aq.split (fun _=>?_) (fun _=>?_)) | (simp (disch:=omega) only [↓wr,↓reduceIte,wq,ah,ag,al,aa,ae,af,ai,isNil,Nat.reduceEqDiff,Nat.reduceAdd,Nat.reduceLT,Nat.reduceLeDiff,Int.reduceNeg,Int.reduceToNat,reduceCtorEq,ao,encS]))
  · rename_i hr
    have hf:=aJ hr
    have h1:=hf.nS
    have h2:=hf.ar
    try simp (disch:=omega) only [↓wr,↓reduceIte,wq,ah,ag,al,aa,ae,af,ai,isNil,Nat.reduceEqDiff,Nat.reduceAdd,Nat.reduceLT,Nat.reduceLeDiff,Int.reduceNeg,Int.reduceToNat,reduceCtorEq,ao,encS]
    refine ⟨⟨by omega,by unfold aF; omega,by unfold aF; omega⟩,fun h=>by omega,?_⟩
    intro _ n
    try simp (disch:=omega) only [↓wr,↓reduceIte,wq,ah,ag,al,aa,ae,af,ai,isNil,Nat.reduceEqDiff,Nat.reduceAdd,Nat.reduceLT,Nat.reduceLeDiff,Int.reduceNeg,Int.reduceToNat,reduceCtorEq,ao,encS]
    refine ax.ez ((yl g hf.rules (jn false) 98 [] [] (by kernel_rfl) g.ar.length h2 (fun r hr' is his=>⟨Ad r is (by rw[his]; exact hf.oV hg hr'),?_,?_⟩) n (bD g) (by simp[bD]) _ (by simp[View.set,bD]) (fun H' _=>trivial)).mono ?_)
    · unfold jn; split <;> simp
    · intro m hm
      unfold jn at hm
      split at hm
      · simp only[List.mem_singleton] at hm; subst hm
        exact ⟨(hg.bg r hr').1,hf.left r hr'⟩
      · simp at hm
    · rintro r H' ⟨rfl,hid,_⟩
      simp (disch:=omega) only [↓wr,↓reduceIte,wq,ah,ag,al,aa,ae,af,ai,isNil,Nat.reduceEqDiff,Nat.reduceAdd,Nat.reduceLT,Nat.reduceLeDiff,Int.reduceNeg,Int.reduceToNat,reduceCtorEq]
      intro h' hh
      rw[Ax hr] at hid
      exact td (by rw[hh]; exact hid) (eS hr _).symm
  · rename_i hr
    intro h' hh
    simp only[aw,hr]
    exact .emp _
set_option maxHeartbeats 2000000 in
theorem qH (g:au) (hg:g.Ok) (hs:g.Small):cq Tryz.prog 72 [.agg (ao g)] (bf (aw g true)):=by
  refine cq.of (fi g) ?_
  refine aB.of mixed rf ?_
  have hn:=hg.ar
  unfold aK at hn
  simp (disch:=omega) only [↓wr,↓reduceIte,wq,ah,ag,al,aa,ae,af,ai,isNil,Nat.reduceEqDiff,Nat.reduceAdd,Nat.reduceLT,Nat.reduceLeDiff,Int.reduceNeg,Int.reduceToNat,reduceCtorEq,nE,ao,encS]
  refine ax.pure (jW g hg hs.names) (by kernel_rfl) ?_
  repeat' (first | (refine aq.dec (fun _=>?_) (fun _=>?_)) | (refine aq.eq (fun _=>?_) (fun _=>?_)) | (refine aq.ne (fun _=>?_) (fun _=>?_)) | (refine aq.split (fun _=>?_) (fun _=>?_)) | (simp (disch:=omega) only [↓wr,↓reduceIte,wq,ah,ag,al,aa,ae,af,ai,isNil,Nat.reduceEqDiff,Nat.reduceAdd,Nat.reduceLT,Nat.reduceLeDiff,Int.reduceNeg,Int.reduceToNat,reduceCtorEq,ao,encS]))
  · rename_i hr
    have hf:=aJ hr
    have h1:=hf.nS
    have h2:=hf.ar
    try simp (disch:=omega) only [↓wr,↓reduceIte,wq,ah,ag,al,aa,ae,af,ai,isNil,Nat.reduceEqDiff,Nat.reduceAdd,Nat.reduceLT,Nat.reduceLeDiff,Int.reduceNeg,Int.reduceToNat,reduceCtorEq,ao,encS]
    refine ⟨⟨by omega,by unfold aF; omega,by unfold aF; omega⟩,fun h=>by omega,?_⟩
    intro _ n
    try simp (disch:=omega) only [↓wr,↓reduceIte,wq,ah,ag,al,aa,ae,af,ai,isNil,Nat.reduceEqDiff,Nat.reduceAdd,Nat.reduceLT,Nat.reduceLeDiff,Int.reduceNeg,Int.reduceToNat,reduceCtorEq,ao,encS]
    refine ax.ez ((yl g hf.rules (jn true) 117 [] [] (by kernel_rfl) g.ar.length h2 (fun r hr' is his=>⟨xU r is (by rw[his]; exact hf.oV hg hr'),?_,?_⟩) n (bD g) (by simp[bD]) _ (by simp[View.set,bD]) (fun H' _=>trivial)).mono ?_)
    · unfold jn; split <;> simp
    · intro m hm
      unfold jn at hm
      split at hm
      · simp only[List.mem_singleton] at hm; subst hm
        exact ⟨(hg.bg r hr').1,hf.left r hr'⟩
      · simp at hm
    · rintro r H' ⟨rfl,hid,_⟩
      simp (disch:=omega) only [↓wr,↓reduceIte,wq,ah,ag,al,aa,ae,af,ai,isNil,Nat.reduceEqDiff,Nat.reduceAdd,Nat.reduceLT,Nat.reduceLeDiff,Int.reduceNeg,Int.reduceToNat,reduceCtorEq]
      intro h' hh
      rw[Ax hr] at hid
      exact td (by rw[hh]; exact hid) (eS hr _).symm
  · rename_i hr
    intro h' hh
    simp only[aw,hr]
    exact .emp _
theorem lZ {g:au} (hr:aM g=true):(aL g).length=g.ar.length:=by
  rw[aL,if_pos hr,vT (f:=kn g (aw g true)) (fun is=>vz (fun is x=>ET _ is x) g.rules is)]
  simp[bD]
set_option maxHeartbeats 2000000 in
theorem zA (g:au) (hg:g.Ok) (hs:g.Small):cq Tryz.prog 73 [.agg (ao g)] (bf (aL g)):=by
  refine cq.of (fi g) ?_
  refine aB.of mixed sY ?_
  have hn:=hg.ar
  unfold aK at hn
  simp (disch:=omega) only [↓wr,↓reduceIte,wq,ah,ag,al,aa,ae,af,ai,isNil,Nat.reduceEqDiff,Nat.reduceAdd,Nat.reduceLT,Nat.reduceLeDiff,Int.reduceNeg,Int.reduceToNat,reduceCtorEq,ov,ao,encS]
  refine ax.pure (jW g hg hs.names) (by kernel_rfl) ?_
  repeat' (first | (refine aq.dec (fun _=>?_) (fun _=>?_)) | (refine aq.eq (fun _=>?_) (fun _=>?_)) | (refine aq.ne (fun _=>?_) (fun _=>?_)) | (refine aq.split (fun _=>?_) (fun _=>?_)) | (simp (disch:=omega) only [↓wr,↓reduceIte,wq,ah,ag,al,aa,ae,af,ai,isNil,Nat.reduceEqDiff,Nat.reduceAdd,Nat.reduceLT,Nat.reduceLeDiff,Int.reduceNeg,Int.reduceToNat,reduceCtorEq,ao,encS]))
  · rename_i hr
    have hf:=aJ hr
    have h1:=hf.nS
    have h2:=hf.ar
    have h3:=hf.dR
    have h4:=hf.start
    have hpl:=eS hr true
    try simp (disch:=omega) only [↓wr,↓reduceIte,wq,ah,ag,al,aa,ae,af,ai,isNil,Nat.reduceEqDiff,Nat.reduceAdd,Nat.reduceLT,Nat.reduceLeDiff,Int.reduceNeg,Int.reduceToNat,reduceCtorEq,ao,encS]
    refine ax.pure (qH g hg hs).pure (by kernel_rfl) ?_
    simp (disch:=omega) only [↓wr,↓reduceIte,wq,ah,ag,al,aa,ae,af,ai,isNil,Nat.reduceEqDiff,Nat.reduceAdd,Nat.reduceLT,Nat.reduceLeDiff,Int.reduceNeg,Int.reduceToNat,reduceCtorEq,ao,encS,bf]
    intro q
    try simp (disch:=omega) only [↓wr,↓reduceIte,wq,ah,ag,al,aa,ae,af,ai,isNil,Nat.reduceEqDiff,Nat.reduceAdd,Nat.reduceLT,Nat.reduceLeDiff,Int.reduceNeg,Int.reduceToNat,reduceCtorEq,ao,encS,set_set]
    refine ⟨⟨by omega,by unfold aF; omega,by unfold aF; omega⟩,fun h=>by omega,?_⟩
    intro _ n hn'
    have hnq:=(bG hn' bI).1
    try simp (disch:=omega) only [↓wr,↓reduceIte,wq,ah,ag,al,aa,ae,af,ai,isNil,Nat.reduceEqDiff,Nat.reduceAdd,Nat.reduceLT,Nat.reduceLeDiff,Int.reduceNeg,Int.reduceToNat,reduceCtorEq,ao,encS,set_set]
    have hbg:=gY (is:=bD g) (show g.start.toNat < (bD g).length by simp[bD]; omega)
    refine ⟨by omega,by simp; omega,?_⟩
    refine ax.ez ((yl g hf.rules (oF (aw g true)) 118 [.ptr q 0 0] [.aI [bf (aw g true)] 0] (by kernel_rfl) g.ar.length h2 (fun r hr' is his=>⟨zG r is (aw g true) (by rw[his]; exact hf.oV hg hr') (by rw[his,hpl]),?_,?_⟩) n ((bD g).set g.start.toNat true) (by simp[bD]) _ ?_ (fun H' hfr=>⟨bS.box (z:=1) ?_ ?_,trivial⟩)).mono ?_)
    · have h6:=hf.right r hr'
      unfold oF
      split
      · have:(dZ r.right).length≤r.right.length:=by simp only[dZ,List.length_map]; exact List.length_filter_le _ _
        omega
      · simp
    · intro m hm
      unfold oF at hm
      split at hm
      · simp only[dZ,List.mem_map,List.mem_filter,decide_eq_true_eq] at hm
        obtain ⟨s,⟨hs',hneg⟩,rfl⟩:=hm
        have a:=hf.neg hr' hs' hneg
        have b:=((hg.bg r hr').2.2.2 s hs').1
        exact ⟨⟨by omega,by omega⟩,by omega,a⟩
      · simp at hm
    · simp only[View.set,if_true]
      congr 1
      rw[← dK]
      unfold bD at hbg ⊢
      rw[uo,hbg]
      rfl
    · rw[hfr q (by simp[View.set,Ne.symm hnq]) (Ne.symm hnq)]
      simp[View.set,Ne.symm hnq]
      rfl
    · intro v hv; simp at hv; subst hv; exact eT _
    · rintro r H' ⟨rfl,hid,_⟩
      simp (disch:=omega) only [↓wr,↓reduceIte,wq,ah,ag,al,aa,ae,af,ai,isNil,Nat.reduceEqDiff,Nat.reduceAdd,Nat.reduceLT,Nat.reduceLeDiff,Int.reduceNeg,Int.reduceToNat,reduceCtorEq]
      intro h' hh
      rw[E4 hr] at hid
      exact td (by rw[hh]; exact hid) (by rw[lZ hr])
  · rename_i hr
    intro h' hh
    simp only[aL,hr]
    exact .emp _
end Gv
set_option linter.unusedSimpArgs false
namespace Gv
open Go Go.Proofs
def bq (p q:List Bool) (r:aO):Bool:=q.getD r.left.toNat false && ca r.right p true
def bK (p q:List Bool):List aO→Int→List Int
  | [],_=>[]
  | r :: l,i=>if bq p q r=true then i :: bK p q l (i+1) else bK p q l (i+1)
def cE (acc:List Int) (r:aO):List Int:=if r.left∈acc then acc else acc ++ [r.left]
def br (p q:List Bool) (l:List aO):List Int:=(l.filter (bq p q)).foldl cE []
def aQ (o:List Int) (x:Int):Int:=cF (fun y=>y == x) o 0
def aT (f:Int→Int) (r:aO):aO:=⟨f r.left,r.right.map fun s=>if s < 0 then -1 - f (-1 - s) else s,r.prec⟩
def eN (g:au) (f:Int→Int) (p q:List Bool):au :=
  ⟨g.aA,(br p q g.rules).map fun x=>g.ar.getD x.toNat ⟨#[]⟩,(g.rules.filter (bq p q)).map (aT f),f g.start⟩
def vc:au:=⟨[],[],[],0⟩
def dk (g:au):au × List Int × Int :=
  if aM g=true then
    if (aw g true).getD g.start.toNat false=true then (eN g (aQ (br (aw g true) (aL g) g.rules)) (aw g true) (aL g),bK (aw g true) (aL g) g.rules 0,0)
    else (vc,[],9)
  else (vc,[],1)
theorem e9 {g:au} (hr:aM g=true):dk g=if (aw g true).getD g.start.toNat false=true then (eN g (aQ (br (aw g true) (aL g) g.rules)) (aw g true) (aL g),bK (aw g true) (aL g) g.rules 0,0) else (vc,[],9):=by
  rw[dk,if_pos hr]
theorem il (p q:List Bool):∀ (a b:List aO) (i:Int),bK p q (a ++ b) i=bK p q a i ++ bK p q b (i+a.length)
  | [],b,i=>by simp[bK]
  | r :: a,b,i=>by
    simp only[List.cons_append,bK,il p q a b (i+1),List.length_cons]
    have:i+1+(a.length:Int)=i+((a.length+1:Nat):Int):=by push_cast; omega
    rw[this]
    split <;> simp
theorem ig (p q:List Bool):∀ (a:List aO) (i:Int),(bK p q a i).length=(a.filter (bq p q)).length
  | [],i=>rfl
  | r :: a,i=>by
    simp only[bK,List.filter_cons]
    split <;> simp[ig p q a]
theorem pH (p q:List Bool):∀ (a:List aO) (i:Int) (k:Nat),k < (bK p q a i).length→∃ m:Nat,(bK p q a i)[k]?=some (i+m)∧a[m]?=(a.filter (bq p q))[k]?∧m < a.length
  | [],i,k,h=>by simp[bK] at h
  | r :: a,i,k,h=>by
    simp only[bK,List.filter_cons] at h ⊢
    by_cases hr:bq p q r=true
    · rw[if_pos hr] at h ⊢
      rw[if_pos hr]
      cases k with
      | zero=>exact ⟨0,by simp,by simp,by simp⟩
      | succ k =>
        obtain ⟨m,h1,h2,h3⟩:=pH p q a (i+1) k (by simpa using h)
        exact ⟨m+1,by rw[List.getElem?_cons_succ,h1]; congr 1; push_cast; omega,by simpa using h2,by simpa using h3⟩
    · rw[if_neg hr] at h ⊢
      rw[if_neg hr]
      obtain ⟨m,h1,h2,h3⟩:=pH p q a (i+1) k h
      exact ⟨m+1,by rw[h1]; congr 1; push_cast; omega,by simpa using h2,by simpa using h3⟩
theorem ph (p q:List Bool) (l:List aO) (r:aO):br p q (l ++ [r])=if bq p q r=true then cE (br p q l) r else br p q l:=by
  unfold br
  rw[List.filter_append]
  by_cases h:bq p q r=true
  · rw[if_pos h,List.filter_cons_of_pos h,List.foldl_append]; rfl
  · rw[if_neg h,List.filter_cons_of_neg h]; simp
theorem xg {acc:List Int} {r:aO} (h:acc.Nodup):(cE acc r).Nodup:=by
  unfold cE
  split
  · exact h
  · rename_i hn
    rw[List.nodup_append]
    exact ⟨h,by simp,fun a ha b hb e=>hn (by simp at hb; rw[← hb,← e]; exact ha)⟩
theorem oR {o:List Int} {x:Int} : aQ o x < 0↔x ∉ o:=by
  have:=rM (fun y=>y == x) o 0 (by omega)
  unfold aQ
  rw[← Int.not_le]
  constructor
  · intro h hx
    have e:(o.any fun y=>y == x)=true:=List.any_eq_true.2 ⟨x,hx,by simp⟩
    rw[e] at this; exact h (by simpa using this)
  · intro h hx
    have e:(o.any fun y=>y == x)=true:=by rw[← this]; simpa using hx
    obtain ⟨y,hy,e⟩:=List.any_eq_true.1 e
    simp at e; subst e; exact h hy
theorem pT {α:Type} (p:α→Bool):∀ (a b:List α) (i:Int),0≤i→cF p (a ++ b) i=if 0≤cF p a i then cF p a i else cF p b (i+a.length)
  | [],b,i,_=>by simp[cF]
  | x :: a,b,i,h=>by
    by_cases hp:p x=true
    · simp[cF,hp,h]
    · simp only[List.cons_append,cF,if_neg hp]
      rw[pT p a b (i+1) (by omega)]
      have:i+1+(a.length:Int)=i+(((x :: a).length:Nat):Int):=by simp; omega
      rw[this]
theorem FH {o:List Int} {x y:Int} (hx:x ∉ o):aQ (o ++ [x]) y=if y=x then (o.length:Int) else aQ o y:=by
  unfold aQ
  rw[pT _ _ _ _ (by omega)]
  by_cases e:y=x
  · subst e
    rw[if_neg (by have:=oR.2 hx; unfold aQ at this; omega),if_pos rfl]
    simp[cF]
  · rw[if_neg e]
    split
    · rfl
    · rename_i h
      have:aQ o y < 0:=by unfold aQ; omega
      have h2:cF (fun z=>z == y) [x] (0+(o.length:Int)) = -1:=by simp[cF,Ne.symm e]
      rw[h2]
      have:∀ (l:List Int) (i:Int),¬ 0≤cF (fun z=>z == y) l i→0≤i→cF (fun z=>z == y) l i = -1:=by
        intro l
        induction l with
        | nil=>intro i _ _; rfl
        | cons z l ih =>
          intro i h1 h2
          simp only[cF] at h1 ⊢
          split
          · rename_i hz; rw[if_pos hz] at h1; omega
          · rename_i hz; rw[if_neg hz] at h1; exact ih _ h1 (by omega)
      exact (this o 0 h (by omega)).symm
theorem iw {o:List Int} {x:Int} (h:x∈o):0≤aQ o x∧aQ o x < o.length:=by
  have h0:¬ aQ o x < 0:=fun e=>oR.1 e h
  refine ⟨by omega,?_⟩
  unfold aQ
  have:∀ (l:List Int) (i:Int),cF (fun z=>z == x) l i < i+l.length∨cF (fun z=>z == x) l i = -1:=by
    intro l
    induction l with
    | nil=>intro i; right; rfl
    | cons z l ih =>
      intro i
      simp only[cF]
      split
      · left; simp; omega
      · rcases ih (i+1) with h | h
        · left; simp at h ⊢; omega
        · right; exact h
  rcases this o 0 with h1 | h1
  · simpa using h1
  · unfold aQ at h0; omega
theorem xY (o:List Int) (x:Int) : -1≤aQ o x∧aQ o x≤o.length:=by
  by_cases h:x∈o
  · have:=iw h; omega
  · have h1:=oR.2 h
    have h2:∀ (l:List Int) (i:Int),0≤i→-1≤cF (fun z=>z == x) l i:=by
      intro l
      induction l with
      | nil=>intro i _; simp[cF]
      | cons z l ih =>
        intro i hi
        simp only[cF]
        split
        · omega
        · exact ih _ (by omega)
    have:=h2 o 0 (by omega)
    unfold aQ at h1 ⊢
    omega
def gf:List Int→Int→List (Int × Int)
  | [],_=>[]
  | x :: l,i=>(x,i) :: gf l (i+1)
theorem py (x:Int):∀ (o:List Int) (i:Int),cX (gf o i) x=if x∈o then some (cF (fun y=>y == x) o i) else none
  | [],i=>by simp[gf,cX]
  | y :: o,i=>by
    have ih:=py x o (i+1)
    unfold cX at ih ⊢
    simp only[gf,List.find?_cons,cF]
    by_cases e:x=y
    · subst e; simp
    · have e2:¬ ((y == x)=true):=by simp[Ne.symm e]
      rw[show (x == y)=false by simp[e],if_neg e2]
      simp only
      rw[ih]
      simp[e]
theorem yB {x v:Int} : ∀ {o:List Int} {i:Int},x ∉ o→gD x v (gf o i)=gf o i ++ [(x,v)]
  | [],i,_=>rfl
  | y :: o,i,h=>by
    simp only[List.mem_cons,not_or] at h
    simp only[gf,gD,show (x == y)=false by simp[h.1],Bool.false_eq_true,if_false,yB h.2,List.cons_append]
theorem xu {x:Int} : ∀ {o:List Int} {i:Int},gf (o ++ [x]) i=gf o i ++ [(x,i+o.length)]
  | [],i=>by simp[gf]
  | y :: o,i=>by
    simp only[List.cons_append,gf,xu (o:=o),List.length_cons]
    congr 4
    push_cast; omega
def cJ (o:List Int) (x:Int):Int:=(cX (gf o 0) x).getD 0
theorem uB {o:List Int} {x:Int} (h:x∈o):cJ o x=aQ o x:=by
  simp[cJ,py,h,aQ]
theorem Ip (o:List Int) (x:Int):0≤cJ o x∧cJ o x≤o.length:=by
  by_cases h:x∈o
  · rw[uB h]; have:=iw h; omega
  · simp[cJ,py,h]
theorem EG {g:au} {p q:List Bool} (hst:g.start∈br p q g.rules) (hin:∀ r∈g.rules.filter (bq p q),r.left∈br p q g.rules∧∀ s∈r.right,s < 0→-1 - s∈br p q g.rules) :
    eN g (cJ (br p q g.rules)) p q=eN g (aQ (br p q g.rules)) p q:=by
  unfold eN
  congr 1
  · apply List.map_congr_left
    intro r hr
    obtain ⟨h1,h2⟩:=hin r hr
    unfold aT
    congr 1
    · exact uB h1
    · apply List.map_congr_left
      intro s hs
      split
      · rename_i h; rw[uB (h2 s hs h)]
      · rfl
  · exact uB hst
theorem qK:∀ (l:List aO) (acc:List Int) (x:Int),x∈l.foldl cE acc↔x∈acc∨∃ r∈l,r.left=x
  | [],acc,x=>by simp
  | r :: l,acc,x=>by
    rw[List.foldl_cons,qK l]
    have:x∈cE acc r↔x∈acc∨r.left=x:=by
      unfold cE
      split
      · rename_i h
        constructor
        · exact .inl
        · rintro (h' | rfl)
          · exact h'
          · exact h
      · simp[eq_comm]
    rw[this]
    simp only[List.mem_cons,exists_eq_or_imp]
    constructor
    · rintro ((h | h) | h)
      · exact .inl h
      · exact .inr (.inl h)
      · exact .inr (.inr h)
    · rintro (h | h | h)
      · exact .inl (.inl h)
      · exact .inl (.inr h)
      · exact .inr h
theorem oH {p q:List Bool} {l:List aO} {x:Int} : x∈br p q l↔∃ r∈l,bq p q r=true∧r.left=x:=by
  unfold br
  rw[qK]
  simp[List.mem_filter,and_assoc]
end Gv
