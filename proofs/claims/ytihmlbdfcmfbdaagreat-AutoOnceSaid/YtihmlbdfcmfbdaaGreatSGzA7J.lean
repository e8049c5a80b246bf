/-
  Part 10 of the proof: what the machine does and what the functions answer.
  Conditions: those that each lemma names.
-/
import Derived.Test.YtihmlbdfcmfbdaaGreatSGzA7I
set_option linter.unusedSimpArgs false
set_option linter.unusedVariables false
set_option maxRecDepth 100000
namespace Gv
open Go Go.Proofs
theorem bA.gh {P:Program} {f:FuncId} {h:aB} (h1:bA P f [.emp 1] h (.emp 1) h) (h2:bA P f [.emp 2] h (.emp 2) h) (h3:bA P f [.dc] h (.emp 2) h):bA P f [.aV []] h (.emp 0) h:=by
  refine ⟨Nat.le_refl _,fun Z μ F w xs hrel hr hfree=>?_⟩
  obtain ⟨hl,hv⟩:=hrel
  obtain ⟨x,rfl⟩:∃ x,xs=[x]:=by
    match xs,hl with
    | [x],_=>exact ⟨x,rfl⟩
  have h0:az Z μ w.heap (.aV []) x:=hv 0 (by simp)
  have one:∀ v,az Z μ w.heap v x→dT Z μ w.heap [v] [x]:=fun v h=>⟨rfl,fun i hi=>by
    simp at hi; subst hi; exact h⟩
  have weak:∀ k,bA P f [if k=3 then .dc else .emp k] h (if k=3 then .emp 2 else .emp k) h→az Z μ w.heap (if k=3 then .dc else .emp k) x→Calls P f [x].toArray w fun e w'=>∃ x Z' μ',e=.returned x∧az Z' μ' w'.heap (.emp 0) x∧fS Z' μ' w'.heap (cat h F)∧Ext Z μ w h.length Z' μ' w'∧(∀ id,id < h.length∨h.length≤id→μ' id=μ id):=by
    intro k hk hx
    refine (hk.2 Z μ F w [x] (one _ hx) hr hfree).mono ?_
    rintro e w' ⟨y,Z',μ',rfl,hy,rest⟩
    refine ⟨y,Z',μ',rfl,?_,rest⟩
    have:∀ k',az Z' μ' w'.heap (.emp k') y→az Z' μ' w'.heap (.emp 0) y:=fun k' h=>by
      cases h with | emp _ a _ _=>exact .emp 0 a (by simp) (by simp)
    split at hy <;> exact this _ hy
  rcases GX h0 with ⟨_,a,cap,rfl,hz⟩ | ⟨b,off,esz,cap,c,rfl,_,_,_⟩
  · cases a with
    | none =>
      have:=hz rfl
      subst this
      exact weak 1 (by simpa using h1) (.emp 1 none (by simp) (by simp))
    | some a =>
      cases cap with
      | zero=>exact weak 2 (by simpa using h2) (.emp 2 (some a) (by simp) (by simp))
      | succ c=>exact weak 3 (by simpa using h3) (.dc a (c+1))
  · cases cap with
    | zero=>exact weak 2 (by simpa using h2) (.emp 2 (some ⟨b,off,none⟩) (by simp) (by simp))
    | succ c=>exact weak 3 (by simpa using h3) (.dc ⟨b,off,none⟩ (c+1))
def wL (sz:Nat) (es:List (List V)) (H:View) (K:V→View→Prop):Prop :=
  (es=[]→∀ k,K (.emp k) H)∧(es≠[]→∀ n,H n=.dead→K (.sl n 0 es.length sz) (H.set n (.arr sz es)))
def cJ:SF:=⟨.seq (ak [((some 2),.op (.bg (.val (.emp 1))))]) <|
  .seq (.seq (ak [aa 3 0,((some 4),.op (.nil true 0 (.tmp 3) (.val (.emp 1))))]) <|
  .cond (.tmp 4) (.seq (ak [((some 2),.op (.bg (.val (.emp 1))))]) <|
  .ret) (.skip)) <|
  .seq (ak [((some 5),.op (.bg (.val (.emp 2)))),aa 6 0,((some 7),.op (.app 1 16 (.tmp 5) (.tmp 6))),aa 2 7]) <|
  .ret,
  [.tmp 2],8⟩
theorem c5:bh Tryz.prog 96 []=some cJ:=by kernel_rfl
def du:SF:=⟨.seq (ak [((some 2),.op (.bg (.val (.emp 1))))]) <|
  .seq (.seq (ak [aa 3 0,((some 4),.op (.nil true 0 (.tmp 3) (.val (.emp 1))))]) <|
  .cond (.tmp 4) (.seq (ak [((some 2),.op (.bg (.val (.emp 1))))]) <|
  .ret) (.skip)) <|
  .seq (ak [((some 5),.op (.bg (.val (.emp 2)))),aa 6 0,((some 7),.op (.app 1 8 (.tmp 5) (.tmp 6))),aa 2 7]) <|
  .ret,
  [.tmp 2],8⟩
theorem dK:bh Tryz.prog 161 []=some du:=by kernel_rfl
def cb:SF:=⟨.seq (ak [((some 2),.op (.bg (.val (.emp 1))))]) <|
  .seq (.seq (ak [aa 3 0,((some 4),.op (.nil true 0 (.tmp 3) (.val (.emp 1))))]) <|
  .cond (.tmp 4) (.seq (ak [((some 2),.op (.bg (.val (.emp 1))))]) <|
  .ret) (.skip)) <|
  .seq (ak [((some 5),.op (.bg (.val (.emp 2)))),aa 6 0,((some 7),.op (.app 3 32 (.tmp 5) (.tmp 6))),aa 2 7]) <|
  .ret,
  [.tmp 2],8⟩
theorem cz:bh Tryz.prog 159 []=some cb:=by kernel_rfl
theorem aC.tree {P:Program} {f:FuncId} {vs:List V} {t:V} (hv:∀ v∈vs,Tree v) (ht:Tree t) (h:∀ H,aA P f vs H fun r _=>r=t):aC P f vs t :=
  aC.of hv ((h _).mono fun r H' e h' _=>by rw[e]; exact .tree _ ht)
theorem nA {H:View} : bJ H .dc=some ([],[]):=id rfl
theorem gF {H:View} (sz bytes k:Nat) (K:V→View→Prop) (w:cw (H,K)):pr sz bytes (.emp k) [] H K w=K (.emp k) H:=propext Iff.rfl
theorem J7 (l:List ByteArray) (hl:l.length≤100000) (H:View) (K:V→View→Prop) (hk:wL 1 (l.map fun s=>[gs s]) H K):aA Tryz.prog 96 [encS l] H K:=by
  cases l with
  | nil =>
    have hp:∀ v t,Tree v→Tree t→(∀ H,aA Tryz.prog 96 [v] H fun r _=>r=t)→aC Tryz.prog 96 [v] t:=fun v t hv ht h=>aC.tree (by intro x hx; simp at hx; subst hx; exact hv) ht h
    have h1:=hp (.emp 1) (.emp 1) (.emp 1) (.emp 1) (fun H=>by
      refine aA.of mixed c5 ?_
      simp (disch:=omega) only [↓wr,↓reduceIte,wq,ah,ag,aj,ab,ae,af,ai,isNil,Nat.reduceEqDiff,Nat.reduceAdd,Nat.reduceLT,Nat.reduceLeDiff,Int.reduceNeg,Int.reduceToNat,reduceCtorEq,cJ])
    have h2:=hp (.emp 2) (.emp 2) (.emp 2) (.emp 2) (fun H=>by
      refine aA.of mixed c5 ?_
      simp (disch:=omega) only [↓wr,↓reduceIte,wq,ah,ag,aj,ab,ae,af,ai,isNil,Nat.reduceEqDiff,Nat.reduceAdd,Nat.reduceLT,Nat.reduceLeDiff,Int.reduceNeg,Int.reduceToNat,reduceCtorEq,cJ,gF,List.isEmpty_nil])
    have h3:=hp .dc (.emp 2) .dc (.emp 2) (fun H=>by
      refine aA.of mixed c5 ?_
      simp (disch:=omega) only [↓wr,↓reduceIte,wq,ah,ag,aj,ab,ae,af,ai,isNil,Nat.reduceEqDiff,Nat.reduceAdd,Nat.reduceLT,Nat.reduceLeDiff,Int.reduceNeg,Int.reduceToNat,reduceCtorEq,cJ,nA,gF,List.isEmpty_nil])
    refine ⟨by kernel_rfl,?_⟩
    rintro h rfl
    exact ⟨.emp 0,h,bA.gh (bA.eX h1 h) (bA.eX h2 h) (bA.eX h3 h),.refl _,hk.1 rfl 0⟩
  | cons x r =>
    refine aA.of mixed c5 ?_
    simp only[List.length_cons] at hl
    simp (disch:=omega) only [↓wr,↓reduceIte,wq,ah,ag,aj,ab,ae,af,ai,isNil,Nat.reduceEqDiff,Nat.reduceAdd,Nat.reduceLT,Nat.reduceLeDiff,Int.reduceNeg,Int.reduceToNat,reduceCtorEq,cJ,encS]
    refine ⟨?_,?_,?_⟩
    · simp[List.all_map,encS,aP]
    · unfold aN; simp; omega
    · intro n hn
      have:=hk.2 (by simp) n hn
      simp (disch:=omega) only [↓wr,↓reduceIte,wq,ah,ag,aj,ab,ae,af,ai,isNil,Nat.reduceEqDiff,Nat.reduceAdd,Nat.reduceLT,Nat.reduceLeDiff,Int.reduceNeg,Int.reduceToNat,reduceCtorEq]
      simpa [cp] using this
theorem KL (l:List Int) (hl:l.length≤100000) (H:View) (K:V→View→Prop) (hk:wL 1 (l.map fun s=>[gi s]) H K):aA Tryz.prog 161 [encI l] H K:=by
  cases l with
  | nil =>
    have hp:∀ v t,Tree v→Tree t→(∀ H,aA Tryz.prog 161 [v] H fun r _=>r=t)→aC Tryz.prog 161 [v] t:=fun v t hv ht h=>aC.tree (by intro x hx; simp at hx; subst hx; exact hv) ht h
    have h1:=hp (.emp 1) (.emp 1) (.emp 1) (.emp 1) (fun H=>by
      refine aA.of mixed dK ?_
      simp (disch:=omega) only [↓wr,↓reduceIte,wq,ah,ag,aj,ab,ae,af,ai,isNil,Nat.reduceEqDiff,Nat.reduceAdd,Nat.reduceLT,Nat.reduceLeDiff,Int.reduceNeg,Int.reduceToNat,reduceCtorEq,du])
    have h2:=hp (.emp 2) (.emp 2) (.emp 2) (.emp 2) (fun H=>by
      refine aA.of mixed dK ?_
      simp (disch:=omega) only [↓wr,↓reduceIte,wq,ah,ag,aj,ab,ae,af,ai,isNil,Nat.reduceEqDiff,Nat.reduceAdd,Nat.reduceLT,Nat.reduceLeDiff,Int.reduceNeg,Int.reduceToNat,reduceCtorEq,du,gF,List.isEmpty_nil])
    have h3:=hp .dc (.emp 2) .dc (.emp 2) (fun H=>by
      refine aA.of mixed dK ?_
      simp (disch:=omega) only [↓wr,↓reduceIte,wq,ah,ag,aj,ab,ae,af,ai,isNil,Nat.reduceEqDiff,Nat.reduceAdd,Nat.reduceLT,Nat.reduceLeDiff,Int.reduceNeg,Int.reduceToNat,reduceCtorEq,du,nA,gF,List.isEmpty_nil])
    refine ⟨by kernel_rfl,?_⟩
    rintro h rfl
    exact ⟨.emp 0,h,bA.gh (bA.eX h1 h) (bA.eX h2 h) (bA.eX h3 h),.refl _,hk.1 rfl 0⟩
  | cons x r =>
    refine aA.of mixed dK ?_
    simp only[List.length_cons] at hl
    simp (disch:=omega) only [↓wr,↓reduceIte,wq,ah,ag,aj,ab,ae,af,ai,isNil,Nat.reduceEqDiff,Nat.reduceAdd,Nat.reduceLT,Nat.reduceLeDiff,Int.reduceNeg,Int.reduceToNat,reduceCtorEq,du,encI]
    refine ⟨?_,?_,?_⟩
    · simp[List.all_map,encI,aP]
    · unfold aN; simp; omega
    · intro n hn
      have:=hk.2 (by simp) n hn
      simp (disch:=omega) only [↓wr,↓reduceIte,wq,ah,ag,aj,ab,ae,af,ai,isNil,Nat.reduceEqDiff,Nat.reduceAdd,Nat.reduceLT,Nat.reduceLeDiff,Int.reduceNeg,Int.reduceToNat,reduceCtorEq]
      simpa [cp] using this
theorem KB (l:List Term) (hl:l.length≤100000) (H:View) (K:V→View→Prop) (hk:wL 3 (l.map cp) H K):aA Tryz.prog 159 [dC l] H K:=by
  cases l with
  | nil =>
    have hp:∀ v t,Tree v→Tree t→(∀ H,aA Tryz.prog 159 [v] H fun r _=>r=t)→aC Tryz.prog 159 [v] t:=fun v t hv ht h=>aC.tree (by intro x hx; simp at hx; subst hx; exact hv) ht h
    have h1:=hp (.emp 1) (.emp 1) (.emp 1) (.emp 1) (fun H=>by
      refine aA.of mixed cz ?_
      simp (disch:=omega) only [↓wr,↓reduceIte,wq,ah,ag,aj,ab,ae,af,ai,isNil,Nat.reduceEqDiff,Nat.reduceAdd,Nat.reduceLT,Nat.reduceLeDiff,Int.reduceNeg,Int.reduceToNat,reduceCtorEq,cb])
    have h2:=hp (.emp 2) (.emp 2) (.emp 2) (.emp 2) (fun H=>by
      refine aA.of mixed cz ?_
      simp (disch:=omega) only [↓wr,↓reduceIte,wq,ah,ag,aj,ab,ae,af,ai,isNil,Nat.reduceEqDiff,Nat.reduceAdd,Nat.reduceLT,Nat.reduceLeDiff,Int.reduceNeg,Int.reduceToNat,reduceCtorEq,cb,gF,List.isEmpty_nil])
    have h3:=hp .dc (.emp 2) .dc (.emp 2) (fun H=>by
      refine aA.of mixed cz ?_
      simp (disch:=omega) only [↓wr,↓reduceIte,wq,ah,ag,aj,ab,ae,af,ai,isNil,Nat.reduceEqDiff,Nat.reduceAdd,Nat.reduceLT,Nat.reduceLeDiff,Int.reduceNeg,Int.reduceToNat,reduceCtorEq,cb,nA,gF,List.isEmpty_nil])
    refine ⟨by kernel_rfl,?_⟩
    rintro h rfl
    exact ⟨.emp 0,h,bA.gh (bA.eX h1 h) (bA.eX h2 h) (bA.eX h3 h),.refl _,hk.1 rfl 0⟩
  | cons x r =>
    refine aA.of mixed cz ?_
    simp only[List.length_cons] at hl
    simp (disch:=omega) only [↓wr,↓reduceIte,wq,ah,ag,aj,ab,ae,af,ai,isNil,Nat.reduceEqDiff,Nat.reduceAdd,Nat.reduceLT,Nat.reduceLeDiff,Int.reduceNeg,Int.reduceToNat,reduceCtorEq,cb,dC,cp]
    refine ⟨?_,?_,?_⟩
    · simp[List.all_map,dC,cp,aP]
    · unfold aN; simp; omega
    · intro n hn
      have:=hk.2 (by simp) n hn
      simp (disch:=omega) only [↓wr,↓reduceIte,wq,ah,ag,aj,ab,ae,af,ai,isNil,Nat.reduceEqDiff,Nat.reduceAdd,Nat.reduceLT,Nat.reduceLeDiff,Int.reduceNeg,Int.reduceToNat,reduceCtorEq]
      simpa [cp] using this
theorem wL.own {sz:Nat} {es:List (List V)} {H:View} : wL sz es H fun r H'=>aW H' r sz es∧cL H H' r :=
  ⟨fun he k=>⟨by rw[he]; exact .nil,.emp⟩,fun _ n hn=>⟨.new,.new hn⟩⟩
theorem Kd (l:List ByteArray) (hl:l.length≤100000) (H:View):aA Tryz.prog 96 [encS l] H fun r H'=>aW H' r 1 (l.map fun s=>[gs s])∧cL H H' r:=J7 l hl H _ .own
theorem JD (l:List Int) (hl:l.length≤100000) (H:View):aA Tryz.prog 161 [encI l] H fun r H'=>aW H' r 1 (l.map fun s=>[gi s])∧cL H H' r:=KL l hl H _ .own
theorem Jt (l:List Term) (hl:l.length≤100000) (H:View):aA Tryz.prog 159 [dC l] H fun r H'=>aW H' r 3 (l.map cp)∧cL H H' r:=KB l hl H _ .own
def kr (g:an):List aM→Int→Bool
  | [],next=>next == g.au.length
  | r :: l,next=>decide (0≤r.left) && decide (r.left≤next) && gm g r && kr g l (if r.left+1 > next then r.left+1 else next)
def pZ (g:an):List ByteArray:=g.au ++ g.ax.map Term.name
def og (g:an):Bool :=
  qj g.ax && (decide ((1:Int)≤g.au.length) && decide ((g.au.length:Int)≤16)) && (decide ((1:Int)≤g.rules.length) && decide ((g.rules.length:Int)≤40)) && decide (names (pZ g)).Nodup && (decide (0≤g.start) && decide (g.start≤(g.au.length:Int) - 1)) &&
    !(g.au.any fun s=>!fk (ep s)) && kr g g.rules 0
theorem C0 {l:List ByteArray} : ∀ e∈(l.map fun s=>[gs s]),∀ v∈e,Tree v:=by
  intro e he v hv
  obtain ⟨a,_,rfl⟩:=List.mem_map.1 he
  rw[List.mem_singleton] at hv
  subst hv
  exact .val _
set_option maxHeartbeats 4000000 in
theorem Kq (g:an) (hg:g.Ok) (hs:g.au.length+g.ax.length≤1000) (H:View):aA Tryz.prog 52 [.agg (aw g)] H fun r _=>r=gb (og g):=by
  refine aA.of mixed A3 ?_
  have hn:=hg.au
  have ht:=hg.ax
  have hr:=hg.rules
  unfold aX at hn ht hr
  simp (disch:=omega) only [↓wr,↓reduceIte,wq,ah,ag,aj,ab,ae,af,ai,isNil,Nat.reduceEqDiff,Nat.reduceAdd,Nat.reduceLT,Nat.reduceLeDiff,Int.reduceNeg,Int.reduceToNat,reduceCtorEq,xR,aw,encS]
  refine aE.oO ((Kd g.au (by omega) H).mono ?_)
  rintro u H1 ⟨hu,hf⟩
  simp (disch:=omega) only [↓wr,↓reduceIte,wq,ah,ag,aj,ab,ae,af,ai,isNil,Nat.reduceEqDiff,Nat.reduceAdd,Nat.reduceLT,Nat.reduceLeDiff,Int.reduceNeg,Int.reduceToNat,reduceCtorEq,aw,encS]
  refine bw.up g.ax.length (fun i T H=>T 1=.aO (aw g) 0∧(∃ u,T 3=u∧aW H u 1 ((g.au ++ (g.ax.take i).map Term.name).map fun s=>[gs s]))∧T 13=dC g.ax∧T 14=gi g.ax.length∧T 15=gi i) ?_ ?_
  · exact ⟨rfl,⟨u,rfl,by simpa using hu⟩,rfl,rfl,rfl⟩
  rintro i k T H' hk ⟨h1,⟨u,h3,hu⟩,h13,h14,h15⟩
  simp (disch:=omega) only [↓wr,↓reduceIte,wq,ah,ag,aj,ab,ae,af,ai,isNil,Nat.reduceEqDiff,Nat.reduceAdd,Nat.reduceLT,Nat.reduceLeDiff,Int.reduceNeg,Int.reduceToNat,reduceCtorEq,uG,h1,h13,h14,h15,dC]
  refine av.dec (fun hc=>?_) (fun hc=>?_)
  · have hg2:g.ax[i]?=some (g.ax[i]'(by omega)):=List.getElem?_eq_getElem (by omega)
    have htk:(g.ax.take (i+1)).map Term.name=(g.ax.take i).map Term.name ++ [(g.ax[i]'(by omega)).name]:=by
      rw[List.take_add_one,hg2,List.map_append]; rfl
    generalize g.ax[i]'(by omega)=t at hg2 htk
    simp (disch:=omega) only [↓wr,↓reduceIte,wq,ah,ag,aj,ab,ae,af,ai,isNil,Nat.reduceEqDiff,Nat.reduceAdd,Nat.reduceLT,Nat.reduceLeDiff,Int.reduceNeg,Int.reduceToNat,reduceCtorEq,h1,h3,h13,h14,h15,dC,cp,List.getElem?_map,hg2]
    intro b hb
    try simp (disch:=omega) only [↓wr,↓reduceIte,wq,ah,ag,aj,ab,ae,af,ai,isNil,Nat.reduceEqDiff,Nat.reduceAdd,Nat.reduceLT,Nat.reduceLeDiff,Int.reduceNeg,Int.reduceToNat,reduceCtorEq,h1,h3,h13,h14,h15,set_set]
    intro m hm
    have hmb:=(cF hm cy).1
    have hm:=(cF (cF hm cy).2 cy).2
    try simp (disch:=omega) only [↓wr,↓reduceIte,wq,ah,ag,aj,ab,ae,af,ai,isNil,Nat.reduceEqDiff,Nat.reduceAdd,Nat.reduceLT,Nat.reduceLeDiff,Int.reduceNeg,Int.reduceToNat,reduceCtorEq,h1,h3,h13,h14,h15,dp]
    have hl:((g.au ++ (g.ax.take i).map Term.name).map fun s=>[gs s]).length≤1000:=by simp; omega
    refine wA (((hu.fresh hb).other (hu.ne hb)).fresh (by simp[View.set,hm,hmb])) (by simp) (by simp[aP]) (by unfold aN; simp at hl ⊢; omega) (by unfold aN; simp at hl ⊢; omega) ?_
    intro u' H2 hu' _
    simp (disch:=omega) only [↓wr,↓reduceIte,wq,ah,ag,aj,ab,ae,af,ai,isNil,Nat.reduceEqDiff,Nat.reduceAdd,Nat.reduceLT,Nat.reduceLeDiff,Int.reduceNeg,Int.reduceToNat,reduceCtorEq,h1,h3,h13,h14,h15]
    refine bt hk (by omega) ⟨h1,⟨u',rfl,?_⟩,h13,h14,rfl⟩
    rw[htk]
    simpa using hu'
  · rw[List.take_of_length_le (by omega)] at hu
    have hal:H'=H':=rfl
    have hall:(pZ g).length≤1000:=by simp[pZ]; omega
    repeat' (first | (refine av.dec (fun _=>?_) (fun _=>?_)) | (refine av.eq (fun _=>?_) (fun _=>?_)) | (refine av.ne (fun _=>?_) (fun _=>?_)) | (refine av.split (fun _=>?_) (fun _=>?_)) | (refine aE.pure (IH g.ax hg.ax) (by kernel_rfl) ?_) | (refine aE.pure (o9 _ _ _) (by kernel_rfl) ?_) | (refine aE.Pj (LJ (pZ g) hall) (by kernel_rfl) (.val _) ⟨en.own hu C0,trivial⟩ ?_) | (simp (disch:=omega) only [↓wr,↓reduceIte,wq,ah,ag,aj,ab,ae,af,ai,isNil,Nat.reduceEqDiff,Nat.reduceAdd,Nat.reduceLT,Nat.reduceLeDiff,Int.reduceNeg,Int.reduceToNat,reduceCtorEq,h1,h3,h13,h14,h15,aw,encS]))
    all_goals try (simp[og, *]; done)
    rename_i e1 e2 e3 e4 e5
    refine aE.pure (x9 g.au hg.au 101 [] (by simp) (fun s=>!fk (ep s)) (fun x _=>Ir x) (by kernel_rfl)) (by kernel_rfl) ?_
    repeat' (first | (refine av.dec (fun _=>?_) (fun _=>?_)) | (refine av.eq (fun _=>?_) (fun _=>?_)) | (refine av.ne (fun _=>?_) (fun _=>?_)) | (refine av.split (fun _=>?_) (fun _=>?_)) | (simp (disch:=omega) only [↓wr,↓reduceIte,wq,ah,ag,aj,ab,ae,af,ai,isNil,Nat.reduceEqDiff,Nat.reduceAdd,Nat.reduceLT,Nat.reduceLeDiff,Int.reduceNeg,Int.reduceToNat,reduceCtorEq,h1,h3,h13,h14,h15,aw,encS]))
    all_goals try (simp[og, *]; done)
    rename_i e6
    have hle:g.rules.length≤40:=by simp at e3; omega
    have hpre:∀ b,kr g g.rules 0=b→gb b=gb (og g):=fun b e=>by
      simp only[og,e1,e2,e3,e4,e5,e6,e,decide_true,Bool.true_and,Bool.not_false]
    refine bw.up g.rules.length (fun i T _=>∃ w:Int,0≤w∧w≤i∧kr g (g.rules.drop i) w=kr g g.rules 0∧T 1=.aO (aw g) 0∧T 6=gi w∧T 62=.aV (g.rules.map aU)∧T 63=gi g.rules.length∧T 64=gi i) ?_ ?_
    · exact ⟨0,by omega,by omega,rfl,h1,rfl,rfl,rfl,rfl⟩
    rintro i k T H' hk ⟨w,hw1,hw2,hi,h1,h6,h62,h63,h64⟩
    simp (disch:=omega) only [↓wr,↓reduceIte,wq,ah,ag,aj,ab,ae,af,ai,isNil,Nat.reduceEqDiff,Nat.reduceAdd,Nat.reduceLT,Nat.reduceLeDiff,Int.reduceNeg,Int.reduceToNat,reduceCtorEq,uy,h1,h6,h62,h63,h64,aw]
    refine av.dec (fun hc=>?_) (fun hc=>?_)
    · have hg2:g.rules[i]?=some (g.rules[i]'(by omega)):=List.getElem?_eq_getElem (by omega)
      rw[eD (show i < g.rules.length by omega)] at hi
      have hmem:g.rules[i]'(by omega)∈g.rules:=List.getElem_mem _
      generalize g.rules[i]'(by omega)=t at hg2 hi hmem
      obtain ⟨⟨hl1,hl2⟩,hp,hr1,hr2⟩:=hg.aG t hmem
      simp only[kr] at hi
      simp (disch:=omega) only [↓wr,↓reduceIte,wq,ah,ag,aj,ab,ae,af,ai,isNil,Nat.reduceEqDiff,Nat.reduceAdd,Nat.reduceLT,Nat.reduceLeDiff,Int.reduceNeg,Int.reduceToNat,reduceCtorEq,h1,h6,h62,h63,h64,aU,encI,List.getElem?_map,hg2]
      intro b hb
      repeat' (first | (refine av.dec (fun _=>?_) (fun _=>?_)) | (refine av.eq (fun _=>?_) (fun _=>?_)) | (refine av.ne (fun _=>?_) (fun _=>?_)) | (refine av.split (fun _=>?_) (fun _=>?_)) | (refine aE.pure (o9 _ _ _) (by kernel_rfl) ?_) | (refine aE.pure (Lw g t hg ⟨hr1,hr2⟩) (by kernel_rfl) ?_) | (simp (disch:=omega) only [↓wr,↓reduceIte,wq,ah,ag,aj,ab,ae,af,ai,isNil,Nat.reduceEqDiff,Nat.reduceAdd,Nat.reduceLT,Nat.reduceLeDiff,Int.reduceNeg,Int.reduceToNat,reduceCtorEq,h1,h6,h62,h63,h64,aw,aU,encI,encS,set_set]))
      · rename_i e7 e8
        have e7':0≤t.left∧t.left≤w:=by simpa using e7
        rw[e7,e8,Bool.true_and,Bool.true_and] at hi
        have hw:IntKind.wrap .i64 (t.left+1)=t.left+1:=wrap64 (by omega) (by omega)
        refine bt hk (by omega) ⟨_,by split <;> omega,by split <;> (push_cast; omega),hi,h1,?_,h62,h63,rfl⟩
        show gi (if IntKind.wrap .i64 (t.left+1) > w then IntKind.wrap .i64 (t.left+1) else w)=_
        rw[hw]
      · rename_i e7 e8
        rw[e8,Bool.and_false,Bool.false_and] at hi
        exact hpre _ hi.symm
      · rename_i e7
        rw[e7,Bool.false_and,Bool.false_and] at hi
        exact hpre _ hi.symm
    · rw[List.drop_eq_nil_of_le (by omega)] at hi
      simp only[kr] at hi
      simp (disch:=omega) only [↓wr,↓reduceIte,wq,ah,ag,aj,ab,ae,af,ai,isNil,Nat.reduceEqDiff,Nat.reduceAdd,Nat.reduceLT,Nat.reduceLeDiff,Int.reduceNeg,Int.reduceToNat,reduceCtorEq,h1,h6,h62,h63,h64,aw,encS]
      exact hpre _ hi.symm
theorem Iy (g:an) (hg:g.Ok) (hs:g.au.length+g.ax.length≤1000):aC Tryz.prog 52 [.agg (aw g)] (gb (og g)):=aC.val (e9 g) (Kq g hg hs)
theorem Ef (g:an):∀ (l:List aM) (next:Int),kr g l next=fJ g l (next - 1)
  | [],next=>by
    simp only[kr,fJ]
    rw[Bool.eq_iff_iff]; simp
  | r :: l,next=>by
    simp only[kr,fJ,Ef g l]
    have e1:(if r.left+1 > next then r.left+1 else next) - 1=if r.left > next - 1 then r.left else next - 1:=by
      split <;> split <;> omega
    have e2:next - 1+1=next:=by omega
    rw[e1,e2]
theorem vn (s:ByteArray):∀ (l:List ByteArray) (i:Int),0≤i→(mj s l i < 0∧s ∉ l)∨∃ k:Nat,mj s l i=i+k∧l[k]?=some s∧∀ j < k,l[j]?≠some s
  | [],i,h=>.inl ⟨by simp[mj],by simp⟩
  | x :: l,i,h=>by
    have hx:gH x s=true↔x=s:=by
      unfold gH
      rw[beq_iff_eq]
      constructor
      · intro e; cases x; cases s; simp at e; simp[e]
      · rintro rfl; rfl
    simp only[mj]
    by_cases e:x=s
    · rw[if_pos (hx.2 e)]
      exact .inr ⟨0,by simp,by simp[e],by simp⟩
    · rw[if_neg (fun h=>e (hx.1 h))]
      rcases vn s l (i+1) (by omega) with ⟨h1,h2⟩ | ⟨k,h1,h2,h3⟩
      · exact .inl ⟨h1,by simp[h2,Ne.symm e]⟩
      · refine .inr ⟨k+1,by rw[h1]; push_cast; omega,by simpa using h2,fun j hj=>?_⟩
        cases j with
        | zero=>simp[e]
        | succ j=>simpa using h3 j (by omega)
theorem qD (l:List ByteArray):(∀ (k:Nat) (s:ByteArray),l[k]?=some s→mj s l 0=k)↔l.Nodup:=by
  constructor
  · intro h
    rw[List.nodup_iff_pairwise_ne,List.pairwise_iff_getElem]
    intro i j hi hj hij e
    have h1:=h i l[i] (by simp[hi])
    have h2:=h j l[j] (by simp[hj])
    rw[e] at h1
    omega
  · intro hn k s hk
    rcases vn s l 0 (by omega) with ⟨_,h2⟩ | ⟨j,h1,h2,h3⟩
    · exact absurd (List.mem_of_getElem? hk) h2
    · have hj:j < l.length:=by
        rcases Nat.lt_or_ge j l.length with h | h
        · exact h
        · simp[List.getElem?_eq_none h] at h2
      have hk':k < l.length:=by
        rcases Nat.lt_or_ge k l.length with h | h
        · exact h
        · simp[List.getElem?_eq_none h] at hk
      have:j=k:=(List.getElem_inj hn).1 (by
        rw[List.getElem?_eq_getElem hj] at h2; rw[List.getElem?_eq_getElem hk'] at hk
        simp at h2 hk; rw[h2,hk])
      rw[h1,this]; simp
theorem bytes_inj {a b:ByteArray} : a.data.toList=b.data.toList↔a=b:=by
  constructor
  · intro h; cases a; cases b; simp at h; simp[h]
  · rintro rfl; rfl
theorem IL {l:List ByteArray} : (names l).Nodup↔l.Nodup:=by
  unfold names
  rw[List.nodup_iff_pairwise_ne,List.pairwise_map,List.nodup_iff_pairwise_ne]
  constructor
  · exact fun h=>h.imp fun h e=>h (bytes_inj.2 e)
  · exact fun h=>h.imp fun h e=>h (bytes_inj.1 e)
theorem kW {α:Type} [BEq α] [LawfulBEq α]:∀ (l m:List α),l.Nodup→(∀ x∈l,x∈m)→l.length≤m.length
  | [],m,_,_=>by simp
  | x :: l,m,hn,hs=>by
    rw[List.nodup_cons] at hn
    have hx:x∈m:=hs x (by simp)
    have:=kW l (m.erase x) hn.2 (fun y hy=>by
      have hne:y≠x:=by rintro rfl; exact hn.1 hy
      exact (List.mem_erase_of_ne hne).2 (hs y (by simp[hy])))
    rw[List.length_erase_of_mem hx] at this
    have:0 < m.length:=List.length_pos_of_mem hx
    simp only[List.length_cons]
    omega
def kq (n:Nat):List Int:=(List.range n).map fun (k:Nat)=>(k:Int)+1
theorem tL {n:Nat} {x:Int} : x∈kq n↔1≤x∧x≤n:=by
  simp only[kq,List.mem_map,List.mem_range]
  constructor
  · rintro ⟨k,hk,rfl⟩; omega
  · rintro ⟨h1,h2⟩; exact ⟨(x - 1).toNat,by omega,by omega⟩
theorem Ei (n:Nat):(kq n).Nodup:=by
  rw[kq,List.nodup_iff_pairwise_ne,List.pairwise_map]
  exact (List.nodup_range (n:=n)).imp fun h e=>h (by omega)
theorem Ng {l:List Int} {n:Nat} (hn:l.Nodup) (hs:∀ x∈l,1≤x∧x≤n) (hl:l.length=n) {x:Int} (h1:1≤x) (h2:x≤n):x∈l:=by
  refine Classical.byContradiction fun hx=>?_
  have:=kW (x :: l) (kq n) (List.nodup_cons.2 ⟨hx,hn⟩) (fun y hy=>by
    rw[tL]
    rcases List.mem_cons.1 hy with rfl | hy
    · exact ⟨h1,h2⟩
    · exact hs y hy)
  simp[kq] at this
  omega
theorem tZ (n:Int):∀ (l:List Term) (w:Int),w≠0→gV n l w=if (∀ t∈l,t.level=n→t.assoc=w) then some w else none
  | [],w,_=>by simp[gV]
  | t :: r,w,hw=>by
    simp only[gV]
    by_cases ht:t.level=n
    · rw[if_pos ht]
      by_cases ha:w=t.assoc
      · rw[if_neg (by simp[ha]),← ha,tZ n r w hw]
        congr 1
        simp[ht,ha]
      · rw[if_pos ⟨hw,ha⟩,if_neg (fun h=>ha (h t (by simp) ht).symm)]
    · rw[if_neg ht,tZ n r w hw]
      congr 1
      simp[ht]
theorem z7 (n:Int):∀ (l:List Term),(∀ t∈l,t.level=n→t.assoc≠0)→(fK l n=true↔∃ a,(∃ t∈l,t.level=n)∧∀ t∈l,t.level=n→t.assoc=a)
  | [],_=>by simp[fK,gV]
  | t :: r,h=>by
    by_cases ht:t.level=n
    · have ha:=h t (by simp) ht
      have e:fK (t :: r) n=match (if (∀ u∈r,u.level=n→u.assoc=t.assoc) then some t.assoc else none) with | some w=>w != 0 | none=>false:=by
        simp only[fK,gV]
        rw[if_pos ht,if_neg (by simp),tZ n r _ ha]
        rfl
      rw[e]
      by_cases hr:∀ u∈r,u.level=n→u.assoc=t.assoc
      · rw[if_pos hr]
        simp only[bne_iff_ne,ne_eq,ha,not_false_eq_true,true_iff]
        refine ⟨t.assoc,⟨t,by simp,ht⟩,fun u hu hl=>?_⟩
        rcases List.mem_cons.1 hu with rfl | hu
        · rfl
        · exact hr u hu hl
      · rw[if_neg hr]
        simp only[Bool.false_eq_true,false_iff]
        rintro ⟨a,_,h2⟩
        exact hr fun u hu hl=>(h2 u (by simp[hu]) hl).trans (h2 t (by simp) ht).symm
    · have ih:=z7 n r (fun u hu=>h u (by simp[hu]))
      have e:fK (t :: r) n=fK r n:=by
        simp only[fK,gV,if_neg ht]
      rw[e,ih]
      constructor
      · rintro ⟨a,⟨u,hu,hl⟩,h2⟩
        refine ⟨a,⟨u,by simp[hu],hl⟩,fun v hv hl=>?_⟩
        rcases List.mem_cons.1 hv with rfl | hv
        · exact absurd hl ht
        · exact h2 v hv hl
      · rintro ⟨a,⟨u,hu,hl⟩,h2⟩
        rcases List.mem_cons.1 hu with rfl | hu
        · exact absurd hl ht
        · exact ⟨a,⟨u,hu,hl⟩,fun v hv=>h2 v (by simp[hv])⟩
def sO (l:List Term):Prop:=∀ t∈l,∀ u∈l,t.level=u.level→t.level≠0→t.assoc=u.assoc
theorem DV {κ β:Type} [BEq κ] [LawfulBEq κ] {k:κ} {v:β} : ∀ {a:List (κ × β)},(a.map (·.1)).Nodup→((iM k v a).map (·.1)).Nodup∧∀ x,x∈(iM k v a).map (·.1)↔x=k∨x∈a.map (·.1)
  | [],_=>by simp[iM]
  | y :: a,h=>by
    simp only[List.map_cons,List.nodup_cons] at h
    obtain ⟨h1,h2⟩:=DV (k:=k) (v:=v) h.2
    simp only[iM]
    by_cases e:k=y.1
    · simp only[e,beq_self_eq_true,if_true,List.map_cons,List.nodup_cons]
      refine ⟨h,fun x=>by simp[e]⟩
    · have:(k == y.1)=false:=by simp[e]
      rw[this]
      simp only[Bool.false_eq_true,if_false,List.map_cons,List.nodup_cons,List.mem_cons]
      refine ⟨⟨fun hm=>?_,h1⟩,fun x=>?_⟩
      · rcases (h2 _).1 hm with e' | hm
        · exact e e'.symm
        · exact h.1 hm
      · rw[h2]
        constructor
        · rintro (h | h | h) <;> simp[h]
        · rintro (h | h | h) <;> simp[h]
theorem vg:∀ (l:List Term) (a:List (Int × Int)) (top:Int),(∀ t∈l,t.level≠0→t.assoc≠0)→(∀ n v,dq a n=some v→v≠0)→(a.map (·.1)).Nodup →
    match kG l a top with
    | some (a',top')=>sO l∧(∀ t∈l,∀ v,t.level≠0→dq a t.level=some v→t.assoc=v)∧(a'.map (·.1)).Nodup∧(∀ n,n∈a'.map (·.1)↔n∈a.map (·.1)∨(n≠0∧∃ t∈l,t.level=n)) ∧
        top≤top'∧(∀ t∈l,t.level≠0→t.level≤top')∧(top'=top∨∃ t∈l,t.level=top'∧t.level≠0)
    | none=>¬ (sO l∧∀ t∈l,∀ v,t.level≠0→dq a t.level=some v→t.assoc=v)
  | [],a,top,_,_,hn=>by
    simp only[kG]
    exact ⟨fun t ht=>by simp at ht,fun t ht=>by simp at ht,hn,fun n=>by simp,by omega,fun t ht=>by simp at ht,by simp⟩
  | t :: r,a,top,h0,hv,hn=>by
    have h0r:∀ u∈r,u.level≠0→u.assoc≠0:=fun u hu=>h0 u (by simp[hu])
    simp only[kG]
    by_cases ht:t.level=0
    · rw[if_pos ht]
      have ih:=vg r a top h0r hv hn
      have one:sO (t :: r)↔sO r:=by
        constructor
        · exact fun h u hu w hw=>h u (by simp[hu]) w (by simp[hw])
        · intro h u hu w hw e hz
          rcases List.mem_cons.1 hu with rfl | hu
          · exact absurd ht hz
          · rcases List.mem_cons.1 hw with rfl | hw
            · exact absurd (e.trans ht) hz
            · exact h u hu w hw e hz
      have con:(∀ u∈t :: r,∀ v,u.level≠0→dq a u.level=some v→u.assoc=v)↔∀ u∈r,∀ v,u.level≠0→dq a u.level=some v→u.assoc=v:=by
        simp[ht]
      have mem:∀ n,(n≠0∧∃ u∈t :: r,u.level=n)↔(n≠0∧∃ u∈r,u.level=n):=fun n=>by
        constructor
        · rintro ⟨h1,u,hu,rfl⟩
          rcases List.mem_cons.1 hu with rfl | hu
          · exact absurd ht h1
          · exact ⟨h1,u,hu,rfl⟩
        · rintro ⟨h1,u,hu,rfl⟩; exact ⟨h1,u,by simp[hu],rfl⟩
      cases hs:kG r a top with
      | none=>rw[hs] at ih; rw[one,con]; exact ih
      | some x =>
        obtain ⟨a',top'⟩:=x
        rw[hs] at ih
        obtain ⟨i1,i2,i3,i4,i5,i6,i7⟩:=ih
        refine ⟨one.2 i1,con.2 i2,i3,fun n=>by rw[i4,mem],i5,?_,?_⟩
        · intro u hu hz
          rcases List.mem_cons.1 hu with rfl | hu
          · exact absurd ht hz
          · exact i6 u hu hz
        · rcases i7 with h | ⟨u,hu,h⟩
          · exact .inl h
          · exact .inr ⟨u,by simp[hu],h⟩
    · rw[if_neg ht]
      have ha:=h0 t (by simp) ht
      by_cases hc:(dq a t.level).getD 0≠0∧(dq a t.level).getD 0≠t.assoc
      · rw[if_pos hc]
        simp only
        rintro ⟨_,h2⟩
        cases hp:dq a t.level with
        | none=>simp[hp] at hc
        | some v =>
          have:=h2 t (by simp) v ht hp
          simp[hp] at hc
          exact hc.2 this.symm
      · rw[if_neg hc]
        have hcon:∀ v,dq a t.level=some v→t.assoc=v:=fun v hp=>by
          have:=hv _ _ hp
          simp[hp] at hc
          exact (hc this).symm
        have hput:∀ n,dq (iM t.level t.assoc a) n=if n=t.level then some t.assoc else dq a n:=fun n=>by
          rw[Da]; simp
        have hk:=DV (k:=t.level) (v:=t.assoc) hn
        have ih:=vg r (iM t.level t.assoc a) (if t.level > top then t.level else top) h0r (fun n v hp=>by
          rw[hput] at hp
          split at hp
          · simp at hp; rw[← hp]; exact ha
          · exact hv n v hp) hk.1
        have both:(sO (t :: r)∧∀ u∈t :: r,∀ v,u.level≠0→dq a u.level=some v→u.assoc=v)↔(sO r∧∀ u∈r,∀ v,u.level≠0→dq (iM t.level t.assoc a) u.level=some v→u.assoc=v):=by
          constructor
          · rintro ⟨h1,h2⟩
            refine ⟨fun u hu w hw=>h1 u (by simp[hu]) w (by simp[hw]),fun u hu v hz hp=>?_⟩
            rw[hput] at hp
            split at hp
            · rename_i e
              simp at hp; rw[← hp]
              exact h1 u (by simp[hu]) t (by simp) e hz
            · exact h2 u (by simp[hu]) v hz hp
          · rintro ⟨h1,h2⟩
            have h3:∀ u∈r,u.level=t.level→u.assoc=t.assoc:=fun u hu e=>h2 u hu t.assoc (by rw[e]; exact ht) (by rw[hput,if_pos e])
            refine ⟨fun u hu w hw e hz=>?_,fun u hu v hz hp=>?_⟩
            · rcases List.mem_cons.1 hu with e1 | hu2
              · rcases List.mem_cons.1 hw with e2 | hw2
                · rw[e1,e2]
                · rw[e1] at e ⊢
                  exact (h3 w hw2 e.symm).symm
              · rcases List.mem_cons.1 hw with e2 | hw2
                · rw[e2] at e ⊢
                  exact h3 u hu2 e
                · exact h1 u hu2 w hw2 e hz
            · rcases List.mem_cons.1 hu with rfl | hu
              · exact hcon v hp
              · by_cases e:u.level=t.level
                · rw[h3 u hu e]; exact hcon v (by rw[← e]; exact hp)
                · exact h2 u hu v hz (by rw[hput,if_neg e]; exact hp)
        have htop:top≤(if t.level > top then t.level else top)∧t.level≤(if t.level > top then t.level else top):=by split <;> omega
        cases hs:kG r (iM t.level t.assoc a) (if t.level > top then t.level else top) with
        | none=>rw[hs] at ih; simp only; rw[both]; exact ih
        | some x =>
          obtain ⟨a',top'⟩:=x
          rw[hs] at ih
          obtain ⟨i1,i2,i3,i4,i5,i6,i7⟩:=ih
          obtain ⟨b1,b2⟩:=both.2 ⟨i1,i2⟩
          refine ⟨b1,b2,i3,fun n=>?_,by omega,?_,?_⟩
          · rw[i4,hk.2]
            constructor
            · rintro ((rfl | h) | ⟨h1,u,hu,h⟩)
              · exact .inr ⟨ht,t,by simp,rfl⟩
              · exact .inl h
              · exact .inr ⟨h1,u,by simp[hu],h⟩
            · rintro (h | ⟨h1,u,hu,h⟩)
              · exact .inl (.inr h)
              · rcases List.mem_cons.1 hu with rfl | hu
                · exact .inl (.inl h.symm)
                · exact .inr ⟨h1,u,hu,h⟩
          · intro u hu hz
            rcases List.mem_cons.1 hu with rfl | hu
            · omega
            · exact i6 u hu hz
          · rcases i7 with h | ⟨u,hu,h⟩
            · by_cases e:t.level > top
              · rw[if_pos e] at h; exact .inr ⟨t,by simp,h.symm,ht⟩
              · rw[if_neg e] at h; exact .inl h
            · exact .inr ⟨u,by simp[hu],h⟩
theorem y9 (l:List Term) (h:∀ t∈l,jU t=true):pA l=true↔∀ t∈l,∀ n:Int,1≤n→n≤t.level→fK l n=true:=by
  have hb:∀ t∈l,0≤t.level∧(t.level≠0→t.assoc≠0):=fun t ht=>by
    have:=h t ht
    simp only[jU,Bool.and_eq_true,decide_eq_true_eq,beq_iff_eq] at this
    refine ⟨this.1.1.1.1.2,fun h1 h2=>?_⟩
    have e:=this.2
    simp[h1,h2] at e
  have hs:=vg l [] 0 (fun t ht=>(hb t ht).2) (by simp[dq]) (by simp)
  have hL:∀ n:Int,1≤n→(fK l n=true↔∃ a,(∃ t∈l,t.level=n)∧∀ t∈l,t.level=n→t.assoc=a):=fun n hn=>z7 n l (fun t ht e=>(hb t ht).2 (by omega))
  unfold pA
  cases hx:kG l [] 0 with
  | none =>
    rw[hx] at hs
    simp only[Bool.false_eq_true,false_iff]
    intro hall
    refine hs ⟨fun t ht u hu e hz=>?_,fun t ht v _ hp=>by simp[dq] at hp⟩
    have h1:=hb t ht
    obtain ⟨a,_,h2⟩:=(hL t.level (by omega)).1 (hall t ht t.level (by omega) (by omega))
    exact (h2 t ht rfl).trans (h2 u hu e.symm).symm
  | some x =>
    obtain ⟨a,top⟩:=x
    rw[hx] at hs
    obtain ⟨i1,_,i3,i4,i5,i6,i7⟩:=hs
    simp only[beq_iff_eq]
    have hmem:∀ n,n∈a.map (·.1)↔n≠0∧∃ t∈l,t.level=n:=fun n=>by rw[i4]; simp
    have hin:∀ x∈a.map (·.1),1≤x∧x≤(top.toNat:Int):=fun x hx=>by
      obtain ⟨h1,t,ht,rfl⟩:=(hmem x).1 hx
      have:=(hb t ht).1
      have:=i6 t ht h1
      omega
    constructor
    · intro hlen t ht n hn1 hn2
      have htop:t.level≤top:=i6 t ht (by omega)
      have hm:=Ng i3 hin (by simp; omega) hn1 (show n≤(top.toNat:Int) by omega)
      obtain ⟨hz,u,hu,rfl⟩:=(hmem n).1 hm
      exact (hL _ hn1).2 ⟨u.assoc,⟨u,hu,rfl⟩,fun w hw e=>i1 w hw u hu e (by omega)⟩
    · intro hall
      have h1:a.length≤top.toNat:=by
        have:=kW _ (kq top.toNat) i3 (fun x hx=>tL.2 (hin x hx))
        simpa [kq] using this
      have h2:top.toNat≤a.length:=by
        rcases i7 with e | ⟨t,ht,e,hz⟩
        · subst e; simp
        · have:=kW (kq top.toNat) (a.map (·.1)) (Ei _) (fun x hx=>by
            rw[tL] at hx
            have:=(hb t ht).1
            obtain ⟨_,⟨u,hu,hl⟩,_⟩:=(hL x hx.1).1 (hall t ht x hx.1 (by omega))
            exact (hmem x).2 ⟨by omega,u,hu,hl⟩)
          simpa [kq] using this
      omega
theorem zI (g:an):∀ (l:List Term) (i:Int),iD g l i=true↔∀ (k:Nat) (t:Term),l[k]?=some t→iU g (i+k) t=true
  | [],i=>by simp[iD]
  | t :: r,i=>by
    simp only[iD,Bool.and_eq_true,zI g r (i+1)]
    constructor
    · rintro ⟨h1,h2⟩ k u hk
      cases k with
      | zero=>simp at hk; subst hk; simpa using h1
      | succ k =>
        have:=h2 k u (by simpa using hk)
        rw[show i+((k+1:Nat):Int)=i+1+k by push_cast; omega]; exact this
    · intro h
      refine ⟨by simpa using h 0 t rfl,fun k u hk=>?_⟩
      have:=h (k+1) u (by simpa using hk)
      rw[show i+1+(k:Int)=i+((k+1:Nat):Int) by push_cast; omega]; exact this
theorem qQ (g:an):∀ (l:List ByteArray) (i:Int),pq g l i=true↔∀ (k:Nat) (s:ByteArray),l[k]?=some s→j6 g (i+k) s=true
  | [],i=>by simp[pq]
  | t :: r,i=>by
    simp only[pq,Bool.and_eq_true,qQ g r (i+1)]
    constructor
    · rintro ⟨h1,h2⟩ k u hk
      cases k with
      | zero=>simp at hk; subst hk; simpa using h1
      | succ k =>
        have:=h2 k u (by simpa using hk)
        rw[show i+((k+1:Nat):Int)=i+1+k by push_cast; omega]; exact this
    · intro h
      refine ⟨by simpa using h 0 t rfl,fun k u hk=>?_⟩
      have:=h (k+1) u (by simpa using hk)
      rw[show i+1+(k:Int)=i+((k+1:Nat):Int) by push_cast; omega]; exact this
theorem B2 (g:an) (s:ByteArray):ky g s < 0↔s ∉ g.ax.map Term.name:=by
  unfold ky
  rcases vn s (g.ax.map Term.name) 0 (by omega) with ⟨h1,h2⟩ | ⟨k,h1,h2,_⟩
  · exact ⟨fun _=>h2,fun _=>h1⟩
  · constructor
    · intro h; omega
    · intro h; exact absurd (List.mem_of_getElem? h2) h
theorem Cn (g:an) (t:Term):pv g t=true↔∀ n:Int,1≤n→n≤t.level→fK g.ax n=true:=by
  simp only[pv,List.all_eq_true,List.mem_range]
  constructor
  · intro h n h1 h2
    have:=h (n - 1).toNat (by omega)
    rwa [show (((n - 1).toNat:Nat):Int)+1=n by omega] at this
  · intro h k hk
    exact h _ (by omega) (by omega)
theorem HD (g:an):og g=bH g:=by
  rw[Bool.eq_iff_iff]
  simp only[og,bH,iK,js,qj,Bool.and_eq_true,decide_eq_true_eq,zI,qQ,Ef,List.all_eq_true,Bool.not_eq_true',List.any_eq_false,Bool.not_eq_true,IL,pZ,List.nodup_append,Int.zero_add,Int.zero_sub,Bool.not_not]
  have hT:(∀ (k:Nat) (t:Term),g.ax[k]?=some t→iU g k t=true)↔(∀ t∈g.ax,jU t=true)∧(g.ax.map Term.name).Nodup∧(∀ t∈g.ax,pv g t=true):=by
    rw[← qD]
    constructor
    · intro h
      have h':∀ t∈g.ax,∃ k:Nat,g.ax[k]?=some t:=fun t ht=>List.getElem?_of_mem ht
      refine ⟨fun t ht=>?_,fun k s hk=>?_,fun t ht=>?_⟩
      · obtain ⟨k,hk⟩:=h' t ht
        have:=h k t hk
        simp only[iU,jU,Bool.and_eq_true,decide_eq_true_eq] at this ⊢
        simp[this]
      · rw[List.getElem?_map,Option.map_eq_some_iff] at hk
        obtain ⟨t,hk,rfl⟩:=hk
        have:=h k t hk
        simp only[iU,Bool.and_eq_true,beq_iff_eq] at this
        exact this.1.1.1.1.1.1.2
      · obtain ⟨k,hk⟩:=h' t ht
        have:=h k t hk
        simp only[iU,Bool.and_eq_true] at this
        exact this.2
    · rintro ⟨h1,h2,h3⟩ k t hk
      have hm:=List.mem_of_getElem? hk
      have a:=h1 t hm
      have b:=h2 k t.name (by rw[List.getElem?_map,hk]; rfl)
      have c:=h3 t hm
      simp only[iU,jU,ky,Bool.and_eq_true,decide_eq_true_eq] at a ⊢
      simp[a,b,c]
  have hN:(∀ (k:Nat) (s:ByteArray),g.au[k]?=some s→j6 g k s=true)↔(∀ s∈g.au,fk (ep s)=true)∧g.au.Nodup∧(∀ s∈g.au,s ∉ g.ax.map Term.name):=by
    rw[← qD]
    constructor
    · intro h
      have h':∀ t∈g.au,∃ k:Nat,g.au[k]?=some t:=fun t ht=>List.getElem?_of_mem ht
      refine ⟨fun t ht=>?_,fun k s hk=>?_,fun t ht=>?_⟩
      · obtain ⟨k,hk⟩:=h' t ht
        have:=h k t hk
        simp only[j6,Bool.and_eq_true] at this
        exact this.1.1
      · have:=h k s hk
        simp only[j6,wk,Bool.and_eq_true,beq_iff_eq] at this
        exact this.1.2
      · obtain ⟨k,hk⟩:=h' t ht
        have:=h k t hk
        simp only[j6,Bool.and_eq_true,decide_eq_true_eq] at this
        exact (B2 g t).1 this.2
    · rintro ⟨h1,h2,h3⟩ k s hk
      have hm:=List.mem_of_getElem? hk
      have a:=h1 s hm
      have b:=h2 k s hk
      have c:=(B2 g s).2 (h3 s hm)
      simp[j6,wk,a,b,c]
  rw[hT,hN]
  constructor
  · rintro ⟨⟨⟨⟨⟨⟨⟨⟨t1,t2⟩,t3⟩,n1,n2⟩,r1,r2⟩,a1,a2,a3⟩,s1,s2⟩,n3⟩,ru⟩
    have hl:=(y9 g.ax t1).1 t3
    exact ⟨⟨⟨⟨⟨⟨⟨t2,t1,a2,fun t ht=>(Cn g t).2 (hl t ht)⟩,⟨by omega,by omega⟩,fun s hs=>by simpa using n3 s hs,a1,fun s hs hm=>a3 s hs s hm rfl⟩,by omega⟩,by omega⟩,s1⟩,by omega⟩,ru⟩
  · rintro ⟨⟨⟨⟨⟨⟨⟨t2,t1,a2,t3⟩,⟨n1,n2⟩,n3,a1,a3⟩,r1⟩,r2⟩,s1⟩,s2⟩,ru⟩
    have hl:=(y9 g.ax t1).2 (fun t ht=>(Cn g t).1 (t3 t ht))
    exact ⟨⟨⟨⟨⟨⟨⟨⟨t1,t2⟩,hl⟩,by omega,by omega⟩,by omega,by omega⟩,a1,a2,fun s hs u hu e=>a3 s hs (e ▸ hu)⟩,s1,by omega⟩,fun s hs=>by simp[n3 s hs]⟩,ru⟩
theorem q6 (g:an) (hg:g.Ok) (hs:g.au.length+g.ax.length≤1000):aC Tryz.prog 52 [.agg (aw g)] (gb (bH g)):=by
  rw[← HD]; exact Iy g hg hs
def Ec (n:Nat) (r:aM):Prop:=cm r.left∧0≤r.left∧r.left < n∧r.right.length≤6∧∀ s∈r.right,cm s∧(s < 0→-1 - s < n)
theorem an.dM.sN {g:an} (hg:g.Ok) (h:g.dM) {r:aM} (hr:r∈g.rules):Ec g.au.length r :=
  ⟨(hg.aG r hr).1,(h.left r hr).1,(h.left r hr).2,h.right r hr,fun s hs=>⟨(hg.aG r hr).2.2.2 s hs,fun hn=>h.neg hr hs hn⟩⟩
def q9:SF:=⟨.seq (ak [aQ 3 false]) <|
  .seq (.region false [⟨none,[aa 4 0,ay 5 .lss 4 0,aa 6 5]⟩,⟨(some (6,true)),[ao 7 1,aa 8 0,((some 9),.op (.arith .sub (.val (.val (.int .i64 (-1)))) (.tmp 8))),aL 10 1 7 9,ao 11 10,bW 12 11]⟩,⟨none,[bG 13 6 12,aa 3 13]⟩]) <|
  .ret,
  [.tmp 3],14⟩
theorem vo:bh Tryz.prog 197 []=some q9:=by kernel_rfl
def uw:SF:=⟨.seq (ak [cr 2 0,cr 3 1,aQ 4 false]) <|
  .seq (ak [aq 5 1 2,ao 6 5,((some 7),.op (.rO 197 [] [(.tmp 3)])),aF 8 91 [6,7],bW 9 8,aa 4 9]) <|
  .ret,
  [.tmp 4],10⟩
theorem yc:bh Tryz.prog 160 [2,3]=some uw:=by kernel_rfl
def mI:SF:=⟨.seq (ak [cr 2 0,((some 4),.op (.bg (.val (.emp 1))))]) <|
  .seq (.seq (ak [aJ 5 3 2,aa 6 1,aF 7 160 [5,6]]) <|
  .cond (.tmp 7) (.seq (ak [aq 8 0 2,ao 9 8,((some 10),.op (.bD 1 1 [(.val (.int .i64 0))] [(0,(.tmp 9))])),aa 4 10]) <|
  .ret) (.skip)) <|
  .seq (ak [((some 4),.op (.bg (.val (.emp 1))))]) <|
  .ret,
  [.tmp 4],11⟩
theorem rj:bh Tryz.prog 195 [2]=some mI:=by kernel_rfl
def lR:SC :=
  .seq (ak [aK 24 .lss 23 22]) <|
  .seq (.cond (.tmp 24) (.skip) (.exit 0)) <|
  .seq (.block 1 (.seq (ak [aL 25 1 21 23,ao 26 25,aa 7 26]) <|
  .seq (ak [aa 27 7,ay 28 .lss 27 0]) <|
  .cond (.tmp 28) (ak [aa 29 5,aa 30 7,((some 31),.op (.arith .sub (.val (.val (.int .i64 (-1)))) (.tmp 30))),((some 32),.op (.bD 1 1 [(.val (.int .i64 0))] [(0,(.tmp 31))])),((some 33),.op (.app 1 8 (.tmp 29) (.tmp 32))),aa 5 33]) (.skip))) <|
  ak [ay 34 .add 23 1,aa 23 34]
def nQ:SF:=⟨.seq (ak [cr 3 0,((some 5),.op (.bg (.val (.emp 1))))]) <|
  .seq (.seq (.region false [⟨none,[aa 8 1,aq 9 0 3,ao 10 9,aL 11 1 8 10,ao 12 11,bW 13 12,aa 14 13]⟩,⟨(some (14,false)),[aJ 15 3 3,ao 16 2,aF 17 160 [15,16],bW 18 17]⟩,⟨none,[bF 19 14 18]⟩]) <|
  .cond (.tmp 19) (.seq (ak [((some 5),.op (.bg (.val (.emp 1))))]) <|
  .ret) (.skip)) <|
  .seq (.seq (ak [aq 20 1 3,ao 21 20,aI 22 21,aD 23 0]) <|
  .block 0 (.loop lR)) <|
  .seq (ak [aa 35 5,aa 5 35]) <|
  .ret,
  [.tmp 5],36⟩
theorem rU:bh Tryz.prog 196 [3]=some nQ:=by kernel_rfl
theorem EG (r:aM) (is:List Bool):∀ v∈[V.agg (aU r),bM is],Tree v:=by
  intro v hv; simp at hv
  rcases hv with rfl | rfl
  · exact dL _ (fU r)
  · exact ik is
def Bg (is:List Bool) (s:Int):Bool:=decide (s < 0) && !is.getD (-1 - s).toNat false
theorem Hi (is:List Bool) (s:Int) (hs:cm s∧(s < 0→-1 - s < is.length)):aC Tryz.prog 197 [gi s,.aO [bM is] 0] (gb (Bg is s)):=by
  refine aC.val ?_ fun H=>?_
  · intro v hv; simp at hv
    rcases hv with rfl | rfl
    · exact .val _
    · exact jr (by intro v hv; simp at hv; subst hv; exact ik is)
  obtain ⟨⟨h1,h2⟩,h3⟩:=hs
  refine aA.of mixed vo ?_
  simp (disch:=omega) only [↓wr,↓reduceIte,wq,ah,ag,aj,ab,ae,af,ai,isNil,Nat.reduceEqDiff,Nat.reduceAdd,Nat.reduceLT,Nat.reduceLeDiff,Int.reduceNeg,Int.reduceToNat,reduceCtorEq,q9,bM]
  refine av.dec (fun h=>?_) (fun h=>?_)
  · have hb:is[(-1 - s).toNat]?=some (is[(-1 - s).toNat]'(by omega)):=List.getElem?_eq_getElem (by omega)
    have hbd:is.getD (-1 - s).toNat false=is[(-1 - s).toNat]'(by omega):=by simp[List.getD_eq_getElem?_getD,hb]
    generalize is[(-1 - s).toNat]'(by omega)=b at hb hbd
    simp (disch:=omega) only [↓wr,↓reduceIte,wq,ah,ag,aj,ab,ae,af,ai,isNil,Nat.reduceEqDiff,Nat.reduceAdd,Nat.reduceLT,Nat.reduceLeDiff,Int.reduceNeg,Int.reduceToNat,reduceCtorEq,List.getElem?_map,hb]
    simp only[Bg,hbd,h,decide_true,Bool.true_and]
  · simp (disch:=omega) only [↓wr,↓reduceIte,wq,ah,ag,aj,ab,ae,af,ai,isNil,Nat.reduceEqDiff,Nat.reduceAdd,Nat.reduceLT,Nat.reduceLeDiff,Int.reduceNeg,Int.reduceToNat,reduceCtorEq]
    simp[Bg,h]
theorem Hz {is:List Bool} {l:List Int} : (!l.any (Bg is))=dy l is true:=by
  simp only[dy,List.not_any_eq_all_not]
  congr 1
  funext s
  simp only[Bg]
  by_cases h:0≤s
  · simp[h,show ¬ s < 0 by omega]
  · simp[h,show s < 0 by omega]
theorem vp (r:aM) (is:List Bool) (hr:aX r.right) (hs:∀ s∈r.right,cm s∧(s < 0→-1 - s < is.length)):aC Tryz.prog 160 [.agg (aU r),bM is] (gb (dy r.right is true)):=by
  rw[← Hz]
  refine aC.val (EG r is) fun H=>?_
  refine aA.of mixed yc ?_
  simp (disch:=omega) only [↓wr,↓reduceIte,wq,ah,ag,aj,ab,ae,af,ai,isNil,Nat.reduceEqDiff,Nat.reduceAdd,Nat.reduceLT,Nat.reduceLeDiff,Int.reduceNeg,Int.reduceToNat,reduceCtorEq,uw,aU,bM,encI]
  refine aE.pure (p8 r.right hr 197 [.aO [bM is] 0] (by
    intro v hv; simp at hv; subst hv
    exact jr (by intro v hv; simp at hv; subst hv; exact ik is)) (Bg is) (fun x hx=>Hi is x (hs x hx)) (by kernel_rfl)) (by kernel_rfl) ?_
  simp (disch:=omega) only [↓wr,↓reduceIte,wq,ah,ag,aj,ab,ae,af,ai,isNil,Nat.reduceEqDiff,Nat.reduceAdd,Nat.reduceLT,Nat.reduceLeDiff,Int.reduceNeg,Int.reduceToNat,reduceCtorEq]
theorem qk {h:aB} {u:V} {l:List Int} (ho:aW h.view u 1 (l.map fun x=>[gi x])):dA h u (encI l):=dA.Md (f:=Value.int .i64) ho
theorem AH (r:aM) (is:List Bool) (hr:Ec is.length r):dF Tryz.prog 195 [.agg (aU r),bM is] (encI (if dy r.right is true=true then [r.left] else [])):=by
  obtain ⟨hl,_,_,hr6,hs⟩:=hr
  have hsh:aX r.right:=by unfold aX; omega
  refine dF.of (EG r is) ?_
  refine aA.of mixed rj ?_
  simp (disch:=omega) only [↓wr,↓reduceIte,wq,ah,ag,aj,ab,ae,af,ai,isNil,Nat.reduceEqDiff,Nat.reduceAdd,Nat.reduceLT,Nat.reduceLeDiff,Int.reduceNeg,Int.reduceToNat,reduceCtorEq,mI,aU,encI]
  refine aE.pure (vp r is hsh hs) (by kernel_rfl) ?_
  repeat' (first | (refine av.dec (fun _=>?_) (fun _=>?_)) | (refine av.eq (fun _=>?_) (fun _=>?_)) | (refine av.ne (fun _=>?_) (fun _=>?_)) | (refine av.split (fun _=>?_) (fun _=>?_)) | (simp (disch:=omega) only [↓wr,↓reduceIte,wq,ah,ag,aj,ab,ae,af,ai,isNil,Nat.reduceEqDiff,Nat.reduceAdd,Nat.reduceLT,Nat.reduceLeDiff,Int.reduceNeg,Int.reduceToNat,reduceCtorEq,aU,encI]))
  all_goals first
    | (intro n h' hh; rw[if_pos (by simp[*])]; exact qk (l:=[r.left]) (.inr ⟨n,rfl,by rw[hh]; simp[View.set]⟩))
    | (intro h' hh; rw[if_neg (by simp[*])]; exact .emp _)
def fy (l:List Int):List Int:=(l.filter fun s=>decide (s < 0)).map fun s=>-1 - s
theorem KO (r:aM) (is p:List Bool):∀ v∈[V.agg (aU r),bM is,.aO [bM p] 0],Tree v:=by
  intro v hv; simp at hv
  rcases hv with rfl | rfl | rfl
  · exact dL _ (fU r)
  · exact ik is
  · exact jr (by intro v hv; simp at hv; subst hv; exact ik p)
set_option maxHeartbeats 1000000 in
theorem Cz (r:aM) (is p:List Bool) (hr:Ec is.length r) (hp:p.length=is.length) :
    dF Tryz.prog 196 [.agg (aU r),bM is,.aO [bM p] 0] (encI (if (is.getD r.left.toNat false && dy r.right p true)=true then fy r.right else [])):=by
  obtain ⟨hl,hl0,hl1,hr6,hs⟩:=hr
  have hsh:aX r.right:=by unfold aX; omega
  refine dF.of (KO r is p) ?_
  refine aA.of mixed rU ?_
  have hb:is[r.left.toNat]?=some (is[r.left.toNat]'(by omega)):=List.getElem?_eq_getElem (by omega)
  have hbd:is.getD r.left.toNat false=is[r.left.toNat]'(by omega):=by simp[List.getD_eq_getElem?_getD,hb]
  generalize is[r.left.toNat]'(by omega)=b at hb hbd
  rw[hbd]
  simp (disch:=omega) only [↓wr,↓reduceIte,wq,ah,ag,aj,ab,ae,af,ai,isNil,Nat.reduceEqDiff,Nat.reduceAdd,Nat.reduceLT,Nat.reduceLeDiff,Int.reduceNeg,Int.reduceToNat,reduceCtorEq,nQ,aU,encI,bM,List.getElem?_map,hb]
  cases b with
  | false =>
    simp (disch:=omega) only [↓wr,↓reduceIte,wq,ah,ag,aj,ab,ae,af,ai,isNil,Nat.reduceEqDiff,Nat.reduceAdd,Nat.reduceLT,Nat.reduceLeDiff,Int.reduceNeg,Int.reduceToNat,reduceCtorEq]
    intro h' hh
    exact .emp _
  | true =>
    simp (disch:=omega) only [↓wr,↓reduceIte,wq,ah,ag,aj,ab,ae,af,ai,isNil,Nat.reduceEqDiff,Nat.reduceAdd,Nat.reduceLT,Nat.reduceLeDiff,Int.reduceNeg,Int.reduceToNat,reduceCtorEq,aU,encI,bM]
    refine aE.pure (vp r p hsh (fun s hs'=>⟨(hs s hs').1,fun h=>by rw[hp]; exact (hs s hs').2 h⟩)) (by kernel_rfl) ?_
    repeat' (first | (refine av.dec (fun _=>?_) (fun _=>?_)) | (refine av.eq (fun _=>?_) (fun _=>?_)) | (refine av.ne (fun _=>?_) (fun _=>?_)) | (refine av.split (fun _=>?_) (fun _=>?_)) | (simp (disch:=omega) only [↓wr,↓reduceIte,wq,ah,ag,aj,ab,ae,af,ai,isNil,Nat.reduceEqDiff,Nat.reduceAdd,Nat.reduceLT,Nat.reduceLeDiff,Int.reduceNeg,Int.reduceToNat,reduceCtorEq,aU,encI,bM]))
    · rename_i ha
      rw[if_pos (by simp[ha])]
      refine bw.up r.right.length (fun i T H=>(∃ u,T 5=u∧aW H u 1 ((fy (r.right.take i)).map fun x=>[gi x]))∧T 21=encI r.right∧T 22=gi r.right.length∧T 23=gi i) ?_ ?_
      · exact ⟨⟨_,rfl,.nil⟩,rfl,rfl,rfl⟩
      rintro i k T H' hk ⟨⟨u,h5,hu⟩,h21,h22,h23⟩
      simp (disch:=omega) only [↓wr,↓reduceIte,wq,ah,ag,aj,ab,ae,af,ai,isNil,Nat.reduceEqDiff,Nat.reduceAdd,Nat.reduceLT,Nat.reduceLeDiff,Int.reduceNeg,Int.reduceToNat,reduceCtorEq,lR,h5,h21,h22,h23,encI]
      refine av.dec (fun hc=>?_) (fun hc=>?_)
      · have hg:r.right[i]?=some (r.right[i]'(by omega)):=List.getElem?_eq_getElem (by omega)
        have hm:r.right[i]'(by omega)∈r.right:=List.getElem_mem _
        have htk:fy (r.right.take (i+1))=fy (r.right.take i) ++ fy [r.right[i]'(by omega)]:=by
          rw[List.take_add_one,hg,fy,List.filter_append,List.map_append]; rfl
        have hlen:(fy (r.right.take i)).length≤6:=by
          have h1:(fy (r.right.take i)).length≤(r.right.take i).length:=by simp only[fy,List.length_map]; exact List.length_filter_le _ _
          have h2:(r.right.take i).length≤i:=List.length_take_le _ _
          omega
        generalize r.right[i]'(by omega)=s at hg hm htk
        obtain ⟨⟨s1,s2⟩,s3⟩:=hs s hm
        simp (disch:=omega) only [↓wr,↓reduceIte,wq,ah,ag,aj,ab,ae,af,ai,isNil,Nat.reduceEqDiff,Nat.reduceAdd,Nat.reduceLT,Nat.reduceLeDiff,Int.reduceNeg,Int.reduceToNat,reduceCtorEq,h5,h21,h22,h23,encI,List.getElem?_map,hg]
        refine av.dec (fun hd=>?_) (fun hd=>?_)
        · simp (disch:=omega) only [↓wr,↓reduceIte,wq,ah,ag,aj,ab,ae,af,ai,isNil,Nat.reduceEqDiff,Nat.reduceAdd,Nat.reduceLT,Nat.reduceLeDiff,Int.reduceNeg,Int.reduceToNat,reduceCtorEq,h5,h21,h22,h23]
          intro m hm
          try simp (disch:=omega) only [↓wr,↓reduceIte,wq,ah,ag,aj,ab,ae,af,ai,isNil,Nat.reduceEqDiff,Nat.reduceAdd,Nat.reduceLT,Nat.reduceLeDiff,Int.reduceNeg,Int.reduceToNat,reduceCtorEq,h5,h21,h22,h23,dp]
          refine wA (hu.fresh hm) (by simp) (by simp[aP]) (by unfold aN; simp at hlen ⊢; omega) (by unfold aN; simp at hlen ⊢; omega) ?_
          intro u' H2 hu' _
          simp (disch:=omega) only [↓wr,↓reduceIte,wq,ah,ag,aj,ab,ae,af,ai,isNil,Nat.reduceEqDiff,Nat.reduceAdd,Nat.reduceLT,Nat.reduceLeDiff,Int.reduceNeg,Int.reduceToNat,reduceCtorEq,h21,h22,h23]
          refine bt hk (by omega) ⟨⟨u',rfl,?_⟩,h21,h22,rfl⟩
          rw[htk]
          simpa [fy,hd] using hu'
        · simp (disch:=omega) only [↓wr,↓reduceIte,wq,ah,ag,aj,ab,ae,af,ai,isNil,Nat.reduceEqDiff,Nat.reduceAdd,Nat.reduceLT,Nat.reduceLeDiff,Int.reduceNeg,Int.reduceToNat,reduceCtorEq,h5,h21,h22,h23]
          refine bt hk (by omega) ⟨⟨u,h5,?_⟩,h21,h22,rfl⟩
          rw[htk]
          simpa [fy,hd] using hu
      · rw[List.take_of_length_le (by omega)] at hu
        simp (disch:=omega) only [↓wr,↓reduceIte,wq,ah,ag,aj,ab,ae,af,ai,isNil,Nat.reduceEqDiff,Nat.reduceAdd,Nat.reduceLT,Nat.reduceLeDiff,Int.reduceNeg,Int.reduceToNat,reduceCtorEq,h5,h21,h22,h23]
        intro h' hh
        exact qk (by rw[hh]; exact hu)
    · rename_i ha
      intro h' hh
      rw[if_neg (by simp[ha])]
      exact .emp _
def pg (is:List Bool) (l:List Int):List Bool:=l.foldl (fun is n=>is.set n.toNat true) is
def stepG (comes:aM→List Bool→List Int) (is:List Bool) (r:aM):List Bool:=pg is (comes r is)
def df (comes:aM→List Bool→List Int) (rules:List aM) (is:List Bool):List Bool:=rules.foldl (stepG comes) is
def fL (a b:List Bool):Prop:=a.length=b.length∧∀ i,a.getD i false=true→b.getD i false=true
theorem fL.refl (a:List Bool):fL a a:=⟨rfl,fun _ h=>h⟩
theorem fL.trans {a b c:List Bool} (h:fL a b) (k:fL b c):fL a c:=⟨h.1.trans k.1,fun i hi=>k.2 i (h.2 i hi)⟩
theorem fL.set (a:List Bool) (i:Nat):fL a (a.set i true):=by
  refine ⟨by simp,fun j h=>?_⟩
  simp only[List.getD_eq_getElem?_getD,List.getElem?_set] at h ⊢
  split
  · split
    · rfl
    · rename_i e h2; rw[← e,List.getElem?_eq_none (by omega)] at h; simp at h
  · exact h
theorem CY:∀ (l:List Int) (is:List Bool),fL is (pg is l)
  | [],is=>.refl _
  | n :: l,is=>(fL.set is n.toNat).trans (CY l _)
theorem rb (comes:aM→List Bool→List Int):∀ (rules:List aM) (is:List Bool),fL is (df comes rules is)
  | [],is=>.refl _
  | r :: rs,is=>(CY _ _).trans (rb comes rs _)
def dS (a:List Bool):Nat:=a.countP fun x=>x
theorem yB (a:List Bool):dS a≤a.length:=List.countP_le_length
theorem fL.dS:∀ {a b:List Bool},fL a b→dS a≤dS b∧(dS a=dS b→a=b)
  | [],[],_=>⟨Nat.le_refl _,fun _=>rfl⟩
  | [],_ :: _,h=>by simp[fL] at h
  | _ :: _,[],h=>by simp[fL] at h
  | x :: a,y :: b,h=>by
    have hxy:x=true→y=true:=fun e=>by have:=h.2 0 (by simpa using e); simpa using this
    obtain ⟨h1,h2⟩:=fL.dS (a:=a) (b:=b) ⟨by simpa using h.1,fun i hi=>by have:=h.2 (i+1) (by simpa using hi); simpa using this⟩
    unfold Gv.dS at h1 h2 ⊢
    simp only[List.countP_cons]
    cases x with
    | true =>
      have:=hxy rfl; subst this
      simp only[if_true]
      exact ⟨by omega,fun e=>by rw[h2 (by omega)]⟩
    | false =>
      cases y with
      | false=>simp only[Bool.false_eq_true,if_false]; exact ⟨by omega,fun e=>by rw[h2 (by omega)]⟩
      | true=>simp only[Bool.false_eq_true,if_false,if_true]; exact ⟨by omega,fun e=>by omega⟩
def fO (comes:aM→List Bool→List Int) (rules:List aM):Nat→List Bool→List Bool
  | 0,is=>is
  | k+1,is=>if df comes rules is=is then is else fO comes rules k (df comes rules is)
theorem qV (comes:aM→List Bool→List Int) (rules:List aM):∀ (k:Nat) (is:List Bool),is.length≤dS is+k→df comes rules (fO comes rules k is)=fO comes rules k is∧fL is (fO comes rules k is)
  | 0,is,h=>by
    have h1:=rb comes rules is
    have h2:=yB (df comes rules is)
    have h3:=h1.dS
    rw[← h1.1] at h2
    have h4:=yB is
    exact ⟨(h3.2 (by omega)).symm,.refl _⟩
  | k+1,is,h=>by
    simp only[fO]
    by_cases e:df comes rules is=is
    · rw[if_pos e]; exact ⟨e,.refl _⟩
    · rw[if_neg e]
      have h1:=rb comes rules is
      have h3:=h1.dS
      have:dS is < dS (df comes rules is):=by
        rcases Nat.lt_or_ge (dS is) (dS (df comes rules is)) with h | h
        · exact h
        · exact absurd (h3.2 (by omega)).symm e
      obtain ⟨g1,g2⟩:=qV comes rules k (df comes rules is) (by rw[← h1.1]; omega)
      exact ⟨g1,h1.trans g2⟩
def uz:SC :=
  .seq (ak [aK 26 .lss 25 24]) <|
  .seq (.cond (.tmp 26) (.skip) (.exit 4)) <|
  .seq (.block 5 (.seq (ak [aL 27 1 23 25,ao 28 27,aa 11 28]) <|
  .seq (.region false [⟨none,[aa 29 7,aa 30 29]⟩,⟨(some (30,false)),[aa 31 1,aa 32 11,aL 33 1 31 32,ao 34 33,bW 35 34]⟩,⟨none,[bF 36 30 35,aa 7 36]⟩]) <|
  ak [aa 37 1,aa 38 11,aL 39 1 37 38,(none,.op (.store 1 (.tmp 39) (.val (.val (.bool true)))))])) <|
  ak [ay 40 .add 25 1,aa 25 40]
def uC:SC :=
  .seq (ak [aK 17 .lss 16 15]) <|
  .seq (.cond (.tmp 17) (.skip) (.exit 2)) <|
  .seq (.block 3 (.seq (ak [aL 18 3 14 16,aJ 19 3 18,((some 9),.op (.alloc [(.val (.int .i64 0)),(.emp 1),(.val (.int .i64 0))])),(none,.op (.store 3 (.tmp 9) (.tmp 19)))]) <|
  .seq (ak [aa 20 2,aJ 21 3 9,aa 22 1,((some 23),.call (.tmp 20) [(.tmp 21),(.tmp 22)]),aI 24 23,aD 25 0]) <|
  .block 4 (.loop uz))) <|
  ak [ay 41 .add 16 1,aa 16 41]
def oF:SC :=
  .seq (.seq (ak [aa 12 7]) <|
  .cond (.tmp 12) (.skip) (.exit 0)) <|
  .block 1 (.seq (ak [aQ 7 false]) <|
  .seq (ak [aq 13 2 3,ao 14 13,aI 15 14,aD 16 0]) <|
  .block 2 (.loop uC))
def xL:SF:=⟨.seq (ak [cr 3 0,((some 6),.op (.bg (.val (.emp 1))))]) <|
  .seq (.seq (ak [aQ 7 true]) <|
  .block 0 (.loop oF)) <|
  .seq (ak [aa 42 1,aa 6 42]) <|
  .ret,
  [.tmp 6],43⟩
theorem A9:bh Tryz.prog 169 [3]=some xL:=by kernel_rfl
theorem Li {is:List Bool} {i:Nat} (h:is.getD i false=true):is.set i true=is:=by
  apply List.ext_getElem?
  intro j
  simp only[List.getD_eq_getElem?_getD] at h
  rw[List.getElem?_set]
  split
  · rename_i e; subst e
    split
    · rename_i hl; rw[List.getElem?_eq_getElem hl] at h ⊢; simp at h; simp[h]
    · rename_i hl; rw[List.getElem?_eq_none (by omega)] at h; simp at h
  · rfl
theorem HW {comes:aM→List Bool→List Int} {rules:List aM} {k:Nat} {is:List Bool} (h:df comes rules is=is):fO comes rules k is=is:=by
  cases k with
  | zero=>rfl
  | succ k=>simp only[fO,h,if_true]
theorem HL {comes:aM→List Bool→List Int} {rules:List aM} {k:Nat} {is:List Bool} (h:¬ df comes rules is=is) (hk:is.length≤dS is+k):∃ j,k=j+1∧fO comes rules k is=fO comes rules j (df comes rules is)∧(df comes rules is).length≤dS (df comes rules is)+j:=by
  have h1:=rb comes rules is
  have h3:=h1.dS
  have h5:=yB (df comes rules is)
  have:dS is < dS (df comes rules is):=by
    rcases Nat.lt_or_ge (dS is) (dS (df comes rules is)) with h | h
    · exact h
    · exact absurd (h3.2 (by omega)).symm (by assumption)
  have hl:=h1.1
  obtain ⟨j,rfl⟩:∃ j,k=j+1:=⟨k - 1,by omega⟩
  exact ⟨j,rfl,by simp only[fO]; rw[if_neg h],by omega⟩
theorem Me {a is:List Bool} {i:Nat} {b:Bool} (hle:fL a is) (hi:i < is.length) (hb:b = !decide (is=a)):(b || !is.getD i false) = !decide (is.set i true=a):=by
  cases hx:is.getD i false with
  | true=>rw[Li hx,hb]; simp
  | false =>
    have:¬ is.set i true=a:=fun e=>by
      have h1:(is.set i true).getD i false=true:=by simp[List.getD_eq_getElem?_getD,hi]
      rw[e] at h1
      have:=hle.2 i h1
      rw[hx] at this; simp at this
    simp[this]
set_option maxHeartbeats 8000000 in
theorem FN (g:an) (hr:g.rules.length≤40) (comes:aM→List Bool→List Int) (f:FuncId) (capt capt':List V) (hok:cX Tryz.prog f=true) (N:Nat) (hN:N≤16)
    (hc:∀ r∈g.rules,∀ is:List Bool,is.length=N→dF Tryz.prog f (.agg (aU r) :: bM is :: capt') (encI (comes r is))∧(comes r is).length≤100∧∀ n∈comes r is,cm n∧0≤n∧n < N)
    (id:Nat) (is0:List Bool) (his:is0.length=N) (H:View) (hH:H id=.arr 1 (bV is0)) (hlent:∀ H':View,(∀ k,H k≠.dead→k≠id→H' k=H k)→nB H' capt capt') :
    aA Tryz.prog 169 [.agg (aw g),.sl id 0 N 1,.fn f [] capt] H fun r H'=>r=.sl id 0 N 1∧H' id=.arr 1 (bV (fO comes g.rules 16 is0))∧∀ k,H k≠.dead→k≠id→H' k=H k:=by
  refine aA.of mixed A9 ?_
  simp (disch:=omega) only [↓wr,↓reduceIte,wq,ah,ag,aj,ab,ae,af,ai,isNil,Nat.reduceEqDiff,Nat.reduceAdd,Nat.reduceLT,Nat.reduceLeDiff,Int.reduceNeg,Int.reduceToNat,reduceCtorEq,xL,aw,encS]
  refine bw.intro (fun k T H'=>∃ is:List Bool,is.length=N∧H' id=.arr 1 (bV is)∧(∀ k,H k≠.dead→k≠id→H' k=H k)∧T 1=.sl id 0 N 1∧T 2=.fn f [] capt∧T 3=.aO (aw g) 0 ∧
    ((T 7=gb true∧∃ j,k=j+1∧fO comes g.rules j is=fO comes g.rules 16 is0∧N≤dS is+j)∨(T 7=gb false∧is=fO comes g.rules 16 is0))) 17 ?_ ?_
  · exact ⟨is0,his,hH,fun _ _ _=>rfl,rfl,rfl,rfl,.inl ⟨rfl,16,rfl,rfl,by omega⟩⟩
  rintro k T H1 ⟨is,hlen,hid,hfr,t1,t2,t3,h7⟩
  rcases h7 with ⟨h7,j,rfl,hgr,hj⟩ | ⟨h7,hgr⟩
  · simp (disch:=omega) only [↓wr,↓reduceIte,wq,ah,ag,aj,ab,ae,af,ai,isNil,Nat.reduceEqDiff,Nat.reduceAdd,Nat.reduceLT,Nat.reduceLeDiff,Int.reduceNeg,Int.reduceToNat,reduceCtorEq,oF,t1,t2,t3,h7,aw,encS]
    refine bw.up g.rules.length (fun i T H'=>∃ mS:List Bool,mS.length=N∧fL is mS∧mS=(g.rules.take i).foldl (stepG comes) is∧H' id=.arr 1 (bV mS)∧(∀ k,H k≠.dead→k≠id→H' k=H k)∧T 1=.sl id 0 N 1∧T 2=.fn f [] capt∧T 3=.aO (aw g) 0 ∧
      T 7=gb (!decide (mS=is))∧T 14=.aV (g.rules.map aU)∧T 15=gi g.rules.length∧T 16=gi i) ?_ ?_
    · exact ⟨is,hlen,.refl _,rfl,hid,hfr,t1,t2,t3,by simp; rfl,rfl,rfl,rfl⟩
    clear t1 t2 t3 h7 hid hfr
    rintro i k T H1 hk ⟨mS,hlen2,hle2,hst,hid,hfr,t1,t2,t3,h7,h14,h15,h16⟩
    simp (disch:=omega) only [↓wr,↓reduceIte,wq,ah,ag,aj,ab,ae,af,ai,isNil,Nat.reduceEqDiff,Nat.reduceAdd,Nat.reduceLT,Nat.reduceLeDiff,Int.reduceNeg,Int.reduceToNat,reduceCtorEq,uC,t1,t2,t3,h7,h14,h15,h16,aw,encS]
    refine av.dec (fun hcc=>?_) (fun hcc=>?_)
    · have hg2:g.rules[i]?=some (g.rules[i]'(by omega)):=List.getElem?_eq_getElem (by omega)
      have hmem:g.rules[i]'(by omega)∈g.rules:=List.getElem_mem _
      have htk:(g.rules.take (i+1)).foldl (stepG comes) is=stepG comes ((g.rules.take i).foldl (stepG comes) is) (g.rules[i]'(by omega)):=by
        rw[List.take_add_one,hg2,List.foldl_append]; rfl
      generalize g.rules[i]'(by omega)=r at hg2 hmem htk
      obtain ⟨hcp,hcl,hcn⟩:=hc r hmem mS hlen2
      simp (disch:=omega) only [↓wr,↓reduceIte,wq,ah,ag,aj,ab,ae,af,ai,isNil,Nat.reduceEqDiff,Nat.reduceAdd,Nat.reduceLT,Nat.reduceLeDiff,Int.reduceNeg,Int.reduceToNat,reduceCtorEq,t1,t2,t3,h7,h14,h15,h16,aU,encI,List.getElem?_map,hg2]
      intro b hb
      have hbid:b≠id:=by rintro rfl; rw[hid] at hb; simp at hb
      try simp (disch:=omega) only [↓wr,↓reduceIte,wq,ah,ag,aj,ab,ae,af,ai,isNil,Nat.reduceEqDiff,Nat.reduceAdd,Nat.reduceLT,Nat.reduceLeDiff,Int.reduceNeg,Int.reduceToNat,reduceCtorEq,t1,t2,t3,h7,h14,h15,h16]
      refine aE.OA hcp hok ⟨en.tree (dL _ (fU r)),zK (by simp[View.set,hbid.symm,hid]) hlen2.symm,hlent _ (fun k hk hki=>?_)⟩ ?_
      · have hkb:k≠b:=by
          rintro rfl
          rw[hfr k hk hki] at hb
          exact hk hb
        simp[View.set,hkb,hfr k hk hki]
      generalize hl:comes r mS=l at hcl hcn
      simp (disch:=omega) only [↓wr,↓reduceIte,wq,ah,ag,aj,ab,ae,af,ai,isNil,Nat.reduceEqDiff,Nat.reduceAdd,Nat.reduceLT,Nat.reduceLeDiff,Int.reduceNeg,Int.reduceToNat,reduceCtorEq,t1,t2,t3,h7,h14,h15,h16,encI]
      refine bw.up l.length (fun q T H'=>∃ is3:List Bool,is3.length=N∧fL is is3∧is3=pg mS (l.take q)∧H' id=.arr 1 (bV is3)∧(∀ k,H k≠.dead→k≠id→H' k=H k)∧T 1=.sl id 0 N 1∧T 2=.fn f [] capt∧T 3=.aO (aw g) 0 ∧
        T 7=gb (!decide (is3=is))∧T 14=.aV (g.rules.map aU)∧T 15=gi g.rules.length∧T 16=gi i∧T 23=encI l∧T 24=gi l.length∧T 25=gi q) ?_ ?_
      · refine ⟨mS,hlen2,hle2,rfl,by simp[View.set,hbid.symm,hid],fun k hk hki=>?_,t1,t2,t3,h7,h14,h15,h16,rfl,rfl,rfl⟩
        have hkb:k≠b:=by
          rintro rfl
          rw[hfr k hk hki] at hb
          exact hk hb
        simp[View.set,hkb,hfr k hk hki]
      clear t1 t2 t3 h7 h14 h15 h16 hid hfr hb hbid
      rintro q k2 T H1 hk2 ⟨is3,hlen3,hle3,hst3,hid,hfr,t1,t2,t3,h7,h14,h15,h16,h23,h24,h25⟩
      simp (disch:=omega) only [↓wr,↓reduceIte,wq,ah,ag,aj,ab,ae,af,ai,isNil,Nat.reduceEqDiff,Nat.reduceAdd,Nat.reduceLT,Nat.reduceLeDiff,Int.reduceNeg,Int.reduceToNat,reduceCtorEq,uz,t1,t2,t3,h7,h14,h15,h16,h23,h24,h25,encI]
      refine av.dec (fun hqc=>?_) (fun hqc=>?_)
      · have hgq:l[q]?=some (l[q]'(by omega)):=List.getElem?_eq_getElem (by omega)
        have hmq:l[q]'(by omega)∈l:=List.getElem_mem _
        have htq:pg mS (l.take (q+1))=(pg mS (l.take q)).set (l[q]'(by omega)).toNat true:=by
          unfold pg; rw[List.take_add_one,hgq,List.foldl_append]; rfl
        generalize l[q]'(by omega)=n at hgq hmq htq
        obtain ⟨⟨n1,n2⟩,n3,n4⟩:=hcn n hmq
        have hbn:is3.getD n.toNat false=is3[n.toNat]'(by omega):=by simp[List.getD_eq_getElem?_getD,show n.toNat < is3.length by omega]
        have hnew:=Me hle3 (show n.toNat < is3.length by omega) (b:=!decide (is3=is)) rfl
        rw[hbn] at hnew
        have hbg:=jv (show n.toNat < is3.length by omega)
        generalize is3[n.toNat]'(by omega)=x at hnew hbg hbn
        have fin:∀ (T2:Env),T2 7=gb (!decide (is3.set n.toNat true=is))→T2 1=.sl id 0 N 1→T2 2=.fn f [] capt→T2 3=.aO (aw g) 0→T2 14=.aV (g.rules.map aU)→T2 15=gi g.rules.length→T2 16=gi i→T2 23=encI l→T2 24=gi l.length→T2 25=gi ((q:Int)+1) →
            ∃ k',k' < k2∧Dj l.length k' (fun q T H'=>∃ is3:List Bool,is3.length=N∧fL is is3∧is3=pg mS (l.take q)∧H' id=.arr 1 (bV is3)∧(∀ k,H k≠.dead→k≠id→H' k=H k)∧T 1=.sl id 0 N 1∧T 2=.fn f [] capt∧T 3=.aO (aw g) 0 ∧
              T 7=gb (!decide (is3=is))∧T 14=.aV (g.rules.map aU)∧T 15=gi g.rules.length∧T 16=gi i∧T 23=encI l∧T 24=gi l.length∧T 25=gi q) T2 (H1.set id (.arr 1 (bV (is3.set n.toNat true)))):=by
          intro T2 a7 a1 a2 a3 a14 a15 a16 a23 a24 a25
          refine bt hk2 (by omega) ⟨is3.set n.toNat true,by simp[hlen3],hle3.trans (.set _ _),by rw[htq,← hst3],by simp[View.set],fun k hk hki=>by simp[View.set,hki,hfr k hk hki],a1,a2,a3,a7,a14,a15,a16,a23,a24,by rw[a25]; rfl⟩
        simp (disch:=omega) only [↓wr,↓reduceIte,wq,ah,ag,aj,ab,ae,af,ai,isNil,Nat.reduceEqDiff,Nat.reduceAdd,Nat.reduceLT,Nat.reduceLeDiff,Int.reduceNeg,Int.reduceToNat,reduceCtorEq,t1,t2,t3,h7,h14,h15,h16,h23,h24,h25,encI,List.getElem?_map,hgq]
        refine av.dec (fun e=>?_) (fun e=>?_)
        · simp (disch:=omega) only [↓wr,↓reduceIte,wq,ah,ag,aj,ab,ae,af,ai,isNil,Nat.reduceEqDiff,Nat.reduceAdd,Nat.reduceLT,Nat.reduceLeDiff,Int.reduceNeg,Int.reduceToNat,reduceCtorEq,t1,t2,t3,h7,h14,h15,h16,h23,h24,h25,encI,hid,hbg,List.length_map]
          refine ⟨by omega,by omega,?_⟩
          try simp (disch:=omega) only [↓wr,↓reduceIte,wq,ah,ag,aj,ab,ae,af,ai,isNil,Nat.reduceEqDiff,Nat.reduceAdd,Nat.reduceLT,Nat.reduceLeDiff,Int.reduceNeg,Int.reduceToNat,reduceCtorEq,t1,t2,t3,h7,h14,h15,h16,h23,h24,h25,encI,hid,hbg,List.length_map]
          refine ⟨by omega,by omega,?_⟩
          rw[jn]
          exact fin _ (by rw[← hnew]; simp[e]; rfl) t1 t2 t3 h14 h15 h16 h23 h24 rfl
        · simp (disch:=omega) only [↓wr,↓reduceIte,wq,ah,ag,aj,ab,ae,af,ai,isNil,Nat.reduceEqDiff,Nat.reduceAdd,Nat.reduceLT,Nat.reduceLeDiff,Int.reduceNeg,Int.reduceToNat,reduceCtorEq,t1,t2,t3,h7,h14,h15,h16,h23,h24,h25,encI,hid,hbg,List.length_map]
          refine ⟨by omega,by omega,?_⟩
          rw[jn]
          exact fin _ (by rw[← hnew]; simp[e]; rfl) t1 t2 t3 h14 h15 h16 h23 h24 rfl
      · rw[List.take_of_length_le (by omega)] at hst3
        simp (disch:=omega) only [↓wr,↓reduceIte,wq,ah,ag,aj,ab,ae,af,ai,isNil,Nat.reduceEqDiff,Nat.reduceAdd,Nat.reduceLT,Nat.reduceLeDiff,Int.reduceNeg,Int.reduceToNat,reduceCtorEq,t1,t2,t3,h7,h14,h15,h16,h23,h24,h25]
        refine bt hk (by omega) ⟨is3,hlen3,hle3,?_,hid,hfr,t1,t2,t3,h7,h14,h15,rfl⟩
        rw[htk,← hst,stepG,hl,← hst3]
    · rw[List.take_of_length_le (by omega)] at hst
      simp (disch:=omega) only [↓wr,↓reduceIte,wq,ah,ag,aj,ab,ae,af,ai,isNil,Nat.reduceEqDiff,Nat.reduceAdd,Nat.reduceLT,Nat.reduceLeDiff,Int.reduceNeg,Int.reduceToNat,reduceCtorEq,t1,t2,t3,h7,h14,h15,h16]
      have hrd:mS=df comes g.rules is:=hst
      by_cases e:mS=is
      · refine ⟨0,by omega,mS,hlen2,hid,hfr,rfl,.inr ⟨by simp[e],?_⟩⟩
        rw[← hgr,e]
        exact (HW (by rw[← hrd]; exact e)).symm
      · obtain ⟨j2,rfl,e2,e3⟩:=HL (k:=j) (fun h=>e (hrd.trans h)) (by rw[hlen]; exact hj)
        refine ⟨j2+1,by omega,mS,hlen2,hid,hfr,rfl,.inl ⟨by simp[e],j2,rfl,?_,?_⟩⟩
        · rw[← hgr,e2,hrd]
        · rw[← hrd,hlen2] at e3; exact e3
  · simp (disch:=omega) only [↓wr,↓reduceIte,wq,ah,ag,aj,ab,ae,af,ai,isNil,Nat.reduceEqDiff,Nat.reduceAdd,Nat.reduceLT,Nat.reduceLeDiff,Int.reduceNeg,Int.reduceToNat,reduceCtorEq,oF,t1,t2,t3,h7,aw,encS]
    exact ⟨hgr ▸ hid,hfr⟩
theorem xX {α:Type} {f:α→α} {x:α} (h:f x=x):∀ n,iter f n x=x
  | 0=>rfl
  | n+1=>by rw[iter,h,xX h n]
theorem C5 {α:Type} (f:α→α):∀ (a b:Nat) (x:α),iter f (a+b) x=iter f b (iter f a x)
  | 0,b,x=>by rw[Nat.zero_add]; rfl
  | a+1,b,x=>by rw[Nat.add_right_comm,iter,iter,C5 f a b]
theorem Ab (comes:aM→List Bool→List Int) (rules:List aM):∀ (k:Nat) (is:List Bool),fO comes rules k is=iter (df comes rules) k is
  | 0,is=>rfl
  | k+1,is=>by
    simp only[fO,iter]
    by_cases e:df comes rules is=is
    · rw[if_pos e,e,xX e]
    · rw[if_neg e,Ab comes rules k]
theorem u6 (comes:aM→List Bool→List Int) (rules:List aM) (is:List Bool) (h:is.length≤16):fO comes rules 16 is=iter (df comes rules) is.length is:=by
  have h1:=(qV comes rules is.length is (by omega)).1
  rw[Ab] at h1 ⊢
  obtain ⟨m,hm⟩:∃ m,16=is.length+m:=⟨16 - is.length,by omega⟩
  rw[hm,C5,xX h1]
def qd (t:Bool) (r:aM) (is:List Bool):List Int:=if dy r.right is t=true then [r.left] else []
def qh (p:List Bool) (r:aM) (is:List Bool):List Int:=if (is.getD r.left.toNat false && dy r.right p true)=true then fy r.right else []
theorem FY (g:an) (t:Bool):df (qd t) g.rules=iH g t:=by
  funext is
  unfold df iH
  congr 1
  funext is r
  unfold stepG qd dx
  split <;> rfl
theorem Aj:∀ (l:List Int) (is:List Bool),pg is (fy l)=l.foldl mark is
  | [],is=>rfl
  | s :: l,is=>by
    have ih:=Aj l
    unfold pg fy at ih ⊢
    rw[List.foldl_cons,← ih]
    unfold mark
    by_cases h:s < 0
    · rw[if_pos h,List.filter_cons_of_pos (by simpa using h)]; rfl
    · rw[if_neg h,List.filter_cons_of_neg (by simpa using h)]
theorem FU (g:an) (p:List Bool):df (qh p) g.rules=mg g p:=by
  funext is
  unfold df mg
  congr 1
  funext is r
  unfold stepG qh eQ
  split
  · exact Aj _ _
  · rfl
theorem Jx {g:an} (h:bH g=true) (t:Bool):fO (qd t) g.rules 16 (bQ g)=aH g t:=by
  have hf:=bI h
  have hl:(bQ g).length=g.au.length:=by simp[bQ]
  have:=hf.au
  rw[u6 _ _ _ (by rw[hl]; exact hf.au),FY,hl,aH,if_pos h]
theorem Kl {g:an} (h:bH g=true):fO (qh (aH g true)) g.rules 16 ((bQ g).set g.start.toNat true)=bB g:=by
  have hf:=bI h
  have hl:((bQ g).set g.start.toNat true).length=g.au.length:=by simp[bQ]
  rw[u6 _ _ _ (by rw[hl]; exact hf.au),FU,hl,bB,if_pos h]
def oT:SF:=⟨.seq (ak [cr 1 0,((some 2),.op (.bg (.val (.emp 1))))]) <|
  .seq (.seq (ak [aJ 3 4 1,aF 4 52 [3],bW 5 4]) <|
  .cond (.tmp 5) (.seq (ak [((some 2),.op (.bg (.val (.emp 1))))]) <|
  .ret) (.skip)) <|
  .seq (ak [aJ 6 4 1,aq 7 1 1,ao 8 7,aI 9 8,((some 10),.op (.make 1 1 [(.val (.bool false))] (.tmp 9) (.tmp 9))),cU 11 169 [(.tmp 6),(.tmp 10),(.val (.fn 195 [] []))],aa 2 11]) <|
  .ret,
  [.tmp 2],12⟩
theorem um:bh Tryz.prog 157 [1]=some oT:=by kernel_rfl
def qq:SF:=⟨.seq (ak [cr 1 0,((some 2),.op (.bg (.val (.emp 1))))]) <|
  .seq (.seq (ak [aJ 5 4 1,aF 6 52 [5],bW 7 6]) <|
  .cond (.tmp 7) (.seq (ak [((some 2),.op (.bg (.val (.emp 1))))]) <|
  .ret) (.skip)) <|
  .seq (ak [aJ 8 4 1,aF 9 157 [8],((some 3),.op (.alloc [(.emp 1)])),(none,.op (.store 1 (.tmp 3) (.tmp 9)))]) <|
  .seq (ak [aq 10 1 1,ao 11 10,aI 12 11,((some 13),.op (.make 1 1 [(.val (.bool false))] (.tmp 12) (.tmp 12))),aa 4 13]) <|
  .seq (ak [aa 14 4,aq 15 3 1,ao 16 15,aL 17 1 14 16,(none,.op (.store 1 (.tmp 17) (.val (.val (.bool true)))))]) <|
  .seq (ak [aJ 18 4 1,aa 19 4,((some 20),.op (.rO 196 [] [(.tmp 3)])),aF 21 169 [18,19,20],aa 2 21]) <|
  .ret,
  [.tmp 2],22⟩
theorem uX:bh Tryz.prog 158 [1]=some qq:=by kernel_rfl
structure an.Small (g:an):Prop where
  names:g.au.length+g.ax.length≤1000
theorem Ct {h':aB} {id n:Nat} {is:List Bool} (hv:h'.view id=.arr 1 (bV is)) (hn:n=is.length):dA h' (.sl id 0 n 1) (bM is):=by
  subst hn; exact ot hv
set_option maxHeartbeats 2000000 in
theorem sn (g:an) (hg:g.Ok) (hs:g.Small):dF Tryz.prog 157 [.agg (aw g)] (bM (aH g true)):=by
  refine dF.of (e9 g) ?_
  refine aA.of mixed um ?_
  have hn:=hg.au
  unfold aX at hn
  simp (disch:=omega) only [↓wr,↓reduceIte,wq,ah,ag,aj,ab,ae,af,ai,isNil,Nat.reduceEqDiff,Nat.reduceAdd,Nat.reduceLT,Nat.reduceLeDiff,Int.reduceNeg,Int.reduceToNat,reduceCtorEq,oT,aw,encS]
  refine aE.pure (q6 g hg hs.names) (by kernel_rfl) ?_
  repeat' (first | (refine av.dec (fun _=>?_) (fun _=>?_)) | (refine av.eq (fun _=>?_) (fun _=>?_)) | (refine av.ne (fun _=>?_) (fun _=>?_)) | (refine av.split (fun _=>?_) (fun _=>?_)) | (simp (disch:=omega) only [↓wr,↓reduceIte,wq,ah,ag,aj,ab,ae,af,ai,isNil,Nat.reduceEqDiff,Nat.reduceAdd,Nat.reduceLT,Nat.reduceLeDiff,Int.reduceNeg,Int.reduceToNat,reduceCtorEq,aw,encS]))
  · rename_i hr
    have hf:=bI hr
    have h1:=hf.q8
    have h2:=hf.au
    try simp (disch:=omega) only [↓wr,↓reduceIte,wq,ah,ag,aj,ab,ae,af,ai,isNil,Nat.reduceEqDiff,Nat.reduceAdd,Nat.reduceLT,Nat.reduceLeDiff,Int.reduceNeg,Int.reduceToNat,reduceCtorEq,aw,encS]
    refine ⟨⟨by omega,by unfold aN; omega,by unfold aN; omega⟩,fun h=>by omega,?_⟩
    intro _ n
    try simp (disch:=omega) only [↓wr,↓reduceIte,wq,ah,ag,aj,ab,ae,af,ai,isNil,Nat.reduceEqDiff,Nat.reduceAdd,Nat.reduceLT,Nat.reduceLeDiff,Int.reduceNeg,Int.reduceToNat,reduceCtorEq,aw,encS]
    refine aE.oO ((FN g hf.rules (qd true) 195 [] [] (by kernel_rfl) g.au.length h2 (fun r hr' is his=>⟨AH r is (by rw[his]; exact hf.sN hg hr'),?_,?_⟩) n (bQ g) (by simp[bQ]) _ (by simp[View.set,bQ]) (fun H' _=>trivial)).mono ?_)
    · unfold qd; split <;> simp
    · intro m hm
      unfold qd at hm
      split at hm
      · simp only[List.mem_singleton] at hm; subst hm
        exact ⟨(hg.aG r hr').1,hf.left r hr'⟩
      · simp at hm
    · rintro r H' ⟨rfl,hid,_⟩
      simp (disch:=omega) only [↓wr,↓reduceIte,wq,ah,ag,aj,ab,ae,af,ai,isNil,Nat.reduceEqDiff,Nat.reduceAdd,Nat.reduceLT,Nat.reduceLeDiff,Int.reduceNeg,Int.reduceToNat,reduceCtorEq]
      intro h' hh
      rw[Jx hr] at hid
      exact Ct (by rw[hh]; exact hid) (iL hr _).symm
  · rename_i hr
    intro h' hh
    simp only[aH,hr]
    exact .emp _
theorem nk {g:an} (hr:bH g=true):(bB g).length=g.au.length:=by
  rw[bB,if_pos hr,yj (f:=mg g (aH g true)) (fun is=>x4 (fun is x=>Kr _ is x) g.rules is)]
  simp[bQ]
set_option maxHeartbeats 2000000 in
theorem CC (g:an) (hg:g.Ok) (hs:g.Small):dF Tryz.prog 158 [.agg (aw g)] (bM (bB g)):=by
  refine dF.of (e9 g) ?_
  refine aA.of mixed uX ?_
  have hn:=hg.au
  unfold aX at hn
  simp (disch:=omega) only [↓wr,↓reduceIte,wq,ah,ag,aj,ab,ae,af,ai,isNil,Nat.reduceEqDiff,Nat.reduceAdd,Nat.reduceLT,Nat.reduceLeDiff,Int.reduceNeg,Int.reduceToNat,reduceCtorEq,qq,aw,encS]
  refine aE.pure (q6 g hg hs.names) (by kernel_rfl) ?_
  repeat' (first | (refine av.dec (fun _=>?_) (fun _=>?_)) | (refine av.eq (fun _=>?_) (fun _=>?_)) | (refine av.ne (fun _=>?_) (fun _=>?_)) | (refine av.split (fun _=>?_) (fun _=>?_)) | (simp (disch:=omega) only [↓wr,↓reduceIte,wq,ah,ag,aj,ab,ae,af,ai,isNil,Nat.reduceEqDiff,Nat.reduceAdd,Nat.reduceLT,Nat.reduceLeDiff,Int.reduceNeg,Int.reduceToNat,reduceCtorEq,aw,encS]))
  · rename_i hr
    have hf:=bI hr
    have h1:=hf.q8
    have h2:=hf.au
    have h3:=hf.jo
    have h4:=hf.start
    have hpl:=iL hr true
    try simp (disch:=omega) only [↓wr,↓reduceIte,wq,ah,ag,aj,ab,ae,af,ai,isNil,Nat.reduceEqDiff,Nat.reduceAdd,Nat.reduceLT,Nat.reduceLeDiff,Int.reduceNeg,Int.reduceToNat,reduceCtorEq,aw,encS]
    refine aE.pure (sn g hg hs).pure (by kernel_rfl) ?_
    simp (disch:=omega) only [↓wr,↓reduceIte,wq,ah,ag,aj,ab,ae,af,ai,isNil,Nat.reduceEqDiff,Nat.reduceAdd,Nat.reduceLT,Nat.reduceLeDiff,Int.reduceNeg,Int.reduceToNat,reduceCtorEq,aw,encS,bM]
    intro q
    try simp (disch:=omega) only [↓wr,↓reduceIte,wq,ah,ag,aj,ab,ae,af,ai,isNil,Nat.reduceEqDiff,Nat.reduceAdd,Nat.reduceLT,Nat.reduceLeDiff,Int.reduceNeg,Int.reduceToNat,reduceCtorEq,aw,encS,set_set]
    refine ⟨⟨by omega,by unfold aN; omega,by unfold aN; omega⟩,fun h=>by omega,?_⟩
    intro _ n hn'
    have hnq:=(cF hn' cy).1
    try simp (disch:=omega) only [↓wr,↓reduceIte,wq,ah,ag,aj,ab,ae,af,ai,isNil,Nat.reduceEqDiff,Nat.reduceAdd,Nat.reduceLT,Nat.reduceLeDiff,Int.reduceNeg,Int.reduceToNat,reduceCtorEq,aw,encS,set_set]
    have hbg:=jv (is:=bQ g) (show g.start.toNat < (bQ g).length by simp[bQ]; omega)
    refine ⟨by omega,by simp; omega,?_⟩
    refine aE.oO ((FN g hf.rules (qh (aH g true)) 196 [.ptr q 0 0] [.aO [bM (aH g true)] 0] (by kernel_rfl) g.au.length h2 (fun r hr' is his=>⟨Cz r is (aH g true) (by rw[his]; exact hf.sN hg hr') (by rw[his,hpl]),?_,?_⟩) n ((bQ g).set g.start.toNat true) (by simp[bQ]) _ ?_ (fun H' hfr=>⟨en.box (z:=1) ?_ ?_,trivial⟩)).mono ?_)
    · have h6:=hf.right r hr'
      unfold qh
      split
      · have:(fy r.right).length≤r.right.length:=by simp only[fy,List.length_map]; exact List.length_filter_le _ _
        omega
      · simp
    · intro m hm
      unfold qh at hm
      split at hm
      · simp only[fy,List.mem_map,List.mem_filter,decide_eq_true_eq] at hm
        obtain ⟨s,⟨hs',hneg⟩,rfl⟩:=hm
        have a:=hf.neg hr' hs' hneg
        have b:=((hg.aG r hr').2.2.2 s hs').1
        exact ⟨⟨by omega,by omega⟩,by omega,a⟩
      · simp at hm
    · simp only[View.set,if_true]
      congr 1
      rw[← jn]
      unfold bQ at hbg ⊢
      rw[vz,hbg]
      rfl
    · rw[hfr q (by simp[View.set,Ne.symm hnq]) (Ne.symm hnq)]
      simp[View.set,Ne.symm hnq]
      rfl
    · intro v hv; simp at hv; subst hv; exact ik _
    · rintro r H' ⟨rfl,hid,_⟩
      simp (disch:=omega) only [↓wr,↓reduceIte,wq,ah,ag,aj,ab,ae,af,ai,isNil,Nat.reduceEqDiff,Nat.reduceAdd,Nat.reduceLT,Nat.reduceLeDiff,Int.reduceNeg,Int.reduceToNat,reduceCtorEq]
      intro h' hh
      rw[Kl hr] at hid
      exact Ct (by rw[hh]; exact hid) (by rw[nk hr])
  · rename_i hr
    intro h' hh
    simp only[bB,hr]
    exact .emp _
def bz (p q:List Bool) (r:aM):Bool:=q.getD r.left.toNat false && dy r.right p true
def b6 (p q:List Bool):List aM→Int→List Int
  | [],_=>[]
  | r :: l,i=>if bz p q r=true then i :: b6 p q l (i+1) else b6 p q l (i+1)
def dd (acc:List Int) (r:aM):List Int:=if r.left∈acc then acc else acc ++ [r.left]
def bK (p q:List Bool) (l:List aM):List Int:=(l.filter (bz p q)).foldl dd []
def bf (o:List Int) (x:Int):Int:=di (fun y=>y == x) o 0
def bb (f:Int→Int) (r:aM):aM:=⟨f r.left,r.right.map fun s=>if s < 0 then -1 - f (-1 - s) else s,r.prec⟩
def j7 (g:an) (f:Int→Int) (p q:List Bool):an :=
  ⟨g.ax,(bK p q g.rules).map fun x=>g.au.getD x.toNat ⟨#[]⟩,(g.rules.filter (bz p q)).map (bb f),f g.start⟩
def qC:an:=⟨[],[],[],0⟩
instance:DecidableEq Term:=fun a b=>decidable_of_iff (a.name=b.name∧a.level=b.level∧a.assoc=b.assoc) (by cases a; cases b; simp)
instance:DecidableEq aM:=fun a b=>decidable_of_iff (a.left=b.left∧a.prec=b.prec∧a.right=b.right) (by cases a; cases b; simp[and_comm])
instance:DecidableEq an:=fun a b=>decidable_of_iff (a.ax=b.ax∧a.au=b.au∧a.rules=b.rules∧a.start=b.start) (by cases a; cases b; simp)
def eW (g:an):an × List Int × Int :=
  if bH g=true then
    if (aH g true).getD g.start.toNat false=true then (j7 g (bf (bK (aH g true) (bB g) g.rules)) (aH g true) (bB g),b6 (aH g true) (bB g) g.rules 0,0)
    else (qC,[],9)
  else (qC,[],1)
theorem vM {g:an} (hr:bH g=true):eW g=if (aH g true).getD g.start.toNat false=true then (j7 g (bf (bK (aH g true) (bB g) g.rules)) (aH g true) (bB g),b6 (aH g true) (bB g) g.rules 0,0) else (qC,[],9):=by
  rw[eW,if_pos hr]
theorem jD (p q:List Bool):∀ (a b:List aM) (i:Int),b6 p q (a ++ b) i=b6 p q a i ++ b6 p q b (i+a.length)
  | [],b,i=>by simp[b6]
  | r :: a,b,i=>by
    simp only[List.cons_append,b6,jD p q a b (i+1),List.length_cons]
    have:i+1+(a.length:Int)=i+((a.length+1:Nat):Int):=by push_cast; omega
    rw[this]
    split <;> simp
theorem jd (p q:List Bool):∀ (a:List aM) (i:Int),(b6 p q a i).length=(a.filter (bz p q)).length
  | [],i=>rfl
  | r :: a,i=>by
    simp only[b6,List.filter_cons]
    split <;> simp[jd p q a]
theorem qB (p q:List Bool):∀ (a:List aM) (i:Int) (k:Nat),k < (b6 p q a i).length→∃ m:Nat,(b6 p q a i)[k]?=some (i+m)∧a[m]?=(a.filter (bz p q))[k]?∧m < a.length
  | [],i,k,h=>by simp[b6] at h
  | r :: a,i,k,h=>by
    simp only[b6,List.filter_cons] at h ⊢
    by_cases hr:bz p q r=true
    · rw[if_pos hr] at h ⊢
      rw[if_pos hr]
      cases k with
      | zero=>exact ⟨0,by simp,by simp,by simp⟩
      | succ k =>
        obtain ⟨m,h1,h2,h3⟩:=qB p q a (i+1) k (by simpa using h)
        exact ⟨m+1,by rw[List.getElem?_cons_succ,h1]; congr 1; push_cast; omega,by simpa using h2,by simpa using h3⟩
    · rw[if_neg hr] at h ⊢
      rw[if_neg hr]
      obtain ⟨m,h1,h2,h3⟩:=qB p q a (i+1) k h
      exact ⟨m+1,by rw[h1]; congr 1; push_cast; omega,by simpa using h2,by simpa using h3⟩
theorem rf (p q:List Bool) (l:List aM) (r:aM):bK p q (l ++ [r])=if bz p q r=true then dd (bK p q l) r else bK p q l:=by
  unfold bK
  rw[List.filter_append]
  by_cases h:bz p q r=true
  · rw[if_pos h,List.filter_cons_of_pos h,List.foldl_append]; rfl
  · rw[if_neg h,List.filter_cons_of_neg h]; simp
theorem Iw {acc:List Int} {r:aM} (h:acc.Nodup):(dd acc r).Nodup:=by
  unfold dd
  split
  · exact h
  · rename_i hn
    rw[List.nodup_append]
    exact ⟨h,by simp,fun a ha b hb e=>hn (by simp at hb; rw[← hb,← e]; exact ha)⟩
theorem qb {o:List Int} {x:Int} : bf o x < 0↔x ∉ o:=by
  have:=te (fun y=>y == x) o 0 (by omega)
  unfold bf
  rw[← Int.not_le]
  constructor
  · intro h hx
    have e:(o.any fun y=>y == x)=true:=List.any_eq_true.2 ⟨x,hx,by simp⟩
    rw[e] at this; exact h (by simpa using this)
  · intro h hx
    have e:(o.any fun y=>y == x)=true:=by rw[← this]; simpa using hx
    obtain ⟨y,hy,e⟩:=List.any_eq_true.1 e
    simp at e; subst e; exact h hy
theorem rL {α:Type} (p:α→Bool):∀ (a b:List α) (i:Int),0≤i→di p (a ++ b) i=if 0≤di p a i then di p a i else di p b (i+a.length)
  | [],b,i,_=>by simp[di]
  | x :: a,b,i,h=>by
    by_cases hp:p x=true
    · simp[di,hp,h]
    · simp only[List.cons_append,di,if_neg hp]
      rw[rL p a b (i+1) (by omega)]
      have:i+1+(a.length:Int)=i+(((x :: a).length:Nat):Int):=by simp; omega
      rw[this]
theorem Kj {o:List Int} {x y:Int} (hx:x ∉ o):bf (o ++ [x]) y=if y=x then (o.length:Int) else bf o y:=by
  unfold bf
  rw[rL _ _ _ _ (by omega)]
  by_cases e:y=x
  · subst e
    rw[if_neg (by have:=qb.2 hx; unfold bf at this; omega),if_pos rfl]
    simp[di]
  · rw[if_neg e]
    split
    · rfl
    · rename_i h
      have:bf o y < 0:=by unfold bf; omega
      have h2:di (fun z=>z == y) [x] (0+(o.length:Int)) = -1:=by simp[di,Ne.symm e]
      rw[h2]
      have:∀ (l:List Int) (i:Int),¬ 0≤di (fun z=>z == y) l i→0≤i→di (fun z=>z == y) l i = -1:=by
        intro l
        induction l with
        | nil=>intro i _ _; rfl
        | cons z l ih =>
          intro i h1 h2
          simp only[di] at h1 ⊢
          split
          · rename_i hz; rw[if_pos hz] at h1; omega
          · rename_i hz; rw[if_neg hz] at h1; exact ih _ h1 (by omega)
      exact (this o 0 h (by omega)).symm
theorem jR {o:List Int} {x:Int} (h:x∈o):0≤bf o x∧bf o x < o.length:=by
  have h0:¬ bf o x < 0:=fun e=>qb.1 e h
  refine ⟨by omega,?_⟩
  unfold bf
  have:∀ (l:List Int) (i:Int),di (fun z=>z == x) l i < i+l.length∨di (fun z=>z == x) l i = -1:=by
    intro l
    induction l with
    | nil=>intro i; right; rfl
    | cons z l ih =>
      intro i
      simp only[di]
      split
      · left; simp; omega
      · rcases ih (i+1) with h | h
        · left; simp at h ⊢; omega
        · right; exact h
  rcases this o 0 with h1 | h1
  · simpa using h1
  · unfold bf at h0; omega
theorem Bb (o:List Int) (x:Int) : -1≤bf o x∧bf o x≤o.length:=by
  by_cases h:x∈o
  · have:=jR h; omega
  · have h1:=qb.2 h
    have h2:∀ (l:List Int) (i:Int),0≤i→-1≤di (fun z=>z == x) l i:=by
      intro l
      induction l with
      | nil=>intro i _; simp[di]
      | cons z l ih =>
        intro i hi
        simp only[di]
        split
        · omega
        · exact ih _ (by omega)
    have:=h2 o 0 (by omega)
    unfold bf at h1 ⊢
    omega
def iz:List Int→Int→List (Int × Int)
  | [],_=>[]
  | x :: l,i=>(x,i) :: iz l (i+1)
theorem qN (x:Int):∀ (o:List Int) (i:Int),dq (iz o i) x=if x∈o then some (di (fun y=>y == x) o i) else none
  | [],i=>by simp[iz,dq]
  | y :: o,i=>by
    have ih:=qN x o (i+1)
    unfold dq at ih ⊢
    simp only[iz,List.find?_cons,di]
    by_cases e:x=y
    · subst e; simp
    · have e2:¬ ((y == x)=true):=by simp[Ne.symm e]
      rw[show (x == y)=false by simp[e],if_neg e2]
      simp only
      rw[ih]
      simp[e]
theorem BT {x v:Int} : ∀ {o:List Int} {i:Int},x ∉ o→iM x v (iz o i)=iz o i ++ [(x,v)]
  | [],i,_=>rfl
  | y :: o,i,h=>by
    simp only[List.mem_cons,not_or] at h
    simp only[iz,iM,show (x == y)=false by simp[h.1],Bool.false_eq_true,if_false,BT h.2,List.cons_append]
theorem zR {x:Int} : ∀ {o:List Int} {i:Int},iz (o ++ [x]) i=iz o i ++ [(x,i+o.length)]
  | [],i=>by simp[iz]
  | y :: o,i=>by
    simp only[List.cons_append,iz,zR (o:=o),List.length_cons]
    congr 4
    push_cast; omega
def dh (o:List Int) (x:Int):Int:=(dq (iz o 0) x).getD 0
theorem xg {o:List Int} {x:Int} (h:x∈o):dh o x=bf o x:=by
  simp[dh,qN,h,bf]
theorem Nv (o:List Int) (x:Int):0≤dh o x∧dh o x≤o.length:=by
  by_cases h:x∈o
  · rw[xg h]; have:=jR h; omega
  · simp[dh,qN,h]
theorem JX {g:an} {p q:List Bool} (hst:g.start∈bK p q g.rules) (hin:∀ r∈g.rules.filter (bz p q),r.left∈bK p q g.rules∧∀ s∈r.right,s < 0→-1 - s∈bK p q g.rules) :
    j7 g (dh (bK p q g.rules)) p q=j7 g (bf (bK p q g.rules)) p q:=by
  unfold j7
  congr 1
  · apply List.map_congr_left
    intro r hr
    obtain ⟨h1,h2⟩:=hin r hr
    unfold bb
    congr 1
    · exact xg h1
    · apply List.map_congr_left
      intro s hs
      split
      · rename_i h; rw[xg (h2 s hs h)]
      · rfl
  · exact xg hst
theorem r7:∀ (l:List aM) (acc:List Int) (x:Int),x∈l.foldl dd acc↔x∈acc∨∃ r∈l,r.left=x
  | [],acc,x=>by simp
  | r :: l,acc,x=>by
    rw[List.foldl_cons,r7 l]
    have:x∈dd acc r↔x∈acc∨r.left=x:=by
      unfold dd
      split
      · rename_i h
        constructor
        · exact .inl
        · rintro (h' | rfl)
          · exact h'
          · exact h
      · simp[eq_comm]
    rw[this]
    simp only[List.mem_cons,exists_eq_or_imp]
    constructor
    · rintro ((h | h) | h)
      · exact .inl h
      · exact .inr (.inl h)
      · exact .inr (.inr h)
    · rintro (h | h | h)
      · exact .inl (.inl h)
      · exact .inl (.inr h)
      · exact .inr h
theorem Dm {p q:List Bool} {l:List aM} {x:Int} : x∈bK p q l↔∃ r∈l,bz p q r=true∧r.left=x:=by
  unfold bK
  rw[r7]
  simp[List.mem_filter,and_assoc]
end Gv
