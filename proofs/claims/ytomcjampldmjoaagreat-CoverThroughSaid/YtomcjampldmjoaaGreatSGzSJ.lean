/-
  Part 10 of the proof: what the machine does and what the functions answer.
  Conditions: those that each lemma names.
-/
import Derived.Test.YtomcjampldmjoaaGreatSGzSI
set_option linter.unusedSimpArgs false
set_option linter.unusedVariables false
set_option maxRecDepth 100000
namespace Gv
open Go Go.Proofs
theorem bY.gh {P:Program} {f:FuncId} {h:aE} (h1:bY P f [.emp 1] h (.emp 1) h) (h2:bY P f [.emp 2] h (.emp 2) h) (h3:bY P f [.dI] h (.emp 2) h):bY P f [.aY []] h (.emp 0) h:=by
  refine ⟨Nat.le_refl _,fun Z μ F w xs hrel hr hfree=>?_⟩
  obtain ⟨hl,hv⟩:=hrel
  obtain ⟨x,rfl⟩:∃ x,xs=[x]:=by
    match xs,hl with
    | [x],_=>exact ⟨x,rfl⟩
  have h0:aB Z μ w.heap (.aY []) x:=hv 0 (by simp)
  have one:∀ v,aB Z μ w.heap v x→eo Z μ w.heap [v] [x]:=fun v h=>⟨rfl,fun i hi=>by
    simp at hi; subst hi; exact h⟩
  have weak:∀ k,bY P f [if k=3 then .dI else .emp k] h (if k=3 then .emp 2 else .emp k) h→aB Z μ w.heap (if k=3 then .dI else .emp k) x→Calls P f [x].toArray w fun e w'=>∃ x Z' μ',e=.returned x∧aB Z' μ' w'.heap (.emp 0) x∧gj Z' μ' w'.heap (cat h F)∧Ext Z μ w h.length Z' μ' w'∧(∀ id,id < h.length∨h.length≤id→μ' id=μ id):=by
    intro k hk hx
    refine (hk.2 Z μ F w [x] (one _ hx) hr hfree).mono ?_
    rintro e w' ⟨y,Z',μ',rfl,hy,rest⟩
    refine ⟨y,Z',μ',rfl,?_,rest⟩
    have:∀ k',aB Z' μ' w'.heap (.emp k') y→aB Z' μ' w'.heap (.emp 0) y:=fun k' h=>by
      cases h with | emp _ a _ _=>exact .emp 0 a (by simp) (by simp)
    split at hy <;> exact this _ hy
  rcases FG h0 with ⟨_,a,cap,rfl,hz⟩ | ⟨b,off,esz,cap,c,rfl,_,_,_⟩
  · cases a with
    | none =>
      have:=hz rfl
      subst this
      exact weak 1 (by simpa using h1) (.emp 1 none (by simp) (by simp))
    | some a =>
      cases cap with
      | zero=>exact weak 2 (by simpa using h2) (.emp 2 (some a) (by simp) (by simp))
      | succ c=>exact weak 3 (by simpa using h3) (.dI a (c+1))
  · cases cap with
    | zero=>exact weak 2 (by simpa using h2) (.emp 2 (some ⟨b,off,none⟩) (by simp) (by simp))
    | succ c=>exact weak 3 (by simpa using h3) (.dI ⟨b,off,none⟩ (c+1))
def xi (sz:Nat) (es:List (List V)) (H:View) (K:V→View→Prop):Prop :=
  (es=[]→∀ k,K (.emp k) H)∧(es≠[]→∀ n,H n=.dead→K (.sl n 0 es.length sz) (H.set n (.arr sz es)))
def cJ:SF:=⟨.seq (ak [((some 2),.op (.aZ (.val (.emp 1))))]) <|
  .seq (.seq (ak [ae 3 0,((some 4),.op (.nil true 0 (.tmp 3) (.val (.emp 1))))]) <|
  .cond (.tmp 4) (.seq (ak [((some 2),.op (.aZ (.val (.emp 1))))]) <|
  .ret) (.skip)) <|
  .seq (ak [((some 5),.op (.aZ (.val (.emp 2)))),ae 6 0,((some 7),.op (.app 1 16 (.tmp 5) (.tmp 6))),ae 2 7]) <|
  .ret,
  [.tmp 2],8⟩
theorem c6:aU Tryz.prog 80 []=some cJ:=by kernel_rfl
def dC:SF:=⟨.seq (ak [((some 2),.op (.aZ (.val (.emp 1))))]) <|
  .seq (.seq (ak [ae 3 0,((some 4),.op (.nil true 0 (.tmp 3) (.val (.emp 1))))]) <|
  .cond (.tmp 4) (.seq (ak [((some 2),.op (.aZ (.val (.emp 1))))]) <|
  .ret) (.skip)) <|
  .seq (ak [((some 5),.op (.aZ (.val (.emp 2)))),ae 6 0,((some 7),.op (.app 1 8 (.tmp 5) (.tmp 6))),ae 2 7]) <|
  .ret,
  [.tmp 2],8⟩
theorem dL:aU Tryz.prog 164 []=some dC:=by kernel_rfl
def ct:SF:=⟨.seq (ak [((some 2),.op (.aZ (.val (.emp 1))))]) <|
  .seq (.seq (ak [ae 3 0,((some 4),.op (.nil true 0 (.tmp 3) (.val (.emp 1))))]) <|
  .cond (.tmp 4) (.seq (ak [((some 2),.op (.aZ (.val (.emp 1))))]) <|
  .ret) (.skip)) <|
  .seq (ak [((some 5),.op (.aZ (.val (.emp 2)))),ae 6 0,((some 7),.op (.app 3 32 (.tmp 5) (.tmp 6))),ae 2 7]) <|
  .ret,
  [.tmp 2],8⟩
theorem cG:aU Tryz.prog 162 []=some ct:=by kernel_rfl
theorem aF.tree {P:Program} {f:FuncId} {vs:List V} {t:V} (hv:∀ v∈vs,Tree v) (ht:Tree t) (h:∀ H,az P f vs H fun r _=>r=t):aF P f vs t :=
  aF.of hv ((h _).mono fun r H' e h' _=>by rw[e]; exact .tree _ ht)
theorem sO {H:View} : ca H .dI=some ([],[]):=id rfl
theorem ko {H:View} (sz bytes k:Nat) (K:V→View→Prop) (w:cF (H,K)):mD sz bytes (.emp k) [] H K w=K (.emp k) H:=propext Iff.rfl
theorem Il (l:List ByteArray) (hl:l.length≤100000) (H:View) (K:V→View→Prop) (hk:xi 1 (l.map fun s=>[gs s]) H K):az Tryz.prog 80 [encS l] H K:=by
  cases l with
  | nil =>
    have hp:∀ v t,Tree v→Tree t→(∀ H,az Tryz.prog 80 [v] H fun r _=>r=t)→aF Tryz.prog 80 [v] t:=fun v t hv ht h=>aF.tree (by intro x hx; simp at hx; subst hx; exact hv) ht h
    have h1:=hp (.emp 1) (.emp 1) (.emp 1) (.emp 1) (fun H=>by
      refine az.of mixed c6 ?_
      simp (disch:=omega) only [↓wr,↓reduceIte,wq,ah,ai,isNil,Nat.reduceLeDiff,reduceCtorEq,cJ])
    have h2:=hp (.emp 2) (.emp 2) (.emp 2) (.emp 2) (fun H=>by
      refine az.of mixed c6 ?_
      simp (disch:=omega) only [↓wr,↓reduceIte,wq,ah,ai,isNil,Nat.reduceEqDiff,Nat.reduceLeDiff,reduceCtorEq,cJ,ko])
    have h3:=hp .dI (.emp 2) .dI (.emp 2) (fun H=>by
      refine az.of mixed c6 ?_
      simp (disch:=omega) only [↓wr,↓reduceIte,wq,ah,ai,isNil,Nat.reduceEqDiff,Nat.reduceLeDiff,reduceCtorEq,cJ,sO,ko])
    refine ⟨by kernel_rfl,?_⟩
    rintro h rfl
    exact ⟨.emp 0,h,bY.gh (bY.gD h1 h) (bY.gD h2 h) (bY.gD h3 h),.refl _,hk.1 rfl 0⟩
  | cons x r =>
    refine az.of mixed c6 ?_
    simp only[List.length_cons] at hl
    simp (disch:=omega) only [↓wr,↓reduceIte,wq,ah,ai,isNil,Nat.reduceEqDiff,Nat.reduceLeDiff,reduceCtorEq,cJ,encS]
    refine ⟨?_,?_,?_⟩
    · simp[List.all_map,aO]
    · unfold aG; simp; omega
    · intro n hn
      have:=hk.2 (by simp) n hn
      simp (disch:=omega) only [↓wr,↓reduceIte,wq,reduceCtorEq]
      simpa [cr] using this
theorem IK (l:List Int) (hl:l.length≤100000) (H:View) (K:V→View→Prop) (hk:xi 1 (l.map fun s=>[gi s]) H K):az Tryz.prog 164 [encI l] H K:=by
  cases l with
  | nil =>
    have hp:∀ v t,Tree v→Tree t→(∀ H,az Tryz.prog 164 [v] H fun r _=>r=t)→aF Tryz.prog 164 [v] t:=fun v t hv ht h=>aF.tree (by intro x hx; simp at hx; subst hx; exact hv) ht h
    have h1:=hp (.emp 1) (.emp 1) (.emp 1) (.emp 1) (fun H=>by
      refine az.of mixed dL ?_
      simp (disch:=omega) only [↓wr,↓reduceIte,wq,ah,ai,isNil,Nat.reduceLeDiff,reduceCtorEq,dC])
    have h2:=hp (.emp 2) (.emp 2) (.emp 2) (.emp 2) (fun H=>by
      refine az.of mixed dL ?_
      simp (disch:=omega) only [↓wr,↓reduceIte,wq,ah,ai,isNil,Nat.reduceEqDiff,Nat.reduceLeDiff,reduceCtorEq,dC,ko])
    have h3:=hp .dI (.emp 2) .dI (.emp 2) (fun H=>by
      refine az.of mixed dL ?_
      simp (disch:=omega) only [↓wr,↓reduceIte,wq,ah,ai,isNil,Nat.reduceEqDiff,Nat.reduceLeDiff,reduceCtorEq,dC,sO,ko])
    refine ⟨by kernel_rfl,?_⟩
    rintro h rfl
    exact ⟨.emp 0,h,bY.gh (bY.gD h1 h) (bY.gD h2 h) (bY.gD h3 h),.refl _,hk.1 rfl 0⟩
  | cons x r =>
    refine az.of mixed dL ?_
    simp only[List.length_cons] at hl
    simp (disch:=omega) only [↓wr,↓reduceIte,wq,ah,ai,isNil,Nat.reduceEqDiff,Nat.reduceLeDiff,reduceCtorEq,dC,encI]
    refine ⟨?_,?_,?_⟩
    · simp[List.all_map,aO]
    · unfold aG; simp; omega
    · intro n hn
      have:=hk.2 (by simp) n hn
      simp (disch:=omega) only [↓wr,↓reduceIte,wq,reduceCtorEq]
      simpa [cr] using this
theorem JL (l:List Term) (hl:l.length≤100000) (H:View) (K:V→View→Prop) (hk:xi 3 (l.map cr) H K):az Tryz.prog 162 [dE l] H K:=by
  cases l with
  | nil =>
    have hp:∀ v t,Tree v→Tree t→(∀ H,az Tryz.prog 162 [v] H fun r _=>r=t)→aF Tryz.prog 162 [v] t:=fun v t hv ht h=>aF.tree (by intro x hx; simp at hx; subst hx; exact hv) ht h
    have h1:=hp (.emp 1) (.emp 1) (.emp 1) (.emp 1) (fun H=>by
      refine az.of mixed cG ?_
      simp (disch:=omega) only [↓wr,↓reduceIte,wq,ah,ai,isNil,Nat.reduceLeDiff,reduceCtorEq,ct])
    have h2:=hp (.emp 2) (.emp 2) (.emp 2) (.emp 2) (fun H=>by
      refine az.of mixed cG ?_
      simp (disch:=omega) only [↓wr,↓reduceIte,wq,ah,ai,isNil,Nat.reduceEqDiff,Nat.reduceLeDiff,reduceCtorEq,ct,ko])
    have h3:=hp .dI (.emp 2) .dI (.emp 2) (fun H=>by
      refine az.of mixed cG ?_
      simp (disch:=omega) only [↓wr,↓reduceIte,wq,ah,ai,isNil,Nat.reduceEqDiff,Nat.reduceLeDiff,reduceCtorEq,ct,sO,ko])
    refine ⟨by kernel_rfl,?_⟩
    rintro h rfl
    exact ⟨.emp 0,h,bY.gh (bY.gD h1 h) (bY.gD h2 h) (bY.gD h3 h),.refl _,hk.1 rfl 0⟩
  | cons x r =>
    refine az.of mixed cG ?_
    simp only[List.length_cons] at hl
    simp (disch:=omega) only [↓wr,↓reduceIte,wq,ah,ai,isNil,Nat.reduceEqDiff,Nat.reduceLeDiff,reduceCtorEq,ct,dE,cr]
    refine ⟨?_,?_,?_⟩
    · simp[List.all_map,cr,aO]
    · unfold aG; simp; omega
    · intro n hn
      have:=hk.2 (by simp) n hn
      simp (disch:=omega) only [↓wr,↓reduceIte,wq,reduceCtorEq]
      simpa [cr] using this
theorem xi.own {sz:Nat} {es:List (List V)} {H:View} : xi sz es H fun r H'=>aV H' r sz es∧cY H H' r :=
  ⟨fun he k=>⟨by rw[he]; exact .nil,.emp⟩,fun _ n hn=>⟨.new,.new hn⟩⟩
theorem JJ (l:List ByteArray) (hl:l.length≤100000) (H:View):az Tryz.prog 80 [encS l] H fun r H'=>aV H' r 1 (l.map fun s=>[gs s])∧cY H H' r:=Il l hl H _ .own
theorem ID (l:List Int) (hl:l.length≤100000) (H:View):az Tryz.prog 164 [encI l] H fun r H'=>aV H' r 1 (l.map fun s=>[gi s])∧cY H H' r:=IK l hl H _ .own
theorem Jh (l:List Term) (hl:l.length≤100000) (H:View):az Tryz.prog 162 [dE l] H fun r H'=>aV H' r 3 (l.map cr)∧cY H H' r:=JL l hl H _ .own
def kQ (g:ao):List aM→Int→Bool
  | [],next=>next == g.au.length
  | r :: l,next=>decide (0≤r.left) && decide (r.left≤next) && gv g r && kQ g l (if r.left+1 > next then r.left+1 else next)
def qW (g:ao):List ByteArray:=g.au ++ g.ay.map Term.name
def oV (g:ao):Bool :=
  rn g.ay && (decide ((1:Int)≤g.au.length) && decide ((g.au.length:Int)≤16)) && (decide ((1:Int)≤g.rules.length) && decide ((g.rules.length:Int)≤40)) && decide (names (qW g)).Nodup && (decide (0≤g.start) && decide (g.start≤(g.au.length:Int) - 1)) &&
    !(g.au.any fun s=>!fe (ey s)) && kQ g g.rules 0
theorem E6 {l:List ByteArray} : ∀ e∈(l.map fun s=>[gs s]),∀ v∈e,Tree v:=by
  intro e he v hv
  obtain ⟨a,_,rfl⟩:=List.mem_map.1 he
  rw[List.mem_singleton] at hv
  subst hv
  exact .val _
set_option maxHeartbeats 4000000 in
theorem JU (g:ao) (hg:g.Ok) (hs:g.au.length+g.ay.length≤1000) (H:View):az Tryz.prog 45 [.agg (al g)] H fun r _=>r=gb (oV g):=by
  refine az.of mixed Bl ?_
  have hn:=hg.au
  have ht:=hg.ay
  have hr:=hg.rules
  unfold aN at hn ht hr
  simp (disch:=omega) only [↓wr,↓reduceIte,wq,ah,Nat.reduceEqDiff,Nat.reduceAdd,Nat.reduceLT,Nat.reduceLeDiff,yE,al,encS]
  refine aC.gA ((JJ g.au (by omega) H).mono ?_)
  rintro u H1 ⟨hu,hf⟩
  simp (disch:=omega) only [↓wr,↓reduceIte,wq,aj,Nat.reduceEqDiff,Nat.reduceAdd,Nat.reduceLT]
  refine bc.up g.ay.length (fun i T H=>T 1=.aS (al g) 0∧(∃ u,T 3=u∧aV H u 1 ((g.au ++ (g.ay.take i).map Term.name).map fun s=>[gs s]))∧T 13=dE g.ay∧T 14=gi g.ay.length∧T 15=gi i) ?_ ?_
  · exact ⟨rfl,⟨u,rfl,by simpa using hu⟩,rfl,rfl,rfl⟩
  rintro i k T H' hk ⟨h1,⟨u,h3,hu⟩,h13,h14,h15⟩
  simp (disch:=omega) only [↓wr,↓reduceIte,wq,ag,vQ,h14,h15,dE]
  refine ar.dec (fun hc=>?_) (fun hc=>?_)
  · have hg2:g.ay[i]?=some (g.ay[i]'(by omega)):=List.getElem?_eq_getElem (by omega)
    have htk:(g.ay.take (i+1)).map Term.name=(g.ay.take i).map Term.name ++ [(g.ay[i]'(by omega)).name]:=by
      rw[List.take_add_one,hg2,List.map_append]; rfl
    generalize g.ay[i]'(by omega)=t at hg2 htk
    simp (disch:=omega) only [↓wr,↓reduceIte,wq,aa,af,Nat.reduceEqDiff,Nat.reduceAdd,Nat.reduceLT,Nat.reduceLeDiff,h3,h13,h15,dE,cr,List.getElem?_map,hg2]
    intro b hb
    try simp (disch:=omega) only [set_set]
    intro m hm
    have hmb:=(bV hm bT).1
    have hm:=(bV (bV hm bT).2 bT).2
    try simp (disch:=omega) only [↓wr,↓reduceIte,wq,Nat.reduceEqDiff,bQ]
    have hl:((g.au ++ (g.ay.take i).map Term.name).map fun s=>[gs s]).length≤1000:=by simp; omega
    refine rO (((hu.fresh hb).other (hu.ne hb)).fresh (by simp[View.set,hm,hmb])) (by simp) (by simp[aO]) (by unfold aG; simp at hl ⊢; omega) (by unfold aG; simp at hl ⊢; omega) ?_
    intro u' H2 hu' _
    simp (disch:=omega) only [↓wr,↓reduceIte,wq,ag,Nat.reduceEqDiff,reduceCtorEq,h1,h15]
    refine aJ hk (by omega) ⟨h1,⟨u',rfl,?_⟩,h13,h14,rfl⟩
    rw[htk]
    simpa using hu'
  · rw[List.take_of_length_le (by omega)] at hu
    have hal:H'=H':=rfl
    have hall:(qW g).length≤1000:=by simp[qW]; omega
    repeat' (first | (refine ar.dec (fun _=>?_) (fun _=>?_)) | (refine ar.eq (fun _=>?_) (fun _=>?_)) | (refine ar.ne (fun _=>?_) (fun _=>?_)) | (refine ar.split (fun _=>?_) (fun _=>?_)) | (refine aC.pure (Jr g.ay hg.ay) (by kernel_rfl) ?_) | (refine aC.pure (qE _ _ _) (by kernel_rfl) ?_) | (refine aC.OS (L3 (qW g) hall) (by kernel_rfl) (.val _) ⟨dh.own hu E6,trivial⟩ ?_) | (simp (disch:=omega) only [↓wr,↓reduceIte,wq,ag,aj,Nat.reduceEqDiff,Nat.reduceAdd,Nat.reduceLT,reduceCtorEq,h1,h3,al,encS]))
    all_goals try (simp[oV, *]; done)
    rename_i e1 e2 e3 e4 e5
    refine aC.pure (zi g.au hg.au 85 [] (by simp) (fun s=>!fe (ey s)) (fun x _=>Gi x) (by kernel_rfl)) (by kernel_rfl) ?_
    repeat' (first | (refine ar.dec (fun _=>?_) (fun _=>?_)) | (refine ar.eq (fun _=>?_) (fun _=>?_)) | (refine ar.ne (fun _=>?_) (fun _=>?_)) | (refine ar.split (fun _=>?_) (fun _=>?_)) | (simp (disch:=omega) only [↓wr,↓reduceIte,wq,aj,Nat.reduceEqDiff,Nat.reduceAdd,Nat.reduceLT,reduceCtorEq,h1,al,encS]))
    all_goals try (simp[oV, *]; done)
    rename_i e6
    have hle:g.rules.length≤40:=by simp at e3; omega
    have hpre:∀ b,kQ g g.rules 0=b→gb b=gb (oV g):=fun b e=>by
      simp only[oV,e1,e2,e3,e4,e5,e6,e,decide_true,Bool.true_and,Bool.not_false]
    refine bc.up g.rules.length (fun i T _=>∃ w:Int,0≤w∧w≤i∧kQ g (g.rules.drop i) w=kQ g g.rules 0∧T 1=.aS (al g) 0∧T 6=gi w∧T 62=.aY (g.rules.map aK)∧T 63=gi g.rules.length∧T 64=gi i) ?_ ?_
    · exact ⟨0,by omega,by omega,rfl,h1,rfl,rfl,rfl,rfl⟩
    rintro i k T H' hk ⟨w,hw1,hw2,hi,h1,h6,h62,h63,h64⟩
    simp (disch:=omega) only [↓wr,↓reduceIte,wq,ag,Nat.reduceEqDiff,we,h63,h64,al]
    refine ar.dec (fun hc=>?_) (fun hc=>?_)
    · have hg2:g.rules[i]?=some (g.rules[i]'(by omega)):=List.getElem?_eq_getElem (by omega)
      rw[c9 (show i < g.rules.length by omega)] at hi
      have hmem:g.rules[i]'(by omega)∈g.rules:=List.getElem_mem _
      generalize g.rules[i]'(by omega)=t at hg2 hi hmem
      obtain ⟨⟨hl1,hl2⟩,hp,hr1,hr2⟩:=hg.ba t hmem
      simp only[kQ] at hi
      simp (disch:=omega) only [↓wr,↓reduceIte,wq,aa,Nat.reduceEqDiff,Nat.reduceAdd,Nat.reduceLT,Nat.reduceLeDiff,h6,h62,h64,aK,encI,List.getElem?_map,hg2]
      intro b hb
      repeat' (first | (refine ar.dec (fun _=>?_) (fun _=>?_)) | (refine ar.eq (fun _=>?_) (fun _=>?_)) | (refine ar.ne (fun _=>?_) (fun _=>?_)) | (refine ar.split (fun _=>?_) (fun _=>?_)) | (refine aC.pure (qE _ _ _) (by kernel_rfl) ?_) | (refine aC.pure (K5 g t hg ⟨hr1,hr2⟩) (by kernel_rfl) ?_) | (simp (disch:=omega) only [↓wr,↓reduceIte,wq,ag,aj,Nat.reduceEqDiff,Nat.reduceAdd,Nat.reduceLT,Nat.reduceLeDiff,reduceCtorEq,h1,h6,h64,al,encS,set_set]))
      · rename_i e7 e8
        have e7':0≤t.left∧t.left≤w:=by simpa using e7
        rw[e7,e8,Bool.true_and,Bool.true_and] at hi
        have hw:IntKind.wrap .i64 (t.left+1)=t.left+1:=wrap64 (by omega) (by omega)
        refine aJ hk (by omega) ⟨_,by split <;> omega,by split <;> (push_cast; omega),hi,h1,?_,h62,h63,rfl⟩
        show gi (if IntKind.wrap .i64 (t.left+1) > w then IntKind.wrap .i64 (t.left+1) else w)=_
        rw[hw]
      · rename_i e7 e8
        rw[e8,Bool.and_false,Bool.false_and] at hi
        exact hpre _ hi.symm
      · rename_i e7
        rw[e7,Bool.false_and,Bool.false_and] at hi
        exact hpre _ hi.symm
    · rw[List.drop_eq_nil_of_le (by omega)] at hi
      simp only[kQ] at hi
      simp (disch:=omega) only [↓wr,↓reduceIte,wq,ag,aj,Nat.reduceEqDiff,Nat.reduceAdd,Nat.reduceLT,reduceCtorEq,h1,h6,al,encS]
      exact hpre _ hi.symm
theorem GI (g:ao) (hg:g.Ok) (hs:g.au.length+g.ay.length≤1000):aF Tryz.prog 45 [.agg (al g)] (gb (oV g)):=aF.val (dM g) (JU g hg hs)
theorem EB (g:ao):∀ (l:List aM) (next:Int),kQ g l next=fI g l (next - 1)
  | [],next=>by
    simp only[kQ,fI]
    rw[Bool.eq_iff_iff]; simp
  | r :: l,next=>by
    simp only[kQ,fI,EB g l]
    have e1:(if r.left+1 > next then r.left+1 else next) - 1=if r.left > next - 1 then r.left else next - 1:=by
      split <;> split <;> omega
    have e2:next - 1+1=next:=by omega
    rw[e1,e2]
theorem xb (s:ByteArray):∀ (l:List ByteArray) (i:Int),0≤i→(mE s l i < 0∧s ∉ l)∨∃ k:Nat,mE s l i=i+k∧l[k]?=some s∧∀ j < k,l[j]?≠some s
  | [],i,h=>.inl ⟨by simp[mE],by simp⟩
  | x :: l,i,h=>by
    have hx:gK x s=true↔x=s:=by
      unfold gK
      rw[beq_iff_eq]
      constructor
      · intro e; cases x; cases s; simp at e; simp[e]
      · rintro rfl; rfl
    simp only[mE]
    by_cases e:x=s
    · rw[if_pos (hx.2 e)]
      exact .inr ⟨0,by simp,by simp[e],by simp⟩
    · rw[if_neg (fun h=>e (hx.1 h))]
      rcases xb s l (i+1) (by omega) with ⟨h1,h2⟩ | ⟨k,h1,h2,h3⟩
      · exact .inl ⟨h1,by simp[h2,Ne.symm e]⟩
      · refine .inr ⟨k+1,by rw[h1]; push_cast; omega,by simpa using h2,fun j hj=>?_⟩
        cases j with
        | zero=>simp[e]
        | succ j=>simpa using h3 j (by omega)
theorem r9 (l:List ByteArray):(∀ (k:Nat) (s:ByteArray),l[k]?=some s→mE s l 0=k)↔l.Nodup:=by
  constructor
  · intro h
    rw[List.nodup_iff_pairwise_ne,List.pairwise_iff_getElem]
    intro i j hi hj hij e
    have h1:=h i l[i] (by simp[hi])
    have h2:=h j l[j] (by simp[hj])
    rw[e] at h1
    omega
  · intro hn k s hk
    rcases xb s l 0 (by omega) with ⟨_,h2⟩ | ⟨j,h1,h2,h3⟩
    · exact absurd (List.mem_of_getElem? hk) h2
    · have hj:j < l.length:=by
        rcases Nat.lt_or_ge j l.length with h | h
        · exact h
        · simp[List.getElem?_eq_none h] at h2
      have hk':k < l.length:=by
        rcases Nat.lt_or_ge k l.length with h | h
        · exact h
        · simp[List.getElem?_eq_none h] at hk
      have:j=k:=(List.getElem_inj hn).1 (by
        rw[List.getElem?_eq_getElem hj] at h2; rw[List.getElem?_eq_getElem hk'] at hk
        simp at h2 hk; rw[h2,hk])
      rw[h1,this]; simp
theorem bytes_inj {a b:ByteArray} : a.data.toList=b.data.toList↔a=b:=by
  constructor
  · intro h; cases a; cases b; simp at h; simp[h]
  · rintro rfl; rfl
theorem Jo {l:List ByteArray} : (names l).Nodup↔l.Nodup:=by
  unfold names
  rw[List.nodup_iff_pairwise_ne,List.pairwise_map,List.nodup_iff_pairwise_ne]
  constructor
  · exact fun h=>h.imp fun h e=>h (bytes_inj.2 e)
  · exact fun h=>h.imp fun h e=>h (bytes_inj.1 e)
theorem po {α:Type} [BEq α] [LawfulBEq α]:∀ (l m:List α),l.Nodup→(∀ x∈l,x∈m)→l.length≤m.length
  | [],m,_,_=>by simp
  | x :: l,m,hn,hs=>by
    rw[List.nodup_cons] at hn
    have hx:x∈m:=hs x (by simp)
    have:=po l (m.erase x) hn.2 (fun y hy=>by
      have hne:y≠x:=by rintro rfl; exact hn.1 hy
      exact (List.mem_erase_of_ne hne).2 (hs y (by simp[hy])))
    rw[List.length_erase_of_mem hx] at this
    have:0 < m.length:=List.length_pos_of_mem hx
    simp only[List.length_cons]
    omega
def k5 (n:Nat):List Int:=(List.range n).map fun (k:Nat)=>(k:Int)+1
theorem u9 {n:Nat} {x:Int} : x∈k5 n↔1≤x∧x≤n:=by
  simp only[k5,List.mem_map,List.mem_range]
  constructor
  · rintro ⟨k,hk,rfl⟩; omega
  · rintro ⟨h1,h2⟩; exact ⟨(x - 1).toNat,by omega,by omega⟩
theorem EV (n:Nat):(k5 n).Nodup:=by
  rw[k5,List.nodup_iff_pairwise_ne,List.pairwise_map]
  exact (List.nodup_range (n:=n)).imp fun h e=>h (by omega)
theorem N0 {l:List Int} {n:Nat} (hn:l.Nodup) (hs:∀ x∈l,1≤x∧x≤n) (hl:l.length=n) {x:Int} (h1:1≤x) (h2:x≤n):x∈l:=by
  refine Classical.byContradiction fun hx=>?_
  have:=po (x :: l) (k5 n) (List.nodup_cons.2 ⟨hx,hn⟩) (fun y hy=>by
    rw[u9]
    rcases List.mem_cons.1 hy with rfl | hy
    · exact ⟨h1,h2⟩
    · exact hs y hy)
  simp[k5] at this
  omega
theorem vq (n:Int):∀ (l:List Term) (w:Int),w≠0→ib n l w=if (∀ t∈l,t.level=n→t.assoc=w) then some w else none
  | [],w,_=>by simp[ib]
  | t :: r,w,hw=>by
    simp only[ib]
    by_cases ht:t.level=n
    · rw[if_pos ht]
      by_cases ha:w=t.assoc
      · rw[if_neg (by simp[ha]),← ha,vq n r w hw]
        congr 1
        simp[ht,ha]
      · rw[if_pos ⟨hw,ha⟩,if_neg (fun h=>ha (h t (by simp) ht).symm)]
    · rw[if_neg ht,vq n r w hw]
      congr 1
      simp[ht]
theorem A4 (n:Int):∀ (l:List Term),(∀ t∈l,t.level=n→t.assoc≠0)→(fL l n=true↔∃ a,(∃ t∈l,t.level=n)∧∀ t∈l,t.level=n→t.assoc=a)
  | [],_=>by simp[fL,ib]
  | t :: r,h=>by
    by_cases ht:t.level=n
    · have ha:=h t (by simp) ht
      have e:fL (t :: r) n=match (if (∀ u∈r,u.level=n→u.assoc=t.assoc) then some t.assoc else none) with | some w=>w != 0 | none=>false:=by
        simp only[fL,ib]
        rw[if_pos ht,if_neg (by simp),vq n r _ ha]
        rfl
      rw[e]
      by_cases hr:∀ u∈r,u.level=n→u.assoc=t.assoc
      · rw[if_pos hr]
        simp only[bne_iff_ne,ne_eq,ha,not_false_eq_true,true_iff]
        refine ⟨t.assoc,⟨t,by simp,ht⟩,fun u hu hl=>?_⟩
        rcases List.mem_cons.1 hu with rfl | hu
        · rfl
        · exact hr u hu hl
      · rw[if_neg hr]
        simp only[Bool.false_eq_true,false_iff]
        rintro ⟨a,_,h2⟩
        exact hr fun u hu hl=>(h2 u (by simp[hu]) hl).trans (h2 t (by simp) ht).symm
    · have ih:=A4 n r (fun u hu=>h u (by simp[hu]))
      have e:fL (t :: r) n=fL r n:=by
        simp only[fL,ib,if_neg ht]
      rw[e,ih]
      constructor
      · rintro ⟨a,⟨u,hu,hl⟩,h2⟩
        refine ⟨a,⟨u,by simp[hu],hl⟩,fun v hv hl=>?_⟩
        rcases List.mem_cons.1 hv with rfl | hv
        · exact absurd hl ht
        · exact h2 v hv hl
      · rintro ⟨a,⟨u,hu,hl⟩,h2⟩
        rcases List.mem_cons.1 hu with rfl | hu
        · exact absurd hl ht
        · exact ⟨a,⟨u,hu,hl⟩,fun v hv=>h2 v (by simp[hv])⟩
def tF (l:List Term):Prop:=∀ t∈l,∀ u∈l,t.level=u.level→t.level≠0→t.assoc=u.assoc
theorem DS {κ β:Type} [BEq κ] [LawfulBEq κ] {k:κ} {v:β} : ∀ {a:List (κ × β)},(a.map (·.1)).Nodup→((jg k v a).map (·.1)).Nodup∧∀ x,x∈(jg k v a).map (·.1)↔x=k∨x∈a.map (·.1)
  | [],_=>by simp[jg]
  | y :: a,h=>by
    simp only[List.map_cons,List.nodup_cons] at h
    obtain ⟨h1,h2⟩:=DS (k:=k) (v:=v) h.2
    simp only[jg]
    by_cases e:k=y.1
    · simp only[e,beq_self_eq_true,if_true,List.map_cons,List.nodup_cons]
      refine ⟨h,fun x=>by simp⟩
    · have:(k == y.1)=false:=by simp[e]
      rw[this]
      simp only[Bool.false_eq_true,if_false,List.map_cons,List.nodup_cons,List.mem_cons]
      refine ⟨⟨fun hm=>?_,h1⟩,fun x=>?_⟩
      · rcases (h2 _).1 hm with e' | hm
        · exact e e'.symm
        · exact h.1 hm
      · rw[h2]
        constructor
        · rintro (h | h | h) <;> simp[h]
        · rintro (h | h | h) <;> simp[h]
theorem wO:∀ (l:List Term) (a:List (Int × Int)) (top:Int),(∀ t∈l,t.level≠0→t.assoc≠0)→(∀ n v,dw a n=some v→v≠0)→(a.map (·.1)).Nodup →
    match lq l a top with
    | some (a',top')=>tF l∧(∀ t∈l,∀ v,t.level≠0→dw a t.level=some v→t.assoc=v)∧(a'.map (·.1)).Nodup∧(∀ n,n∈a'.map (·.1)↔n∈a.map (·.1)∨(n≠0∧∃ t∈l,t.level=n)) ∧
        top≤top'∧(∀ t∈l,t.level≠0→t.level≤top')∧(top'=top∨∃ t∈l,t.level=top'∧t.level≠0)
    | none=>¬ (tF l∧∀ t∈l,∀ v,t.level≠0→dw a t.level=some v→t.assoc=v)
  | [],a,top,_,_,hn=>by
    simp only[lq]
    exact ⟨fun t ht=>by simp at ht,fun t ht=>by simp at ht,hn,fun n=>by simp,by omega,fun t ht=>by simp at ht,by simp⟩
  | t :: r,a,top,h0,hv,hn=>by
    have h0r:∀ u∈r,u.level≠0→u.assoc≠0:=fun u hu=>h0 u (by simp[hu])
    simp only[lq]
    by_cases ht:t.level=0
    · rw[if_pos ht]
      have ih:=wO r a top h0r hv hn
      have one:tF (t :: r)↔tF r:=by
        constructor
        · exact fun h u hu w hw=>h u (by simp[hu]) w (by simp[hw])
        · intro h u hu w hw e hz
          rcases List.mem_cons.1 hu with rfl | hu
          · exact absurd ht hz
          · rcases List.mem_cons.1 hw with rfl | hw
            · exact absurd (e.trans ht) hz
            · exact h u hu w hw e hz
      have con:(∀ u∈t :: r,∀ v,u.level≠0→dw a u.level=some v→u.assoc=v)↔∀ u∈r,∀ v,u.level≠0→dw a u.level=some v→u.assoc=v:=by
        simp[ht]
      have mem:∀ n,(n≠0∧∃ u∈t :: r,u.level=n)↔(n≠0∧∃ u∈r,u.level=n):=fun n=>by
        constructor
        · rintro ⟨h1,u,hu,rfl⟩
          rcases List.mem_cons.1 hu with rfl | hu
          · exact absurd ht h1
          · exact ⟨h1,u,hu,rfl⟩
        · rintro ⟨h1,u,hu,rfl⟩; exact ⟨h1,u,by simp[hu],rfl⟩
      cases hs:lq r a top with
      | none=>rw[hs] at ih; rw[one,con]; exact ih
      | some x =>
        obtain ⟨a',top'⟩:=x
        rw[hs] at ih
        obtain ⟨i1,i2,i3,i4,i5,i6,i7⟩:=ih
        refine ⟨one.2 i1,con.2 i2,i3,fun n=>by rw[i4,mem],i5,?_,?_⟩
        · intro u hu hz
          rcases List.mem_cons.1 hu with rfl | hu
          · exact absurd ht hz
          · exact i6 u hu hz
        · rcases i7 with h | ⟨u,hu,h⟩
          · exact .inl h
          · exact .inr ⟨u,by simp[hu],h⟩
    · rw[if_neg ht]
      have ha:=h0 t (by simp) ht
      by_cases hc:(dw a t.level).getD 0≠0∧(dw a t.level).getD 0≠t.assoc
      · rw[if_pos hc]
        simp only
        rintro ⟨_,h2⟩
        cases hp:dw a t.level with
        | none=>simp[hp] at hc
        | some v =>
          have:=h2 t (by simp) v ht hp
          simp[hp] at hc
          exact hc.2 this.symm
      · rw[if_neg hc]
        have hcon:∀ v,dw a t.level=some v→t.assoc=v:=fun v hp=>by
          have:=hv _ _ hp
          simp[hp] at hc
          exact (hc this).symm
        have hput:∀ n,dw (jg t.level t.assoc a) n=if n=t.level then some t.assoc else dw a n:=fun n=>by
          rw[DT]; simp
        have hk:=DS (k:=t.level) (v:=t.assoc) hn
        have ih:=wO r (jg t.level t.assoc a) (if t.level > top then t.level else top) h0r (fun n v hp=>by
          rw[hput] at hp
          split at hp
          · simp at hp; rw[← hp]; exact ha
          · exact hv n v hp) hk.1
        have both:(tF (t :: r)∧∀ u∈t :: r,∀ v,u.level≠0→dw a u.level=some v→u.assoc=v)↔(tF r∧∀ u∈r,∀ v,u.level≠0→dw (jg t.level t.assoc a) u.level=some v→u.assoc=v):=by
          constructor
          · rintro ⟨h1,h2⟩
            refine ⟨fun u hu w hw=>h1 u (by simp[hu]) w (by simp[hw]),fun u hu v hz hp=>?_⟩
            rw[hput] at hp
            split at hp
            · rename_i e
              simp at hp; rw[← hp]
              exact h1 u (by simp[hu]) t (by simp) e hz
            · exact h2 u (by simp[hu]) v hz hp
          · rintro ⟨h1,h2⟩
            have h3:∀ u∈r,u.level=t.level→u.assoc=t.assoc:=fun u hu e=>h2 u hu t.assoc (by rw[e]; exact ht) (by rw[hput,if_pos e])
            refine ⟨fun u hu w hw e hz=>?_,fun u hu v hz hp=>?_⟩
            · rcases List.mem_cons.1 hu with e1 | hu2
              · rcases List.mem_cons.1 hw with e2 | hw2
                · rw[e1,e2]
                · rw[e1] at e ⊢
                  exact (h3 w hw2 e.symm).symm
              · rcases List.mem_cons.1 hw with e2 | hw2
                · rw[e2] at e ⊢
                  exact h3 u hu2 e
                · exact h1 u hu2 w hw2 e hz
            · rcases List.mem_cons.1 hu with rfl | hu
              · exact hcon v hp
              · by_cases e:u.level=t.level
                · rw[h3 u hu e]; exact hcon v (by rw[← e]; exact hp)
                · exact h2 u hu v hz (by rw[hput,if_neg e]; exact hp)
        have htop:top≤(if t.level > top then t.level else top)∧t.level≤(if t.level > top then t.level else top):=by split <;> omega
        cases hs:lq r (jg t.level t.assoc a) (if t.level > top then t.level else top) with
        | none=>rw[hs] at ih; simp only; rw[both]; exact ih
        | some x =>
          obtain ⟨a',top'⟩:=x
          rw[hs] at ih
          obtain ⟨i1,i2,i3,i4,i5,i6,i7⟩:=ih
          obtain ⟨b1,b2⟩:=both.2 ⟨i1,i2⟩
          refine ⟨b1,b2,i3,fun n=>?_,by omega,?_,?_⟩
          · rw[i4,hk.2]
            constructor
            · rintro ((rfl | h) | ⟨h1,u,hu,h⟩)
              · exact .inr ⟨ht,t,by simp,rfl⟩
              · exact .inl h
              · exact .inr ⟨h1,u,by simp[hu],h⟩
            · rintro (h | ⟨h1,u,hu,h⟩)
              · exact .inl (.inr h)
              · rcases List.mem_cons.1 hu with rfl | hu
                · exact .inl (.inl h.symm)
                · exact .inr ⟨h1,u,hu,h⟩
          · intro u hu hz
            rcases List.mem_cons.1 hu with rfl | hu
            · omega
            · exact i6 u hu hz
          · rcases i7 with h | ⟨u,hu,h⟩
            · by_cases e:t.level > top
              · rw[if_pos e] at h; exact .inr ⟨t,by simp,h.symm,ht⟩
              · rw[if_neg e] at h; exact .inl h
            · exact .inr ⟨u,by simp[hu],h⟩
theorem Ba (l:List Term) (h:∀ t∈l,kf t=true):qM l=true↔∀ t∈l,∀ n:Int,1≤n→n≤t.level→fL l n=true:=by
  have hb:∀ t∈l,0≤t.level∧(t.level≠0→t.assoc≠0):=fun t ht=>by
    have:=h t ht
    simp only[kf,Bool.and_eq_true,decide_eq_true_eq,beq_iff_eq] at this
    refine ⟨this.1.1.1.1.2,fun h1 h2=>?_⟩
    have e:=this.2
    simp[h1,h2] at e
  have hs:=wO l [] 0 (fun t ht=>(hb t ht).2) (by simp[dw]) (by simp)
  have hL:∀ n:Int,1≤n→(fL l n=true↔∃ a,(∃ t∈l,t.level=n)∧∀ t∈l,t.level=n→t.assoc=a):=fun n hn=>A4 n l (fun t ht e=>(hb t ht).2 (by omega))
  unfold qM
  cases hx:lq l [] 0 with
  | none =>
    rw[hx] at hs
    simp only[Bool.false_eq_true,false_iff]
    intro hall
    refine hs ⟨fun t ht u hu e hz=>?_,fun t ht v _ hp=>by simp[dw] at hp⟩
    have h1:=hb t ht
    obtain ⟨a,_,h2⟩:=(hL t.level (by omega)).1 (hall t ht t.level (by omega) (by omega))
    exact (h2 t ht rfl).trans (h2 u hu e.symm).symm
  | some x =>
    obtain ⟨a,top⟩:=x
    rw[hx] at hs
    obtain ⟨i1,_,i3,i4,i5,i6,i7⟩:=hs
    simp only[beq_iff_eq]
    have hmem:∀ n,n∈a.map (·.1)↔n≠0∧∃ t∈l,t.level=n:=fun n=>by rw[i4]; simp
    have hin:∀ x∈a.map (·.1),1≤x∧x≤(top.toNat:Int):=fun x hx=>by
      obtain ⟨h1,t,ht,rfl⟩:=(hmem x).1 hx
      have:=(hb t ht).1
      have:=i6 t ht h1
      omega
    constructor
    · intro hlen t ht n hn1 hn2
      have htop:t.level≤top:=i6 t ht (by omega)
      have hm:=N0 i3 hin (by simp; omega) hn1 (show n≤(top.toNat:Int) by omega)
      obtain ⟨hz,u,hu,rfl⟩:=(hmem n).1 hm
      exact (hL _ hn1).2 ⟨u.assoc,⟨u,hu,rfl⟩,fun w hw e=>i1 w hw u hu e (by omega)⟩
    · intro hall
      have h1:a.length≤top.toNat:=by
        have:=po _ (k5 top.toNat) i3 (fun x hx=>u9.2 (hin x hx))
        simpa [k5] using this
      have h2:top.toNat≤a.length:=by
        rcases i7 with e | ⟨t,ht,e,hz⟩
        · subst e; simp
        · have:=po (k5 top.toNat) (a.map (·.1)) (EV _) (fun x hx=>by
            rw[u9] at hx
            have:=(hb t ht).1
            obtain ⟨_,⟨u,hu,hl⟩,_⟩:=(hL x hx.1).1 (hall t ht x hx.1 (by omega))
            exact (hmem x).2 ⟨by omega,u,hu,hl⟩)
          simpa [k5] using this
      omega
theorem zR (g:ao):∀ (l:List Term) (i:Int),iS g l i=true↔∀ (k:Nat) (t:Term),l[k]?=some t→jw g (i+k) t=true
  | [],i=>by simp[iS]
  | t :: r,i=>by
    simp only[iS,Bool.and_eq_true,zR g r (i+1)]
    constructor
    · rintro ⟨h1,h2⟩ k u hk
      cases k with
      | zero=>simp at hk; subst hk; simpa using h1
      | succ k =>
        have:=h2 k u (by simpa using hk)
        rw[show i+((k+1:Nat):Int)=i+1+k by push_cast; omega]; exact this
    · intro h
      refine ⟨by simpa using h 0 t rfl,fun k u hk=>?_⟩
      have:=h (k+1) u (by simpa using hk)
      rw[show i+1+(k:Int)=i+((k+1:Nat):Int) by push_cast; omega]; exact this
theorem su (g:ao):∀ (l:List ByteArray) (i:Int),qF g l i=true↔∀ (k:Nat) (s:ByteArray),l[k]?=some s→kM g (i+k) s=true
  | [],i=>by simp[qF]
  | t :: r,i=>by
    simp only[qF,Bool.and_eq_true,su g r (i+1)]
    constructor
    · rintro ⟨h1,h2⟩ k u hk
      cases k with
      | zero=>simp at hk; subst hk; simpa using h1
      | succ k =>
        have:=h2 k u (by simpa using hk)
        rw[show i+((k+1:Nat):Int)=i+1+k by push_cast; omega]; exact this
    · intro h
      refine ⟨by simpa using h 0 t rfl,fun k u hk=>?_⟩
      have:=h (k+1) u (by simpa using hk)
      rw[show i+1+(k:Int)=i+((k+1:Nat):Int) by push_cast; omega]; exact this
theorem CA (g:ao) (s:ByteArray):lg g s < 0↔s ∉ g.ay.map Term.name:=by
  unfold lg
  rcases xb s (g.ay.map Term.name) 0 (by omega) with ⟨h1,h2⟩ | ⟨k,h1,h2,_⟩
  · exact ⟨fun _=>h2,fun _=>h1⟩
  · constructor
    · intro h; omega
    · intro h; exact absurd (List.mem_of_getElem? h2) h
theorem CG (g:ao) (t:Term):qC g t=true↔∀ n:Int,1≤n→n≤t.level→fL g.ay n=true:=by
  simp only[qC,List.all_eq_true,List.mem_range]
  constructor
  · intro h n h1 h2
    have:=h (n - 1).toNat (by omega)
    rwa [show (((n - 1).toNat:Nat):Int)+1=n by omega] at this
  · intro h k hk
    exact h _ (by omega) (by omega)
theorem Hi (g:ao):oV g=bm g:=by
  rw[Bool.eq_iff_iff]
  simp only[oV,bm,iY,jC,rn,Bool.and_eq_true,decide_eq_true_eq,zR,su,EB,List.all_eq_true,Bool.not_eq_true',List.any_eq_false,Jo,qW,List.nodup_append,Int.zero_add,Int.zero_sub]
  have hT:(∀ (k:Nat) (t:Term),g.ay[k]?=some t→jw g k t=true)↔(∀ t∈g.ay,kf t=true)∧(g.ay.map Term.name).Nodup∧(∀ t∈g.ay,qC g t=true):=by
    rw[← r9]
    constructor
    · intro h
      have h':∀ t∈g.ay,∃ k:Nat,g.ay[k]?=some t:=fun t ht=>List.getElem?_of_mem ht
      refine ⟨fun t ht=>?_,fun k s hk=>?_,fun t ht=>?_⟩
      · obtain ⟨k,hk⟩:=h' t ht
        have:=h k t hk
        simp only[jw,kf,Bool.and_eq_true,decide_eq_true_eq] at this ⊢
        simp[this]
      · rw[List.getElem?_map,Option.map_eq_some_iff] at hk
        obtain ⟨t,hk,rfl⟩:=hk
        have:=h k t hk
        simp only[jw,Bool.and_eq_true,beq_iff_eq] at this
        exact this.1.1.1.1.1.1.2
      · obtain ⟨k,hk⟩:=h' t ht
        have:=h k t hk
        simp only[jw,Bool.and_eq_true] at this
        exact this.2
    · rintro ⟨h1,h2,h3⟩ k t hk
      have hm:=List.mem_of_getElem? hk
      have a:=h1 t hm
      have b:=h2 k t.name (by rw[List.getElem?_map,hk]; rfl)
      have c:=h3 t hm
      simp only[jw,kf,lg,Bool.and_eq_true,decide_eq_true_eq] at a ⊢
      simp[a,b,c]
  have hN:(∀ (k:Nat) (s:ByteArray),g.au[k]?=some s→kM g k s=true)↔(∀ s∈g.au,fe (ey s)=true)∧g.au.Nodup∧(∀ s∈g.au,s ∉ g.ay.map Term.name):=by
    rw[← r9]
    constructor
    · intro h
      have h':∀ t∈g.au,∃ k:Nat,g.au[k]?=some t:=fun t ht=>List.getElem?_of_mem ht
      refine ⟨fun t ht=>?_,fun k s hk=>?_,fun t ht=>?_⟩
      · obtain ⟨k,hk⟩:=h' t ht
        have:=h k t hk
        simp only[kM,Bool.and_eq_true] at this
        exact this.1.1
      · have:=h k s hk
        simp only[kM,xu,Bool.and_eq_true,beq_iff_eq] at this
        exact this.1.2
      · obtain ⟨k,hk⟩:=h' t ht
        have:=h k t hk
        simp only[kM,Bool.and_eq_true,decide_eq_true_eq] at this
        exact (CA g t).1 this.2
    · rintro ⟨h1,h2,h3⟩ k s hk
      have hm:=List.mem_of_getElem? hk
      have a:=h1 s hm
      have b:=h2 k s hk
      have c:=(CA g s).2 (h3 s hm)
      simp[kM,xu,a,b,c]
  rw[hT,hN]
  constructor
  · rintro ⟨⟨⟨⟨⟨⟨⟨⟨t1,t2⟩,t3⟩,n1,n2⟩,r1,r2⟩,a1,a2,a3⟩,s1,s2⟩,n3⟩,ru⟩
    have hl:=(Ba g.ay t1).1 t3
    exact ⟨⟨⟨⟨⟨⟨⟨t2,t1,a2,fun t ht=>(CG g t).2 (hl t ht)⟩,⟨by omega,by omega⟩,fun s hs=>by simpa using n3 s hs,a1,fun s hs hm=>a3 s hs s hm rfl⟩,by omega⟩,by omega⟩,s1⟩,by omega⟩,ru⟩
  · rintro ⟨⟨⟨⟨⟨⟨⟨t2,t1,a2,t3⟩,⟨n1,n2⟩,n3,a1,a3⟩,r1⟩,r2⟩,s1⟩,s2⟩,ru⟩
    have hl:=(Ba g.ay t1).2 (fun t ht=>(CG g t).1 (t3 t ht))
    exact ⟨⟨⟨⟨⟨⟨⟨⟨t1,t2⟩,hl⟩,by omega,by omega⟩,by omega,by omega⟩,a1,a2,fun s hs u hu e=>a3 s hs (e ▸ hu)⟩,s1,by omega⟩,fun s hs=>by simp[n3 s hs]⟩,ru⟩
theorem lR (g:ao) (hg:g.Ok) (hs:g.au.length+g.ay.length≤1000):aF Tryz.prog 45 [.agg (al g)] (gb (bm g)):=by
  rw[← Hi]; exact GI g hg hs
def AI (n:Nat) (r:aM):Prop:=bM r.left∧0≤r.left∧r.left < n∧r.right.length≤6∧∀ s∈r.right,bM s∧(s < 0→-1 - s < n)
theorem ao.gp.pG {g:ao} (hg:g.Ok) (h:g.gp) {r:aM} (hr:r∈g.rules):AI g.au.length r :=
  ⟨(hg.ba r hr).1,(h.left r hr).1,(h.left r hr).2,h.right r hr,fun s hs=>⟨(hg.ba r hr).2.2.2 s hs,fun hn=>h.neg hr hs hn⟩⟩
def rR:SF:=⟨.seq (ak [bg 3 false]) <|
  .seq (.region false [⟨none,[ae 4 0,ax 5 .lss 4 0,ae 6 5]⟩,⟨(some (6,true)),[an 7 1,ae 8 0,((some 9),.op (.arith .sub (.val (.val (.int .i64 (-1)))) (.tmp 8))),aQ 10 1 7 9,an 11 10,cd 12 11]⟩,⟨none,[bN 13 6 12,ae 3 13]⟩]) <|
  .ret,
  [.tmp 3],14⟩
theorem xf:aU Tryz.prog 207 []=some rR:=by kernel_rfl
def vM:SF:=⟨.seq (ak [cx 2 0,cx 3 1,bg 4 false]) <|
  .seq (ak [aq 5 1 2,an 6 5,((some 7),.op (.uV 207 [] [(.tmp 3)])),aL 8 46 [6,7],cd 9 8,ae 4 9]) <|
  .ret,
  [.tmp 4],10⟩
theorem zw:aU Tryz.prog 163 [2,3]=some vM:=by kernel_rfl
def nG:SF:=⟨.seq (ak [cx 2 0,((some 4),.op (.aZ (.val (.emp 1))))]) <|
  .seq (.seq (ak [aT 5 3 2,ae 6 1,aL 7 163 [5,6]]) <|
  .cond (.tmp 7) (.seq (ak [aq 8 0 2,an 9 8,((some 10),.op (.bA 1 1 [(.val (.int .i64 0))] [(0,(.tmp 9))])),ae 4 10]) <|
  .ret) (.skip)) <|
  .seq (ak [((some 4),.op (.aZ (.val (.emp 1))))]) <|
  .ret,
  [.tmp 4],11⟩
theorem sK:aU Tryz.prog 205 [2]=some nG:=by kernel_rfl
def mT:SC :=
  .seq (ak [aR 24 .lss 23 22]) <|
  .seq (.cond (.tmp 24) (.skip) (.exit 0)) <|
  .seq (.block 1 (.seq (ak [aQ 25 1 21 23,an 26 25,ae 7 26]) <|
  .seq (ak [ae 27 7,ax 28 .lss 27 0]) <|
  .cond (.tmp 28) (ak [ae 29 5,ae 30 7,((some 31),.op (.arith .sub (.val (.val (.int .i64 (-1)))) (.tmp 30))),((some 32),.op (.bA 1 1 [(.val (.int .i64 0))] [(0,(.tmp 31))])),((some 33),.op (.app 1 8 (.tmp 29) (.tmp 32))),ae 5 33]) (.skip))) <|
  ak [ax 34 .add 23 1,ae 23 34]
def oQ:SF:=⟨.seq (ak [cx 3 0,((some 5),.op (.aZ (.val (.emp 1))))]) <|
  .seq (.seq (.region false [⟨none,[ae 8 1,aq 9 0 3,an 10 9,aQ 11 1 8 10,an 12 11,cd 13 12,ae 14 13]⟩,⟨(some (14,false)),[aT 15 3 3,an 16 2,aL 17 163 [15,16],cd 18 17]⟩,⟨none,[bH 19 14 18]⟩]) <|
  .cond (.tmp 19) (.seq (ak [((some 5),.op (.aZ (.val (.emp 1))))]) <|
  .ret) (.skip)) <|
  .seq (.seq (ak [aq 20 1 3,an 21 20,aP 22 21,aH 23 0]) <|
  .block 0 (.loop mT)) <|
  .seq (ak [ae 35 5,ae 5 35]) <|
  .ret,
  [.tmp 5],36⟩
theorem tW:aU Tryz.prog 206 [3]=some oQ:=by kernel_rfl
theorem DK (r:aM) (is:List Bool):∀ v∈[V.agg (aK r),bF is],Tree v:=by
  intro v hv; simp at hv
  rcases hv with rfl | rfl
  · exact cg _ (eK r)
  · exact gN is
def Bw (is:List Bool) (s:Int):Bool:=decide (s < 0) && !is.getD (-1 - s).toNat false
theorem GO (is:List Bool) (s:Int) (hs:bM s∧(s < 0→-1 - s < is.length)):aF Tryz.prog 207 [gi s,.aS [bF is] 0] (gb (Bw is s)):=by
  refine aF.val ?_ fun H=>?_
  · intro v hv; simp at hv
    rcases hv with rfl | rfl
    · exact .val _
    · exact jE (by intro v hv; simp at hv; subst hv; exact gN is)
  obtain ⟨⟨h1,h2⟩,h3⟩:=hs
  refine az.of mixed xf ?_
  simp (disch:=omega) only [↓wr,↓reduceIte,wq,ah,ag,Nat.reduceAdd,Nat.reduceLeDiff,Int.reduceNeg,reduceCtorEq,rR,bF]
  refine ar.dec (fun h=>?_) (fun h=>?_)
  · have hb:is[(-1 - s).toNat]?=some (is[(-1 - s).toNat]'(by omega)):=List.getElem?_eq_getElem (by omega)
    have hbd:is.getD (-1 - s).toNat false=is[(-1 - s).toNat]'(by omega):=by simp[List.getD_eq_getElem?_getD,hb]
    generalize is[(-1 - s).toNat]'(by omega)=b at hb hbd
    simp (disch:=omega) only [↓wr,↓reduceIte,wq,ag,Nat.reduceEqDiff,Nat.reduceLT,Int.reduceNeg,reduceCtorEq,List.getElem?_map,hb]
    simp only[Bw,hbd,h,decide_true,Bool.true_and]
  · simp (disch:=omega) only [↓wr,↓reduceIte,wq,Nat.reduceEqDiff,Int.reduceNeg,reduceCtorEq]
    simp[Bw,h]
theorem G6 {is:List Bool} {l:List Int} : (!l.any (Bw is))=dy l is true:=by
  simp only[dy,List.not_any_eq_all_not]
  congr 1
  funext s
  simp only[Bw]
  by_cases h:0≤s
  · simp[h,show ¬ s < 0 by omega]
  · simp[h,show s < 0 by omega]
theorem xH (r:aM) (is:List Bool) (hr:aN r.right) (hs:∀ s∈r.right,bM s∧(s < 0→-1 - s < is.length)):aF Tryz.prog 163 [.agg (aK r),bF is] (gb (dy r.right is true)):=by
  rw[← G6]
  refine aF.val (DK r is) fun H=>?_
  refine az.of mixed zw ?_
  simp (disch:=omega) only [↓wr,↓reduceIte,wq,ah,Nat.reduceEqDiff,Nat.reduceAdd,Nat.reduceLT,Nat.reduceLeDiff,vM,aK,bF,encI]
  refine aC.pure (qX r.right hr 207 [.aS [bF is] 0] (by
    intro v hv; simp at hv; subst hv
    exact jE (by intro v hv; simp at hv; subst hv; exact gN is)) (Bw is) (fun x hx=>GO is x (hs x hx)) (by kernel_rfl)) (by kernel_rfl) ?_
  simp (disch:=omega) only [↓wr,↓reduceIte,wq,reduceCtorEq]
theorem eU {h:aE} {u:V} {l:List Int} (ho:aV h.view u 1 (l.map fun x=>[gi x])):cP h u (encI l):=cP.KN (f:=Value.int .i64) ho
theorem BU (r:aM) (is:List Bool) (hr:AI is.length r):bP Tryz.prog 205 [.agg (aK r),bF is] (encI (if dy r.right is true=true then [r.left] else [])):=by
  obtain ⟨hl,_,_,hr6,hs⟩:=hr
  have hsh:aN r.right:=by unfold aN; omega
  refine bP.of (DK r is) ?_
  refine az.of mixed sK ?_
  simp (disch:=omega) only [↓wr,↓reduceIte,wq,ah,Nat.reduceEqDiff,Nat.reduceAdd,Nat.reduceLeDiff,nG,aK,encI]
  refine aC.pure (xH r is hsh hs) (by kernel_rfl) ?_
  repeat' (first | (refine ar.dec (fun _=>?_) (fun _=>?_)) | (refine ar.eq (fun _=>?_) (fun _=>?_)) | (refine ar.ne (fun _=>?_) (fun _=>?_)) | (refine ar.split (fun _=>?_) (fun _=>?_)) | (simp (disch:=omega) only [↓wr,↓reduceIte,wq,af,Nat.reduceEqDiff,Nat.reduceAdd,Nat.reduceLT,reduceCtorEq]))
  all_goals first
    | (intro n h' hh; rw[if_pos (by simp[*])]; exact eU (l:=[r.left]) (.inr ⟨n,rfl,by rw[hh]; simp[View.set]⟩))
    | (intro h' hh; rw[if_neg (by simp[*])]; exact .emp _)
def fw (l:List Int):List Int:=(l.filter fun s=>decide (s < 0)).map fun s=>-1 - s
theorem Ig (r:aM) (is p:List Bool):∀ v∈[V.agg (aK r),bF is,.aS [bF p] 0],Tree v:=by
  intro v hv; simp at hv
  rcases hv with rfl | rfl | rfl
  · exact cg _ (eK r)
  · exact gN is
  · exact jE (by intro v hv; simp at hv; subst hv; exact gN p)
set_option maxHeartbeats 1000000 in
theorem Dm (r:aM) (is p:List Bool) (hr:AI is.length r) (hp:p.length=is.length) :
    bP Tryz.prog 206 [.agg (aK r),bF is,.aS [bF p] 0] (encI (if (is.getD r.left.toNat false && dy r.right p true)=true then fw r.right else [])):=by
  obtain ⟨hl,hl0,hl1,hr6,hs⟩:=hr
  have hsh:aN r.right:=by unfold aN; omega
  refine bP.of (Ig r is p) ?_
  refine az.of mixed tW ?_
  have hb:is[r.left.toNat]?=some (is[r.left.toNat]'(by omega)):=List.getElem?_eq_getElem (by omega)
  have hbd:is.getD r.left.toNat false=is[r.left.toNat]'(by omega):=by simp[List.getD_eq_getElem?_getD,hb]
  generalize is[r.left.toNat]'(by omega)=b at hb hbd
  rw[hbd]
  simp (disch:=omega) only [↓wr,↓reduceIte,wq,ah,Nat.reduceEqDiff,Nat.reduceAdd,Nat.reduceLT,Nat.reduceLeDiff,oQ,aK,encI,bF,List.getElem?_map,hb]
  cases b with
  | false =>
    simp (disch:=omega) only [↓wr,↓reduceIte,wq,Nat.reduceEqDiff,reduceCtorEq]
    intro h' hh
    exact .emp _
  | true =>
    simp (disch:=omega) only [↓wr,↓reduceIte,wq,Nat.reduceEqDiff,Nat.reduceAdd,Nat.reduceLT,Nat.reduceLeDiff]
    refine aC.pure (xH r p hsh (fun s hs'=>⟨(hs s hs').1,fun h=>by rw[hp]; exact (hs s hs').2 h⟩)) (by kernel_rfl) ?_
    repeat' (first | (refine ar.dec (fun _=>?_) (fun _=>?_)) | (refine ar.eq (fun _=>?_) (fun _=>?_)) | (refine ar.ne (fun _=>?_) (fun _=>?_)) | (refine ar.split (fun _=>?_) (fun _=>?_)) | (simp (disch:=omega) only [↓wr,↓reduceIte,wq,aj,Nat.reduceEqDiff,Nat.reduceAdd,Nat.reduceLT,reduceCtorEq]))
    · rename_i ha
      rw[if_pos (by simp[ha])]
      refine bc.up r.right.length (fun i T H=>(∃ u,T 5=u∧aV H u 1 ((fw (r.right.take i)).map fun x=>[gi x]))∧T 21=encI r.right∧T 22=gi r.right.length∧T 23=gi i) ?_ ?_
      · exact ⟨⟨_,rfl,.nil⟩,rfl,rfl,rfl⟩
      rintro i k T H' hk ⟨⟨u,h5,hu⟩,h21,h22,h23⟩
      simp (disch:=omega) only [↓wr,↓reduceIte,wq,ag,Int.reduceNeg,reduceCtorEq,mT,h22,h23,encI]
      refine ar.dec (fun hc=>?_) (fun hc=>?_)
      · have hg:r.right[i]?=some (r.right[i]'(by omega)):=List.getElem?_eq_getElem (by omega)
        have hm:r.right[i]'(by omega)∈r.right:=List.getElem_mem _
        have htk:fw (r.right.take (i+1))=fw (r.right.take i) ++ fw [r.right[i]'(by omega)]:=by
          rw[List.take_add_one,hg,fw,List.filter_append,List.map_append]; rfl
        have hlen:(fw (r.right.take i)).length≤6:=by
          have h1:(fw (r.right.take i)).length≤(r.right.take i).length:=by simp only[fw,List.length_map]; exact List.length_filter_le _ _
          have h2:(r.right.take i).length≤i:=List.length_take_le _ _
          omega
        generalize r.right[i]'(by omega)=s at hg hm htk
        obtain ⟨⟨s1,s2⟩,s3⟩:=hs s hm
        simp (disch:=omega) only [↓wr,↓reduceIte,wq,ag,Nat.reduceEqDiff,Nat.reduceLT,Int.reduceNeg,h21,h23,encI,List.getElem?_map,hg]
        refine ar.dec (fun hd=>?_) (fun hd=>?_)
        · simp (disch:=omega) only [↓wr,↓reduceIte,wq,ag,af,Nat.reduceEqDiff,Nat.reduceLT,Int.reduceNeg,h5]
          intro m hm
          try simp (disch:=omega) only [↓wr,↓reduceIte,wq,Nat.reduceEqDiff,Int.reduceNeg,bQ]
          refine rO (hu.fresh hm) (by simp) (by simp[aO]) (by unfold aG; simp at hlen ⊢; omega) (by unfold aG; simp at hlen ⊢; omega) ?_
          intro u' H2 hu' _
          simp (disch:=omega) only [↓wr,↓reduceIte,wq,ag,Nat.reduceEqDiff,Int.reduceNeg,reduceCtorEq,h23]
          refine aJ hk (by omega) ⟨⟨u',rfl,?_⟩,h21,h22,rfl⟩
          rw[htk]
          simpa [fw,hd] using hu'
        · simp (disch:=omega) only [↓wr,↓reduceIte,wq,ag,Nat.reduceEqDiff,reduceCtorEq,h5,h23]
          refine aJ hk (by omega) ⟨⟨u,h5,?_⟩,h21,h22,rfl⟩
          rw[htk]
          simpa [fw,hd] using hu
      · rw[List.take_of_length_le (by omega)] at hu
        simp (disch:=omega) only [↓wr,↓reduceIte,wq,Nat.reduceEqDiff,reduceCtorEq,h5]
        intro h' hh
        exact eU (by rw[hh]; exact hu)
    · rename_i ha
      intro h' hh
      rw[if_neg (by simp[ha])]
      exact .emp _
def qA (is:List Bool) (l:List Int):List Bool:=l.foldl (fun is n=>is.set n.toNat true) is
def stepG (comes:aM→List Bool→List Int) (is:List Bool) (r:aM):List Bool:=qA is (comes r is)
def dk (comes:aM→List Bool→List Int) (rules:List aM) (is:List Bool):List Bool:=rules.foldl (stepG comes) is
def fC (a b:List Bool):Prop:=a.length=b.length∧∀ i,a.getD i false=true→b.getD i false=true
theorem fC.refl (a:List Bool):fC a a:=⟨rfl,fun _ h=>h⟩
theorem fC.trans {a b c:List Bool} (h:fC a b) (k:fC b c):fC a c:=⟨h.1.trans k.1,fun i hi=>k.2 i (h.2 i hi)⟩
theorem fC.set (a:List Bool) (i:Nat):fC a (a.set i true):=by
  refine ⟨by simp,fun j h=>?_⟩
  simp only[List.getD_eq_getElem?_getD,List.getElem?_set] at h ⊢
  split
  · split
    · rfl
    · rename_i e h2; rw[← e,List.getElem?_eq_none (by omega)] at h; simp at h
  · exact h
theorem Ej:∀ (l:List Int) (is:List Bool),fC is (qA is l)
  | [],is=>.refl _
  | n :: l,is=>(fC.set is n.toNat).trans (Ej l _)
theorem rZ (comes:aM→List Bool→List Int):∀ (rules:List aM) (is:List Bool),fC is (dk comes rules is)
  | [],is=>.refl _
  | r :: rs,is=>(Ej _ _).trans (rZ comes rs _)
def dd (a:List Bool):Nat:=a.countP fun x=>x
theorem uH (a:List Bool):dd a≤a.length:=List.countP_le_length
theorem fC.dd:∀ {a b:List Bool},fC a b→dd a≤dd b∧(dd a=dd b→a=b)
  | [],[],_=>⟨Nat.le_refl _,fun _=>rfl⟩
  | [],_ :: _,h=>by simp[fC] at h
  | _ :: _,[],h=>by simp[fC] at h
  | x :: a,y :: b,h=>by
    have hxy:x=true→y=true:=fun e=>by have:=h.2 0 (by simpa using e); simpa using this
    obtain ⟨h1,h2⟩:=fC.dd (a:=a) (b:=b) ⟨by simpa using h.1,fun i hi=>by have:=h.2 (i+1) (by simpa using hi); simpa using this⟩
    unfold Gv.dd at h1 h2 ⊢
    simp only[List.countP_cons]
    cases x with
    | true =>
      have:=hxy rfl; subst this
      simp only[if_true]
      exact ⟨by omega,fun e=>by rw[h2 (by omega)]⟩
    | false =>
      cases y with
      | false=>simp only[Bool.false_eq_true,if_false]; exact ⟨by omega,fun e=>by rw[h2 (by omega)]⟩
      | true=>simp only[Bool.false_eq_true,if_false,if_true]; exact ⟨by omega,fun e=>by omega⟩
def fM (comes:aM→List Bool→List Int) (rules:List aM):Nat→List Bool→List Bool
  | 0,is=>is
  | k+1,is=>if dk comes rules is=is then is else fM comes rules k (dk comes rules is)
theorem rX (comes:aM→List Bool→List Int) (rules:List aM):∀ (k:Nat) (is:List Bool),is.length≤dd is+k→dk comes rules (fM comes rules k is)=fM comes rules k is∧fC is (fM comes rules k is)
  | 0,is,h=>by
    have h1:=rZ comes rules is
    have h2:=uH (dk comes rules is)
    have h3:=h1.dd
    rw[← h1.1] at h2
    have h4:=uH is
    exact ⟨(h3.2 (by omega)).symm,.refl _⟩
  | k+1,is,h=>by
    simp only[fM]
    by_cases e:dk comes rules is=is
    · rw[if_pos e]; exact ⟨e,.refl _⟩
    · rw[if_neg e]
      have h1:=rZ comes rules is
      have h3:=h1.dd
      have:dd is < dd (dk comes rules is):=by
        rcases Nat.lt_or_ge (dd is) (dd (dk comes rules is)) with h | h
        · exact h
        · exact absurd (h3.2 (by omega)).symm e
      obtain ⟨g1,g2⟩:=rX comes rules k (dk comes rules is) (by rw[← h1.1]; omega)
      exact ⟨g1,h1.trans g2⟩
def vP:SC :=
  .seq (ak [aR 26 .lss 25 24]) <|
  .seq (.cond (.tmp 26) (.skip) (.exit 4)) <|
  .seq (.block 5 (.seq (ak [aQ 27 1 23 25,an 28 27,ae 11 28]) <|
  .seq (.region false [⟨none,[ae 29 7,ae 30 29]⟩,⟨(some (30,false)),[ae 31 1,ae 32 11,aQ 33 1 31 32,an 34 33,cd 35 34]⟩,⟨none,[bH 36 30 35,ae 7 36]⟩]) <|
  ak [ae 37 1,ae 38 11,aQ 39 1 37 38,(none,.op (.store 1 (.tmp 39) (.val (.val (.bool true)))))])) <|
  ak [ax 40 .add 25 1,ae 25 40]
def wb:SC :=
  .seq (ak [aR 17 .lss 16 15]) <|
  .seq (.cond (.tmp 17) (.skip) (.exit 2)) <|
  .seq (.block 3 (.seq (ak [aQ 18 3 14 16,aT 19 3 18,((some 9),.op (.alloc [(.val (.int .i64 0)),(.emp 1),(.val (.int .i64 0))])),(none,.op (.store 3 (.tmp 9) (.tmp 19)))]) <|
  .seq (ak [ae 20 2,aT 21 3 9,ae 22 1,((some 23),.call (.tmp 20) [(.tmp 21),(.tmp 22)]),aP 24 23,aH 25 0]) <|
  .block 4 (.loop vP))) <|
  ak [ax 41 .add 16 1,ae 16 41]
def pN:SC :=
  .seq (.seq (ak [ae 12 7]) <|
  .cond (.tmp 12) (.skip) (.exit 0)) <|
  .block 1 (.seq (ak [bg 7 false]) <|
  .seq (ak [aq 13 2 3,an 14 13,aP 15 14,aH 16 0]) <|
  .block 2 (.loop wb))
def yX:SF:=⟨.seq (ak [cx 3 0,((some 6),.op (.aZ (.val (.emp 1))))]) <|
  .seq (.seq (ak [bg 7 true]) <|
  .block 0 (.loop pN)) <|
  .seq (ak [ae 42 1,ae 6 42]) <|
  .ret,
  [.tmp 6],43⟩
theorem BK:aU Tryz.prog 204 [3]=some yX:=by kernel_rfl
theorem Lk {is:List Bool} {i:Nat} (h:is.getD i false=true):is.set i true=is:=by
  apply List.ext_getElem?
  intro j
  simp only[List.getD_eq_getElem?_getD] at h
  rw[List.getElem?_set]
  split
  · rename_i e; subst e
    split
    · rename_i hl; rw[List.getElem?_eq_getElem hl] at h ⊢; simp at h; simp[h]
    · rename_i hl; rw[List.getElem?_eq_none (by omega)] at h; simp at h
  · rfl
theorem Hx {comes:aM→List Bool→List Int} {rules:List aM} {k:Nat} {is:List Bool} (h:dk comes rules is=is):fM comes rules k is=is:=by
  cases k with
  | zero=>rfl
  | succ k=>simp only[fM,h,if_true]
theorem Gu {comes:aM→List Bool→List Int} {rules:List aM} {k:Nat} {is:List Bool} (h:¬ dk comes rules is=is) (hk:is.length≤dd is+k):∃ j,k=j+1∧fM comes rules k is=fM comes rules j (dk comes rules is)∧(dk comes rules is).length≤dd (dk comes rules is)+j:=by
  have h1:=rZ comes rules is
  have h3:=h1.dd
  have h5:=uH (dk comes rules is)
  have:dd is < dd (dk comes rules is):=by
    rcases Nat.lt_or_ge (dd is) (dd (dk comes rules is)) with h | h
    · exact h
    · exact absurd (h3.2 (by omega)).symm (by assumption)
  have hl:=h1.1
  obtain ⟨j,rfl⟩:∃ j,k=j+1:=⟨k - 1,by omega⟩
  exact ⟨j,rfl,by simp only[fM]; rw[if_neg h],by omega⟩
theorem Ku {a is:List Bool} {i:Nat} {b:Bool} (hle:fC a is) (hi:i < is.length) (hb:b = !decide (is=a)):(b || !is.getD i false) = !decide (is.set i true=a):=by
  cases hx:is.getD i false with
  | true=>rw[Lk hx,hb]; simp
  | false =>
    have:¬ is.set i true=a:=fun e=>by
      have h1:(is.set i true).getD i false=true:=by simp[List.getD_eq_getElem?_getD,hi]
      rw[e] at h1
      have:=hle.2 i h1
      rw[hx] at this; simp at this
    simp[this]
set_option maxHeartbeats 8000000 in
theorem Gb (g:ao) (hr:g.rules.length≤40) (comes:aM→List Bool→List Int) (f:FuncId) (capt capt':List V) (hok:cX Tryz.prog f=true) (N:Nat) (hN:N≤16)
    (hc:∀ r∈g.rules,∀ is:List Bool,is.length=N→bP Tryz.prog f (.agg (aK r) :: bF is :: capt') (encI (comes r is))∧(comes r is).length≤100∧∀ n∈comes r is,bM n∧0≤n∧n < N)
    (id:Nat) (is0:List Bool) (his:is0.length=N) (H:View) (hH:H id=.arr 1 (cD is0)) (hlent:∀ H':View,(∀ k,H k≠.dead→k≠id→H' k=H k)→oL H' capt capt') :
    az Tryz.prog 204 [.agg (al g),.sl id 0 N 1,.fn f [] capt] H fun r H'=>r=.sl id 0 N 1∧H' id=.arr 1 (cD (fM comes g.rules 16 is0))∧∀ k,H k≠.dead→k≠id→H' k=H k:=by
  refine az.of mixed BK ?_
  simp (disch:=omega) only [↓wr,wq,ah,Nat.reduceAdd,Nat.reduceLeDiff,yX,al,encS]
  refine bc.intro (fun k T H'=>∃ is:List Bool,is.length=N∧H' id=.arr 1 (cD is)∧(∀ k,H k≠.dead→k≠id→H' k=H k)∧T 1=.sl id 0 N 1∧T 2=.fn f [] capt∧T 3=.aS (al g) 0 ∧
    ((T 7=gb true∧∃ j,k=j+1∧fM comes g.rules j is=fM comes g.rules 16 is0∧N≤dd is+j)∨(T 7=gb false∧is=fM comes g.rules 16 is0))) 17 ?_ ?_
  · exact ⟨is0,his,hH,fun _ _ _=>rfl,rfl,rfl,rfl,.inl ⟨rfl,16,rfl,rfl,by omega⟩⟩
  rintro k T H1 ⟨is,hlen,hid,hfr,t1,t2,t3,h7⟩
  rcases h7 with ⟨h7,j,rfl,hgr,hj⟩ | ⟨h7,hgr⟩
  · simp (disch:=omega) only [↓wr,↓reduceIte,wq,aj,Nat.reduceEqDiff,Nat.reduceAdd,Nat.reduceLT,reduceCtorEq,pN,t3,h7,al,encS]
    refine bc.up g.rules.length (fun i T H'=>∃ nf:List Bool,nf.length=N∧fC is nf∧nf=(g.rules.take i).foldl (stepG comes) is∧H' id=.arr 1 (cD nf)∧(∀ k,H k≠.dead→k≠id→H' k=H k)∧T 1=.sl id 0 N 1∧T 2=.fn f [] capt∧T 3=.aS (al g) 0 ∧
      T 7=gb (!decide (nf=is))∧T 14=.aY (g.rules.map aK)∧T 15=gi g.rules.length∧T 16=gi i) ?_ ?_
    · exact ⟨is,hlen,.refl _,rfl,hid,hfr,t1,t2,t3,by simp; rfl,rfl,rfl,rfl⟩
    clear t1 t2 t3 h7 hid hfr
    rintro i k T H1 hk ⟨nf,hlen2,hle2,hst,hid,hfr,t1,t2,t3,h7,h14,h15,h16⟩
    simp (disch:=omega) only [↓wr,↓reduceIte,wq,ag,wb,h15,h16,al,encS]
    refine ar.dec (fun hcc=>?_) (fun hcc=>?_)
    · have hg2:g.rules[i]?=some (g.rules[i]'(by omega)):=List.getElem?_eq_getElem (by omega)
      have hmem:g.rules[i]'(by omega)∈g.rules:=List.getElem_mem _
      have htk:(g.rules.take (i+1)).foldl (stepG comes) is=stepG comes ((g.rules.take i).foldl (stepG comes) is) (g.rules[i]'(by omega)):=by
        rw[List.take_add_one,hg2,List.foldl_append]; rfl
      generalize g.rules[i]'(by omega)=r at hg2 hmem htk
      obtain ⟨hcp,hcl,hcn⟩:=hc r hmem nf hlen2
      simp (disch:=omega) only [↓wr,↓reduceIte,wq,aa,Nat.reduceEqDiff,Nat.reduceAdd,Nat.reduceLT,Nat.reduceLeDiff,t1,t2,h14,h16,aK,encI,List.getElem?_map,hg2]
      intro b hb
      have hbid:b≠id:=by rintro rfl; rw[hid] at hb; simp at hb
      try simp (disch:=omega) only [↓wr,↓reduceIte,wq,ah,ag,aj,aa,ab,af,ai,isNil,Nat.reduceEqDiff,Nat.reduceAdd,Nat.reduceLT,Nat.reduceLeDiff,Int.reduceNeg,Int.reduceToNat,reduceCtorEq,t1,t2,t3,h7,h14,h15,h16]
      refine aC.qq hcp hok ⟨dh.tree (cg _ (eK r)),Ay (by simp[View.set,hbid.symm,hid]) hlen2.symm,hlent _ (fun k hk hki=>?_)⟩ ?_
      · have hkb:k≠b:=by
          rintro rfl
          rw[hfr k hk hki] at hb
          exact hk hb
        simp[View.set,hkb,hfr k hk hki]
      generalize hl:comes r nf=l at hcl hcn
      simp (disch:=omega) only [↓wr,↓reduceIte,wq,aj,encI]
      refine bc.up l.length (fun q T H'=>∃ is3:List Bool,is3.length=N∧fC is is3∧is3=qA nf (l.take q)∧H' id=.arr 1 (cD is3)∧(∀ k,H k≠.dead→k≠id→H' k=H k)∧T 1=.sl id 0 N 1∧T 2=.fn f [] capt∧T 3=.aS (al g) 0 ∧
        T 7=gb (!decide (is3=is))∧T 14=.aY (g.rules.map aK)∧T 15=gi g.rules.length∧T 16=gi i∧T 23=encI l∧T 24=gi l.length∧T 25=gi q) ?_ ?_
      · refine ⟨nf,hlen2,hle2,rfl,by simp[View.set,hbid.symm,hid],fun k hk hki=>?_,t1,t2,t3,h7,h14,h15,h16,rfl,rfl,rfl⟩
        have hkb:k≠b:=by
          rintro rfl
          rw[hfr k hk hki] at hb
          exact hk hb
        simp[View.set,hkb,hfr k hk hki]
      clear t1 t2 t3 h7 h14 h15 h16 hid hfr hb hbid
      rintro q k2 T H1 hk2 ⟨is3,hlen3,hle3,hst3,hid,hfr,t1,t2,t3,h7,h14,h15,h16,h23,h24,h25⟩
      simp (disch:=omega) only [↓wr,↓reduceIte,wq,ag,vP,h24,h25,encI]
      refine ar.dec (fun hqc=>?_) (fun hqc=>?_)
      · have hgq:l[q]?=some (l[q]'(by omega)):=List.getElem?_eq_getElem (by omega)
        have hmq:l[q]'(by omega)∈l:=List.getElem_mem _
        have htq:qA nf (l.take (q+1))=(qA nf (l.take q)).set (l[q]'(by omega)).toNat true:=by
          unfold qA; rw[List.take_add_one,hgq,List.foldl_append]; rfl
        generalize l[q]'(by omega)=n at hgq hmq htq
        obtain ⟨⟨n1,n2⟩,n3,n4⟩:=hcn n hmq
        have hbn:is3.getD n.toNat false=is3[n.toNat]'(by omega):=by simp[List.getD_eq_getElem?_getD,show n.toNat < is3.length by omega]
        have hnew:=Ku hle3 (show n.toNat < is3.length by omega) (b:=!decide (is3=is)) rfl
        rw[hbn] at hnew
        have hbg:=iB (show n.toNat < is3.length by omega)
        generalize is3[n.toNat]'(by omega)=x at hnew hbg hbn
        have fin:∀ (T2:Env),T2 7=gb (!decide (is3.set n.toNat true=is))→T2 1=.sl id 0 N 1→T2 2=.fn f [] capt→T2 3=.aS (al g) 0→T2 14=.aY (g.rules.map aK)→T2 15=gi g.rules.length→T2 16=gi i→T2 23=encI l→T2 24=gi l.length→T2 25=gi ((q:Int)+1) →
            ∃ k',k' < k2∧Es l.length k' (fun q T H'=>∃ is3:List Bool,is3.length=N∧fC is is3∧is3=qA nf (l.take q)∧H' id=.arr 1 (cD is3)∧(∀ k,H k≠.dead→k≠id→H' k=H k)∧T 1=.sl id 0 N 1∧T 2=.fn f [] capt∧T 3=.aS (al g) 0 ∧
              T 7=gb (!decide (is3=is))∧T 14=.aY (g.rules.map aK)∧T 15=gi g.rules.length∧T 16=gi i∧T 23=encI l∧T 24=gi l.length∧T 25=gi q) T2 (H1.set id (.arr 1 (cD (is3.set n.toNat true)))):=by
          intro T2 a7 a1 a2 a3 a14 a15 a16 a23 a24 a25
          refine aJ hk2 (by omega) ⟨is3.set n.toNat true,by simp[hlen3],hle3.trans (.set _ _),by rw[htq,← hst3],by simp[View.set],fun k hk hki=>by simp[View.set,hki,hfr k hk hki],a1,a2,a3,a7,a14,a15,a16,a23,a24,by rw[a25]; rfl⟩
        simp (disch:=omega) only [↓wr,↓reduceIte,wq,Nat.reduceEqDiff,Nat.reduceLT,h7,h23,h25,encI,List.getElem?_map,hgq]
        refine ar.dec (fun e=>?_) (fun e=>?_)
        · simp (disch:=omega) only [↓wr,↓reduceIte,wq,ag,aa,Nat.reduceEqDiff,Nat.reduceLT,Nat.reduceLeDiff,reduceCtorEq,t1,t2,t3,h16,h25,hid,hbg]
          refine ⟨by omega,by omega,?_⟩
          try simp (disch:=omega) only [↓wr,↓reduceIte,wq,ah,ag,aj,aa,ab,af,ai,isNil,Nat.reduceEqDiff,Nat.reduceAdd,Nat.reduceLT,Nat.reduceLeDiff,Int.reduceNeg,Int.reduceToNat,reduceCtorEq,t1,t2,t3,h7,h14,h15,h16,h23,h24,h25,encI,hid,hbg,List.length_map]
          refine ⟨by omega,by omega,?_⟩
          rw[fX]
          exact fin _ (by rw[← hnew]; simp[e]; rfl) t1 t2 t3 h14 h15 h16 h23 h24 rfl
        · simp (disch:=omega) only [↓wr,↓reduceIte,wq,ag,aa,Nat.reduceEqDiff,Nat.reduceLeDiff,reduceCtorEq,t1,t2,t3,h16,h25,hid,hbg]
          refine ⟨by omega,by omega,?_⟩
          rw[fX]
          exact fin _ (by rw[← hnew]; simp[e]; rfl) t1 t2 t3 h14 h15 h16 h23 h24 rfl
      · rw[List.take_of_length_le (by omega)] at hst3
        simp (disch:=omega) only [↓wr,↓reduceIte,wq,Nat.reduceEqDiff,reduceCtorEq,t1,t2,t3,h7,h16]
        refine aJ hk (by omega) ⟨is3,hlen3,hle3,?_,hid,hfr,t1,t2,t3,h7,h14,h15,rfl⟩
        rw[htk,← hst,stepG,hl,← hst3]
    · rw[List.take_of_length_le (by omega)] at hst
      simp (disch:=omega) only [↓wr,↓reduceIte,wq,Nat.reduceEqDiff,reduceCtorEq,t1,t2,t3,h7]
      have hrd:nf=dk comes g.rules is:=hst
      by_cases e:nf=is
      · refine ⟨0,by omega,nf,hlen2,hid,hfr,rfl,.inr ⟨by simp[e],?_⟩⟩
        rw[← hgr,e]
        exact (Hx (by rw[← hrd]; exact e)).symm
      · obtain ⟨j2,rfl,e2,e3⟩:=Gu (k:=j) (fun h=>e (hrd.trans h)) (by rw[hlen]; exact hj)
        refine ⟨j2+1,by omega,nf,hlen2,hid,hfr,rfl,.inl ⟨by simp[e],j2,rfl,?_,?_⟩⟩
        · rw[← hgr,e2,hrd]
        · rw[← hrd,hlen2] at e3; exact e3
  · simp (disch:=omega) only [↓wr,↓reduceIte,wq,Nat.reduceEqDiff,reduceCtorEq,pN,t1,h7,al,encS]
    exact ⟨hgr ▸ hid,hfr⟩
theorem zJ {α:Type} {f:α→α} {x:α} (h:f x=x):∀ n,iter f n x=x
  | 0=>rfl
  | n+1=>by rw[iter,h,zJ h n]
theorem EL {α:Type} (f:α→α):∀ (a b:Nat) (x:α),iter f (a+b) x=iter f b (iter f a x)
  | 0,b,x=>by rw[Nat.zero_add]; rfl
  | a+1,b,x=>by rw[Nat.add_right_comm,iter,iter,EL f a b]
theorem AE (comes:aM→List Bool→List Int) (rules:List aM):∀ (k:Nat) (is:List Bool),fM comes rules k is=iter (dk comes rules) k is
  | 0,is=>rfl
  | k+1,is=>by
    simp only[fM,iter]
    by_cases e:dk comes rules is=is
    · rw[if_pos e,e,zJ e]
    · rw[if_neg e,AE comes rules k]
theorem x7 (comes:aM→List Bool→List Int) (rules:List aM) (is:List Bool) (h:is.length≤16):fM comes rules 16 is=iter (dk comes rules) is.length is:=by
  have h1:=(rX comes rules is.length is (by omega)).1
  rw[AE] at h1 ⊢
  obtain ⟨m,hm⟩:∃ m,16=is.length+m:=⟨16 - is.length,by omega⟩
  rw[hm,EL,zJ h1]
def rA (t:Bool) (r:aM) (is:List Bool):List Int:=if dy r.right is t=true then [r.left] else []
def ry (p:List Bool) (r:aM) (is:List Bool):List Int:=if (is.getD r.left.toNat false && dy r.right p true)=true then fw r.right else []
theorem F6 (g:ao) (t:Bool):dk (rA t) g.rules=iZ g t:=by
  funext is
  unfold dk iZ
  congr 1
  funext is r
  unfold stepG rA dD
  split <;> rfl
theorem A5:∀ (l:List Int) (is:List Bool),qA is (fw l)=l.foldl mark is
  | [],is=>rfl
  | s :: l,is=>by
    have ih:=A5 l
    unfold qA fw at ih ⊢
    rw[List.foldl_cons,← ih]
    unfold mark
    by_cases h:s < 0
    · rw[if_pos h,List.filter_cons_of_pos (by simpa using h)]; rfl
    · rw[if_neg h,List.filter_cons_of_neg (by simpa using h)]
theorem FX (g:ao) (p:List Bool):dk (ry p) g.rules=mq g p:=by
  funext is
  unfold dk mq
  congr 1
  funext is r
  unfold stepG ry eM
  split
  · exact A5 _ _
  · rfl
theorem IB {g:ao} (h:bm g=true) (t:Bool):fM (rA t) g.rules 16 (bZ g)=aI g t:=by
  have hf:=aX h
  have hl:(bZ g).length=g.au.length:=by simp[bZ]
  have:=hf.au
  rw[x7 _ _ _ (by rw[hl]; exact hf.au),F6,hl,aI,if_pos h]
theorem Jd {g:ao} (h:bm g=true):fM (ry (aI g true)) g.rules 16 ((bZ g).set g.start.toNat true)=bz g:=by
  have hf:=aX h
  have hl:((bZ g).set g.start.toNat true).length=g.au.length:=by simp[bZ]
  rw[x7 _ _ _ (by rw[hl]; exact hf.au),FX,hl,bz,if_pos h]
def p9:SF:=⟨.seq (ak [cx 1 0,((some 2),.op (.aZ (.val (.emp 1))))]) <|
  .seq (.seq (ak [aT 3 4 1,aL 4 45 [3],cd 5 4]) <|
  .cond (.tmp 5) (.seq (ak [((some 2),.op (.aZ (.val (.emp 1))))]) <|
  .ret) (.skip)) <|
  .seq (ak [aT 6 4 1,aq 7 1 1,an 8 7,aP 9 8,((some 10),.op (.make 1 1 [(.val (.bool false))] (.tmp 9) (.tmp 9))),cL 11 204 [(.tmp 6),(.tmp 10),(.val (.fn 205 [] []))],ae 2 11]) <|
  .ret,
  [.tmp 2],12⟩
theorem u6:aU Tryz.prog 160 [1]=some p9:=by kernel_rfl
def rh:SF:=⟨.seq (ak [cx 1 0,((some 2),.op (.aZ (.val (.emp 1))))]) <|
  .seq (.seq (ak [aT 5 4 1,aL 6 45 [5],cd 7 6]) <|
  .cond (.tmp 7) (.seq (ak [((some 2),.op (.aZ (.val (.emp 1))))]) <|
  .ret) (.skip)) <|
  .seq (ak [aT 8 4 1,aL 9 160 [8],((some 3),.op (.alloc [(.emp 1)])),(none,.op (.store 1 (.tmp 3) (.tmp 9)))]) <|
  .seq (ak [aq 10 1 1,an 11 10,aP 12 11,((some 13),.op (.make 1 1 [(.val (.bool false))] (.tmp 12) (.tmp 12))),ae 4 13]) <|
  .seq (ak [ae 14 4,aq 15 3 1,an 16 15,aQ 17 1 14 16,(none,.op (.store 1 (.tmp 17) (.val (.val (.bool true)))))]) <|
  .seq (ak [aT 18 4 1,ae 19 4,((some 20),.op (.uV 206 [] [(.tmp 3)])),aL 21 204 [18,19,20],ae 2 21]) <|
  .ret,
  [.tmp 2],22⟩
theorem wA:aU Tryz.prog 161 [1]=some rh:=by kernel_rfl
structure ao.Small (g:ao):Prop where
  names:g.au.length+g.ay.length≤1000
theorem B6 {h':aE} {id n:Nat} {is:List Bool} (hv:h'.view id=.arr 1 (cD is)) (hn:n=is.length):cP h' (.sl id 0 n 1) (bF is):=by
  subst hn; exact lP hv
set_option maxHeartbeats 2000000 in
theorem tG (g:ao) (hg:g.Ok) (hs:g.Small):bP Tryz.prog 160 [.agg (al g)] (bF (aI g true)):=by
  refine bP.of (dM g) ?_
  refine az.of mixed u6 ?_
  have hn:=hg.au
  unfold aN at hn
  simp (disch:=omega) only [↓wr,↓reduceIte,wq,ah,Nat.reduceEqDiff,Nat.reduceAdd,Nat.reduceLeDiff,p9,al,encS]
  refine aC.pure (lR g hg hs.names) (by kernel_rfl) ?_
  repeat' (first | (refine ar.dec (fun _=>?_) (fun _=>?_)) | (refine ar.eq (fun _=>?_) (fun _=>?_)) | (refine ar.ne (fun _=>?_) (fun _=>?_)) | (refine ar.split (fun _=>?_) (fun _=>?_)) | (simp (disch:=omega) only [↓wr,↓reduceIte,wq,aj,Nat.reduceEqDiff,Nat.reduceAdd,Nat.reduceLT,Nat.reduceLeDiff,reduceCtorEq]))
  · rename_i hr
    have hf:=aX hr
    have h1:=hf.ka
    have h2:=hf.au
    try simp (disch:=omega) only [↓wr,↓reduceIte,wq,ah,ag,aj,aa,ab,af,ai,isNil,Nat.reduceEqDiff,Nat.reduceAdd,Nat.reduceLT,Nat.reduceLeDiff,Int.reduceNeg,Int.reduceToNat,reduceCtorEq,al,encS]
    refine ⟨⟨by omega,by unfold aG; omega,by unfold aG; omega⟩,fun h=>by omega,?_⟩
    intro _ n
    try simp (disch:=omega) only [↓wr,↓reduceIte,wq,ah,ag,aj,aa,ab,af,ai,isNil,Nat.reduceEqDiff,Nat.reduceAdd,Nat.reduceLT,Nat.reduceLeDiff,Int.reduceNeg,Int.reduceToNat,reduceCtorEq,al,encS]
    refine aC.gA ((Gb g hf.rules (rA true) 205 [] [] (by kernel_rfl) g.au.length h2 (fun r hr' is his=>⟨BU r is (by rw[his]; exact hf.pG hg hr'),?_,?_⟩) n (bZ g) (by simp[bZ]) _ (by simp[View.set,bZ]) (fun H' _=>trivial)).mono ?_)
    · unfold rA; split <;> simp
    · intro m hm
      unfold rA at hm
      split at hm
      · simp only[List.mem_singleton] at hm; subst hm
        exact ⟨(hg.ba r hr').1,hf.left r hr'⟩
      · simp at hm
    · rintro r H' ⟨rfl,hid,_⟩
      simp (disch:=omega) only [↓wr,↓reduceIte,wq,reduceCtorEq]
      intro h' hh
      rw[IB hr] at hid
      exact B6 (by rw[hh]; exact hid) (iX hr _).symm
  · rename_i hr
    intro h' hh
    simp only[aI,hr]
    exact .emp _
theorem oH {g:ao} (hr:bm g=true):(bz g).length=g.au.length:=by
  rw[bz,if_pos hr,za (f:=mq g (aI g true)) (fun is=>y6 (fun is x=>Is _ is x) g.rules is)]
  simp[bZ]
set_option maxHeartbeats 2000000 in
theorem Dn (g:ao) (hg:g.Ok) (hs:g.Small):bP Tryz.prog 161 [.agg (al g)] (bF (bz g)):=by
  refine bP.of (dM g) ?_
  refine az.of mixed wA ?_
  have hn:=hg.au
  unfold aN at hn
  simp (disch:=omega) only [↓wr,↓reduceIte,wq,ah,Nat.reduceEqDiff,Nat.reduceAdd,Nat.reduceLeDiff,rh,al,encS]
  refine aC.pure (lR g hg hs.names) (by kernel_rfl) ?_
  repeat' (first | (refine ar.dec (fun _=>?_) (fun _=>?_)) | (refine ar.eq (fun _=>?_) (fun _=>?_)) | (refine ar.ne (fun _=>?_) (fun _=>?_)) | (refine ar.split (fun _=>?_) (fun _=>?_)) | (simp (disch:=omega) only [↓wr,↓reduceIte,wq,Nat.reduceEqDiff,Nat.reduceAdd,Nat.reduceLeDiff,reduceCtorEq]))
  · rename_i hr
    have hf:=aX hr
    have h1:=hf.ka
    have h2:=hf.au
    have h3:=hf.eA
    have h4:=hf.start
    have hpl:=iX hr true
    try simp (disch:=omega) only [↓wr,↓reduceIte,wq,ah,ag,aj,aa,ab,af,ai,isNil,Nat.reduceEqDiff,Nat.reduceAdd,Nat.reduceLT,Nat.reduceLeDiff,Int.reduceNeg,Int.reduceToNat,reduceCtorEq,al,encS]
    refine aC.pure (tG g hg hs).pure (by kernel_rfl) ?_
    simp (disch:=omega) only [↓wr,↓reduceIte,wq,aj,aa,Nat.reduceEqDiff,Nat.reduceAdd,Nat.reduceLT,Nat.reduceLeDiff,bF]
    intro q
    try simp (disch:=omega) only [↓wr,↓reduceIte,wq,ah,ag,aj,aa,ab,af,ai,isNil,Nat.reduceEqDiff,Nat.reduceAdd,Nat.reduceLT,Nat.reduceLeDiff,Int.reduceNeg,Int.reduceToNat,reduceCtorEq,al,encS,set_set]
    refine ⟨⟨by omega,by unfold aG; omega,by unfold aG; omega⟩,fun h=>by omega,?_⟩
    intro _ n hn'
    have hnq:=(bV hn' bT).1
    try simp (disch:=omega) only [↓wr,↓reduceIte,wq,ah,ag,aj,aa,ab,af,ai,isNil,Nat.reduceEqDiff,Nat.reduceAdd,Nat.reduceLT,Nat.reduceLeDiff,Int.reduceNeg,Int.reduceToNat,reduceCtorEq,al,encS,set_set]
    have hbg:=iB (is:=bZ g) (show g.start.toNat < (bZ g).length by simp[bZ]; omega)
    refine ⟨by omega,by simp; omega,?_⟩
    refine aC.gA ((Gb g hf.rules (ry (aI g true)) 206 [.ptr q 0 0] [.aS [bF (aI g true)] 0] (by kernel_rfl) g.au.length h2 (fun r hr' is his=>⟨Dm r is (aI g true) (by rw[his]; exact hf.pG hg hr') (by rw[his,hpl]),?_,?_⟩) n ((bZ g).set g.start.toNat true) (by simp[bZ]) _ ?_ (fun H' hfr=>⟨dh.box (z:=1) ?_ ?_,trivial⟩)).mono ?_)
    · have h6:=hf.right r hr'
      unfold ry
      split
      · have:(fw r.right).length≤r.right.length:=by simp only[fw,List.length_map]; exact List.length_filter_le _ _
        omega
      · simp
    · intro m hm
      unfold ry at hm
      split at hm
      · simp only[fw,List.mem_map,List.mem_filter,decide_eq_true_eq] at hm
        obtain ⟨s,⟨hs',hneg⟩,rfl⟩:=hm
        have a:=hf.neg hr' hs' hneg
        have b:=((hg.ba r hr').2.2.2 s hs').1
        exact ⟨⟨by omega,by omega⟩,by omega,a⟩
      · simp at hm
    · simp only[View.set,if_true]
      congr 1
      rw[← fX]
      unfold bZ at hbg ⊢
      rw[sy,hbg]
      rfl
    · rw[hfr q (by simp[View.set,Ne.symm hnq]) (Ne.symm hnq)]
      simp[View.set,Ne.symm hnq]
      rfl
    · intro v hv; simp at hv; subst hv; exact gN _
    · rintro r H' ⟨rfl,hid,_⟩
      simp (disch:=omega) only [↓wr,↓reduceIte,wq,reduceCtorEq]
      intro h' hh
      rw[Jd hr] at hid
      exact B6 (by rw[hh]; exact hid) (by rw[oH hr])
  · rename_i hr
    intro h' hh
    simp only[bz,hr]
    exact .emp _
def bG (p q:List Bool) (r:aM):Bool:=q.getD r.left.toNat false && dy r.right p true
def cq (p q:List Bool):List aM→Int→List Int
  | [],_=>[]
  | r :: l,i=>if bG p q r=true then i :: cq p q l (i+1) else cq p q l (i+1)
def di (acc:List Int) (r:aM):List Int:=if r.left∈acc then acc else acc ++ [r.left]
def bL (p q:List Bool) (l:List aM):List Int:=(l.filter (bG p q)).foldl di []
def bo (o:List Int) (x:Int):Int:=cI (fun y=>y == x) o 0
def bj (f:Int→Int) (r:aM):aM:=⟨f r.left,r.right.map fun s=>if s < 0 then -1 - f (-1 - s) else s,r.prec⟩
def je (g:ao) (f:Int→Int) (p q:List Bool):ao :=
  ⟨g.ay,(bL p q g.rules).map fun x=>g.au.getD x.toNat ⟨#[]⟩,(g.rules.filter (bG p q)).map (bj f),f g.start⟩
def q8:ao:=⟨[],[],[],0⟩
instance:DecidableEq Term:=fun a b=>decidable_of_iff (a.name=b.name∧a.level=b.level∧a.assoc=b.assoc) (by cases a; cases b; simp)
instance:DecidableEq aM:=fun a b=>decidable_of_iff (a.left=b.left∧a.prec=b.prec∧a.right=b.right) (by cases a; cases b; simp[and_comm])
instance:DecidableEq ao:=fun a b=>decidable_of_iff (a.ay=b.ay∧a.au=b.au∧a.rules=b.rules∧a.start=b.start) (by cases a; cases b; simp)
def eX (g:ao):ao × List Int × Int :=
  if bm g=true then
    if (aI g true).getD g.start.toNat false=true then (je g (bo (bL (aI g true) (bz g) g.rules)) (aI g true) (bz g),cq (aI g true) (bz g) g.rules 0,0)
    else (q8,[],9)
  else (q8,[],1)
theorem m0 {g:ao} (hr:bm g=true):eX g=if (aI g true).getD g.start.toNat false=true then (je g (bo (bL (aI g true) (bz g) g.rules)) (aI g true) (bz g),cq (aI g true) (bz g) g.rules 0,0) else (q8,[],9):=by
  rw[eX,if_pos hr]
theorem jY (p q:List Bool):∀ (a b:List aM) (i:Int),cq p q (a ++ b) i=cq p q a i ++ cq p q b (i+a.length)
  | [],b,i=>by simp[cq]
  | r :: a,b,i=>by
    simp only[List.cons_append,cq,jY p q a b (i+1),List.length_cons]
    have:i+1+(a.length:Int)=i+((a.length+1:Nat):Int):=by push_cast; omega
    rw[this]
    split <;> simp
theorem jW (p q:List Bool):∀ (a:List aM) (i:Int),(cq p q a i).length=(a.filter (bG p q)).length
  | [],i=>rfl
  | r :: a,i=>by
    simp only[cq,List.filter_cons]
    split <;> simp[jW p q a]
theorem sx (p q:List Bool):∀ (a:List aM) (i:Int) (k:Nat),k < (cq p q a i).length→∃ m:Nat,(cq p q a i)[k]?=some (i+m)∧a[m]?=(a.filter (bG p q))[k]?∧m < a.length
  | [],i,k,h=>by simp[cq] at h
  | r :: a,i,k,h=>by
    simp only[cq,List.filter_cons] at h ⊢
    by_cases hr:bG p q r=true
    · rw[if_pos hr] at h ⊢
      rw[if_pos hr]
      cases k with
      | zero=>exact ⟨0,by simp,by simp,by simp⟩
      | succ k =>
        obtain ⟨m,h1,h2,h3⟩:=sx p q a (i+1) k (by simpa using h)
        exact ⟨m+1,by rw[List.getElem?_cons_succ,h1]; congr 1; push_cast; omega,by simpa using h2,by simpa using h3⟩
    · rw[if_neg hr] at h ⊢
      rw[if_neg hr]
      obtain ⟨m,h1,h2,h3⟩:=sx p q a (i+1) k h
      exact ⟨m+1,by rw[h1]; congr 1; push_cast; omega,by simpa using h2,by simpa using h3⟩
theorem sn (p q:List Bool) (l:List aM) (r:aM):bL p q (l ++ [r])=if bG p q r=true then di (bL p q l) r else bL p q l:=by
  unfold bL
  rw[List.filter_append]
  by_cases h:bG p q r=true
  · rw[if_pos h,List.filter_cons_of_pos h,List.foldl_append]; rfl
  · rw[if_neg h,List.filter_cons_of_neg h]; simp
theorem AR {acc:List Int} {r:aM} (h:acc.Nodup):(di acc r).Nodup:=by
  unfold di
  split
  · exact h
  · rename_i hn
    rw[List.nodup_append]
    exact ⟨h,by simp,fun a ha b hb e=>hn (by simp at hb; rw[← hb,← e]; exact ha)⟩
theorem rf {o:List Int} {x:Int} : bo o x < 0↔x ∉ o:=by
  have:=nM (fun y=>y == x) o 0 (by omega)
  unfold bo
  rw[← Int.not_le]
  constructor
  · intro h hx
    have e:(o.any fun y=>y == x)=true:=List.any_eq_true.2 ⟨x,hx,by simp⟩
    rw[e] at this; exact h (by simpa using this)
  · intro h hx
    have e:(o.any fun y=>y == x)=true:=by rw[← this]; simpa using hx
    obtain ⟨y,hy,e⟩:=List.any_eq_true.1 e
    simp at e; subst e; exact h hy
theorem ta {α:Type} (p:α→Bool):∀ (a b:List α) (i:Int),0≤i→cI p (a ++ b) i=if 0≤cI p a i then cI p a i else cI p b (i+a.length)
  | [],b,i,_=>by simp[cI]
  | x :: a,b,i,h=>by
    by_cases hp:p x=true
    · simp[cI,hp,h]
    · simp only[List.cons_append,cI,if_neg hp]
      rw[ta p a b (i+1) (by omega)]
      have:i+1+(a.length:Int)=i+(((x :: a).length:Nat):Int):=by simp; omega
      rw[this]
theorem Ia {o:List Int} {x y:Int} (hx:x ∉ o):bo (o ++ [x]) y=if y=x then (o.length:Int) else bo o y:=by
  unfold bo
  rw[ta _ _ _ _ (by omega)]
  by_cases e:y=x
  · subst e
    rw[if_neg (by have:=rf.2 hx; unfold bo at this; omega),if_pos rfl]
    simp[cI]
  · rw[if_neg e]
    split
    · rfl
    · rename_i h
      have:bo o y < 0:=by unfold bo; omega
      have h2:cI (fun z=>z == y) [x] (0+(o.length:Int)) = -1:=by simp[cI,Ne.symm e]
      rw[h2]
      have:∀ (l:List Int) (i:Int),¬ 0≤cI (fun z=>z == y) l i→0≤i→cI (fun z=>z == y) l i = -1:=by
        intro l
        induction l with
        | nil=>intro i _ _; rfl
        | cons z l ih =>
          intro i h1 h2
          simp only[cI] at h1 ⊢
          split
          · rename_i hz; rw[if_pos hz] at h1; omega
          · rename_i hz; rw[if_neg hz] at h1; exact ih _ h1 (by omega)
      exact (this o 0 h (by omega)).symm
theorem kj {o:List Int} {x:Int} (h:x∈o):0≤bo o x∧bo o x < o.length:=by
  have h0:¬ bo o x < 0:=fun e=>rf.1 e h
  refine ⟨by omega,?_⟩
  unfold bo
  have:∀ (l:List Int) (i:Int),cI (fun z=>z == x) l i < i+l.length∨cI (fun z=>z == x) l i = -1:=by
    intro l
    induction l with
    | nil=>intro i; right; rfl
    | cons z l ih =>
      intro i
      simp only[cI]
      split
      · left; simp; omega
      · rcases ih (i+1) with h | h
        · left; simp at h ⊢; omega
        · right; exact h
  rcases this o 0 with h1 | h1
  · simpa using h1
  · unfold bo at h0; omega
theorem BP (o:List Int) (x:Int) : -1≤bo o x∧bo o x≤o.length:=by
  by_cases h:x∈o
  · have:=kj h; omega
  · have h1:=rf.2 h
    have h2:∀ (l:List Int) (i:Int),0≤i→-1≤cI (fun z=>z == x) l i:=by
      intro l
      induction l with
      | nil=>intro i _; simp[cI]
      | cons z l ih =>
        intro i hi
        simp only[cI]
        split
        · omega
        · exact ih _ (by omega)
    have:=h2 o 0 (by omega)
    unfold bo at h1 ⊢
    omega
def iG:List Int→Int→List (Int × Int)
  | [],_=>[]
  | x :: l,i=>(x,i) :: iG l (i+1)
theorem sB (x:Int):∀ (o:List Int) (i:Int),dw (iG o i) x=if x∈o then some (cI (fun y=>y == x) o i) else none
  | [],i=>by simp[iG,dw]
  | y :: o,i=>by
    have ih:=sB x o (i+1)
    unfold dw at ih ⊢
    simp only[iG,List.find?_cons,cI]
    by_cases e:x=y
    · subst e; simp
    · have e2:¬ ((y == x)=true):=by simp[Ne.symm e]
      rw[show (x == y)=false by simp[e],if_neg e2]
      simp only
      rw[ih]
      simp[e]
theorem Ct {x v:Int} : ∀ {o:List Int} {i:Int},x ∉ o→jg x v (iG o i)=iG o i ++ [(x,v)]
  | [],i,_=>rfl
  | y :: o,i,h=>by
    simp only[List.mem_cons,not_or] at h
    simp only[iG,jg,show (x == y)=false by simp[h.1],Bool.false_eq_true,if_false,Ct h.2,List.cons_append]
theorem Ad {x:Int} : ∀ {o:List Int} {i:Int},iG (o ++ [x]) i=iG o i ++ [(x,i+o.length)]
  | [],i=>by simp[iG]
  | y :: o,i=>by
    simp only[List.cons_append,iG,Ad (o:=o),List.length_cons]
    congr 4
    push_cast; omega
def dr (o:List Int) (x:Int):Int:=(dw (iG o 0) x).getD 0
theorem yA {o:List Int} {x:Int} (h:x∈o):dr o x=bo o x:=by
  simp[dr,sB,h,bo]
theorem MS (o:List Int) (x:Int):0≤dr o x∧dr o x≤o.length:=by
  by_cases h:x∈o
  · rw[yA h]; have:=kj h; omega
  · simp[dr,sB,h]
theorem Im {g:ao} {p q:List Bool} (hst:g.start∈bL p q g.rules) (hin:∀ r∈g.rules.filter (bG p q),r.left∈bL p q g.rules∧∀ s∈r.right,s < 0→-1 - s∈bL p q g.rules) :
    je g (dr (bL p q g.rules)) p q=je g (bo (bL p q g.rules)) p q:=by
  unfold je
  congr 1
  · apply List.map_congr_left
    intro r hr
    obtain ⟨h1,h2⟩:=hin r hr
    unfold bj
    congr 1
    · exact yA h1
    · apply List.map_congr_left
      intro s hs
      split
      · rename_i h; rw[yA (h2 s hs h)]
      · rfl
  · exact yA hst
theorem ui:∀ (l:List aM) (acc:List Int) (x:Int),x∈l.foldl di acc↔x∈acc∨∃ r∈l,r.left=x
  | [],acc,x=>by simp
  | r :: l,acc,x=>by
    rw[List.foldl_cons,ui l]
    have:x∈di acc r↔x∈acc∨r.left=x:=by
      unfold di
      split
      · rename_i h
        constructor
        · exact .inl
        · rintro (h' | rfl)
          · exact h'
          · exact h
      · simp[eq_comm]
    rw[this]
    simp only[List.mem_cons,exists_eq_or_imp]
    constructor
    · rintro ((h | h) | h)
      · exact .inl h
      · exact .inr (.inl h)
      · exact .inr (.inr h)
    · rintro (h | h | h)
      · exact .inl (.inl h)
      · exact .inl (.inr h)
      · exact .inr h
theorem q9 {p q:List Bool} {l:List aM} {x:Int} : x∈bL p q l↔∃ r∈l,bG p q r=true∧r.left=x:=by
  unfold bL
  rw[ui]
  simp[List.mem_filter,and_assoc]
end Gv
