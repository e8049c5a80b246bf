/-
  Part 10 of the proof: what the machine does and what the functions answer.
  Conditions: those that each lemma names.
-/
import Derived.Test.YtihmlbdfcmfbdaaGreatSGzA6I
set_option linter.unusedSimpArgs false
set_option linter.unusedVariables false
set_option maxRecDepth 100000
namespace Gv
open Go Go.Proofs
theorem bF.gz {P:Program} {f:FuncId} {h:aE} (h1:bF P f [.emp 1] h (.emp 1) h) (h2:bF P f [.emp 2] h (.emp 2) h) (h3:bF P f [.dq] h (.emp 2) h):bF P f [.aZ []] h (.emp 0) h:=by
  refine ⟨Nat.le_refl _,fun Z μ F w xs hrel hr hfree=>?_⟩
  obtain ⟨hl,hv⟩:=hrel
  obtain ⟨x,rfl⟩:∃ x,xs=[x]:=by
    match xs,hl with
    | [x],_=>exact ⟨x,rfl⟩
  have h0:aB Z μ w.heap (.aZ []) x:=hv 0 (by simp)
  have one:∀ v,aB Z μ w.heap v x→en Z μ w.heap [v] [x]:=fun v h=>⟨rfl,fun i hi=>by
    simp at hi; subst hi; exact h⟩
  have weak:∀ k,bF P f [if k=3 then .dq else .emp k] h (if k=3 then .emp 2 else .emp k) h→aB Z μ w.heap (if k=3 then .dq else .emp k) x→Calls P f [x].toArray w fun e w'=>∃ x Z' μ',e=.returned x∧aB Z' μ' w'.heap (.emp 0) x∧gf Z' μ' w'.heap (cat h F)∧Ext Z μ w h.length Z' μ' w'∧(∀ id,id < h.length∨h.length≤id→μ' id=μ id):=by
    intro k hk hx
    refine (hk.2 Z μ F w [x] (one _ hx) hr hfree).mono ?_
    rintro e w' ⟨y,Z',μ',rfl,hy,rest⟩
    refine ⟨y,Z',μ',rfl,?_,rest⟩
    have:∀ k',aB Z' μ' w'.heap (.emp k') y→aB Z' μ' w'.heap (.emp 0) y:=fun k' h=>by
      cases h with | emp _ a _ _=>exact .emp 0 a (by simp) (by simp)
    split at hy <;> exact this _ hy
  rcases Gx h0 with ⟨_,a,cap,rfl,hz⟩ | ⟨b,off,esz,cap,c,rfl,_,_,_⟩
  · cases a with
    | none =>
      have:=hz rfl
      subst this
      exact weak 1 (by simpa using h1) (.emp 1 none (by simp) (by simp))
    | some a =>
      cases cap with
      | zero=>exact weak 2 (by simpa using h2) (.emp 2 (some a) (by simp) (by simp))
      | succ c=>exact weak 3 (by simpa using h3) (.dq a (c+1))
  · cases cap with
    | zero=>exact weak 2 (by simpa using h2) (.emp 2 (some ⟨b,off,none⟩) (by simp) (by simp))
    | succ c=>exact weak 3 (by simpa using h3) (.dq ⟨b,off,none⟩ (c+1))
def xG (sz:Nat) (es:List (List V)) (H:View) (K:V→View→Prop):Prop :=
  (es=[]→∀ k,K (.emp k) H)∧(es≠[]→∀ n,H n=.dead→K (.sl n 0 es.length sz) (H.set n (.arr sz es)))
def cT:SF:=⟨.seq (ak [((some 2),.op (.bm (.val (.emp 1))))]) <|
  .seq (.seq (ak [aa 3 0,((some 4),.op (.nil true 0 (.tmp 3) (.val (.emp 1))))]) <|
  .cond (.tmp 4) (.seq (ak [((some 2),.op (.bm (.val (.emp 1))))]) <|
  .ret) (.skip)) <|
  .seq (ak [((some 5),.op (.bm (.val (.emp 2)))),aa 6 0,((some 7),.op (.app 1 16 (.tmp 5) (.tmp 6))),aa 2 7]) <|
  .ret,
  [.tmp 2],8⟩
theorem dg:bf Tryz.prog 96 []=some cT:=by kernel_rfl
def dI:SF:=⟨.seq (ak [((some 2),.op (.bm (.val (.emp 1))))]) <|
  .seq (.seq (ak [aa 3 0,((some 4),.op (.nil true 0 (.tmp 3) (.val (.emp 1))))]) <|
  .cond (.tmp 4) (.seq (ak [((some 2),.op (.bm (.val (.emp 1))))]) <|
  .ret) (.skip)) <|
  .seq (ak [((some 5),.op (.bm (.val (.emp 2)))),aa 6 0,((some 7),.op (.app 1 8 (.tmp 5) (.tmp 6))),aa 2 7]) <|
  .ret,
  [.tmp 2],8⟩
theorem dX:bf Tryz.prog 161 []=some dI:=by kernel_rfl
def cx:SF:=⟨.seq (ak [((some 2),.op (.bm (.val (.emp 1))))]) <|
  .seq (.seq (ak [aa 3 0,((some 4),.op (.nil true 0 (.tmp 3) (.val (.emp 1))))]) <|
  .cond (.tmp 4) (.seq (ak [((some 2),.op (.bm (.val (.emp 1))))]) <|
  .ret) (.skip)) <|
  .seq (ak [((some 5),.op (.bm (.val (.emp 2)))),aa 6 0,((some 7),.op (.app 3 32 (.tmp 5) (.tmp 6))),aa 2 7]) <|
  .ret,
  [.tmp 2],8⟩
theorem cL:bf Tryz.prog 159 []=some cx:=by kernel_rfl
theorem aD.tree {P:Program} {f:FuncId} {vs:List V} {t:V} (hv:∀ v∈vs,Tree v) (ht:Tree t) (h:∀ H,aC P f vs H fun r _=>r=t):aD P f vs t :=
  aD.of hv ((h _).mono fun r H' e h' _=>by rw[e]; exact .tree _ ht)
theorem nX {H:View} : bI H .dq=some ([],[]):=id rfl
theorem gK {H:View} (sz bytes k:Nat) (K:V→View→Prop) (w:cD (H,K)):mq sz bytes (.emp k) [] H K w=K (.emp k) H:=propext Iff.rfl
theorem Kl (l:List ByteArray) (hl:l.length≤100000) (H:View) (K:V→View→Prop) (hk:xG 1 (l.map fun s=>[gs s]) H K):aC Tryz.prog 96 [encS l] H K:=by
  cases l with
  | nil =>
    have hp:∀ v t,Tree v→Tree t→(∀ H,aC Tryz.prog 96 [v] H fun r _=>r=t)→aD Tryz.prog 96 [v] t:=fun v t hv ht h=>aD.tree (by intro x hx; simp at hx; subst hx; exact hv) ht h
    have h1:=hp (.emp 1) (.emp 1) (.emp 1) (.emp 1) (fun H=>by
      refine aC.of mixed dg ?_
      simp (disch:=omega) only [↓wr,↓reduceIte,wq,ah,ag,aj,ab,ae,af,ai,isNil,Nat.reduceEqDiff,Nat.reduceAdd,Nat.reduceLT,Nat.reduceLeDiff,Int.reduceNeg,Int.reduceToNat,reduceCtorEq,cT])
    have h2:=hp (.emp 2) (.emp 2) (.emp 2) (.emp 2) (fun H=>by
      refine aC.of mixed dg ?_
      simp (disch:=omega) only [↓wr,↓reduceIte,wq,ah,ag,aj,ab,ae,af,ai,isNil,Nat.reduceEqDiff,Nat.reduceAdd,Nat.reduceLT,Nat.reduceLeDiff,Int.reduceNeg,Int.reduceToNat,reduceCtorEq,cT,gK,List.isEmpty_nil])
    have h3:=hp .dq (.emp 2) .dq (.emp 2) (fun H=>by
      refine aC.of mixed dg ?_
      simp (disch:=omega) only [↓wr,↓reduceIte,wq,ah,ag,aj,ab,ae,af,ai,isNil,Nat.reduceEqDiff,Nat.reduceAdd,Nat.reduceLT,Nat.reduceLeDiff,Int.reduceNeg,Int.reduceToNat,reduceCtorEq,cT,nX,gK,List.isEmpty_nil])
    refine ⟨by kernel_rfl,?_⟩
    rintro h rfl
    exact ⟨.emp 0,h,bF.gz (bF.fk h1 h) (bF.fk h2 h) (bF.fk h3 h),.refl _,hk.1 rfl 0⟩
  | cons x r =>
    refine aC.of mixed dg ?_
    simp only[List.length_cons] at hl
    simp (disch:=omega) only [↓wr,↓reduceIte,wq,ah,ag,aj,ab,ae,af,ai,isNil,Nat.reduceEqDiff,Nat.reduceAdd,Nat.reduceLT,Nat.reduceLeDiff,Int.reduceNeg,Int.reduceToNat,reduceCtorEq,cT,encS]
    refine ⟨?_,?_,?_⟩
    · simp[List.all_map,encS,aV]
    · unfold aO; simp; omega
    · intro n hn
      have:=hk.2 (by simp) n hn
      simp (disch:=omega) only [↓wr,↓reduceIte,wq,ah,ag,aj,ab,ae,af,ai,isNil,Nat.reduceEqDiff,Nat.reduceAdd,Nat.reduceLT,Nat.reduceLeDiff,Int.reduceNeg,Int.reduceToNat,reduceCtorEq]
      simpa [cE] using this
theorem LJ (l:List Int) (hl:l.length≤100000) (H:View) (K:V→View→Prop) (hk:xG 1 (l.map fun s=>[gi s]) H K):aC Tryz.prog 161 [encI l] H K:=by
  cases l with
  | nil =>
    have hp:∀ v t,Tree v→Tree t→(∀ H,aC Tryz.prog 161 [v] H fun r _=>r=t)→aD Tryz.prog 161 [v] t:=fun v t hv ht h=>aD.tree (by intro x hx; simp at hx; subst hx; exact hv) ht h
    have h1:=hp (.emp 1) (.emp 1) (.emp 1) (.emp 1) (fun H=>by
      refine aC.of mixed dX ?_
      simp (disch:=omega) only [↓wr,↓reduceIte,wq,ah,ag,aj,ab,ae,af,ai,isNil,Nat.reduceEqDiff,Nat.reduceAdd,Nat.reduceLT,Nat.reduceLeDiff,Int.reduceNeg,Int.reduceToNat,reduceCtorEq,dI])
    have h2:=hp (.emp 2) (.emp 2) (.emp 2) (.emp 2) (fun H=>by
      refine aC.of mixed dX ?_
      simp (disch:=omega) only [↓wr,↓reduceIte,wq,ah,ag,aj,ab,ae,af,ai,isNil,Nat.reduceEqDiff,Nat.reduceAdd,Nat.reduceLT,Nat.reduceLeDiff,Int.reduceNeg,Int.reduceToNat,reduceCtorEq,dI,gK,List.isEmpty_nil])
    have h3:=hp .dq (.emp 2) .dq (.emp 2) (fun H=>by
      refine aC.of mixed dX ?_
      simp (disch:=omega) only [↓wr,↓reduceIte,wq,ah,ag,aj,ab,ae,af,ai,isNil,Nat.reduceEqDiff,Nat.reduceAdd,Nat.reduceLT,Nat.reduceLeDiff,Int.reduceNeg,Int.reduceToNat,reduceCtorEq,dI,nX,gK,List.isEmpty_nil])
    refine ⟨by kernel_rfl,?_⟩
    rintro h rfl
    exact ⟨.emp 0,h,bF.gz (bF.fk h1 h) (bF.fk h2 h) (bF.fk h3 h),.refl _,hk.1 rfl 0⟩
  | cons x r =>
    refine aC.of mixed dX ?_
    simp only[List.length_cons] at hl
    simp (disch:=omega) only [↓wr,↓reduceIte,wq,ah,ag,aj,ab,ae,af,ai,isNil,Nat.reduceEqDiff,Nat.reduceAdd,Nat.reduceLT,Nat.reduceLeDiff,Int.reduceNeg,Int.reduceToNat,reduceCtorEq,dI,encI]
    refine ⟨?_,?_,?_⟩
    · simp[List.all_map,encI,aV]
    · unfold aO; simp; omega
    · intro n hn
      have:=hk.2 (by simp) n hn
      simp (disch:=omega) only [↓wr,↓reduceIte,wq,ah,ag,aj,ab,ae,af,ai,isNil,Nat.reduceEqDiff,Nat.reduceAdd,Nat.reduceLT,Nat.reduceLeDiff,Int.reduceNeg,Int.reduceToNat,reduceCtorEq]
      simpa [cE] using this
theorem LP (l:List Term) (hl:l.length≤100000) (H:View) (K:V→View→Prop) (hk:xG 3 (l.map cE) H K):aC Tryz.prog 159 [dR l] H K:=by
  cases l with
  | nil =>
    have hp:∀ v t,Tree v→Tree t→(∀ H,aC Tryz.prog 159 [v] H fun r _=>r=t)→aD Tryz.prog 159 [v] t:=fun v t hv ht h=>aD.tree (by intro x hx; simp at hx; subst hx; exact hv) ht h
    have h1:=hp (.emp 1) (.emp 1) (.emp 1) (.emp 1) (fun H=>by
      refine aC.of mixed cL ?_
      simp (disch:=omega) only [↓wr,↓reduceIte,wq,ah,ag,aj,ab,ae,af,ai,isNil,Nat.reduceEqDiff,Nat.reduceAdd,Nat.reduceLT,Nat.reduceLeDiff,Int.reduceNeg,Int.reduceToNat,reduceCtorEq,cx])
    have h2:=hp (.emp 2) (.emp 2) (.emp 2) (.emp 2) (fun H=>by
      refine aC.of mixed cL ?_
      simp (disch:=omega) only [↓wr,↓reduceIte,wq,ah,ag,aj,ab,ae,af,ai,isNil,Nat.reduceEqDiff,Nat.reduceAdd,Nat.reduceLT,Nat.reduceLeDiff,Int.reduceNeg,Int.reduceToNat,reduceCtorEq,cx,gK,List.isEmpty_nil])
    have h3:=hp .dq (.emp 2) .dq (.emp 2) (fun H=>by
      refine aC.of mixed cL ?_
      simp (disch:=omega) only [↓wr,↓reduceIte,wq,ah,ag,aj,ab,ae,af,ai,isNil,Nat.reduceEqDiff,Nat.reduceAdd,Nat.reduceLT,Nat.reduceLeDiff,Int.reduceNeg,Int.reduceToNat,reduceCtorEq,cx,nX,gK,List.isEmpty_nil])
    refine ⟨by kernel_rfl,?_⟩
    rintro h rfl
    exact ⟨.emp 0,h,bF.gz (bF.fk h1 h) (bF.fk h2 h) (bF.fk h3 h),.refl _,hk.1 rfl 0⟩
  | cons x r =>
    refine aC.of mixed cL ?_
    simp only[List.length_cons] at hl
    simp (disch:=omega) only [↓wr,↓reduceIte,wq,ah,ag,aj,ab,ae,af,ai,isNil,Nat.reduceEqDiff,Nat.reduceAdd,Nat.reduceLT,Nat.reduceLeDiff,Int.reduceNeg,Int.reduceToNat,reduceCtorEq,cx,dR,cE]
    refine ⟨?_,?_,?_⟩
    · simp[List.all_map,dR,cE,aV]
    · unfold aO; simp; omega
    · intro n hn
      have:=hk.2 (by simp) n hn
      simp (disch:=omega) only [↓wr,↓reduceIte,wq,ah,ag,aj,ab,ae,af,ai,isNil,Nat.reduceEqDiff,Nat.reduceAdd,Nat.reduceLT,Nat.reduceLeDiff,Int.reduceNeg,Int.reduceToNat,reduceCtorEq]
      simpa [cE] using this
theorem xG.own {sz:Nat} {es:List (List V)} {H:View} : xG sz es H fun r H'=>aQ H' r sz es∧cd H H' r :=
  ⟨fun he k=>⟨by rw[he]; exact .nil,.emp⟩,fun _ n hn=>⟨.new,.new hn⟩⟩
theorem JN (l:List ByteArray) (hl:l.length≤100000) (H:View):aC Tryz.prog 96 [encS l] H fun r H'=>aQ H' r 1 (l.map fun s=>[gs s])∧cd H H' r:=Kl l hl H _ .own
theorem J4 (l:List Int) (hl:l.length≤100000) (H:View):aC Tryz.prog 161 [encI l] H fun r H'=>aQ H' r 1 (l.map fun s=>[gi s])∧cd H H' r:=LJ l hl H _ .own
theorem LK (l:List Term) (hl:l.length≤100000) (H:View):aC Tryz.prog 159 [dR l] H fun r H'=>aQ H' r 3 (l.map cE)∧cd H H' r:=LP l hl H _ .own
def kH (g:ao):List aT→Int→Bool
  | [],next=>next == g.ay.length
  | r :: l,next=>decide (0≤r.left) && decide (r.left≤next) && gA g r && kH g l (if r.left+1 > next then r.left+1 else next)
def qt (g:ao):List ByteArray:=g.ay ++ g.az.map Term.name
def oD (g:ao):Bool :=
  qx g.az && (decide ((1:Int)≤g.ay.length) && decide ((g.ay.length:Int)≤16)) && (decide ((1:Int)≤g.rules.length) && decide ((g.rules.length:Int)≤40)) && decide (names (qt g)).Nodup && (decide (0≤g.start) && decide (g.start≤(g.ay.length:Int) - 1)) &&
    !(g.ay.any fun s=>!fB (eE s)) && kH g g.rules 0
theorem EJ {l:List ByteArray} : ∀ e∈(l.map fun s=>[gs s]),∀ v∈e,Tree v:=by
  intro e he v hv
  obtain ⟨a,_,rfl⟩:=List.mem_map.1 he
  rw[List.mem_singleton] at hv
  subst hv
  exact .val _
set_option maxHeartbeats 4000000 in
theorem Ke (g:ao) (hg:g.Ok) (hs:g.ay.length+g.az.length≤1000) (H:View):aC Tryz.prog 52 [.agg (aw g)] H fun r _=>r=gb (oD g):=by
  refine aC.of mixed BQ ?_
  have hn:=hg.ay
  have ht:=hg.az
  have hr:=hg.rules
  unfold aW at hn ht hr
  simp (disch:=omega) only [↓wr,↓reduceIte,wq,ah,ag,aj,ab,ae,af,ai,isNil,Nat.reduceEqDiff,Nat.reduceAdd,Nat.reduceLT,Nat.reduceLeDiff,Int.reduceNeg,Int.reduceToNat,reduceCtorEq,yn,aw,encS]
  refine aG.jR ((JN g.ay (by omega) H).mono ?_)
  rintro u H1 ⟨hu,hf⟩
  simp (disch:=omega) only [↓wr,↓reduceIte,wq,ah,ag,aj,ab,ae,af,ai,isNil,Nat.reduceEqDiff,Nat.reduceAdd,Nat.reduceLT,Nat.reduceLeDiff,Int.reduceNeg,Int.reduceToNat,reduceCtorEq,aw,encS]
  refine bz.up g.az.length (fun i T H=>T 1=.aR (aw g) 0∧(∃ u,T 3=u∧aQ H u 1 ((g.ay ++ (g.az.take i).map Term.name).map fun s=>[gs s]))∧T 13=dR g.az∧T 14=gi g.az.length∧T 15=gi i) ?_ ?_
  · exact ⟨rfl,⟨u,rfl,by simpa using hu⟩,rfl,rfl,rfl⟩
  rintro i k T H' hk ⟨h1,⟨u,h3,hu⟩,h13,h14,h15⟩
  simp (disch:=omega) only [↓wr,↓reduceIte,wq,ah,ag,aj,ab,ae,af,ai,isNil,Nat.reduceEqDiff,Nat.reduceAdd,Nat.reduceLT,Nat.reduceLeDiff,Int.reduceNeg,Int.reduceToNat,reduceCtorEq,vr,h1,h13,h14,h15,dR]
  refine ax.dec (fun hc=>?_) (fun hc=>?_)
  · have hg2:g.az[i]?=some (g.az[i]'(by omega)):=List.getElem?_eq_getElem (by omega)
    have htk:(g.az.take (i+1)).map Term.name=(g.az.take i).map Term.name ++ [(g.az[i]'(by omega)).name]:=by
      rw[List.take_add_one,hg2,List.map_append]; rfl
    generalize g.az[i]'(by omega)=t at hg2 htk
    simp (disch:=omega) only [↓wr,↓reduceIte,wq,ah,ag,aj,ab,ae,af,ai,isNil,Nat.reduceEqDiff,Nat.reduceAdd,Nat.reduceLT,Nat.reduceLeDiff,Int.reduceNeg,Int.reduceToNat,reduceCtorEq,h1,h3,h13,h14,h15,dR,cE,List.getElem?_map,hg2]
    intro b hb
    try simp (disch:=omega) only [↓wr,↓reduceIte,wq,ah,ag,aj,ab,ae,af,ai,isNil,Nat.reduceEqDiff,Nat.reduceAdd,Nat.reduceLT,Nat.reduceLeDiff,Int.reduceNeg,Int.reduceToNat,reduceCtorEq,h1,h3,h13,h14,h15,set_set]
    intro m hm
    have hmb:=(cR hm cK).1
    have hm:=(cR (cR hm cK).2 cK).2
    try simp (disch:=omega) only [↓wr,↓reduceIte,wq,ah,ag,aj,ab,ae,af,ai,isNil,Nat.reduceEqDiff,Nat.reduceAdd,Nat.reduceLT,Nat.reduceLeDiff,Int.reduceNeg,Int.reduceToNat,reduceCtorEq,h1,h3,h13,h14,h15,cy]
    have hl:((g.ay ++ (g.az.take i).map Term.name).map fun s=>[gs s]).length≤1000:=by simp; omega
    refine wD (((hu.fresh hb).other (hu.ne hb)).fresh (by simp[View.set,hm,hmb])) (by simp) (by simp[aV]) (by unfold aO; simp at hl ⊢; omega) (by unfold aO; simp at hl ⊢; omega) ?_
    intro u' H2 hu' _
    simp (disch:=omega) only [↓wr,↓reduceIte,wq,ah,ag,aj,ab,ae,af,ai,isNil,Nat.reduceEqDiff,Nat.reduceAdd,Nat.reduceLT,Nat.reduceLeDiff,Int.reduceNeg,Int.reduceToNat,reduceCtorEq,h1,h3,h13,h14,h15]
    refine bq hk (by omega) ⟨h1,⟨u',rfl,?_⟩,h13,h14,rfl⟩
    rw[htk]
    simpa using hu'
  · rw[List.take_of_length_le (by omega)] at hu
    have hal:H'=H':=rfl
    have hall:(qt g).length≤1000:=by simp[qt]; omega
    repeat' (first | (refine ax.dec (fun _=>?_) (fun _=>?_)) | (refine ax.eq (fun _=>?_) (fun _=>?_)) | (refine ax.ne (fun _=>?_) (fun _=>?_)) | (refine ax.split (fun _=>?_) (fun _=>?_)) | (refine aG.pure (Lr g.az hg.az) (by kernel_rfl) ?_) | (refine aG.pure (pT _ _ _) (by kernel_rfl) ?_) | (refine aG.O6 (Mr (qt g) hall) (by kernel_rfl) (.val _) ⟨dD.own hu EJ,trivial⟩ ?_) | (simp (disch:=omega) only [↓wr,↓reduceIte,wq,ah,ag,aj,ab,ae,af,ai,isNil,Nat.reduceEqDiff,Nat.reduceAdd,Nat.reduceLT,Nat.reduceLeDiff,Int.reduceNeg,Int.reduceToNat,reduceCtorEq,h1,h3,h13,h14,h15,aw,encS]))
    all_goals try (simp[oD, *]; done)
    rename_i e1 e2 e3 e4 e5
    refine aG.pure (y6 g.ay hg.ay 101 [] (by simp) (fun s=>!fB (eE s)) (fun x _=>IH x) (by kernel_rfl)) (by kernel_rfl) ?_
    repeat' (first | (refine ax.dec (fun _=>?_) (fun _=>?_)) | (refine ax.eq (fun _=>?_) (fun _=>?_)) | (refine ax.ne (fun _=>?_) (fun _=>?_)) | (refine ax.split (fun _=>?_) (fun _=>?_)) | (simp (disch:=omega) only [↓wr,↓reduceIte,wq,ah,ag,aj,ab,ae,af,ai,isNil,Nat.reduceEqDiff,Nat.reduceAdd,Nat.reduceLT,Nat.reduceLeDiff,Int.reduceNeg,Int.reduceToNat,reduceCtorEq,h1,h3,h13,h14,h15,aw,encS]))
    all_goals try (simp[oD, *]; done)
    rename_i e6
    have hle:g.rules.length≤40:=by simp at e3; omega
    have hpre:∀ b,kH g g.rules 0=b→gb b=gb (oD g):=fun b e=>by
      simp only[oD,e1,e2,e3,e4,e5,e6,e,decide_true,Bool.true_and,Bool.not_false]
    refine bz.up g.rules.length (fun i T _=>∃ w:Int,0≤w∧w≤i∧kH g (g.rules.drop i) w=kH g g.rules 0∧T 1=.aR (aw g) 0∧T 6=gi w∧T 62=.aZ (g.rules.map ba)∧T 63=gi g.rules.length∧T 64=gi i) ?_ ?_
    · exact ⟨0,by omega,by omega,rfl,h1,rfl,rfl,rfl,rfl⟩
    rintro i k T H' hk ⟨w,hw1,hw2,hi,h1,h6,h62,h63,h64⟩
    simp (disch:=omega) only [↓wr,↓reduceIte,wq,ah,ag,aj,ab,ae,af,ai,isNil,Nat.reduceEqDiff,Nat.reduceAdd,Nat.reduceLT,Nat.reduceLeDiff,Int.reduceNeg,Int.reduceToNat,reduceCtorEq,vD,h1,h6,h62,h63,h64,aw]
    refine ax.dec (fun hc=>?_) (fun hc=>?_)
    · have hg2:g.rules[i]?=some (g.rules[i]'(by omega)):=List.getElem?_eq_getElem (by omega)
      rw[eP (show i < g.rules.length by omega)] at hi
      have hmem:g.rules[i]'(by omega)∈g.rules:=List.getElem_mem _
      generalize g.rules[i]'(by omega)=t at hg2 hi hmem
      obtain ⟨⟨hl1,hl2⟩,hp,hr1,hr2⟩:=hg.aH t hmem
      simp only[kH] at hi
      simp (disch:=omega) only [↓wr,↓reduceIte,wq,ah,ag,aj,ab,ae,af,ai,isNil,Nat.reduceEqDiff,Nat.reduceAdd,Nat.reduceLT,Nat.reduceLeDiff,Int.reduceNeg,Int.reduceToNat,reduceCtorEq,h1,h6,h62,h63,h64,ba,encI,List.getElem?_map,hg2]
      intro b hb
      repeat' (first | (refine ax.dec (fun _=>?_) (fun _=>?_)) | (refine ax.eq (fun _=>?_) (fun _=>?_)) | (refine ax.ne (fun _=>?_) (fun _=>?_)) | (refine ax.split (fun _=>?_) (fun _=>?_)) | (refine aG.pure (pT _ _ _) (by kernel_rfl) ?_) | (refine aG.pure (Mk g t hg ⟨hr1,hr2⟩) (by kernel_rfl) ?_) | (simp (disch:=omega) only [↓wr,↓reduceIte,wq,ah,ag,aj,ab,ae,af,ai,isNil,Nat.reduceEqDiff,Nat.reduceAdd,Nat.reduceLT,Nat.reduceLeDiff,Int.reduceNeg,Int.reduceToNat,reduceCtorEq,h1,h6,h62,h63,h64,aw,ba,encI,encS,set_set]))
      · rename_i e7 e8
        have e7':0≤t.left∧t.left≤w:=by simpa using e7
        rw[e7,e8,Bool.true_and,Bool.true_and] at hi
        have hw:IntKind.wrap .i64 (t.left+1)=t.left+1:=wrap64 (by omega) (by omega)
        refine bq hk (by omega) ⟨_,by split <;> omega,by split <;> (push_cast; omega),hi,h1,?_,h62,h63,rfl⟩
        show gi (if IntKind.wrap .i64 (t.left+1) > w then IntKind.wrap .i64 (t.left+1) else w)=_
        rw[hw]
      · rename_i e7 e8
        rw[e8,Bool.and_false,Bool.false_and] at hi
        exact hpre _ hi.symm
      · rename_i e7
        rw[e7,Bool.false_and,Bool.false_and] at hi
        exact hpre _ hi.symm
    · rw[List.drop_eq_nil_of_le (by omega)] at hi
      simp only[kH] at hi
      simp (disch:=omega) only [↓wr,↓reduceIte,wq,ah,ag,aj,ab,ae,af,ai,isNil,Nat.reduceEqDiff,Nat.reduceAdd,Nat.reduceLT,Nat.reduceLeDiff,Int.reduceNeg,Int.reduceToNat,reduceCtorEq,h1,h6,h62,h63,h64,aw,encS]
      exact hpre _ hi.symm
theorem Ii (g:ao) (hg:g.Ok) (hs:g.ay.length+g.az.length≤1000):aD Tryz.prog 52 [.agg (aw g)] (gb (oD g)):=aD.val (eN g) (Ke g hg hs)
theorem DR (g:ao):∀ (l:List aT) (next:Int),kH g l next=fU g l (next - 1)
  | [],next=>by
    simp only[kH,fU]
    rw[Bool.eq_iff_iff]; simp
  | r :: l,next=>by
    simp only[kH,fU,DR g l]
    have e1:(if r.left+1 > next then r.left+1 else next) - 1=if r.left > next - 1 then r.left else next - 1:=by
      split <;> split <;> omega
    have e2:next - 1+1=next:=by omega
    rw[e1,e2]
theorem xk (s:ByteArray):∀ (l:List ByteArray) (i:Int),0≤i→(lQ s l i < 0∧s ∉ l)∨∃ k:Nat,lQ s l i=i+k∧l[k]?=some s∧∀ j < k,l[j]?≠some s
  | [],i,h=>.inl ⟨by simp[lQ],by simp⟩
  | x :: l,i,h=>by
    have hx:gP x s=true↔x=s:=by
      unfold gP
      rw[beq_iff_eq]
      constructor
      · intro e; cases x; cases s; simp at e; simp[e]
      · rintro rfl; rfl
    simp only[lQ]
    by_cases e:x=s
    · rw[if_pos (hx.2 e)]
      exact .inr ⟨0,by simp,by simp[e],by simp⟩
    · rw[if_neg (fun h=>e (hx.1 h))]
      rcases xk s l (i+1) (by omega) with ⟨h1,h2⟩ | ⟨k,h1,h2,h3⟩
      · exact .inl ⟨h1,by simp[h2,Ne.symm e]⟩
      · refine .inr ⟨k+1,by rw[h1]; push_cast; omega,by simpa using h2,fun j hj=>?_⟩
        cases j with
        | zero=>simp[e]
        | succ j=>simpa using h3 j (by omega)
theorem rY (l:List ByteArray):(∀ (k:Nat) (s:ByteArray),l[k]?=some s→lQ s l 0=k)↔l.Nodup:=by
  constructor
  · intro h
    rw[List.nodup_iff_pairwise_ne,List.pairwise_iff_getElem]
    intro i j hi hj hij e
    have h1:=h i l[i] (by simp[hi])
    have h2:=h j l[j] (by simp[hj])
    rw[e] at h1
    omega
  · intro hn k s hk
    rcases xk s l 0 (by omega) with ⟨_,h2⟩ | ⟨j,h1,h2,h3⟩
    · exact absurd (List.mem_of_getElem? hk) h2
    · have hj:j < l.length:=by
        rcases Nat.lt_or_ge j l.length with h | h
        · exact h
        · simp[List.getElem?_eq_none h] at h2
      have hk':k < l.length:=by
        rcases Nat.lt_or_ge k l.length with h | h
        · exact h
        · simp[List.getElem?_eq_none h] at hk
      have:j=k:=(List.getElem_inj hn).1 (by
        rw[List.getElem?_eq_getElem hj] at h2; rw[List.getElem?_eq_getElem hk'] at hk
        simp at h2 hk; rw[h2,hk])
      rw[h1,this]; simp
theorem bytes_inj {a b:ByteArray} : a.data.toList=b.data.toList↔a=b:=by
  constructor
  · intro h; cases a; cases b; simp at h; simp[h]
  · rintro rfl; rfl
theorem Kj {l:List ByteArray} : (names l).Nodup↔l.Nodup:=by
  unfold names
  rw[List.nodup_iff_pairwise_ne,List.pairwise_map,List.nodup_iff_pairwise_ne]
  constructor
  · exact fun h=>h.imp fun h e=>h (bytes_inj.2 e)
  · exact fun h=>h.imp fun h e=>h (bytes_inj.1 e)
theorem lf {α:Type} [BEq α] [LawfulBEq α]:∀ (l m:List α),l.Nodup→(∀ x∈l,x∈m)→l.length≤m.length
  | [],m,_,_=>by simp
  | x :: l,m,hn,hs=>by
    rw[List.nodup_cons] at hn
    have hx:x∈m:=hs x (by simp)
    have:=lf l (m.erase x) hn.2 (fun y hy=>by
      have hne:y≠x:=by rintro rfl; exact hn.1 hy
      exact (List.mem_erase_of_ne hne).2 (hs y (by simp[hy])))
    rw[List.length_erase_of_mem hx] at this
    have:0 < m.length:=List.length_pos_of_mem hx
    simp only[List.length_cons]
    omega
def kI (n:Nat):List Int:=(List.range n).map fun (k:Nat)=>(k:Int)+1
theorem uQ {n:Nat} {x:Int} : x∈kI n↔1≤x∧x≤n:=by
  simp only[kI,List.mem_map,List.mem_range]
  constructor
  · rintro ⟨k,hk,rfl⟩; omega
  · rintro ⟨h1,h2⟩; exact ⟨(x - 1).toNat,by omega,by omega⟩
theorem F0 (n:Nat):(kI n).Nodup:=by
  rw[kI,List.nodup_iff_pairwise_ne,List.pairwise_map]
  exact (List.nodup_range (n:=n)).imp fun h e=>h (by omega)
theorem OB {l:List Int} {n:Nat} (hn:l.Nodup) (hs:∀ x∈l,1≤x∧x≤n) (hl:l.length=n) {x:Int} (h1:1≤x) (h2:x≤n):x∈l:=by
  refine Classical.byContradiction fun hx=>?_
  have:=lf (x :: l) (kI n) (List.nodup_cons.2 ⟨hx,hn⟩) (fun y hy=>by
    rw[uQ]
    rcases List.mem_cons.1 hy with rfl | hy
    · exact ⟨h1,h2⟩
    · exact hs y hy)
  simp[kI] at this
  omega
theorem u4 (n:Int):∀ (l:List Term) (w:Int),w≠0→ij n l w=if (∀ t∈l,t.level=n→t.assoc=w) then some w else none
  | [],w,_=>by simp[ij]
  | t :: r,w,hw=>by
    simp only[ij]
    by_cases ht:t.level=n
    · rw[if_pos ht]
      by_cases ha:w=t.assoc
      · rw[if_neg (by simp[ha]),← ha,u4 n r w hw]
        congr 1
        simp[ht,ha]
      · rw[if_pos ⟨hw,ha⟩,if_neg (fun h=>ha (h t (by simp) ht).symm)]
    · rw[if_neg ht,u4 n r w hw]
      congr 1
      simp[ht]
theorem AJ (n:Int):∀ (l:List Term),(∀ t∈l,t.level=n→t.assoc≠0)→(fW l n=true↔∃ a,(∃ t∈l,t.level=n)∧∀ t∈l,t.level=n→t.assoc=a)
  | [],_=>by simp[fW,ij]
  | t :: r,h=>by
    by_cases ht:t.level=n
    · have ha:=h t (by simp) ht
      have e:fW (t :: r) n=match (if (∀ u∈r,u.level=n→u.assoc=t.assoc) then some t.assoc else none) with | some w=>w != 0 | none=>false:=by
        simp only[fW,ij]
        rw[if_pos ht,if_neg (by simp),u4 n r _ ha]
        rfl
      rw[e]
      by_cases hr:∀ u∈r,u.level=n→u.assoc=t.assoc
      · rw[if_pos hr]
        simp only[bne_iff_ne,ne_eq,ha,not_false_eq_true,true_iff]
        refine ⟨t.assoc,⟨t,by simp,ht⟩,fun u hu hl=>?_⟩
        rcases List.mem_cons.1 hu with rfl | hu
        · rfl
        · exact hr u hu hl
      · rw[if_neg hr]
        simp only[Bool.false_eq_true,false_iff]
        rintro ⟨a,_,h2⟩
        exact hr fun u hu hl=>(h2 u (by simp[hu]) hl).trans (h2 t (by simp) ht).symm
    · have ih:=AJ n r (fun u hu=>h u (by simp[hu]))
      have e:fW (t :: r) n=fW r n:=by
        simp only[fW,ij,if_neg ht]
      rw[e,ih]
      constructor
      · rintro ⟨a,⟨u,hu,hl⟩,h2⟩
        refine ⟨a,⟨u,by simp[hu],hl⟩,fun v hv hl=>?_⟩
        rcases List.mem_cons.1 hv with rfl | hv
        · exact absurd hl ht
        · exact h2 v hv hl
      · rintro ⟨a,⟨u,hu,hl⟩,h2⟩
        rcases List.mem_cons.1 hu with rfl | hu
        · exact absurd hl ht
        · exact ⟨a,⟨u,hu,hl⟩,fun v hv=>h2 v (by simp[hv])⟩
def tJ (l:List Term):Prop:=∀ t∈l,∀ u∈l,t.level=u.level→t.level≠0→t.assoc=u.assoc
theorem FD {κ β:Type} [BEq κ] [LawfulBEq κ] {k:κ} {v:β} : ∀ {a:List (κ × β)},(a.map (·.1)).Nodup→((iX k v a).map (·.1)).Nodup∧∀ x,x∈(iX k v a).map (·.1)↔x=k∨x∈a.map (·.1)
  | [],_=>by simp[iX]
  | y :: a,h=>by
    simp only[List.map_cons,List.nodup_cons] at h
    obtain ⟨h1,h2⟩:=FD (k:=k) (v:=v) h.2
    simp only[iX]
    by_cases e:k=y.1
    · simp only[e,beq_self_eq_true,if_true,List.map_cons,List.nodup_cons]
      refine ⟨h,fun x=>by simp[e]⟩
    · have:(k == y.1)=false:=by simp[e]
      rw[this]
      simp only[Bool.false_eq_true,if_false,List.map_cons,List.nodup_cons,List.mem_cons]
      refine ⟨⟨fun hm=>?_,h1⟩,fun x=>?_⟩
      · rcases (h2 _).1 hm with e' | hm
        · exact e e'.symm
        · exact h.1 hm
      · rw[h2]
        constructor
        · rintro (h | h | h) <;> simp[h]
        · rintro (h | h | h) <;> simp[h]
theorem wA:∀ (l:List Term) (a:List (Int × Int)) (top:Int),(∀ t∈l,t.level≠0→t.assoc≠0)→(∀ n v,dG a n=some v→v≠0)→(a.map (·.1)).Nodup →
    match kV l a top with
    | some (a',top')=>tJ l∧(∀ t∈l,∀ v,t.level≠0→dG a t.level=some v→t.assoc=v)∧(a'.map (·.1)).Nodup∧(∀ n,n∈a'.map (·.1)↔n∈a.map (·.1)∨(n≠0∧∃ t∈l,t.level=n)) ∧
        top≤top'∧(∀ t∈l,t.level≠0→t.level≤top')∧(top'=top∨∃ t∈l,t.level=top'∧t.level≠0)
    | none=>¬ (tJ l∧∀ t∈l,∀ v,t.level≠0→dG a t.level=some v→t.assoc=v)
  | [],a,top,_,_,hn=>by
    simp only[kV]
    exact ⟨fun t ht=>by simp at ht,fun t ht=>by simp at ht,hn,fun n=>by simp,by omega,fun t ht=>by simp at ht,by simp⟩
  | t :: r,a,top,h0,hv,hn=>by
    have h0r:∀ u∈r,u.level≠0→u.assoc≠0:=fun u hu=>h0 u (by simp[hu])
    simp only[kV]
    by_cases ht:t.level=0
    · rw[if_pos ht]
      have ih:=wA r a top h0r hv hn
      have one:tJ (t :: r)↔tJ r:=by
        constructor
        · exact fun h u hu w hw=>h u (by simp[hu]) w (by simp[hw])
        · intro h u hu w hw e hz
          rcases List.mem_cons.1 hu with rfl | hu
          · exact absurd ht hz
          · rcases List.mem_cons.1 hw with rfl | hw
            · exact absurd (e.trans ht) hz
            · exact h u hu w hw e hz
      have con:(∀ u∈t :: r,∀ v,u.level≠0→dG a u.level=some v→u.assoc=v)↔∀ u∈r,∀ v,u.level≠0→dG a u.level=some v→u.assoc=v:=by
        simp[ht]
      have mem:∀ n,(n≠0∧∃ u∈t :: r,u.level=n)↔(n≠0∧∃ u∈r,u.level=n):=fun n=>by
        constructor
        · rintro ⟨h1,u,hu,rfl⟩
          rcases List.mem_cons.1 hu with rfl | hu
          · exact absurd ht h1
          · exact ⟨h1,u,hu,rfl⟩
        · rintro ⟨h1,u,hu,rfl⟩; exact ⟨h1,u,by simp[hu],rfl⟩
      cases hs:kV r a top with
      | none=>rw[hs] at ih; rw[one,con]; exact ih
      | some x =>
        obtain ⟨a',top'⟩:=x
        rw[hs] at ih
        obtain ⟨i1,i2,i3,i4,i5,i6,i7⟩:=ih
        refine ⟨one.2 i1,con.2 i2,i3,fun n=>by rw[i4,mem],i5,?_,?_⟩
        · intro u hu hz
          rcases List.mem_cons.1 hu with rfl | hu
          · exact absurd ht hz
          · exact i6 u hu hz
        · rcases i7 with h | ⟨u,hu,h⟩
          · exact .inl h
          · exact .inr ⟨u,by simp[hu],h⟩
    · rw[if_neg ht]
      have ha:=h0 t (by simp) ht
      by_cases hc:(dG a t.level).getD 0≠0∧(dG a t.level).getD 0≠t.assoc
      · rw[if_pos hc]
        simp only
        rintro ⟨_,h2⟩
        cases hp:dG a t.level with
        | none=>simp[hp] at hc
        | some v =>
          have:=h2 t (by simp) v ht hp
          simp[hp] at hc
          exact hc.2 this.symm
      · rw[if_neg hc]
        have hcon:∀ v,dG a t.level=some v→t.assoc=v:=fun v hp=>by
          have:=hv _ _ hp
          simp[hp] at hc
          exact (hc this).symm
        have hput:∀ n,dG (iX t.level t.assoc a) n=if n=t.level then some t.assoc else dG a n:=fun n=>by
          rw[FV]; simp
        have hk:=FD (k:=t.level) (v:=t.assoc) hn
        have ih:=wA r (iX t.level t.assoc a) (if t.level > top then t.level else top) h0r (fun n v hp=>by
          rw[hput] at hp
          split at hp
          · simp at hp; rw[← hp]; exact ha
          · exact hv n v hp) hk.1
        have both:(tJ (t :: r)∧∀ u∈t :: r,∀ v,u.level≠0→dG a u.level=some v→u.assoc=v)↔(tJ r∧∀ u∈r,∀ v,u.level≠0→dG (iX t.level t.assoc a) u.level=some v→u.assoc=v):=by
          constructor
          · rintro ⟨h1,h2⟩
            refine ⟨fun u hu w hw=>h1 u (by simp[hu]) w (by simp[hw]),fun u hu v hz hp=>?_⟩
            rw[hput] at hp
            split at hp
            · rename_i e
              simp at hp; rw[← hp]
              exact h1 u (by simp[hu]) t (by simp) e hz
            · exact h2 u (by simp[hu]) v hz hp
          · rintro ⟨h1,h2⟩
            have h3:∀ u∈r,u.level=t.level→u.assoc=t.assoc:=fun u hu e=>h2 u hu t.assoc (by rw[e]; exact ht) (by rw[hput,if_pos e])
            refine ⟨fun u hu w hw e hz=>?_,fun u hu v hz hp=>?_⟩
            · rcases List.mem_cons.1 hu with e1 | hu2
              · rcases List.mem_cons.1 hw with e2 | hw2
                · rw[e1,e2]
                · rw[e1] at e ⊢
                  exact (h3 w hw2 e.symm).symm
              · rcases List.mem_cons.1 hw with e2 | hw2
                · rw[e2] at e ⊢
                  exact h3 u hu2 e
                · exact h1 u hu2 w hw2 e hz
            · rcases List.mem_cons.1 hu with rfl | hu
              · exact hcon v hp
              · by_cases e:u.level=t.level
                · rw[h3 u hu e]; exact hcon v (by rw[← e]; exact hp)
                · exact h2 u hu v hz (by rw[hput,if_neg e]; exact hp)
        have htop:top≤(if t.level > top then t.level else top)∧t.level≤(if t.level > top then t.level else top):=by split <;> omega
        cases hs:kV r (iX t.level t.assoc a) (if t.level > top then t.level else top) with
        | none=>rw[hs] at ih; simp only; rw[both]; exact ih
        | some x =>
          obtain ⟨a',top'⟩:=x
          rw[hs] at ih
          obtain ⟨i1,i2,i3,i4,i5,i6,i7⟩:=ih
          obtain ⟨b1,b2⟩:=both.2 ⟨i1,i2⟩
          refine ⟨b1,b2,i3,fun n=>?_,by omega,?_,?_⟩
          · rw[i4,hk.2]
            constructor
            · rintro ((rfl | h) | ⟨h1,u,hu,h⟩)
              · exact .inr ⟨ht,t,by simp,rfl⟩
              · exact .inl h
              · exact .inr ⟨h1,u,by simp[hu],h⟩
            · rintro (h | ⟨h1,u,hu,h⟩)
              · exact .inl (.inr h)
              · rcases List.mem_cons.1 hu with rfl | hu
                · exact .inl (.inl h.symm)
                · exact .inr ⟨h1,u,hu,h⟩
          · intro u hu hz
            rcases List.mem_cons.1 hu with rfl | hu
            · omega
            · exact i6 u hu hz
          · rcases i7 with h | ⟨u,hu,h⟩
            · by_cases e:t.level > top
              · rw[if_pos e] at h; exact .inr ⟨t,by simp,h.symm,ht⟩
              · rw[if_neg e] at h; exact .inl h
            · exact .inr ⟨u,by simp[hu],h⟩
theorem Am (l:List Term) (h:∀ t∈l,j6 t=true):qa l=true↔∀ t∈l,∀ n:Int,1≤n→n≤t.level→fW l n=true:=by
  have hb:∀ t∈l,0≤t.level∧(t.level≠0→t.assoc≠0):=fun t ht=>by
    have:=h t ht
    simp only[j6,Bool.and_eq_true,decide_eq_true_eq,beq_iff_eq] at this
    refine ⟨this.1.1.1.1.2,fun h1 h2=>?_⟩
    have e:=this.2
    simp[h1,h2] at e
  have hs:=wA l [] 0 (fun t ht=>(hb t ht).2) (by simp[dG]) (by simp)
  have hL:∀ n:Int,1≤n→(fW l n=true↔∃ a,(∃ t∈l,t.level=n)∧∀ t∈l,t.level=n→t.assoc=a):=fun n hn=>AJ n l (fun t ht e=>(hb t ht).2 (by omega))
  unfold qa
  cases hx:kV l [] 0 with
  | none =>
    rw[hx] at hs
    simp only[Bool.false_eq_true,false_iff]
    intro hall
    refine hs ⟨fun t ht u hu e hz=>?_,fun t ht v _ hp=>by simp[dG] at hp⟩
    have h1:=hb t ht
    obtain ⟨a,_,h2⟩:=(hL t.level (by omega)).1 (hall t ht t.level (by omega) (by omega))
    exact (h2 t ht rfl).trans (h2 u hu e.symm).symm
  | some x =>
    obtain ⟨a,top⟩:=x
    rw[hx] at hs
    obtain ⟨i1,_,i3,i4,i5,i6,i7⟩:=hs
    simp only[beq_iff_eq]
    have hmem:∀ n,n∈a.map (·.1)↔n≠0∧∃ t∈l,t.level=n:=fun n=>by rw[i4]; simp
    have hin:∀ x∈a.map (·.1),1≤x∧x≤(top.toNat:Int):=fun x hx=>by
      obtain ⟨h1,t,ht,rfl⟩:=(hmem x).1 hx
      have:=(hb t ht).1
      have:=i6 t ht h1
      omega
    constructor
    · intro hlen t ht n hn1 hn2
      have htop:t.level≤top:=i6 t ht (by omega)
      have hm:=OB i3 hin (by simp; omega) hn1 (show n≤(top.toNat:Int) by omega)
      obtain ⟨hz,u,hu,rfl⟩:=(hmem n).1 hm
      exact (hL _ hn1).2 ⟨u.assoc,⟨u,hu,rfl⟩,fun w hw e=>i1 w hw u hu e (by omega)⟩
    · intro hall
      have h1:a.length≤top.toNat:=by
        have:=lf _ (kI top.toNat) i3 (fun x hx=>uQ.2 (hin x hx))
        simpa [kI] using this
      have h2:top.toNat≤a.length:=by
        rcases i7 with e | ⟨t,ht,e,hz⟩
        · subst e; simp
        · have:=lf (kI top.toNat) (a.map (·.1)) (F0 _) (fun x hx=>by
            rw[uQ] at hx
            have:=(hb t ht).1
            obtain ⟨_,⟨u,hu,hl⟩,_⟩:=(hL x hx.1).1 (hall t ht x hx.1 (by omega))
            exact (hmem x).2 ⟨by omega,u,hu,hl⟩)
          simpa [kI] using this
      omega
theorem zN (g:ao):∀ (l:List Term) (i:Int),iP g l i=true↔∀ (k:Nat) (t:Term),l[k]?=some t→jm g (i+k) t=true
  | [],i=>by simp[iP]
  | t :: r,i=>by
    simp only[iP,Bool.and_eq_true,zN g r (i+1)]
    constructor
    · rintro ⟨h1,h2⟩ k u hk
      cases k with
      | zero=>simp at hk; subst hk; simpa using h1
      | succ k =>
        have:=h2 k u (by simpa using hk)
        rw[show i+((k+1:Nat):Int)=i+1+k by push_cast; omega]; exact this
    · intro h
      refine ⟨by simpa using h 0 t rfl,fun k u hk=>?_⟩
      have:=h (k+1) u (by simpa using hk)
      rw[show i+1+(k:Int)=i+((k+1:Nat):Int) by push_cast; omega]; exact this
theorem rO (g:ao):∀ (l:List ByteArray) (i:Int),pU g l i=true↔∀ (k:Nat) (s:ByteArray),l[k]?=some s→kx g (i+k) s=true
  | [],i=>by simp[pU]
  | t :: r,i=>by
    simp only[pU,Bool.and_eq_true,rO g r (i+1)]
    constructor
    · rintro ⟨h1,h2⟩ k u hk
      cases k with
      | zero=>simp at hk; subst hk; simpa using h1
      | succ k =>
        have:=h2 k u (by simpa using hk)
        rw[show i+((k+1:Nat):Int)=i+1+k by push_cast; omega]; exact this
    · intro h
      refine ⟨by simpa using h 0 t rfl,fun k u hk=>?_⟩
      have:=h (k+1) u (by simpa using hk)
      rw[show i+1+(k:Int)=i+((k+1:Nat):Int) by push_cast; omega]; exact this
theorem CF (g:ao) (s:ByteArray):kL g s < 0↔s ∉ g.az.map Term.name:=by
  unfold kL
  rcases xk s (g.az.map Term.name) 0 (by omega) with ⟨h1,h2⟩ | ⟨k,h1,h2,_⟩
  · exact ⟨fun _=>h2,fun _=>h1⟩
  · constructor
    · intro h; omega
    · intro h; exact absurd (List.mem_of_getElem? h2) h
theorem Cd (g:ao) (t:Term):pX g t=true↔∀ n:Int,1≤n→n≤t.level→fW g.az n=true:=by
  simp only[pX,List.all_eq_true,List.mem_range]
  constructor
  · intro h n h1 h2
    have:=h (n - 1).toNat (by omega)
    rwa [show (((n - 1).toNat:Nat):Int)+1=n by omega] at this
  · intro h k hk
    exact h _ (by omega) (by omega)
theorem Jo (g:ao):oD g=bK g:=by
  rw[Bool.eq_iff_iff]
  simp only[oD,bK,iU,jq,qx,Bool.and_eq_true,decide_eq_true_eq,zN,rO,DR,List.all_eq_true,Bool.not_eq_true',List.any_eq_false,Bool.not_eq_true,Kj,qt,List.nodup_append,Int.zero_add,Int.zero_sub,Bool.not_not]
  have hT:(∀ (k:Nat) (t:Term),g.az[k]?=some t→jm g k t=true)↔(∀ t∈g.az,j6 t=true)∧(g.az.map Term.name).Nodup∧(∀ t∈g.az,pX g t=true):=by
    rw[← rY]
    constructor
    · intro h
      have h':∀ t∈g.az,∃ k:Nat,g.az[k]?=some t:=fun t ht=>List.getElem?_of_mem ht
      refine ⟨fun t ht=>?_,fun k s hk=>?_,fun t ht=>?_⟩
      · obtain ⟨k,hk⟩:=h' t ht
        have:=h k t hk
        simp only[jm,j6,Bool.and_eq_true,decide_eq_true_eq] at this ⊢
        simp[this]
      · rw[List.getElem?_map,Option.map_eq_some_iff] at hk
        obtain ⟨t,hk,rfl⟩:=hk
        have:=h k t hk
        simp only[jm,Bool.and_eq_true,beq_iff_eq] at this
        exact this.1.1.1.1.1.1.2
      · obtain ⟨k,hk⟩:=h' t ht
        have:=h k t hk
        simp only[jm,Bool.and_eq_true] at this
        exact this.2
    · rintro ⟨h1,h2,h3⟩ k t hk
      have hm:=List.mem_of_getElem? hk
      have a:=h1 t hm
      have b:=h2 k t.name (by rw[List.getElem?_map,hk]; rfl)
      have c:=h3 t hm
      simp only[jm,j6,kL,Bool.and_eq_true,decide_eq_true_eq] at a ⊢
      simp[a,b,c]
  have hN:(∀ (k:Nat) (s:ByteArray),g.ay[k]?=some s→kx g k s=true)↔(∀ s∈g.ay,fB (eE s)=true)∧g.ay.Nodup∧(∀ s∈g.ay,s ∉ g.az.map Term.name):=by
    rw[← rY]
    constructor
    · intro h
      have h':∀ t∈g.ay,∃ k:Nat,g.ay[k]?=some t:=fun t ht=>List.getElem?_of_mem ht
      refine ⟨fun t ht=>?_,fun k s hk=>?_,fun t ht=>?_⟩
      · obtain ⟨k,hk⟩:=h' t ht
        have:=h k t hk
        simp only[kx,Bool.and_eq_true] at this
        exact this.1.1
      · have:=h k s hk
        simp only[kx,wP,Bool.and_eq_true,beq_iff_eq] at this
        exact this.1.2
      · obtain ⟨k,hk⟩:=h' t ht
        have:=h k t hk
        simp only[kx,Bool.and_eq_true,decide_eq_true_eq] at this
        exact (CF g t).1 this.2
    · rintro ⟨h1,h2,h3⟩ k s hk
      have hm:=List.mem_of_getElem? hk
      have a:=h1 s hm
      have b:=h2 k s hk
      have c:=(CF g s).2 (h3 s hm)
      simp[kx,wP,a,b,c]
  rw[hT,hN]
  constructor
  · rintro ⟨⟨⟨⟨⟨⟨⟨⟨t1,t2⟩,t3⟩,n1,n2⟩,r1,r2⟩,a1,a2,a3⟩,s1,s2⟩,n3⟩,ru⟩
    have hl:=(Am g.az t1).1 t3
    exact ⟨⟨⟨⟨⟨⟨⟨t2,t1,a2,fun t ht=>(Cd g t).2 (hl t ht)⟩,⟨by omega,by omega⟩,fun s hs=>by simpa using n3 s hs,a1,fun s hs hm=>a3 s hs s hm rfl⟩,by omega⟩,by omega⟩,s1⟩,by omega⟩,ru⟩
  · rintro ⟨⟨⟨⟨⟨⟨⟨t2,t1,a2,t3⟩,⟨n1,n2⟩,n3,a1,a3⟩,r1⟩,r2⟩,s1⟩,s2⟩,ru⟩
    have hl:=(Am g.az t1).2 (fun t ht=>(Cd g t).1 (t3 t ht))
    exact ⟨⟨⟨⟨⟨⟨⟨⟨t1,t2⟩,hl⟩,by omega,by omega⟩,by omega,by omega⟩,a1,a2,fun s hs u hu e=>a3 s hs (e ▸ hu)⟩,s1,by omega⟩,fun s hs=>by simp[n3 s hs]⟩,ru⟩
theorem rD (g:ao) (hg:g.Ok) (hs:g.ay.length+g.az.length≤1000):aD Tryz.prog 52 [.agg (aw g)] (gb (bK g)):=by
  rw[← Jo]; exact Ii g hg hs
def Ec (n:Nat) (r:aT):Prop:=cz r.left∧0≤r.left∧r.left < n∧r.right.length≤6∧∀ s∈r.right,cz s∧(s < 0→-1 - s < n)
theorem ao.dH.tP {g:ao} (hg:g.Ok) (h:g.dH) {r:aT} (hr:r∈g.rules):Ec g.ay.length r :=
  ⟨(hg.aH r hr).1,(h.left r hr).1,(h.left r hr).2,h.right r hr,fun s hs=>⟨(hg.aH r hr).2.2.2 s hs,fun hn=>h.neg hr hs hn⟩⟩
def rN:SF:=⟨.seq (ak [aX 3 false]) <|
  .seq (.region false [⟨none,[aa 4 0,aA 5 .lss 4 0,aa 6 5]⟩,⟨(some (6,true)),[au 7 1,aa 8 0,((some 9),.op (.arith .sub (.val (.val (.int .i64 (-1)))) (.tmp 8))),aP 10 1 7 9,au 11 10,b6 12 11]⟩,⟨none,[bG 13 6 12,aa 3 13]⟩]) <|
  .ret,
  [.tmp 3],14⟩
theorem wu:bf Tryz.prog 197 []=some rN:=by kernel_rfl
def vE:SF:=⟨.seq (ak [bZ 2 0,bZ 3 1,aX 4 false]) <|
  .seq (ak [av 5 1 2,au 6 5,((some 7),.op (.sk 197 [] [(.tmp 3)])),aI 8 91 [6,7],b6 9 8,aa 4 9]) <|
  .ret,
  [.tmp 4],10⟩
theorem y4:bf Tryz.prog 160 [2,3]=some vE:=by kernel_rfl
def nf:SF:=⟨.seq (ak [bZ 2 0,((some 4),.op (.bm (.val (.emp 1))))]) <|
  .seq (.seq (ak [aK 5 3 2,aa 6 1,aI 7 160 [5,6]]) <|
  .cond (.tmp 7) (.seq (ak [av 8 0 2,au 9 8,((some 10),.op (.bC 1 1 [(.val (.int .i64 0))] [(0,(.tmp 9))])),aa 4 10]) <|
  .ret) (.skip)) <|
  .seq (ak [((some 4),.op (.bm (.val (.emp 1))))]) <|
  .ret,
  [.tmp 4],11⟩
theorem r6:bf Tryz.prog 195 [2]=some nf:=by kernel_rfl
def mf:SC :=
  .seq (ak [aN 24 .lss 23 22]) <|
  .seq (.cond (.tmp 24) (.skip) (.exit 0)) <|
  .seq (.block 1 (.seq (ak [aP 25 1 21 23,au 26 25,aa 7 26]) <|
  .seq (ak [aa 27 7,aA 28 .lss 27 0]) <|
  .cond (.tmp 28) (ak [aa 29 5,aa 30 7,((some 31),.op (.arith .sub (.val (.val (.int .i64 (-1)))) (.tmp 30))),((some 32),.op (.bC 1 1 [(.val (.int .i64 0))] [(0,(.tmp 31))])),((some 33),.op (.app 1 8 (.tmp 29) (.tmp 32))),aa 5 33]) (.skip))) <|
  ak [aA 34 .add 23 1,aa 23 34]
def oI:SF:=⟨.seq (ak [bZ 3 0,((some 5),.op (.bm (.val (.emp 1))))]) <|
  .seq (.seq (.region false [⟨none,[aa 8 1,av 9 0 3,au 10 9,aP 11 1 8 10,au 12 11,b6 13 12,aa 14 13]⟩,⟨(some (14,false)),[aK 15 3 3,au 16 2,aI 17 160 [15,16],b6 18 17]⟩,⟨none,[bJ 19 14 18]⟩]) <|
  .cond (.tmp 19) (.seq (ak [((some 5),.op (.bm (.val (.emp 1))))]) <|
  .ret) (.skip)) <|
  .seq (.seq (ak [av 20 1 3,au 21 20,aJ 22 21,aF 23 0]) <|
  .block 0 (.loop mf)) <|
  .seq (ak [aa 35 5,aa 5 35]) <|
  .ret,
  [.tmp 5],36⟩
theorem sM:bf Tryz.prog 196 [3]=some oI:=by kernel_rfl
theorem Ep (r:aT) (is:List Bool):∀ v∈[V.agg (ba r),bO is],Tree v:=by
  intro v hv; simp at hv
  rcases hv with rfl | rfl
  · exact dd _ (gg r)
  · exact iz is
def BJ (is:List Bool) (s:Int):Bool:=decide (s < 0) && !is.getD (-1 - s).toNat false
theorem IX (is:List Bool) (s:Int) (hs:cz s∧(s < 0→-1 - s < is.length)):aD Tryz.prog 197 [gi s,.aR [bO is] 0] (gb (BJ is s)):=by
  refine aD.val ?_ fun H=>?_
  · intro v hv; simp at hv
    rcases hv with rfl | rfl
    · exact .val _
    · exact jv (by intro v hv; simp at hv; subst hv; exact iz is)
  obtain ⟨⟨h1,h2⟩,h3⟩:=hs
  refine aC.of mixed wu ?_
  simp (disch:=omega) only [↓wr,↓reduceIte,wq,ah,ag,aj,ab,ae,af,ai,isNil,Nat.reduceEqDiff,Nat.reduceAdd,Nat.reduceLT,Nat.reduceLeDiff,Int.reduceNeg,Int.reduceToNat,reduceCtorEq,rN,bO]
  refine ax.dec (fun h=>?_) (fun h=>?_)
  · have hb:is[(-1 - s).toNat]?=some (is[(-1 - s).toNat]'(by omega)):=List.getElem?_eq_getElem (by omega)
    have hbd:is.getD (-1 - s).toNat false=is[(-1 - s).toNat]'(by omega):=by simp[List.getD_eq_getElem?_getD,hb]
    generalize is[(-1 - s).toNat]'(by omega)=b at hb hbd
    simp (disch:=omega) only [↓wr,↓reduceIte,wq,ah,ag,aj,ab,ae,af,ai,isNil,Nat.reduceEqDiff,Nat.reduceAdd,Nat.reduceLT,Nat.reduceLeDiff,Int.reduceNeg,Int.reduceToNat,reduceCtorEq,List.getElem?_map,hb]
    simp only[BJ,hbd,h,decide_true,Bool.true_and]
  · simp (disch:=omega) only [↓wr,↓reduceIte,wq,ah,ag,aj,ab,ae,af,ai,isNil,Nat.reduceEqDiff,Nat.reduceAdd,Nat.reduceLT,Nat.reduceLeDiff,Int.reduceNeg,Int.reduceToNat,reduceCtorEq]
    simp[BJ,h]
theorem IK {is:List Bool} {l:List Int} : (!l.any (BJ is))=dP l is true:=by
  simp only[dP,List.not_any_eq_all_not]
  congr 1
  funext s
  simp only[BJ]
  by_cases h:0≤s
  · simp[h,show ¬ s < 0 by omega]
  · simp[h,show s < 0 by omega]
theorem wv (r:aT) (is:List Bool) (hr:aW r.right) (hs:∀ s∈r.right,cz s∧(s < 0→-1 - s < is.length)):aD Tryz.prog 160 [.agg (ba r),bO is] (gb (dP r.right is true)):=by
  rw[← IK]
  refine aD.val (Ep r is) fun H=>?_
  refine aC.of mixed y4 ?_
  simp (disch:=omega) only [↓wr,↓reduceIte,wq,ah,ag,aj,ab,ae,af,ai,isNil,Nat.reduceEqDiff,Nat.reduceAdd,Nat.reduceLT,Nat.reduceLeDiff,Int.reduceNeg,Int.reduceToNat,reduceCtorEq,vE,ba,bO,encI]
  refine aG.pure (qk r.right hr 197 [.aR [bO is] 0] (by
    intro v hv; simp at hv; subst hv
    exact jv (by intro v hv; simp at hv; subst hv; exact iz is)) (BJ is) (fun x hx=>IX is x (hs x hx)) (by kernel_rfl)) (by kernel_rfl) ?_
  simp (disch:=omega) only [↓wr,↓reduceIte,wq,ah,ag,aj,ab,ae,af,ai,isNil,Nat.reduceEqDiff,Nat.reduceAdd,Nat.reduceLT,Nat.reduceLeDiff,Int.reduceNeg,Int.reduceToNat,reduceCtorEq]
theorem nI {h:aE} {u:V} {l:List Int} (ho:aQ h.view u 1 (l.map fun x=>[gi x])):dN h u (encI l):=dN.ML (f:=Value.int .i64) ho
theorem B6 (r:aT) (is:List Bool) (hr:Ec is.length r):dE Tryz.prog 195 [.agg (ba r),bO is] (encI (if dP r.right is true=true then [r.left] else [])):=by
  obtain ⟨hl,_,_,hr6,hs⟩:=hr
  have hsh:aW r.right:=by unfold aW; omega
  refine dE.of (Ep r is) ?_
  refine aC.of mixed r6 ?_
  simp (disch:=omega) only [↓wr,↓reduceIte,wq,ah,ag,aj,ab,ae,af,ai,isNil,Nat.reduceEqDiff,Nat.reduceAdd,Nat.reduceLT,Nat.reduceLeDiff,Int.reduceNeg,Int.reduceToNat,reduceCtorEq,nf,ba,encI]
  refine aG.pure (wv r is hsh hs) (by kernel_rfl) ?_
  repeat' (first | (refine ax.dec (fun _=>?_) (fun _=>?_)) | (refine ax.eq (fun _=>?_) (fun _=>?_)) | (refine ax.ne (fun _=>?_) (fun _=>?_)) | (refine ax.split (fun _=>?_) (fun _=>?_)) | (simp (disch:=omega) only [↓wr,↓reduceIte,wq,ah,ag,aj,ab,ae,af,ai,isNil,Nat.reduceEqDiff,Nat.reduceAdd,Nat.reduceLT,Nat.reduceLeDiff,Int.reduceNeg,Int.reduceToNat,reduceCtorEq,ba,encI]))
  all_goals first
    | (intro n h' hh; rw[if_pos (by simp[*])]; exact nI (l:=[r.left]) (.inr ⟨n,rfl,by rw[hh]; simp[View.set]⟩))
    | (intro h' hh; rw[if_neg (by simp[*])]; exact .emp _)
def fH (l:List Int):List Int:=(l.filter fun s=>decide (s < 0)).map fun s=>-1 - s
theorem K9 (r:aT) (is p:List Bool):∀ v∈[V.agg (ba r),bO is,.aR [bO p] 0],Tree v:=by
  intro v hv; simp at hv
  rcases hv with rfl | rfl | rfl
  · exact dd _ (gg r)
  · exact iz is
  · exact jv (by intro v hv; simp at hv; subst hv; exact iz p)
set_option maxHeartbeats 1000000 in
theorem Dq (r:aT) (is p:List Bool) (hr:Ec is.length r) (hp:p.length=is.length) :
    dE Tryz.prog 196 [.agg (ba r),bO is,.aR [bO p] 0] (encI (if (is.getD r.left.toNat false && dP r.right p true)=true then fH r.right else [])):=by
  obtain ⟨hl,hl0,hl1,hr6,hs⟩:=hr
  have hsh:aW r.right:=by unfold aW; omega
  refine dE.of (K9 r is p) ?_
  refine aC.of mixed sM ?_
  have hb:is[r.left.toNat]?=some (is[r.left.toNat]'(by omega)):=List.getElem?_eq_getElem (by omega)
  have hbd:is.getD r.left.toNat false=is[r.left.toNat]'(by omega):=by simp[List.getD_eq_getElem?_getD,hb]
  generalize is[r.left.toNat]'(by omega)=b at hb hbd
  rw[hbd]
  simp (disch:=omega) only [↓wr,↓reduceIte,wq,ah,ag,aj,ab,ae,af,ai,isNil,Nat.reduceEqDiff,Nat.reduceAdd,Nat.reduceLT,Nat.reduceLeDiff,Int.reduceNeg,Int.reduceToNat,reduceCtorEq,oI,ba,encI,bO,List.getElem?_map,hb]
  cases b with
  | false =>
    simp (disch:=omega) only [↓wr,↓reduceIte,wq,ah,ag,aj,ab,ae,af,ai,isNil,Nat.reduceEqDiff,Nat.reduceAdd,Nat.reduceLT,Nat.reduceLeDiff,Int.reduceNeg,Int.reduceToNat,reduceCtorEq]
    intro h' hh
    exact .emp _
  | true =>
    simp (disch:=omega) only [↓wr,↓reduceIte,wq,ah,ag,aj,ab,ae,af,ai,isNil,Nat.reduceEqDiff,Nat.reduceAdd,Nat.reduceLT,Nat.reduceLeDiff,Int.reduceNeg,Int.reduceToNat,reduceCtorEq,ba,encI,bO]
    refine aG.pure (wv r p hsh (fun s hs'=>⟨(hs s hs').1,fun h=>by rw[hp]; exact (hs s hs').2 h⟩)) (by kernel_rfl) ?_
    repeat' (first | (refine ax.dec (fun _=>?_) (fun _=>?_)) | (refine ax.eq (fun _=>?_) (fun _=>?_)) | (refine ax.ne (fun _=>?_) (fun _=>?_)) | (refine ax.split (fun _=>?_) (fun _=>?_)) | (simp (disch:=omega) only [↓wr,↓reduceIte,wq,ah,ag,aj,ab,ae,af,ai,isNil,Nat.reduceEqDiff,Nat.reduceAdd,Nat.reduceLT,Nat.reduceLeDiff,Int.reduceNeg,Int.reduceToNat,reduceCtorEq,ba,encI,bO]))
    · rename_i ha
      rw[if_pos (by simp[ha])]
      refine bz.up r.right.length (fun i T H=>(∃ u,T 5=u∧aQ H u 1 ((fH (r.right.take i)).map fun x=>[gi x]))∧T 21=encI r.right∧T 22=gi r.right.length∧T 23=gi i) ?_ ?_
      · exact ⟨⟨_,rfl,.nil⟩,rfl,rfl,rfl⟩
      rintro i k T H' hk ⟨⟨u,h5,hu⟩,h21,h22,h23⟩
      simp (disch:=omega) only [↓wr,↓reduceIte,wq,ah,ag,aj,ab,ae,af,ai,isNil,Nat.reduceEqDiff,Nat.reduceAdd,Nat.reduceLT,Nat.reduceLeDiff,Int.reduceNeg,Int.reduceToNat,reduceCtorEq,mf,h5,h21,h22,h23,encI]
      refine ax.dec (fun hc=>?_) (fun hc=>?_)
      · have hg:r.right[i]?=some (r.right[i]'(by omega)):=List.getElem?_eq_getElem (by omega)
        have hm:r.right[i]'(by omega)∈r.right:=List.getElem_mem _
        have htk:fH (r.right.take (i+1))=fH (r.right.take i) ++ fH [r.right[i]'(by omega)]:=by
          rw[List.take_add_one,hg,fH,List.filter_append,List.map_append]; rfl
        have hlen:(fH (r.right.take i)).length≤6:=by
          have h1:(fH (r.right.take i)).length≤(r.right.take i).length:=by simp only[fH,List.length_map]; exact List.length_filter_le _ _
          have h2:(r.right.take i).length≤i:=List.length_take_le _ _
          omega
        generalize r.right[i]'(by omega)=s at hg hm htk
        obtain ⟨⟨s1,s2⟩,s3⟩:=hs s hm
        simp (disch:=omega) only [↓wr,↓reduceIte,wq,ah,ag,aj,ab,ae,af,ai,isNil,Nat.reduceEqDiff,Nat.reduceAdd,Nat.reduceLT,Nat.reduceLeDiff,Int.reduceNeg,Int.reduceToNat,reduceCtorEq,h5,h21,h22,h23,encI,List.getElem?_map,hg]
        refine ax.dec (fun hd=>?_) (fun hd=>?_)
        · simp (disch:=omega) only [↓wr,↓reduceIte,wq,ah,ag,aj,ab,ae,af,ai,isNil,Nat.reduceEqDiff,Nat.reduceAdd,Nat.reduceLT,Nat.reduceLeDiff,Int.reduceNeg,Int.reduceToNat,reduceCtorEq,h5,h21,h22,h23]
          intro m hm
          try simp (disch:=omega) only [↓wr,↓reduceIte,wq,ah,ag,aj,ab,ae,af,ai,isNil,Nat.reduceEqDiff,Nat.reduceAdd,Nat.reduceLT,Nat.reduceLeDiff,Int.reduceNeg,Int.reduceToNat,reduceCtorEq,h5,h21,h22,h23,cy]
          refine wD (hu.fresh hm) (by simp) (by simp[aV]) (by unfold aO; simp at hlen ⊢; omega) (by unfold aO; simp at hlen ⊢; omega) ?_
          intro u' H2 hu' _
          simp (disch:=omega) only [↓wr,↓reduceIte,wq,ah,ag,aj,ab,ae,af,ai,isNil,Nat.reduceEqDiff,Nat.reduceAdd,Nat.reduceLT,Nat.reduceLeDiff,Int.reduceNeg,Int.reduceToNat,reduceCtorEq,h21,h22,h23]
          refine bq hk (by omega) ⟨⟨u',rfl,?_⟩,h21,h22,rfl⟩
          rw[htk]
          simpa [fH,hd] using hu'
        · simp (disch:=omega) only [↓wr,↓reduceIte,wq,ah,ag,aj,ab,ae,af,ai,isNil,Nat.reduceEqDiff,Nat.reduceAdd,Nat.reduceLT,Nat.reduceLeDiff,Int.reduceNeg,Int.reduceToNat,reduceCtorEq,h5,h21,h22,h23]
          refine bq hk (by omega) ⟨⟨u,h5,?_⟩,h21,h22,rfl⟩
          rw[htk]
          simpa [fH,hd] using hu
      · rw[List.take_of_length_le (by omega)] at hu
        simp (disch:=omega) only [↓wr,↓reduceIte,wq,ah,ag,aj,ab,ae,af,ai,isNil,Nat.reduceEqDiff,Nat.reduceAdd,Nat.reduceLT,Nat.reduceLeDiff,Int.reduceNeg,Int.reduceToNat,reduceCtorEq,h5,h21,h22,h23]
        intro h' hh
        exact nI (by rw[hh]; exact hu)
    · rename_i ha
      intro h' hh
      rw[if_neg (by simp[ha])]
      exact .emp _
def pP (is:List Bool) (l:List Int):List Bool:=l.foldl (fun is n=>is.set n.toNat true) is
def stepG (comes:aT→List Bool→List Int) (is:List Bool) (r:aT):List Bool:=pP is (comes r is)
def dB (comes:aT→List Bool→List Int) (rules:List aT) (is:List Bool):List Bool:=rules.foldl (stepG comes) is
def fT (a b:List Bool):Prop:=a.length=b.length∧∀ i,a.getD i false=true→b.getD i false=true
theorem fT.refl (a:List Bool):fT a a:=⟨rfl,fun _ h=>h⟩
theorem fT.trans {a b c:List Bool} (h:fT a b) (k:fT b c):fT a c:=⟨h.1.trans k.1,fun i hi=>k.2 i (h.2 i hi)⟩
theorem fT.set (a:List Bool) (i:Nat):fT a (a.set i true):=by
  refine ⟨by simp,fun j h=>?_⟩
  simp only[List.getD_eq_getElem?_getD,List.getElem?_set] at h ⊢
  split
  · split
    · rfl
    · rename_i e h2; rw[← e,List.getElem?_eq_none (by omega)] at h; simp at h
  · exact h
theorem F2:∀ (l:List Int) (is:List Bool),fT is (pP is l)
  | [],is=>.refl _
  | n :: l,is=>(fT.set is n.toNat).trans (F2 l _)
theorem rT (comes:aT→List Bool→List Int):∀ (rules:List aT) (is:List Bool),fT is (dB comes rules is)
  | [],is=>.refl _
  | r :: rs,is=>(F2 _ _).trans (rT comes rs _)
def ep (a:List Bool):Nat:=a.countP fun x=>x
theorem zl (a:List Bool):ep a≤a.length:=List.countP_le_length
theorem fT.ep:∀ {a b:List Bool},fT a b→ep a≤ep b∧(ep a=ep b→a=b)
  | [],[],_=>⟨Nat.le_refl _,fun _=>rfl⟩
  | [],_ :: _,h=>by simp[fT] at h
  | _ :: _,[],h=>by simp[fT] at h
  | x :: a,y :: b,h=>by
    have hxy:x=true→y=true:=fun e=>by have:=h.2 0 (by simpa using e); simpa using this
    obtain ⟨h1,h2⟩:=fT.ep (a:=a) (b:=b) ⟨by simpa using h.1,fun i hi=>by have:=h.2 (i+1) (by simpa using hi); simpa using this⟩
    unfold Gv.ep at h1 h2 ⊢
    simp only[List.countP_cons]
    cases x with
    | true =>
      have:=hxy rfl; subst this
      simp only[if_true]
      exact ⟨by omega,fun e=>by rw[h2 (by omega)]⟩
    | false =>
      cases y with
      | false=>simp only[Bool.false_eq_true,if_false]; exact ⟨by omega,fun e=>by rw[h2 (by omega)]⟩
      | true=>simp only[Bool.false_eq_true,if_false,if_true]; exact ⟨by omega,fun e=>by omega⟩
def fZ (comes:aT→List Bool→List Int) (rules:List aT):Nat→List Bool→List Bool
  | 0,is=>is
  | k+1,is=>if dB comes rules is=is then is else fZ comes rules k (dB comes rules is)
theorem rK (comes:aT→List Bool→List Int) (rules:List aT):∀ (k:Nat) (is:List Bool),is.length≤ep is+k→dB comes rules (fZ comes rules k is)=fZ comes rules k is∧fT is (fZ comes rules k is)
  | 0,is,h=>by
    have h1:=rT comes rules is
    have h2:=zl (dB comes rules is)
    have h3:=h1.ep
    rw[← h1.1] at h2
    have h4:=zl is
    exact ⟨(h3.2 (by omega)).symm,.refl _⟩
  | k+1,is,h=>by
    simp only[fZ]
    by_cases e:dB comes rules is=is
    · rw[if_pos e]; exact ⟨e,.refl _⟩
    · rw[if_neg e]
      have h1:=rT comes rules is
      have h3:=h1.ep
      have:ep is < ep (dB comes rules is):=by
        rcases Nat.lt_or_ge (ep is) (ep (dB comes rules is)) with h | h
        · exact h
        · exact absurd (h3.2 (by omega)).symm e
      obtain ⟨g1,g2⟩:=rK comes rules k (dB comes rules is) (by rw[← h1.1]; omega)
      exact ⟨g1,h1.trans g2⟩
def vx:SC :=
  .seq (ak [aN 26 .lss 25 24]) <|
  .seq (.cond (.tmp 26) (.skip) (.exit 4)) <|
  .seq (.block 5 (.seq (ak [aP 27 1 23 25,au 28 27,aa 11 28]) <|
  .seq (.region false [⟨none,[aa 29 7,aa 30 29]⟩,⟨(some (30,false)),[aa 31 1,aa 32 11,aP 33 1 31 32,au 34 33,b6 35 34]⟩,⟨none,[bJ 36 30 35,aa 7 36]⟩]) <|
  ak [aa 37 1,aa 38 11,aP 39 1 37 38,(none,.op (.store 1 (.tmp 39) (.val (.val (.bool true)))))])) <|
  ak [aA 40 .add 25 1,aa 25 40]
def vt:SC :=
  .seq (ak [aN 17 .lss 16 15]) <|
  .seq (.cond (.tmp 17) (.skip) (.exit 2)) <|
  .seq (.block 3 (.seq (ak [aP 18 3 14 16,aK 19 3 18,((some 9),.op (.alloc [(.val (.int .i64 0)),(.emp 1),(.val (.int .i64 0))])),(none,.op (.store 3 (.tmp 9) (.tmp 19)))]) <|
  .seq (ak [aa 20 2,aK 21 3 9,aa 22 1,((some 23),.call (.tmp 20) [(.tmp 21),(.tmp 22)]),aJ 24 23,aF 25 0]) <|
  .block 4 (.loop vx))) <|
  ak [aA 41 .add 16 1,aa 16 41]
def pq:SC :=
  .seq (.seq (ak [aa 12 7]) <|
  .cond (.tmp 12) (.skip) (.exit 0)) <|
  .block 1 (.seq (ak [aX 7 false]) <|
  .seq (ak [av 13 2 3,au 14 13,aJ 15 14,aF 16 0]) <|
  .block 2 (.loop vt))
def yo:SF:=⟨.seq (ak [bZ 3 0,((some 6),.op (.bm (.val (.emp 1))))]) <|
  .seq (.seq (ak [aX 7 true]) <|
  .block 0 (.loop pq)) <|
  .seq (ak [aa 42 1,aa 6 42]) <|
  .ret,
  [.tmp 6],43⟩
theorem B1:bf Tryz.prog 169 [3]=some yo:=by kernel_rfl
theorem Nf {is:List Bool} {i:Nat} (h:is.getD i false=true):is.set i true=is:=by
  apply List.ext_getElem?
  intro j
  simp only[List.getD_eq_getElem?_getD] at h
  rw[List.getElem?_set]
  split
  · rename_i e; subst e
    split
    · rename_i hl; rw[List.getElem?_eq_getElem hl] at h ⊢; simp at h; simp[h]
    · rename_i hl; rw[List.getElem?_eq_none (by omega)] at h; simp at h
  · rfl
theorem IF {comes:aT→List Bool→List Int} {rules:List aT} {k:Nat} {is:List Bool} (h:dB comes rules is=is):fZ comes rules k is=is:=by
  cases k with
  | zero=>rfl
  | succ k=>simp only[fZ,h,if_true]
theorem IE {comes:aT→List Bool→List Int} {rules:List aT} {k:Nat} {is:List Bool} (h:¬ dB comes rules is=is) (hk:is.length≤ep is+k):∃ j,k=j+1∧fZ comes rules k is=fZ comes rules j (dB comes rules is)∧(dB comes rules is).length≤ep (dB comes rules is)+j:=by
  have h1:=rT comes rules is
  have h3:=h1.ep
  have h5:=zl (dB comes rules is)
  have:ep is < ep (dB comes rules is):=by
    rcases Nat.lt_or_ge (ep is) (ep (dB comes rules is)) with h | h
    · exact h
    · exact absurd (h3.2 (by omega)).symm (by assumption)
  have hl:=h1.1
  obtain ⟨j,rfl⟩:∃ j,k=j+1:=⟨k - 1,by omega⟩
  exact ⟨j,rfl,by simp only[fZ]; rw[if_neg h],by omega⟩
theorem Mz {a is:List Bool} {i:Nat} {b:Bool} (hle:fT a is) (hi:i < is.length) (hb:b = !decide (is=a)):(b || !is.getD i false) = !decide (is.set i true=a):=by
  cases hx:is.getD i false with
  | true=>rw[Nf hx,hb]; simp
  | false =>
    have:¬ is.set i true=a:=fun e=>by
      have h1:(is.set i true).getD i false=true:=by simp[List.getD_eq_getElem?_getD,hi]
      rw[e] at h1
      have:=hle.2 i h1
      rw[hx] at this; simp at this
    simp[this]
set_option maxHeartbeats 8000000 in
theorem Hb (g:ao) (hr:g.rules.length≤40) (comes:aT→List Bool→List Int) (f:FuncId) (capt capt':List V) (hok:dc Tryz.prog f=true) (N:Nat) (hN:N≤16)
    (hc:∀ r∈g.rules,∀ is:List Bool,is.length=N→dE Tryz.prog f (.agg (ba r) :: bO is :: capt') (encI (comes r is))∧(comes r is).length≤100∧∀ n∈comes r is,cz n∧0≤n∧n < N)
    (id:Nat) (is0:List Bool) (his:is0.length=N) (H:View) (hH:H id=.arr 1 (ct is0)) (hlent:∀ H':View,(∀ k,H k≠.dead→k≠id→H' k=H k)→nY H' capt capt') :
    aC Tryz.prog 169 [.agg (aw g),.sl id 0 N 1,.fn f [] capt] H fun r H'=>r=.sl id 0 N 1∧H' id=.arr 1 (ct (fZ comes g.rules 16 is0))∧∀ k,H k≠.dead→k≠id→H' k=H k:=by
  refine aC.of mixed B1 ?_
  simp (disch:=omega) only [↓wr,↓reduceIte,wq,ah,ag,aj,ab,ae,af,ai,isNil,Nat.reduceEqDiff,Nat.reduceAdd,Nat.reduceLT,Nat.reduceLeDiff,Int.reduceNeg,Int.reduceToNat,reduceCtorEq,yo,aw,encS]
  refine bz.intro (fun k T H'=>∃ is:List Bool,is.length=N∧H' id=.arr 1 (ct is)∧(∀ k,H k≠.dead→k≠id→H' k=H k)∧T 1=.sl id 0 N 1∧T 2=.fn f [] capt∧T 3=.aR (aw g) 0 ∧
    ((T 7=gb true∧∃ j,k=j+1∧fZ comes g.rules j is=fZ comes g.rules 16 is0∧N≤ep is+j)∨(T 7=gb false∧is=fZ comes g.rules 16 is0))) 17 ?_ ?_
  · exact ⟨is0,his,hH,fun _ _ _=>rfl,rfl,rfl,rfl,.inl ⟨rfl,16,rfl,rfl,by omega⟩⟩
  rintro k T H1 ⟨is,hlen,hid,hfr,t1,t2,t3,h7⟩
  rcases h7 with ⟨h7,j,rfl,hgr,hj⟩ | ⟨h7,hgr⟩
  · simp (disch:=omega) only [↓wr,↓reduceIte,wq,ah,ag,aj,ab,ae,af,ai,isNil,Nat.reduceEqDiff,Nat.reduceAdd,Nat.reduceLT,Nat.reduceLeDiff,Int.reduceNeg,Int.reduceToNat,reduceCtorEq,pq,t1,t2,t3,h7,aw,encS]
    refine bz.up g.rules.length (fun i T H'=>∃ nj:List Bool,nj.length=N∧fT is nj∧nj=(g.rules.take i).foldl (stepG comes) is∧H' id=.arr 1 (ct nj)∧(∀ k,H k≠.dead→k≠id→H' k=H k)∧T 1=.sl id 0 N 1∧T 2=.fn f [] capt∧T 3=.aR (aw g) 0 ∧
      T 7=gb (!decide (nj=is))∧T 14=.aZ (g.rules.map ba)∧T 15=gi g.rules.length∧T 16=gi i) ?_ ?_
    · exact ⟨is,hlen,.refl _,rfl,hid,hfr,t1,t2,t3,by simp; rfl,rfl,rfl,rfl⟩
    clear t1 t2 t3 h7 hid hfr
    rintro i k T H1 hk ⟨nj,hlen2,hle2,hst,hid,hfr,t1,t2,t3,h7,h14,h15,h16⟩
    simp (disch:=omega) only [↓wr,↓reduceIte,wq,ah,ag,aj,ab,ae,af,ai,isNil,Nat.reduceEqDiff,Nat.reduceAdd,Nat.reduceLT,Nat.reduceLeDiff,Int.reduceNeg,Int.reduceToNat,reduceCtorEq,vt,t1,t2,t3,h7,h14,h15,h16,aw,encS]
    refine ax.dec (fun hcc=>?_) (fun hcc=>?_)
    · have hg2:g.rules[i]?=some (g.rules[i]'(by omega)):=List.getElem?_eq_getElem (by omega)
      have hmem:g.rules[i]'(by omega)∈g.rules:=List.getElem_mem _
      have htk:(g.rules.take (i+1)).foldl (stepG comes) is=stepG comes ((g.rules.take i).foldl (stepG comes) is) (g.rules[i]'(by omega)):=by
        rw[List.take_add_one,hg2,List.foldl_append]; rfl
      generalize g.rules[i]'(by omega)=r at hg2 hmem htk
      obtain ⟨hcp,hcl,hcn⟩:=hc r hmem nj hlen2
      simp (disch:=omega) only [↓wr,↓reduceIte,wq,ah,ag,aj,ab,ae,af,ai,isNil,Nat.reduceEqDiff,Nat.reduceAdd,Nat.reduceLT,Nat.reduceLeDiff,Int.reduceNeg,Int.reduceToNat,reduceCtorEq,t1,t2,t3,h7,h14,h15,h16,ba,encI,List.getElem?_map,hg2]
      intro b hb
      have hbid:b≠id:=by rintro rfl; rw[hid] at hb; simp at hb
      try simp (disch:=omega) only [↓wr,↓reduceIte,wq,ah,ag,aj,ab,ae,af,ai,isNil,Nat.reduceEqDiff,Nat.reduceAdd,Nat.reduceLT,Nat.reduceLeDiff,Int.reduceNeg,Int.reduceToNat,reduceCtorEq,t1,t2,t3,h7,h14,h15,h16]
      refine aG.PQ hcp hok ⟨dD.tree (dd _ (gg r)),zQ (by simp[View.set,hbid.symm,hid]) hlen2.symm,hlent _ (fun k hk hki=>?_)⟩ ?_
      · have hkb:k≠b:=by
          rintro rfl
          rw[hfr k hk hki] at hb
          exact hk hb
        simp[View.set,hkb,hfr k hk hki]
      generalize hl:comes r nj=l at hcl hcn
      simp (disch:=omega) only [↓wr,↓reduceIte,wq,ah,ag,aj,ab,ae,af,ai,isNil,Nat.reduceEqDiff,Nat.reduceAdd,Nat.reduceLT,Nat.reduceLeDiff,Int.reduceNeg,Int.reduceToNat,reduceCtorEq,t1,t2,t3,h7,h14,h15,h16,encI]
      refine bz.up l.length (fun q T H'=>∃ is3:List Bool,is3.length=N∧fT is is3∧is3=pP nj (l.take q)∧H' id=.arr 1 (ct is3)∧(∀ k,H k≠.dead→k≠id→H' k=H k)∧T 1=.sl id 0 N 1∧T 2=.fn f [] capt∧T 3=.aR (aw g) 0 ∧
        T 7=gb (!decide (is3=is))∧T 14=.aZ (g.rules.map ba)∧T 15=gi g.rules.length∧T 16=gi i∧T 23=encI l∧T 24=gi l.length∧T 25=gi q) ?_ ?_
      · refine ⟨nj,hlen2,hle2,rfl,by simp[View.set,hbid.symm,hid],fun k hk hki=>?_,t1,t2,t3,h7,h14,h15,h16,rfl,rfl,rfl⟩
        have hkb:k≠b:=by
          rintro rfl
          rw[hfr k hk hki] at hb
          exact hk hb
        simp[View.set,hkb,hfr k hk hki]
      clear t1 t2 t3 h7 h14 h15 h16 hid hfr hb hbid
      rintro q k2 T H1 hk2 ⟨is3,hlen3,hle3,hst3,hid,hfr,t1,t2,t3,h7,h14,h15,h16,h23,h24,h25⟩
      simp (disch:=omega) only [↓wr,↓reduceIte,wq,ah,ag,aj,ab,ae,af,ai,isNil,Nat.reduceEqDiff,Nat.reduceAdd,Nat.reduceLT,Nat.reduceLeDiff,Int.reduceNeg,Int.reduceToNat,reduceCtorEq,vx,t1,t2,t3,h7,h14,h15,h16,h23,h24,h25,encI]
      refine ax.dec (fun hqc=>?_) (fun hqc=>?_)
      · have hgq:l[q]?=some (l[q]'(by omega)):=List.getElem?_eq_getElem (by omega)
        have hmq:l[q]'(by omega)∈l:=List.getElem_mem _
        have htq:pP nj (l.take (q+1))=(pP nj (l.take q)).set (l[q]'(by omega)).toNat true:=by
          unfold pP; rw[List.take_add_one,hgq,List.foldl_append]; rfl
        generalize l[q]'(by omega)=n at hgq hmq htq
        obtain ⟨⟨n1,n2⟩,n3,n4⟩:=hcn n hmq
        have hbn:is3.getD n.toNat false=is3[n.toNat]'(by omega):=by simp[List.getD_eq_getElem?_getD,show n.toNat < is3.length by omega]
        have hnew:=Mz hle3 (show n.toNat < is3.length by omega) (b:=!decide (is3=is)) rfl
        rw[hbn] at hnew
        have hbg:=jr (show n.toNat < is3.length by omega)
        generalize is3[n.toNat]'(by omega)=x at hnew hbg hbn
        have fin:∀ (T2:Env),T2 7=gb (!decide (is3.set n.toNat true=is))→T2 1=.sl id 0 N 1→T2 2=.fn f [] capt→T2 3=.aR (aw g) 0→T2 14=.aZ (g.rules.map ba)→T2 15=gi g.rules.length→T2 16=gi i→T2 23=encI l→T2 24=gi l.length→T2 25=gi ((q:Int)+1) →
            ∃ k',k' < k2∧CP l.length k' (fun q T H'=>∃ is3:List Bool,is3.length=N∧fT is is3∧is3=pP nj (l.take q)∧H' id=.arr 1 (ct is3)∧(∀ k,H k≠.dead→k≠id→H' k=H k)∧T 1=.sl id 0 N 1∧T 2=.fn f [] capt∧T 3=.aR (aw g) 0 ∧
              T 7=gb (!decide (is3=is))∧T 14=.aZ (g.rules.map ba)∧T 15=gi g.rules.length∧T 16=gi i∧T 23=encI l∧T 24=gi l.length∧T 25=gi q) T2 (H1.set id (.arr 1 (ct (is3.set n.toNat true)))):=by
          intro T2 a7 a1 a2 a3 a14 a15 a16 a23 a24 a25
          refine bq hk2 (by omega) ⟨is3.set n.toNat true,by simp[hlen3],hle3.trans (.set _ _),by rw[htq,← hst3],by simp[View.set],fun k hk hki=>by simp[View.set,hki,hfr k hk hki],a1,a2,a3,a7,a14,a15,a16,a23,a24,by rw[a25]; rfl⟩
        simp (disch:=omega) only [↓wr,↓reduceIte,wq,ah,ag,aj,ab,ae,af,ai,isNil,Nat.reduceEqDiff,Nat.reduceAdd,Nat.reduceLT,Nat.reduceLeDiff,Int.reduceNeg,Int.reduceToNat,reduceCtorEq,t1,t2,t3,h7,h14,h15,h16,h23,h24,h25,encI,List.getElem?_map,hgq]
        refine ax.dec (fun e=>?_) (fun e=>?_)
        · simp (disch:=omega) only [↓wr,↓reduceIte,wq,ah,ag,aj,ab,ae,af,ai,isNil,Nat.reduceEqDiff,Nat.reduceAdd,Nat.reduceLT,Nat.reduceLeDiff,Int.reduceNeg,Int.reduceToNat,reduceCtorEq,t1,t2,t3,h7,h14,h15,h16,h23,h24,h25,encI,hid,hbg,List.length_map]
          refine ⟨by omega,by omega,?_⟩
          try simp (disch:=omega) only [↓wr,↓reduceIte,wq,ah,ag,aj,ab,ae,af,ai,isNil,Nat.reduceEqDiff,Nat.reduceAdd,Nat.reduceLT,Nat.reduceLeDiff,Int.reduceNeg,Int.reduceToNat,reduceCtorEq,t1,t2,t3,h7,h14,h15,h16,h23,h24,h25,encI,hid,hbg,List.length_map]
          refine ⟨by omega,by omega,?_⟩
          rw[jO]
          exact fin _ (by rw[← hnew]; simp[e]; rfl) t1 t2 t3 h14 h15 h16 h23 h24 rfl
        · simp (disch:=omega) only [↓wr,↓reduceIte,wq,ah,ag,aj,ab,ae,af,ai,isNil,Nat.reduceEqDiff,Nat.reduceAdd,Nat.reduceLT,Nat.reduceLeDiff,Int.reduceNeg,Int.reduceToNat,reduceCtorEq,t1,t2,t3,h7,h14,h15,h16,h23,h24,h25,encI,hid,hbg,List.length_map]
          refine ⟨by omega,by omega,?_⟩
          rw[jO]
          exact fin _ (by rw[← hnew]; simp[e]; rfl) t1 t2 t3 h14 h15 h16 h23 h24 rfl
      · rw[List.take_of_length_le (by omega)] at hst3
        simp (disch:=omega) only [↓wr,↓reduceIte,wq,ah,ag,aj,ab,ae,af,ai,isNil,Nat.reduceEqDiff,Nat.reduceAdd,Nat.reduceLT,Nat.reduceLeDiff,Int.reduceNeg,Int.reduceToNat,reduceCtorEq,t1,t2,t3,h7,h14,h15,h16,h23,h24,h25]
        refine bq hk (by omega) ⟨is3,hlen3,hle3,?_,hid,hfr,t1,t2,t3,h7,h14,h15,rfl⟩
        rw[htk,← hst,stepG,hl,← hst3]
    · rw[List.take_of_length_le (by omega)] at hst
      simp (disch:=omega) only [↓wr,↓reduceIte,wq,ah,ag,aj,ab,ae,af,ai,isNil,Nat.reduceEqDiff,Nat.reduceAdd,Nat.reduceLT,Nat.reduceLeDiff,Int.reduceNeg,Int.reduceToNat,reduceCtorEq,t1,t2,t3,h7,h14,h15,h16]
      have hrd:nj=dB comes g.rules is:=hst
      by_cases e:nj=is
      · refine ⟨0,by omega,nj,hlen2,hid,hfr,rfl,.inr ⟨by simp[e],?_⟩⟩
        rw[← hgr,e]
        exact (IF (by rw[← hrd]; exact e)).symm
      · obtain ⟨j2,rfl,e2,e3⟩:=IE (k:=j) (fun h=>e (hrd.trans h)) (by rw[hlen]; exact hj)
        refine ⟨j2+1,by omega,nj,hlen2,hid,hfr,rfl,.inl ⟨by simp[e],j2,rfl,?_,?_⟩⟩
        · rw[← hgr,e2,hrd]
        · rw[← hrd,hlen2] at e3; exact e3
  · simp (disch:=omega) only [↓wr,↓reduceIte,wq,ah,ag,aj,ab,ae,af,ai,isNil,Nat.reduceEqDiff,Nat.reduceAdd,Nat.reduceLT,Nat.reduceLeDiff,Int.reduceNeg,Int.reduceToNat,reduceCtorEq,pq,t1,t2,t3,h7,aw,encS]
    exact ⟨hgr ▸ hid,hfr⟩
theorem zo {α:Type} {f:α→α} {x:α} (h:f x=x):∀ n,iter f n x=x
  | 0=>rfl
  | n+1=>by rw[iter,h,zo h n]
theorem E8 {α:Type} (f:α→α):∀ (a b:Nat) (x:α),iter f (a+b) x=iter f b (iter f a x)
  | 0,b,x=>by rw[Nat.zero_add]; rfl
  | a+1,b,x=>by rw[Nat.add_right_comm,iter,iter,E8 f a b]
theorem z1 (comes:aT→List Bool→List Int) (rules:List aT):∀ (k:Nat) (is:List Bool),fZ comes rules k is=iter (dB comes rules) k is
  | 0,is=>rfl
  | k+1,is=>by
    simp only[fZ,iter]
    by_cases e:dB comes rules is=is
    · rw[if_pos e,e,zo e]
    · rw[if_neg e,z1 comes rules k]
theorem xc (comes:aT→List Bool→List Int) (rules:List aT) (is:List Bool) (h:is.length≤16):fZ comes rules 16 is=iter (dB comes rules) is.length is:=by
  have h1:=(rK comes rules is.length is (by omega)).1
  rw[z1] at h1 ⊢
  obtain ⟨m,hm⟩:∃ m,16=is.length+m:=⟨16 - is.length,by omega⟩
  rw[hm,E8,zo h1]
def qq (t:Bool) (r:aT) (is:List Bool):List Int:=if dP r.right is t=true then [r.left] else []
def qV (p:List Bool) (r:aT) (is:List Bool):List Int:=if (is.getD r.left.toNat false && dP r.right p true)=true then fH r.right else []
theorem GU (g:ao) (t:Bool):dB (qq t) g.rules=iV g t:=by
  funext is
  unfold dB iV
  congr 1
  funext is r
  unfold stepG qq dL
  split <;> rfl
theorem Ai:∀ (l:List Int) (is:List Bool),pP is (fH l)=l.foldl mark is
  | [],is=>rfl
  | s :: l,is=>by
    have ih:=Ai l
    unfold pP fH at ih ⊢
    rw[List.foldl_cons,← ih]
    unfold mark
    by_cases h:s < 0
    · rw[if_pos h,List.filter_cons_of_pos (by simpa using h)]; rfl
    · rw[if_neg h,List.filter_cons_of_neg (by simpa using h)]
theorem Ha (g:ao) (p:List Bool):dB (qV p) g.rules=lV g p:=by
  funext is
  unfold dB lV
  congr 1
  funext is r
  unfold stepG qV eZ
  split
  · exact Ai _ _
  · rfl
theorem Lj {g:ao} (h:bK g=true) (t:Bool):fZ (qq t) g.rules 16 (bW g)=aM g t:=by
  have hf:=bL h
  have hl:(bW g).length=g.ay.length:=by simp[bW]
  have:=hf.ay
  rw[xc _ _ _ (by rw[hl]; exact hf.ay),GU,hl,aM,if_pos h]
theorem KD {g:ao} (h:bK g=true):fZ (qV (aM g true)) g.rules 16 ((bW g).set g.start.toNat true)=bH g:=by
  have hf:=bL h
  have hl:((bW g).set g.start.toNat true).length=g.ay.length:=by simp[bW]
  rw[xc _ _ _ (by rw[hl]; exact hf.ay),Ha,hl,bH,if_pos h]
def pD:SF:=⟨.seq (ak [bZ 1 0,((some 2),.op (.bm (.val (.emp 1))))]) <|
  .seq (.seq (ak [aK 3 4 1,aI 4 52 [3],b6 5 4]) <|
  .cond (.tmp 5) (.seq (ak [((some 2),.op (.bm (.val (.emp 1))))]) <|
  .ret) (.skip)) <|
  .seq (ak [aK 6 4 1,av 7 1 1,au 8 7,aJ 9 8,((some 10),.op (.make 1 1 [(.val (.bool false))] (.tmp 9) (.tmp 9))),c9 11 169 [(.tmp 6),(.tmp 10),(.val (.fn 195 [] []))],aa 2 11]) <|
  .ret,
  [.tmp 2],12⟩
theorem uV:bf Tryz.prog 157 [1]=some pD:=by kernel_rfl
def qN:SF:=⟨.seq (ak [bZ 1 0,((some 2),.op (.bm (.val (.emp 1))))]) <|
  .seq (.seq (ak [aK 5 4 1,aI 6 52 [5],b6 7 6]) <|
  .cond (.tmp 7) (.seq (ak [((some 2),.op (.bm (.val (.emp 1))))]) <|
  .ret) (.skip)) <|
  .seq (ak [aK 8 4 1,aI 9 157 [8],((some 3),.op (.alloc [(.emp 1)])),(none,.op (.store 1 (.tmp 3) (.tmp 9)))]) <|
  .seq (ak [av 10 1 1,au 11 10,aJ 12 11,((some 13),.op (.make 1 1 [(.val (.bool false))] (.tmp 12) (.tmp 12))),aa 4 13]) <|
  .seq (ak [aa 14 4,av 15 3 1,au 16 15,aP 17 1 14 16,(none,.op (.store 1 (.tmp 17) (.val (.val (.bool true)))))]) <|
  .seq (ak [aK 18 4 1,aa 19 4,((some 20),.op (.sk 196 [] [(.tmp 3)])),aI 21 169 [18,19,20],aa 2 21]) <|
  .ret,
  [.tmp 2],22⟩
theorem vO:bf Tryz.prog 158 [1]=some qN:=by kernel_rfl
structure ao.Small (g:ao):Prop where
  names:g.ay.length+g.az.length≤1000
theorem Ce {h':aE} {id n:Nat} {is:List Bool} (hv:h'.view id=.arr 1 (ct is)) (hn:n=is.length):dN h' (.sl id 0 n 1) (bO is):=by
  subst hn; exact oJ hv
set_option maxHeartbeats 2000000 in
theorem s7 (g:ao) (hg:g.Ok) (hs:g.Small):dE Tryz.prog 157 [.agg (aw g)] (bO (aM g true)):=by
  refine dE.of (eN g) ?_
  refine aC.of mixed uV ?_
  have hn:=hg.ay
  unfold aW at hn
  simp (disch:=omega) only [↓wr,↓reduceIte,wq,ah,ag,aj,ab,ae,af,ai,isNil,Nat.reduceEqDiff,Nat.reduceAdd,Nat.reduceLT,Nat.reduceLeDiff,Int.reduceNeg,Int.reduceToNat,reduceCtorEq,pD,aw,encS]
  refine aG.pure (rD g hg hs.names) (by kernel_rfl) ?_
  repeat' (first | (refine ax.dec (fun _=>?_) (fun _=>?_)) | (refine ax.eq (fun _=>?_) (fun _=>?_)) | (refine ax.ne (fun _=>?_) (fun _=>?_)) | (refine ax.split (fun _=>?_) (fun _=>?_)) | (simp (disch:=omega) only [↓wr,↓reduceIte,wq,ah,ag,aj,ab,ae,af,ai,isNil,Nat.reduceEqDiff,Nat.reduceAdd,Nat.reduceLT,Nat.reduceLeDiff,Int.reduceNeg,Int.reduceToNat,reduceCtorEq,aw,encS]))
  · rename_i hr
    have hf:=bL hr
    have h1:=hf.rQ
    have h2:=hf.ay
    try simp (disch:=omega) only [↓wr,↓reduceIte,wq,ah,ag,aj,ab,ae,af,ai,isNil,Nat.reduceEqDiff,Nat.reduceAdd,Nat.reduceLT,Nat.reduceLeDiff,Int.reduceNeg,Int.reduceToNat,reduceCtorEq,aw,encS]
    refine ⟨⟨by omega,by unfold aO; omega,by unfold aO; omega⟩,fun h=>by omega,?_⟩
    intro _ n
    try simp (disch:=omega) only [↓wr,↓reduceIte,wq,ah,ag,aj,ab,ae,af,ai,isNil,Nat.reduceEqDiff,Nat.reduceAdd,Nat.reduceLT,Nat.reduceLeDiff,Int.reduceNeg,Int.reduceToNat,reduceCtorEq,aw,encS]
    refine aG.jR ((Hb g hf.rules (qq true) 195 [] [] (by kernel_rfl) g.ay.length h2 (fun r hr' is his=>⟨B6 r is (by rw[his]; exact hf.tP hg hr'),?_,?_⟩) n (bW g) (by simp[bW]) _ (by simp[View.set,bW]) (fun H' _=>trivial)).mono ?_)
    · unfold qq; split <;> simp
    · intro m hm
      unfold qq at hm
      split at hm
      · simp only[List.mem_singleton] at hm; subst hm
        exact ⟨(hg.aH r hr').1,hf.left r hr'⟩
      · simp at hm
    · rintro r H' ⟨rfl,hid,_⟩
      simp (disch:=omega) only [↓wr,↓reduceIte,wq,ah,ag,aj,ab,ae,af,ai,isNil,Nat.reduceEqDiff,Nat.reduceAdd,Nat.reduceLT,Nat.reduceLeDiff,Int.reduceNeg,Int.reduceToNat,reduceCtorEq]
      intro h' hh
      rw[Lj hr] at hid
      exact Ce (by rw[hh]; exact hid) (iS hr _).symm
  · rename_i hr
    intro h' hh
    simp only[aM,hr]
    exact .emp _
theorem og {g:ao} (hr:bK g=true):(bH g).length=g.ay.length:=by
  rw[bH,if_pos hr,yS (f:=lV g (aM g true)) (fun is=>zp (fun is x=>K8 _ is x) g.rules is)]
  simp[bW]
set_option maxHeartbeats 2000000 in
theorem Dm (g:ao) (hg:g.Ok) (hs:g.Small):dE Tryz.prog 158 [.agg (aw g)] (bO (bH g)):=by
  refine dE.of (eN g) ?_
  refine aC.of mixed vO ?_
  have hn:=hg.ay
  unfold aW at hn
  simp (disch:=omega) only [↓wr,↓reduceIte,wq,ah,ag,aj,ab,ae,af,ai,isNil,Nat.reduceEqDiff,Nat.reduceAdd,Nat.reduceLT,Nat.reduceLeDiff,Int.reduceNeg,Int.reduceToNat,reduceCtorEq,qN,aw,encS]
  refine aG.pure (rD g hg hs.names) (by kernel_rfl) ?_
  repeat' (first | (refine ax.dec (fun _=>?_) (fun _=>?_)) | (refine ax.eq (fun _=>?_) (fun _=>?_)) | (refine ax.ne (fun _=>?_) (fun _=>?_)) | (refine ax.split (fun _=>?_) (fun _=>?_)) | (simp (disch:=omega) only [↓wr,↓reduceIte,wq,ah,ag,aj,ab,ae,af,ai,isNil,Nat.reduceEqDiff,Nat.reduceAdd,Nat.reduceLT,Nat.reduceLeDiff,Int.reduceNeg,Int.reduceToNat,reduceCtorEq,aw,encS]))
  · rename_i hr
    have hf:=bL hr
    have h1:=hf.rQ
    have h2:=hf.ay
    have h3:=hf.jJ
    have h4:=hf.start
    have hpl:=iS hr true
    try simp (disch:=omega) only [↓wr,↓reduceIte,wq,ah,ag,aj,ab,ae,af,ai,isNil,Nat.reduceEqDiff,Nat.reduceAdd,Nat.reduceLT,Nat.reduceLeDiff,Int.reduceNeg,Int.reduceToNat,reduceCtorEq,aw,encS]
    refine aG.pure (s7 g hg hs).pure (by kernel_rfl) ?_
    simp (disch:=omega) only [↓wr,↓reduceIte,wq,ah,ag,aj,ab,ae,af,ai,isNil,Nat.reduceEqDiff,Nat.reduceAdd,Nat.reduceLT,Nat.reduceLeDiff,Int.reduceNeg,Int.reduceToNat,reduceCtorEq,aw,encS,bO]
    intro q
    try simp (disch:=omega) only [↓wr,↓reduceIte,wq,ah,ag,aj,ab,ae,af,ai,isNil,Nat.reduceEqDiff,Nat.reduceAdd,Nat.reduceLT,Nat.reduceLeDiff,Int.reduceNeg,Int.reduceToNat,reduceCtorEq,aw,encS,set_set]
    refine ⟨⟨by omega,by unfold aO; omega,by unfold aO; omega⟩,fun h=>by omega,?_⟩
    intro _ n hn'
    have hnq:=(cR hn' cK).1
    try simp (disch:=omega) only [↓wr,↓reduceIte,wq,ah,ag,aj,ab,ae,af,ai,isNil,Nat.reduceEqDiff,Nat.reduceAdd,Nat.reduceLT,Nat.reduceLeDiff,Int.reduceNeg,Int.reduceToNat,reduceCtorEq,aw,encS,set_set]
    have hbg:=jr (is:=bW g) (show g.start.toNat < (bW g).length by simp[bW]; omega)
    refine ⟨by omega,by simp; omega,?_⟩
    refine aG.jR ((Hb g hf.rules (qV (aM g true)) 196 [.ptr q 0 0] [.aR [bO (aM g true)] 0] (by kernel_rfl) g.ay.length h2 (fun r hr' is his=>⟨Dq r is (aM g true) (by rw[his]; exact hf.tP hg hr') (by rw[his,hpl]),?_,?_⟩) n ((bW g).set g.start.toNat true) (by simp[bW]) _ ?_ (fun H' hfr=>⟨dD.box (z:=1) ?_ ?_,trivial⟩)).mono ?_)
    · have h6:=hf.right r hr'
      unfold qV
      split
      · have:(fH r.right).length≤r.right.length:=by simp only[fH,List.length_map]; exact List.length_filter_le _ _
        omega
      · simp
    · intro m hm
      unfold qV at hm
      split at hm
      · simp only[fH,List.mem_map,List.mem_filter,decide_eq_true_eq] at hm
        obtain ⟨s,⟨hs',hneg⟩,rfl⟩:=hm
        have a:=hf.neg hr' hs' hneg
        have b:=((hg.aH r hr').2.2.2 s hs').1
        exact ⟨⟨by omega,by omega⟩,by omega,a⟩
      · simp at hm
    · simp only[View.set,if_true]
      congr 1
      rw[← jO]
      unfold bW at hbg ⊢
      rw[wJ,hbg]
      rfl
    · rw[hfr q (by simp[View.set,Ne.symm hnq]) (Ne.symm hnq)]
      simp[View.set,Ne.symm hnq]
      rfl
    · intro v hv; simp at hv; subst hv; exact iz _
    · rintro r H' ⟨rfl,hid,_⟩
      simp (disch:=omega) only [↓wr,↓reduceIte,wq,ah,ag,aj,ab,ae,af,ai,isNil,Nat.reduceEqDiff,Nat.reduceAdd,Nat.reduceLT,Nat.reduceLeDiff,Int.reduceNeg,Int.reduceToNat,reduceCtorEq]
      intro h' hh
      rw[KD hr] at hid
      exact Ce (by rw[hh]; exact hid) (by rw[og hr])
  · rename_i hr
    intro h' hh
    simp only[bH,hr]
    exact .emp _
def bE (p q:List Bool) (r:aT):Bool:=q.getD r.left.toNat false && dP r.right p true
def cn (p q:List Bool):List aT→Int→List Int
  | [],_=>[]
  | r :: l,i=>if bE p q r=true then i :: cn p q l (i+1) else cn p q l (i+1)
def dA (acc:List Int) (r:aT):List Int:=if r.left∈acc then acc else acc ++ [r.left]
def bN (p q:List Bool) (l:List aT):List Int:=(l.filter (bE p q)).foldl dA []
def bp (o:List Int) (x:Int):Int:=dz (fun y=>y == x) o 0
def bk (f:Int→Int) (r:aT):aT:=⟨f r.left,r.right.map fun s=>if s < 0 then -1 - f (-1 - s) else s,r.prec⟩
def kp (g:ao) (f:Int→Int) (p q:List Bool):ao :=
  ⟨g.az,(bN p q g.rules).map fun x=>g.ay.getD x.toNat ⟨#[]⟩,(g.rules.filter (bE p q)).map (bk f),f g.start⟩
def rP:ao:=⟨[],[],[],0⟩
instance:DecidableEq Term:=fun a b=>decidable_of_iff (a.name=b.name∧a.level=b.level∧a.assoc=b.assoc) (by cases a; cases b; simp)
instance:DecidableEq aT:=fun a b=>decidable_of_iff (a.left=b.left∧a.prec=b.prec∧a.right=b.right) (by cases a; cases b; simp[and_comm])
instance:DecidableEq ao:=fun a b=>decidable_of_iff (a.az=b.az∧a.ay=b.ay∧a.rules=b.rules∧a.start=b.start) (by cases a; cases b; simp)
def fi (g:ao):ao × List Int × Int :=
  if bK g=true then
    if (aM g true).getD g.start.toNat false=true then (kp g (bp (bN (aM g true) (bH g) g.rules)) (aM g true) (bH g),cn (aM g true) (bH g) g.rules 0,0)
    else (rP,[],9)
  else (rP,[],1)
theorem xF {g:ao} (hr:bK g=true):fi g=if (aM g true).getD g.start.toNat false=true then (kp g (bp (bN (aM g true) (bH g) g.rules)) (aM g true) (bH g),cn (aM g true) (bH g) g.rules 0,0) else (rP,[],9):=by
  rw[fi,if_pos hr]
theorem jM (p q:List Bool):∀ (a b:List aT) (i:Int),cn p q (a ++ b) i=cn p q a i ++ cn p q b (i+a.length)
  | [],b,i=>by simp[cn]
  | r :: a,b,i=>by
    simp only[List.cons_append,cn,jM p q a b (i+1),List.length_cons]
    have:i+1+(a.length:Int)=i+((a.length+1:Nat):Int):=by push_cast; omega
    rw[this]
    split <;> simp
theorem jx (p q:List Bool):∀ (a:List aT) (i:Int),(cn p q a i).length=(a.filter (bE p q)).length
  | [],i=>rfl
  | r :: a,i=>by
    simp only[cn,List.filter_cons]
    split <;> simp[jx p q a]
theorem rj (p q:List Bool):∀ (a:List aT) (i:Int) (k:Nat),k < (cn p q a i).length→∃ m:Nat,(cn p q a i)[k]?=some (i+m)∧a[m]?=(a.filter (bE p q))[k]?∧m < a.length
  | [],i,k,h=>by simp[cn] at h
  | r :: a,i,k,h=>by
    simp only[cn,List.filter_cons] at h ⊢
    by_cases hr:bE p q r=true
    · rw[if_pos hr] at h ⊢
      rw[if_pos hr]
      cases k with
      | zero=>exact ⟨0,by simp,by simp,by simp⟩
      | succ k =>
        obtain ⟨m,h1,h2,h3⟩:=rj p q a (i+1) k (by simpa using h)
        exact ⟨m+1,by rw[List.getElem?_cons_succ,h1]; congr 1; push_cast; omega,by simpa using h2,by simpa using h3⟩
    · rw[if_neg hr] at h ⊢
      rw[if_neg hr]
      obtain ⟨m,h1,h2,h3⟩:=rj p q a (i+1) k h
      exact ⟨m+1,by rw[h1]; congr 1; push_cast; omega,by simpa using h2,by simpa using h3⟩
theorem rv (p q:List Bool) (l:List aT) (r:aT):bN p q (l ++ [r])=if bE p q r=true then dA (bN p q l) r else bN p q l:=by
  unfold bN
  rw[List.filter_append]
  by_cases h:bE p q r=true
  · rw[if_pos h,List.filter_cons_of_pos h,List.foldl_append]; rfl
  · rw[if_neg h,List.filter_cons_of_neg h]; simp
theorem HV {acc:List Int} {r:aT} (h:acc.Nodup):(dA acc r).Nodup:=by
  unfold dA
  split
  · exact h
  · rename_i hn
    rw[List.nodup_append]
    exact ⟨h,by simp,fun a ha b hb e=>hn (by simp at hb; rw[← hb,← e]; exact ha)⟩
theorem qm {o:List Int} {x:Int} : bp o x < 0↔x ∉ o:=by
  have:=ux (fun y=>y == x) o 0 (by omega)
  unfold bp
  rw[← Int.not_le]
  constructor
  · intro h hx
    have e:(o.any fun y=>y == x)=true:=List.any_eq_true.2 ⟨x,hx,by simp⟩
    rw[e] at this; exact h (by simpa using this)
  · intro h hx
    have e:(o.any fun y=>y == x)=true:=by rw[← this]; simpa using hx
    obtain ⟨y,hy,e⟩:=List.any_eq_true.1 e
    simp at e; subst e; exact h hy
theorem sK {α:Type} (p:α→Bool):∀ (a b:List α) (i:Int),0≤i→dz p (a ++ b) i=if 0≤dz p a i then dz p a i else dz p b (i+a.length)
  | [],b,i,_=>by simp[dz]
  | x :: a,b,i,h=>by
    by_cases hp:p x=true
    · simp[dz,hp,h]
    · simp only[List.cons_append,dz,if_neg hp]
      rw[sK p a b (i+1) (by omega)]
      have:i+1+(a.length:Int)=i+(((x :: a).length:Nat):Int):=by simp; omega
      rw[this]
theorem J3 {o:List Int} {x y:Int} (hx:x ∉ o):bp (o ++ [x]) y=if y=x then (o.length:Int) else bp o y:=by
  unfold bp
  rw[sK _ _ _ _ (by omega)]
  by_cases e:y=x
  · subst e
    rw[if_neg (by have:=qm.2 hx; unfold bp at this; omega),if_pos rfl]
    simp[dz]
  · rw[if_neg e]
    split
    · rfl
    · rename_i h
      have:bp o y < 0:=by unfold bp; omega
      have h2:dz (fun z=>z == y) [x] (0+(o.length:Int)) = -1:=by simp[dz,Ne.symm e]
      rw[h2]
      have:∀ (l:List Int) (i:Int),¬ 0≤dz (fun z=>z == y) l i→0≤i→dz (fun z=>z == y) l i = -1:=by
        intro l
        induction l with
        | nil=>intro i _ _; rfl
        | cons z l ih =>
          intro i h1 h2
          simp only[dz] at h1 ⊢
          split
          · rename_i hz; rw[if_pos hz] at h1; omega
          · rename_i hz; rw[if_neg hz] at h1; exact ih _ h1 (by omega)
      exact (this o 0 h (by omega)).symm
theorem jZ {o:List Int} {x:Int} (h:x∈o):0≤bp o x∧bp o x < o.length:=by
  have h0:¬ bp o x < 0:=fun e=>qm.1 e h
  refine ⟨by omega,?_⟩
  unfold bp
  have:∀ (l:List Int) (i:Int),dz (fun z=>z == x) l i < i+l.length∨dz (fun z=>z == x) l i = -1:=by
    intro l
    induction l with
    | nil=>intro i; right; rfl
    | cons z l ih =>
      intro i
      simp only[dz]
      split
      · left; simp; omega
      · rcases ih (i+1) with h | h
        · left; simp at h ⊢; omega
        · right; exact h
  rcases this o 0 with h1 | h1
  · simpa using h1
  · unfold bp at h0; omega
theorem Bl (o:List Int) (x:Int) : -1≤bp o x∧bp o x≤o.length:=by
  by_cases h:x∈o
  · have:=jZ h; omega
  · have h1:=qm.2 h
    have h2:∀ (l:List Int) (i:Int),0≤i→-1≤dz (fun z=>z == x) l i:=by
      intro l
      induction l with
      | nil=>intro i _; simp[dz]
      | cons z l ih =>
        intro i hi
        simp only[dz]
        split
        · omega
        · exact ih _ (by omega)
    have:=h2 o 0 (by omega)
    unfold bp at h1 ⊢
    omega
def iK:List Int→Int→List (Int × Int)
  | [],_=>[]
  | x :: l,i=>(x,i) :: iK l (i+1)
theorem rG (x:Int):∀ (o:List Int) (i:Int),dG (iK o i) x=if x∈o then some (dz (fun y=>y == x) o i) else none
  | [],i=>by simp[iK,dG]
  | y :: o,i=>by
    have ih:=rG x o (i+1)
    unfold dG at ih ⊢
    simp only[iK,List.find?_cons,dz]
    by_cases e:x=y
    · subst e; simp
    · have e2:¬ ((y == x)=true):=by simp[Ne.symm e]
      rw[show (x == y)=false by simp[e],if_neg e2]
      simp only
      rw[ih]
      simp[e]
theorem Cx {x v:Int} : ∀ {o:List Int} {i:Int},x ∉ o→iX x v (iK o i)=iK o i ++ [(x,v)]
  | [],i,_=>rfl
  | y :: o,i,h=>by
    simp only[List.mem_cons,not_or] at h
    simp only[iK,iX,show (x == y)=false by simp[h.1],Bool.false_eq_true,if_false,Cx h.2,List.cons_append]
theorem Bg {x:Int} : ∀ {o:List Int} {i:Int},iK (o ++ [x]) i=iK o i ++ [(x,i+o.length)]
  | [],i=>by simp[iK]
  | y :: o,i=>by
    simp only[List.cons_append,iK,Bg (o:=o),List.length_cons]
    congr 4
    push_cast; omega
def dw (o:List Int) (x:Int):Int:=(dG (iK o 0) x).getD 0
theorem xZ {o:List Int} {x:Int} (h:x∈o):dw o x=bp o x:=by
  simp[dw,rG,h,bp]
theorem Oi (o:List Int) (x:Int):0≤dw o x∧dw o x≤o.length:=by
  by_cases h:x∈o
  · rw[xZ h]; have:=jZ h; omega
  · simp[dw,rG,h]
theorem J0 {g:ao} {p q:List Bool} (hst:g.start∈bN p q g.rules) (hin:∀ r∈g.rules.filter (bE p q),r.left∈bN p q g.rules∧∀ s∈r.right,s < 0→-1 - s∈bN p q g.rules) :
    kp g (dw (bN p q g.rules)) p q=kp g (bp (bN p q g.rules)) p q:=by
  unfold kp
  congr 1
  · apply List.map_congr_left
    intro r hr
    obtain ⟨h1,h2⟩:=hin r hr
    unfold bk
    congr 1
    · exact xZ h1
    · apply List.map_congr_left
      intro s hs
      split
      · rename_i h; rw[xZ (h2 s hs h)]
      · rfl
  · exact xZ hst
theorem tv:∀ (l:List aT) (acc:List Int) (x:Int),x∈l.foldl dA acc↔x∈acc∨∃ r∈l,r.left=x
  | [],acc,x=>by simp
  | r :: l,acc,x=>by
    rw[List.foldl_cons,tv l]
    have:x∈dA acc r↔x∈acc∨r.left=x:=by
      unfold dA
      split
      · rename_i h
        constructor
        · exact .inl
        · rintro (h' | rfl)
          · exact h'
          · exact h
      · simp[eq_comm]
    rw[this]
    simp only[List.mem_cons,exists_eq_or_imp]
    constructor
    · rintro ((h | h) | h)
      · exact .inl h
      · exact .inr (.inl h)
      · exact .inr (.inr h)
    · rintro (h | h | h)
      · exact .inl (.inl h)
      · exact .inl (.inr h)
      · exact .inr h
theorem F3 {p q:List Bool} {l:List aT} {x:Int} : x∈bN p q l↔∃ r∈l,bE p q r=true∧r.left=x:=by
  unfold bN
  rw[tv]
  simp[List.mem_filter,and_assoc]
end Gv
