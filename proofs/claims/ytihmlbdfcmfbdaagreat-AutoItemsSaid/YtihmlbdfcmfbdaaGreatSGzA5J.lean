/-
  Part 10 of the proof: what the machine does and what the functions answer.
  Conditions: those that each lemma names.
-/
import Derived.ProofKit
import Derived.SizedLaws
import Derived.Test.YtihmlbdfcmfbdaaGreatSGzA5I
set_option linter.unusedSimpArgs false
set_option linter.unusedVariables false
set_option maxRecDepth 100000
namespace Gv
open Go Go.Proofs
theorem bw.fR {P:Program} {f:FuncId} {h:aD} (h1:bw P f [.emp 1] h (.emp 1) h) (h2:bw P f [.emp 2] h (.emp 2) h) (h3:bw P f [.c7] h (.emp 2) h):bw P f [.aP []] h (.emp 0) h:=by
  refine ⟨Nat.le_refl _,fun Z μ F w xs hrel hr hfree=>?_⟩
  obtain ⟨hl,hv⟩:=hrel
  obtain ⟨x,rfl⟩:∃ x,xs=[x]:=by
    match xs,hl with
    | [x],_=>exact ⟨x,rfl⟩
  have h0:ay Z μ w.heap (.aP []) x:=hv 0 (by simp)
  have one:∀ v,ay Z μ w.heap v x→dL Z μ w.heap [v] [x]:=fun v h=>⟨rfl,fun i hi=>by
    simp at hi; subst hi; exact h⟩
  have weak:∀ k,bw P f [if k=3 then .c7 else .emp k] h (if k=3 then .emp 2 else .emp k) h→ay Z μ w.heap (if k=3 then .c7 else .emp k) x→Calls P f [x].toArray w fun e w'=>∃ x Z' μ',e=.returned x∧ay Z' μ' w'.heap (.emp 0) x∧fG Z' μ' w'.heap (cat h F)∧Ext Z μ w h.length Z' μ' w'∧(∀ id,id < h.length∨h.length≤id→μ' id=μ id):=by
    intro k hk hx
    refine (hk.2 Z μ F w [x] (one _ hx) hr hfree).mono ?_
    rintro e w' ⟨y,Z',μ',rfl,hy,rest⟩
    refine ⟨y,Z',μ',rfl,?_,rest⟩
    have:∀ k',ay Z' μ' w'.heap (.emp k') y→ay Z' μ' w'.heap (.emp 0) y:=fun k' h=>by
      cases h with | emp _ a _ _=>exact .emp 0 a (by simp) (by simp)
    split at hy <;> exact this _ hy
  rcases Al h0 with ⟨_,a,cap,rfl,hz⟩ | ⟨b,off,esz,cap,c,rfl,_,_,_⟩
  · cases a with
    | none =>
      have:=hz rfl
      subst this
      exact weak 1 (by simpa using h1) (.emp 1 none (by simp) (by simp))
    | some a =>
      cases cap with
      | zero=>exact weak 2 (by simpa using h2) (.emp 2 (some a) (by simp) (by simp))
      | succ c=>exact weak 3 (by simpa using h3) (.c7 a (c+1))
  · cases cap with
    | zero=>exact weak 2 (by simpa using h2) (.emp 2 (some ⟨b,off,none⟩) (by simp) (by simp))
    | succ c=>exact weak 3 (by simpa using h3) (.c7 ⟨b,off,none⟩ (c+1))
def u6 (sz:Nat) (es:List (List V)) (H:View) (K:V→View→Prop):Prop :=
  (es=[]→∀ k,K (.emp k) H)∧(es≠[]→∀ n,H n=.dead→K (.sl n 0 es.length sz) (H.set n (.arr sz es)))
def cz:SF:=⟨.seq (al [((some 2),.op (.bk (.val (.emp 1))))]) <|
  .seq (.seq (al [aa 3 0,((some 4),.op (.nil true 0 (.tmp 3) (.val (.emp 1))))]) <|
  .cond (.tmp 4) (.seq (al [((some 2),.op (.bk (.val (.emp 1))))]) <|
  .ret) (.skip)) <|
  .seq (al [((some 5),.op (.bk (.val (.emp 2)))),aa 6 0,((some 7),.op (.app 1 16 (.tmp 5) (.tmp 6))),aa 2 7]) <|
  .ret,
  [.tmp 2],8⟩
theorem cW:bf Tryz.prog 96 []=some cz:=by kernel_rfl
def dr:SF:=⟨.seq (al [((some 2),.op (.bk (.val (.emp 1))))]) <|
  .seq (.seq (al [aa 3 0,((some 4),.op (.nil true 0 (.tmp 3) (.val (.emp 1))))]) <|
  .cond (.tmp 4) (.seq (al [((some 2),.op (.bk (.val (.emp 1))))]) <|
  .ret) (.skip)) <|
  .seq (al [((some 5),.op (.bk (.val (.emp 2)))),aa 6 0,((some 7),.op (.app 1 8 (.tmp 5) (.tmp 6))),aa 2 7]) <|
  .ret,
  [.tmp 2],8⟩
theorem dB:bf Tryz.prog 161 []=some dr:=by kernel_rfl
def bW:SF:=⟨.seq (al [((some 2),.op (.bk (.val (.emp 1))))]) <|
  .seq (.seq (al [aa 3 0,((some 4),.op (.nil true 0 (.tmp 3) (.val (.emp 1))))]) <|
  .cond (.tmp 4) (.seq (al [((some 2),.op (.bk (.val (.emp 1))))]) <|
  .ret) (.skip)) <|
  .seq (al [((some 5),.op (.bk (.val (.emp 2)))),aa 6 0,((some 7),.op (.app 3 32 (.tmp 5) (.tmp 6))),aa 2 7]) <|
  .ret,
  [.tmp 2],8⟩
theorem cr:bf Tryz.prog 159 []=some bW:=by kernel_rfl
theorem aE.tree {P:Program} {f:FuncId} {vs:List V} {t:V} (hv:∀ v∈vs,Tree v) (ht:Tree t) (h:∀ H,aB P f vs H fun r _=>r=t):aE P f vs t :=
  aE.of hv ((h _).mono fun r H' e h' _=>by rw[e]; exact .tree _ ht)
theorem mQ {H:View} : bG H .c7=some ([],[]):=id rfl
theorem gv {H:View} (sz bytes k:Nat) (K:V→View→Prop) (w:cq (H,K)):lB sz bytes (.emp k) [] H K w=K (.emp k) H:=propext Iff.rfl
theorem I0 (l:List ByteArray) (hl:l.length≤100000) (H:View) (K:V→View→Prop) (hk:u6 1 (l.map fun s=>[gs s]) H K):aB Tryz.prog 96 [encS l] H K:=by
  cases l with
  | nil =>
    have hp:∀ v t,Tree v→Tree t→(∀ H,aB Tryz.prog 96 [v] H fun r _=>r=t)→aE Tryz.prog 96 [v] t:=fun v t hv ht h=>aE.tree (by intro x hx; simp at hx; subst hx; exact hv) ht h
    have h1:=hp (.emp 1) (.emp 1) (.emp 1) (.emp 1) (fun H=>by
      refine aB.of mixed cW ?_
      simp (disch:=omega) only [↓wr,↓reduceIte,wq,ah,ag,aj,ab,ae,af,ai,isNil,Nat.reduceEqDiff,Nat.reduceAdd,Nat.reduceLT,Nat.reduceLeDiff,Int.reduceNeg,Int.reduceToNat,reduceCtorEq,cz])
    have h2:=hp (.emp 2) (.emp 2) (.emp 2) (.emp 2) (fun H=>by
      refine aB.of mixed cW ?_
      simp (disch:=omega) only [↓wr,↓reduceIte,wq,ah,ag,aj,ab,ae,af,ai,isNil,Nat.reduceEqDiff,Nat.reduceAdd,Nat.reduceLT,Nat.reduceLeDiff,Int.reduceNeg,Int.reduceToNat,reduceCtorEq,cz,gv,List.isEmpty_nil])
    have h3:=hp .c7 (.emp 2) .c7 (.emp 2) (fun H=>by
      refine aB.of mixed cW ?_
      simp (disch:=omega) only [↓wr,↓reduceIte,wq,ah,ag,aj,ab,ae,af,ai,isNil,Nat.reduceEqDiff,Nat.reduceAdd,Nat.reduceLT,Nat.reduceLeDiff,Int.reduceNeg,Int.reduceToNat,reduceCtorEq,cz,mQ,gv,List.isEmpty_nil])
    refine ⟨by kernel_rfl,?_⟩
    rintro h rfl
    exact ⟨.emp 0,h,bw.fR (bw.eQ h1 h) (bw.eQ h2 h) (bw.eQ h3 h),.refl _,hk.1 rfl 0⟩
  | cons x r =>
    refine aB.of mixed cW ?_
    simp only[List.length_cons] at hl
    simp (disch:=omega) only [↓wr,↓reduceIte,wq,ah,ag,aj,ab,ae,af,ai,isNil,Nat.reduceEqDiff,Nat.reduceAdd,Nat.reduceLT,Nat.reduceLeDiff,Int.reduceNeg,Int.reduceToNat,reduceCtorEq,cz,encS]
    refine ⟨?_,?_,?_⟩
    · simp[List.all_map,encS,aU]
    · unfold aW; simp; omega
    · intro n hn
      have:=hk.2 (by simp) n hn
      simp (disch:=omega) only [↓wr,↓reduceIte,wq,ah,ag,aj,ab,ae,af,ai,isNil,Nat.reduceEqDiff,Nat.reduceAdd,Nat.reduceLT,Nat.reduceLeDiff,Int.reduceNeg,Int.reduceToNat,reduceCtorEq]
      simpa [cU] using this
theorem HI (l:List Int) (hl:l.length≤100000) (H:View) (K:V→View→Prop) (hk:u6 1 (l.map fun s=>[gi s]) H K):aB Tryz.prog 161 [encI l] H K:=by
  cases l with
  | nil =>
    have hp:∀ v t,Tree v→Tree t→(∀ H,aB Tryz.prog 161 [v] H fun r _=>r=t)→aE Tryz.prog 161 [v] t:=fun v t hv ht h=>aE.tree (by intro x hx; simp at hx; subst hx; exact hv) ht h
    have h1:=hp (.emp 1) (.emp 1) (.emp 1) (.emp 1) (fun H=>by
      refine aB.of mixed dB ?_
      simp (disch:=omega) only [↓wr,↓reduceIte,wq,ah,ag,aj,ab,ae,af,ai,isNil,Nat.reduceEqDiff,Nat.reduceAdd,Nat.reduceLT,Nat.reduceLeDiff,Int.reduceNeg,Int.reduceToNat,reduceCtorEq,dr])
    have h2:=hp (.emp 2) (.emp 2) (.emp 2) (.emp 2) (fun H=>by
      refine aB.of mixed dB ?_
      simp (disch:=omega) only [↓wr,↓reduceIte,wq,ah,ag,aj,ab,ae,af,ai,isNil,Nat.reduceEqDiff,Nat.reduceAdd,Nat.reduceLT,Nat.reduceLeDiff,Int.reduceNeg,Int.reduceToNat,reduceCtorEq,dr,gv,List.isEmpty_nil])
    have h3:=hp .c7 (.emp 2) .c7 (.emp 2) (fun H=>by
      refine aB.of mixed dB ?_
      simp (disch:=omega) only [↓wr,↓reduceIte,wq,ah,ag,aj,ab,ae,af,ai,isNil,Nat.reduceEqDiff,Nat.reduceAdd,Nat.reduceLT,Nat.reduceLeDiff,Int.reduceNeg,Int.reduceToNat,reduceCtorEq,dr,mQ,gv,List.isEmpty_nil])
    refine ⟨by kernel_rfl,?_⟩
    rintro h rfl
    exact ⟨.emp 0,h,bw.fR (bw.eQ h1 h) (bw.eQ h2 h) (bw.eQ h3 h),.refl _,hk.1 rfl 0⟩
  | cons x r =>
    refine aB.of mixed dB ?_
    simp only[List.length_cons] at hl
    simp (disch:=omega) only [↓wr,↓reduceIte,wq,ah,ag,aj,ab,ae,af,ai,isNil,Nat.reduceEqDiff,Nat.reduceAdd,Nat.reduceLT,Nat.reduceLeDiff,Int.reduceNeg,Int.reduceToNat,reduceCtorEq,dr,encI]
    refine ⟨?_,?_,?_⟩
    · simp[List.all_map,encI,aU]
    · unfold aW; simp; omega
    · intro n hn
      have:=hk.2 (by simp) n hn
      simp (disch:=omega) only [↓wr,↓reduceIte,wq,ah,ag,aj,ab,ae,af,ai,isNil,Nat.reduceEqDiff,Nat.reduceAdd,Nat.reduceLT,Nat.reduceLeDiff,Int.reduceNeg,Int.reduceToNat,reduceCtorEq]
      simpa [cU] using this
theorem HJ (l:List Term) (hl:l.length≤100000) (H:View) (K:V→View→Prop) (hk:u6 3 (l.map cU) H K):aB Tryz.prog 159 [dw l] H K:=by
  cases l with
  | nil =>
    have hp:∀ v t,Tree v→Tree t→(∀ H,aB Tryz.prog 159 [v] H fun r _=>r=t)→aE Tryz.prog 159 [v] t:=fun v t hv ht h=>aE.tree (by intro x hx; simp at hx; subst hx; exact hv) ht h
    have h1:=hp (.emp 1) (.emp 1) (.emp 1) (.emp 1) (fun H=>by
      refine aB.of mixed cr ?_
      simp (disch:=omega) only [↓wr,↓reduceIte,wq,ah,ag,aj,ab,ae,af,ai,isNil,Nat.reduceEqDiff,Nat.reduceAdd,Nat.reduceLT,Nat.reduceLeDiff,Int.reduceNeg,Int.reduceToNat,reduceCtorEq,bW])
    have h2:=hp (.emp 2) (.emp 2) (.emp 2) (.emp 2) (fun H=>by
      refine aB.of mixed cr ?_
      simp (disch:=omega) only [↓wr,↓reduceIte,wq,ah,ag,aj,ab,ae,af,ai,isNil,Nat.reduceEqDiff,Nat.reduceAdd,Nat.reduceLT,Nat.reduceLeDiff,Int.reduceNeg,Int.reduceToNat,reduceCtorEq,bW,gv,List.isEmpty_nil])
    have h3:=hp .c7 (.emp 2) .c7 (.emp 2) (fun H=>by
      refine aB.of mixed cr ?_
      simp (disch:=omega) only [↓wr,↓reduceIte,wq,ah,ag,aj,ab,ae,af,ai,isNil,Nat.reduceEqDiff,Nat.reduceAdd,Nat.reduceLT,Nat.reduceLeDiff,Int.reduceNeg,Int.reduceToNat,reduceCtorEq,bW,mQ,gv,List.isEmpty_nil])
    refine ⟨by kernel_rfl,?_⟩
    rintro h rfl
    exact ⟨.emp 0,h,bw.fR (bw.eQ h1 h) (bw.eQ h2 h) (bw.eQ h3 h),.refl _,hk.1 rfl 0⟩
  | cons x r =>
    refine aB.of mixed cr ?_
    simp only[List.length_cons] at hl
    simp (disch:=omega) only [↓wr,↓reduceIte,wq,ah,ag,aj,ab,ae,af,ai,isNil,Nat.reduceEqDiff,Nat.reduceAdd,Nat.reduceLT,Nat.reduceLeDiff,Int.reduceNeg,Int.reduceToNat,reduceCtorEq,bW,dw,cU]
    refine ⟨?_,?_,?_⟩
    · simp[List.all_map,dw,cU,aU]
    · unfold aW; simp; omega
    · intro n hn
      have:=hk.2 (by simp) n hn
      simp (disch:=omega) only [↓wr,↓reduceIte,wq,ah,ag,aj,ab,ae,af,ai,isNil,Nat.reduceEqDiff,Nat.reduceAdd,Nat.reduceLT,Nat.reduceLeDiff,Int.reduceNeg,Int.reduceToNat,reduceCtorEq]
      simpa [cU] using this
theorem u6.own {sz:Nat} {es:List (List V)} {H:View} : u6 sz es H fun r H'=>aO H' r sz es∧b6 H H' r :=
  ⟨fun he k=>⟨by rw[he]; exact .nil,.emp⟩,fun _ n hn=>⟨.new,.new hn⟩⟩
theorem Jh (l:List ByteArray) (hl:l.length≤100000) (H:View):aB Tryz.prog 96 [encS l] H fun r H'=>aO H' r 1 (l.map fun s=>[gs s])∧b6 H H' r:=I0 l hl H _ .own
theorem Jp (l:List Int) (hl:l.length≤100000) (H:View):aB Tryz.prog 161 [encI l] H fun r H'=>aO H' r 1 (l.map fun s=>[gi s])∧b6 H H' r:=HI l hl H _ .own
theorem IB (l:List Term) (hl:l.length≤100000) (H:View):aB Tryz.prog 159 [dw l] H fun r H'=>aO H' r 3 (l.map cU)∧b6 H H' r:=HJ l hl H _ .own
def jR (g:ao):List aN→Int→Bool
  | [],next=>next == g.aC.length
  | r :: l,next=>decide (0≤r.left) && decide (r.left≤next) && fX g r && jR g l (if r.left+1 > next then r.left+1 else next)
def pQ (g:ao):List ByteArray:=g.aC ++ g.aA.map Term.name
def nN (g:ao):Bool :=
  pM g.aA && (decide ((1:Int)≤g.aC.length) && decide ((g.aC.length:Int)≤16)) && (decide ((1:Int)≤g.rules.length) && decide ((g.rules.length:Int)≤40)) && decide (names (pQ g)).Nodup && (decide (0≤g.start) && decide (g.start≤(g.aC.length:Int) - 1)) &&
    !(g.aC.any fun s=>!eW (dZ s)) && jR g g.rules 0
theorem DA {l:List ByteArray} : ∀ e∈(l.map fun s=>[gs s]),∀ v∈e,Tree v:=by
  intro e he v hv
  obtain ⟨a,_,rfl⟩:=List.mem_map.1 he
  rw[List.mem_singleton] at hv
  subst hv
  exact .val _
set_option maxHeartbeats 4000000 in
theorem Ic (g:ao) (hg:g.Ok) (hs:g.aC.length+g.aA.length≤1000) (H:View):aB Tryz.prog 52 [.agg (ax g)] H fun r _=>r=gb (nN g):=by
  refine aB.of mixed Aj ?_
  have hn:=hg.aC
  have ht:=hg.aA
  have hr:=hg.rules
  unfold bc at hn ht hr
  simp (disch:=omega) only [↓wr,↓reduceIte,wq,ah,ag,aj,ab,ae,af,ai,isNil,Nat.reduceEqDiff,Nat.reduceAdd,Nat.reduceLT,Nat.reduceLeDiff,Int.reduceNeg,Int.reduceToNat,reduceCtorEq,wK,ax,encS]
  refine aG.gT ((Jh g.aC (by omega) H).mono ?_)
  rintro u H1 ⟨hu,hf⟩
  simp (disch:=omega) only [↓wr,↓reduceIte,wq,ah,ag,aj,ab,ae,af,ai,isNil,Nat.reduceEqDiff,Nat.reduceAdd,Nat.reduceLT,Nat.reduceLeDiff,Int.reduceNeg,Int.reduceToNat,reduceCtorEq,ax,encS]
  refine bH.up g.aA.length (fun i T H=>T 1=.aX (ax g) 0∧(∃ u,T 3=u∧aO H u 1 ((g.aC ++ (g.aA.take i).map Term.name).map fun s=>[gs s]))∧T 13=dw g.aA∧T 14=gi g.aA.length∧T 15=gi i) ?_ ?_
  · exact ⟨rfl,⟨u,rfl,by simpa using hu⟩,rfl,rfl,rfl⟩
  rintro i k T H' hk ⟨h1,⟨u,h3,hu⟩,h13,h14,h15⟩
  simp (disch:=omega) only [↓wr,↓reduceIte,wq,ah,ag,aj,ab,ae,af,ai,isNil,Nat.reduceEqDiff,Nat.reduceAdd,Nat.reduceLT,Nat.reduceLeDiff,Int.reduceNeg,Int.reduceToNat,reduceCtorEq,tJ,h1,h13,h14,h15,dw]
  refine av.dec (fun hc=>?_) (fun hc=>?_)
  · have hg2:g.aA[i]?=some (g.aA[i]'(by omega)):=List.getElem?_eq_getElem (by omega)
    have htk:(g.aA.take (i+1)).map Term.name=(g.aA.take i).map Term.name ++ [(g.aA[i]'(by omega)).name]:=by
      rw[List.take_add_one,hg2,List.map_append]; rfl
    generalize g.aA[i]'(by omega)=t at hg2 htk
    simp (disch:=omega) only [↓wr,↓reduceIte,wq,ah,ag,aj,ab,ae,af,ai,isNil,Nat.reduceEqDiff,Nat.reduceAdd,Nat.reduceLT,Nat.reduceLeDiff,Int.reduceNeg,Int.reduceToNat,reduceCtorEq,h1,h3,h13,h14,h15,dw,cU,List.getElem?_map,hg2]
    intro b hb
    try simp (disch:=omega) only [↓wr,↓reduceIte,wq,ah,ag,aj,ab,ae,af,ai,isNil,Nat.reduceEqDiff,Nat.reduceAdd,Nat.reduceLT,Nat.reduceLeDiff,Int.reduceNeg,Int.reduceToNat,reduceCtorEq,h1,h3,h13,h14,h15,set_set]
    intro m hm
    have hmb:=(fQ hm fU).1
    have hm:=(fQ (fQ hm fU).2 fU).2
    try simp (disch:=omega) only [↓wr,↓reduceIte,wq,ah,ag,aj,ab,ae,af,ai,isNil,Nat.reduceEqDiff,Nat.reduceAdd,Nat.reduceLT,Nat.reduceLeDiff,Int.reduceNeg,Int.reduceToNat,reduceCtorEq,h1,h3,h13,h14,h15,ed]
    have hl:((g.aC ++ (g.aA.take i).map Term.name).map fun s=>[gs s]).length≤1000:=by simp; omega
    refine uZ (((hu.fresh hb).other (hu.ne hb)).fresh (by simp[View.set,hm,hmb])) (by simp) (by simp[aU]) (by unfold aW; simp at hl ⊢; omega) (by unfold aW; simp at hl ⊢; omega) ?_
    intro u' H2 hu' _
    simp (disch:=omega) only [↓wr,↓reduceIte,wq,ah,ag,aj,ab,ae,af,ai,isNil,Nat.reduceEqDiff,Nat.reduceAdd,Nat.reduceLT,Nat.reduceLeDiff,Int.reduceNeg,Int.reduceToNat,reduceCtorEq,h1,h3,h13,h14,h15]
    refine bD hk (by omega) ⟨h1,⟨u',rfl,?_⟩,h13,h14,rfl⟩
    rw[htk]
    simpa using hu'
  · rw[List.take_of_length_le (by omega)] at hu
    have hal:H'=H':=rfl
    have hall:(pQ g).length≤1000:=by simp[pQ]; omega
    repeat' (first | (refine av.dec (fun _=>?_) (fun _=>?_)) | (refine av.eq (fun _=>?_) (fun _=>?_)) | (refine av.ne (fun _=>?_) (fun _=>?_)) | (refine av.split (fun _=>?_) (fun _=>?_)) | (refine aG.pure (JX g.aA hg.aA) (by kernel_rfl) ?_) | (refine aG.pure (oM _ _ _) (by kernel_rfl) ?_) | (refine aG.Nf (K1 (pQ g) hall) (by kernel_rfl) (.val _) ⟨dQ.own hu DA,trivial⟩ ?_) | (simp (disch:=omega) only [↓wr,↓reduceIte,wq,ah,ag,aj,ab,ae,af,ai,isNil,Nat.reduceEqDiff,Nat.reduceAdd,Nat.reduceLT,Nat.reduceLeDiff,Int.reduceNeg,Int.reduceToNat,reduceCtorEq,h1,h3,h13,h14,h15,ax,encS]))
    all_goals try (simp[nN, *]; done)
    rename_i e1 e2 e3 e4 e5
    refine aG.pure (w8 g.aC hg.aC 101 [] (by simp) (fun s=>!eW (dZ s)) (fun x _=>Hj x) (by kernel_rfl)) (by kernel_rfl) ?_
    repeat' (first | (refine av.dec (fun _=>?_) (fun _=>?_)) | (refine av.eq (fun _=>?_) (fun _=>?_)) | (refine av.ne (fun _=>?_) (fun _=>?_)) | (refine av.split (fun _=>?_) (fun _=>?_)) | (simp (disch:=omega) only [↓wr,↓reduceIte,wq,ah,ag,aj,ab,ae,af,ai,isNil,Nat.reduceEqDiff,Nat.reduceAdd,Nat.reduceLT,Nat.reduceLeDiff,Int.reduceNeg,Int.reduceToNat,reduceCtorEq,h1,h3,h13,h14,h15,ax,encS]))
    all_goals try (simp[nN, *]; done)
    rename_i e6
    have hle:g.rules.length≤40:=by simp at e3; omega
    have hpre:∀ b,jR g g.rules 0=b→gb b=gb (nN g):=fun b e=>by
      simp only[nN,e1,e2,e3,e4,e5,e6,e,decide_true,Bool.true_and,Bool.not_false]
    refine bH.up g.rules.length (fun i T _=>∃ w:Int,0≤w∧w≤i∧jR g (g.rules.drop i) w=jR g g.rules 0∧T 1=.aX (ax g) 0∧T 6=gi w∧T 62=.aP (g.rules.map bo)∧T 63=gi g.rules.length∧T 64=gi i) ?_ ?_
    · exact ⟨0,by omega,by omega,rfl,h1,rfl,rfl,rfl,rfl⟩
    rintro i k T H' hk ⟨w,hw1,hw2,hi,h1,h6,h62,h63,h64⟩
    simp (disch:=omega) only [↓wr,↓reduceIte,wq,ah,ag,aj,ab,ae,af,ai,isNil,Nat.reduceEqDiff,Nat.reduceAdd,Nat.reduceLT,Nat.reduceLeDiff,Int.reduceNeg,Int.reduceToNat,reduceCtorEq,tK,h1,h6,h62,h63,h64,ax]
    refine av.dec (fun hc=>?_) (fun hc=>?_)
    · have hg2:g.rules[i]?=some (g.rules[i]'(by omega)):=List.getElem?_eq_getElem (by omega)
      rw[fk (show i < g.rules.length by omega)] at hi
      have hmem:g.rules[i]'(by omega)∈g.rules:=List.getElem_mem _
      generalize g.rules[i]'(by omega)=t at hg2 hi hmem
      obtain ⟨⟨hl1,hl2⟩,hp,hr1,hr2⟩:=hg.aF t hmem
      simp only[jR] at hi
      simp (disch:=omega) only [↓wr,↓reduceIte,wq,ah,ag,aj,ab,ae,af,ai,isNil,Nat.reduceEqDiff,Nat.reduceAdd,Nat.reduceLT,Nat.reduceLeDiff,Int.reduceNeg,Int.reduceToNat,reduceCtorEq,h1,h6,h62,h63,h64,bo,encI,List.getElem?_map,hg2]
      intro b hb
      repeat' (first | (refine av.dec (fun _=>?_) (fun _=>?_)) | (refine av.eq (fun _=>?_) (fun _=>?_)) | (refine av.ne (fun _=>?_) (fun _=>?_)) | (refine av.split (fun _=>?_) (fun _=>?_)) | (refine aG.pure (oM _ _ _) (by kernel_rfl) ?_) | (refine aG.pure (Kx g t hg ⟨hr1,hr2⟩) (by kernel_rfl) ?_) | (simp (disch:=omega) only [↓wr,↓reduceIte,wq,ah,ag,aj,ab,ae,af,ai,isNil,Nat.reduceEqDiff,Nat.reduceAdd,Nat.reduceLT,Nat.reduceLeDiff,Int.reduceNeg,Int.reduceToNat,reduceCtorEq,h1,h6,h62,h63,h64,ax,bo,encI,encS,set_set]))
      · rename_i e7 e8
        have e7':0≤t.left∧t.left≤w:=by simpa using e7
        rw[e7,e8,Bool.true_and,Bool.true_and] at hi
        have hw:IntKind.wrap .i64 (t.left+1)=t.left+1:=wrap64 (by omega) (by omega)
        refine bD hk (by omega) ⟨_,by split <;> omega,by split <;> (push_cast; omega),hi,h1,?_,h62,h63,rfl⟩
        show gi (if IntKind.wrap .i64 (t.left+1) > w then IntKind.wrap .i64 (t.left+1) else w)=_
        rw[hw]
      · rename_i e7 e8
        rw[e8,Bool.and_false,Bool.false_and] at hi
        exact hpre _ hi.symm
      · rename_i e7
        rw[e7,Bool.false_and,Bool.false_and] at hi
        exact hpre _ hi.symm
    · rw[List.drop_eq_nil_of_le (by omega)] at hi
      simp only[jR] at hi
      simp (disch:=omega) only [↓wr,↓reduceIte,wq,ah,ag,aj,ab,ae,af,ai,isNil,Nat.reduceEqDiff,Nat.reduceAdd,Nat.reduceLT,Nat.reduceLeDiff,Int.reduceNeg,Int.reduceToNat,reduceCtorEq,h1,h6,h62,h63,h64,ax,encS]
      exact hpre _ hi.symm
theorem G8 (g:ao) (hg:g.Ok) (hs:g.aC.length+g.aA.length≤1000):aE Tryz.prog 52 [.agg (ax g)] (gb (nN g)):=aE.val (jj g) (Ic g hg hs)
theorem Ef (g:ao):∀ (l:List aN) (next:Int),jR g l next=fC g l (next - 1)
  | [],next=>by
    simp only[jR,fC]
    rw[Bool.eq_iff_iff]; simp
  | r :: l,next=>by
    simp only[jR,fC,Ef g l]
    have e1:(if r.left+1 > next then r.left+1 else next) - 1=if r.left > next - 1 then r.left else next - 1:=by
      split <;> split <;> omega
    have e2:next - 1+1=next:=by omega
    rw[e1,e2]
theorem vp (s:ByteArray):∀ (l:List ByteArray) (i:Int),0≤i→(kS s l i < 0∧s ∉ l)∨∃ k:Nat,kS s l i=i+k∧l[k]?=some s∧∀ j < k,l[j]?≠some s
  | [],i,h=>.inl ⟨by simp[kS],by simp⟩
  | x :: l,i,h=>by
    have hx:gu x s=true↔x=s:=by
      unfold gu
      rw[beq_iff_eq]
      constructor
      · intro e; cases x; cases s; simp at e; simp[e]
      · rintro rfl; rfl
    simp only[kS]
    by_cases e:x=s
    · rw[if_pos (hx.2 e)]
      exact .inr ⟨0,by simp,by simp[e],by simp⟩
    · rw[if_neg (fun h=>e (hx.1 h))]
      rcases vp s l (i+1) (by omega) with ⟨h1,h2⟩ | ⟨k,h1,h2,h3⟩
      · exact .inl ⟨h1,by simp[h2,Ne.symm e]⟩
      · refine .inr ⟨k+1,by rw[h1]; push_cast; omega,by simpa using h2,fun j hj=>?_⟩
        cases j with
        | zero=>simp[e]
        | succ j=>simpa using h3 j (by omega)
theorem qi (l:List ByteArray):(∀ (k:Nat) (s:ByteArray),l[k]?=some s→kS s l 0=k)↔l.Nodup:=by
  constructor
  · intro h
    rw[List.nodup_iff_pairwise_ne,List.pairwise_iff_getElem]
    intro i j hi hj hij e
    have h1:=h i l[i] (by simp[hi])
    have h2:=h j l[j] (by simp[hj])
    rw[e] at h1
    omega
  · intro hn k s hk
    rcases vp s l 0 (by omega) with ⟨_,h2⟩ | ⟨j,h1,h2,h3⟩
    · exact absurd (List.mem_of_getElem? hk) h2
    · have hj:j < l.length:=by
        rcases Nat.lt_or_ge j l.length with h | h
        · exact h
        · simp[List.getElem?_eq_none h] at h2
      have hk':k < l.length:=by
        rcases Nat.lt_or_ge k l.length with h | h
        · exact h
        · simp[List.getElem?_eq_none h] at hk
      have:j=k:=(List.getElem_inj hn).1 (by
        rw[List.getElem?_eq_getElem hj] at h2; rw[List.getElem?_eq_getElem hk'] at hk
        simp at h2 hk; rw[h2,hk])
      rw[h1,this]; simp
theorem bytes_inj {a b:ByteArray} : a.data.toList=b.data.toList↔a=b:=by
  constructor
  · intro h; cases a; cases b; simp at h; simp[h]
  · rintro rfl; rfl
theorem Ip {l:List ByteArray} : (names l).Nodup↔l.Nodup:=by
  unfold names
  rw[List.nodup_iff_pairwise_ne,List.pairwise_map,List.nodup_iff_pairwise_ne]
  constructor
  · exact fun h=>h.imp fun h e=>h (bytes_inj.2 e)
  · exact fun h=>h.imp fun h e=>h (bytes_inj.1 e)
theorem kD {α:Type} [BEq α] [LawfulBEq α]:∀ (l m:List α),l.Nodup→(∀ x∈l,x∈m)→l.length≤m.length
  | [],m,_,_=>by simp
  | x :: l,m,hn,hs=>by
    rw[List.nodup_cons] at hn
    have hx:x∈m:=hs x (by simp)
    have:=kD l (m.erase x) hn.2 (fun y hy=>by
      have hne:y≠x:=by rintro rfl; exact hn.1 hy
      exact (List.mem_erase_of_ne hne).2 (hs y (by simp[hy])))
    rw[List.length_erase_of_mem hx] at this
    have:0 < m.length:=List.length_pos_of_mem hx
    simp only[List.length_cons]
    omega
def jZ (n:Nat):List Int:=(List.range n).map fun (k:Nat)=>(k:Int)+1
theorem sj {n:Nat} {x:Int} : x∈jZ n↔1≤x∧x≤n:=by
  simp only[jZ,List.mem_map,List.mem_range]
  constructor
  · rintro ⟨k,hk,rfl⟩; omega
  · rintro ⟨h1,h2⟩; exact ⟨(x - 1).toNat,by omega,by omega⟩
theorem Dl (n:Nat):(jZ n).Nodup:=by
  rw[jZ,List.nodup_iff_pairwise_ne,List.pairwise_map]
  exact (List.nodup_range (n:=n)).imp fun h e=>h (by omega)
theorem Md {l:List Int} {n:Nat} (hn:l.Nodup) (hs:∀ x∈l,1≤x∧x≤n) (hl:l.length=n) {x:Int} (h1:1≤x) (h2:x≤n):x∈l:=by
  refine Classical.byContradiction fun hx=>?_
  have:=kD (x :: l) (jZ n) (List.nodup_cons.2 ⟨hx,hn⟩) (fun y hy=>by
    rw[sj]
    rcases List.mem_cons.1 hy with rfl | hy
    · exact ⟨h1,h2⟩
    · exact hs y hy)
  simp[jZ] at this
  omega
theorem tq (n:Int):∀ (l:List Term) (w:Int),w≠0→gM n l w=if (∀ t∈l,t.level=n→t.assoc=w) then some w else none
  | [],w,_=>by simp[gM]
  | t :: r,w,hw=>by
    simp only[gM]
    by_cases ht:t.level=n
    · rw[if_pos ht]
      by_cases ha:w=t.assoc
      · rw[if_neg (by simp[ha]),← ha,tq n r w hw]
        congr 1
        simp[ht,ha]
      · rw[if_pos ⟨hw,ha⟩,if_neg (fun h=>ha (h t (by simp) ht).symm)]
    · rw[if_neg ht,tq n r w hw]
      congr 1
      simp[ht]
theorem yo (n:Int):∀ (l:List Term),(∀ t∈l,t.level=n→t.assoc≠0)→(fE l n=true↔∃ a,(∃ t∈l,t.level=n)∧∀ t∈l,t.level=n→t.assoc=a)
  | [],_=>by simp[fE,gM]
  | t :: r,h=>by
    by_cases ht:t.level=n
    · have ha:=h t (by simp) ht
      have e:fE (t :: r) n=match (if (∀ u∈r,u.level=n→u.assoc=t.assoc) then some t.assoc else none) with | some w=>w != 0 | none=>false:=by
        simp only[fE,gM]
        rw[if_pos ht,if_neg (by simp),tq n r _ ha]
        rfl
      rw[e]
      by_cases hr:∀ u∈r,u.level=n→u.assoc=t.assoc
      · rw[if_pos hr]
        simp only[bne_iff_ne,ne_eq,ha,not_false_eq_true,true_iff]
        refine ⟨t.assoc,⟨t,by simp,ht⟩,fun u hu hl=>?_⟩
        rcases List.mem_cons.1 hu with rfl | hu
        · rfl
        · exact hr u hu hl
      · rw[if_neg hr]
        simp only[Bool.false_eq_true,false_iff]
        rintro ⟨a,_,h2⟩
        exact hr fun u hu hl=>(h2 u (by simp[hu]) hl).trans (h2 t (by simp) ht).symm
    · have ih:=yo n r (fun u hu=>h u (by simp[hu]))
      have e:fE (t :: r) n=fE r n:=by
        simp only[fE,gM,if_neg ht]
      rw[e,ih]
      constructor
      · rintro ⟨a,⟨u,hu,hl⟩,h2⟩
        refine ⟨a,⟨u,by simp[hu],hl⟩,fun v hv hl=>?_⟩
        rcases List.mem_cons.1 hv with rfl | hv
        · exact absurd hl ht
        · exact h2 v hv hl
      · rintro ⟨a,⟨u,hu,hl⟩,h2⟩
        rcases List.mem_cons.1 hu with rfl | hu
        · exact absurd hl ht
        · exact ⟨a,⟨u,hu,hl⟩,fun v hv=>h2 v (by simp[hv])⟩
def rX (l:List Term):Prop:=∀ t∈l,∀ u∈l,t.level=u.level→t.level≠0→t.assoc=u.assoc
theorem Eo {κ β:Type} [BEq κ] [LawfulBEq κ] {k:κ} {v:β} : ∀ {a:List (κ × β)},(a.map (·.1)).Nodup→((iy k v a).map (·.1)).Nodup∧∀ x,x∈(iy k v a).map (·.1)↔x=k∨x∈a.map (·.1)
  | [],_=>by simp[iy]
  | y :: a,h=>by
    simp only[List.map_cons,List.nodup_cons] at h
    obtain ⟨h1,h2⟩:=Eo (k:=k) (v:=v) h.2
    simp only[iy]
    by_cases e:k=y.1
    · simp only[e,beq_self_eq_true,if_true,List.map_cons,List.nodup_cons]
      refine ⟨h,fun x=>by simp[e]⟩
    · have:(k == y.1)=false:=by simp[e]
      rw[this]
      simp only[Bool.false_eq_true,if_false,List.map_cons,List.nodup_cons,List.mem_cons]
      refine ⟨⟨fun hm=>?_,h1⟩,fun x=>?_⟩
      · rcases (h2 _).1 hm with e' | hm
        · exact e e'.symm
        · exact h.1 hm
      · rw[h2]
        constructor
        · rintro (h | h | h) <;> simp[h]
        · rintro (h | h | h) <;> simp[h]
theorem uS:∀ (l:List Term) (a:List (Int × Int)) (top:Int),(∀ t∈l,t.level≠0→t.assoc≠0)→(∀ n v,dm a n=some v→v≠0)→(a.map (·.1)).Nodup →
    match kb l a top with
    | some (a',top')=>rX l∧(∀ t∈l,∀ v,t.level≠0→dm a t.level=some v→t.assoc=v)∧(a'.map (·.1)).Nodup∧(∀ n,n∈a'.map (·.1)↔n∈a.map (·.1)∨(n≠0∧∃ t∈l,t.level=n)) ∧
        top≤top'∧(∀ t∈l,t.level≠0→t.level≤top')∧(top'=top∨∃ t∈l,t.level=top'∧t.level≠0)
    | none=>¬ (rX l∧∀ t∈l,∀ v,t.level≠0→dm a t.level=some v→t.assoc=v)
  | [],a,top,_,_,hn=>by
    simp only[kb]
    exact ⟨fun t ht=>by simp at ht,fun t ht=>by simp at ht,hn,fun n=>by simp,by omega,fun t ht=>by simp at ht,by simp⟩
  | t :: r,a,top,h0,hv,hn=>by
    have h0r:∀ u∈r,u.level≠0→u.assoc≠0:=fun u hu=>h0 u (by simp[hu])
    simp only[kb]
    by_cases ht:t.level=0
    · rw[if_pos ht]
      have ih:=uS r a top h0r hv hn
      have one:rX (t :: r)↔rX r:=by
        constructor
        · exact fun h u hu w hw=>h u (by simp[hu]) w (by simp[hw])
        · intro h u hu w hw e hz
          rcases List.mem_cons.1 hu with rfl | hu
          · exact absurd ht hz
          · rcases List.mem_cons.1 hw with rfl | hw
            · exact absurd (e.trans ht) hz
            · exact h u hu w hw e hz
      have con:(∀ u∈t :: r,∀ v,u.level≠0→dm a u.level=some v→u.assoc=v)↔∀ u∈r,∀ v,u.level≠0→dm a u.level=some v→u.assoc=v:=by
        simp[ht]
      have mem:∀ n,(n≠0∧∃ u∈t :: r,u.level=n)↔(n≠0∧∃ u∈r,u.level=n):=fun n=>by
        constructor
        · rintro ⟨h1,u,hu,rfl⟩
          rcases List.mem_cons.1 hu with rfl | hu
          · exact absurd ht h1
          · exact ⟨h1,u,hu,rfl⟩
        · rintro ⟨h1,u,hu,rfl⟩; exact ⟨h1,u,by simp[hu],rfl⟩
      cases hs:kb r a top with
      | none=>rw[hs] at ih; rw[one,con]; exact ih
      | some x =>
        obtain ⟨a',top'⟩:=x
        rw[hs] at ih
        obtain ⟨i1,i2,i3,i4,i5,i6,i7⟩:=ih
        refine ⟨one.2 i1,con.2 i2,i3,fun n=>by rw[i4,mem],i5,?_,?_⟩
        · intro u hu hz
          rcases List.mem_cons.1 hu with rfl | hu
          · exact absurd ht hz
          · exact i6 u hu hz
        · rcases i7 with h | ⟨u,hu,h⟩
          · exact .inl h
          · exact .inr ⟨u,by simp[hu],h⟩
    · rw[if_neg ht]
      have ha:=h0 t (by simp) ht
      by_cases hc:(dm a t.level).getD 0≠0∧(dm a t.level).getD 0≠t.assoc
      · rw[if_pos hc]
        simp only
        rintro ⟨_,h2⟩
        cases hp:dm a t.level with
        | none=>simp[hp] at hc
        | some v =>
          have:=h2 t (by simp) v ht hp
          simp[hp] at hc
          exact hc.2 this.symm
      · rw[if_neg hc]
        have hcon:∀ v,dm a t.level=some v→t.assoc=v:=fun v hp=>by
          have:=hv _ _ hp
          simp[hp] at hc
          exact (hc this).symm
        have hput:∀ n,dm (iy t.level t.assoc a) n=if n=t.level then some t.assoc else dm a n:=fun n=>by
          rw[Db]; simp
        have hk:=Eo (k:=t.level) (v:=t.assoc) hn
        have ih:=uS r (iy t.level t.assoc a) (if t.level > top then t.level else top) h0r (fun n v hp=>by
          rw[hput] at hp
          split at hp
          · simp at hp; rw[← hp]; exact ha
          · exact hv n v hp) hk.1
        have both:(rX (t :: r)∧∀ u∈t :: r,∀ v,u.level≠0→dm a u.level=some v→u.assoc=v)↔(rX r∧∀ u∈r,∀ v,u.level≠0→dm (iy t.level t.assoc a) u.level=some v→u.assoc=v):=by
          constructor
          · rintro ⟨h1,h2⟩
            refine ⟨fun u hu w hw=>h1 u (by simp[hu]) w (by simp[hw]),fun u hu v hz hp=>?_⟩
            rw[hput] at hp
            split at hp
            · rename_i e
              simp at hp; rw[← hp]
              exact h1 u (by simp[hu]) t (by simp) e hz
            · exact h2 u (by simp[hu]) v hz hp
          · rintro ⟨h1,h2⟩
            have h3:∀ u∈r,u.level=t.level→u.assoc=t.assoc:=fun u hu e=>h2 u hu t.assoc (by rw[e]; exact ht) (by rw[hput,if_pos e])
            refine ⟨fun u hu w hw e hz=>?_,fun u hu v hz hp=>?_⟩
            · rcases List.mem_cons.1 hu with e1 | hu2
              · rcases List.mem_cons.1 hw with e2 | hw2
                · rw[e1,e2]
                · rw[e1] at e ⊢
                  exact (h3 w hw2 e.symm).symm
              · rcases List.mem_cons.1 hw with e2 | hw2
                · rw[e2] at e ⊢
                  exact h3 u hu2 e
                · exact h1 u hu2 w hw2 e hz
            · rcases List.mem_cons.1 hu with rfl | hu
              · exact hcon v hp
              · by_cases e:u.level=t.level
                · rw[h3 u hu e]; exact hcon v (by rw[← e]; exact hp)
                · exact h2 u hu v hz (by rw[hput,if_neg e]; exact hp)
        have htop:top≤(if t.level > top then t.level else top)∧t.level≤(if t.level > top then t.level else top):=by split <;> omega
        cases hs:kb r (iy t.level t.assoc a) (if t.level > top then t.level else top) with
        | none=>rw[hs] at ih; simp only; rw[both]; exact ih
        | some x =>
          obtain ⟨a',top'⟩:=x
          rw[hs] at ih
          obtain ⟨i1,i2,i3,i4,i5,i6,i7⟩:=ih
          obtain ⟨b1,b2⟩:=both.2 ⟨i1,i2⟩
          refine ⟨b1,b2,i3,fun n=>?_,by omega,?_,?_⟩
          · rw[i4,hk.2]
            constructor
            · rintro ((rfl | h) | ⟨h1,u,hu,h⟩)
              · exact .inr ⟨ht,t,by simp,rfl⟩
              · exact .inl h
              · exact .inr ⟨h1,u,by simp[hu],h⟩
            · rintro (h | ⟨h1,u,hu,h⟩)
              · exact .inl (.inr h)
              · rcases List.mem_cons.1 hu with rfl | hu
                · exact .inl (.inl h.symm)
                · exact .inr ⟨h1,u,hu,h⟩
          · intro u hu hz
            rcases List.mem_cons.1 hu with rfl | hu
            · omega
            · exact i6 u hu hz
          · rcases i7 with h | ⟨u,hu,h⟩
            · by_cases e:t.level > top
              · rw[if_pos e] at h; exact .inr ⟨t,by simp,h.symm,ht⟩
              · rw[if_neg e] at h; exact .inl h
            · exact .inr ⟨u,by simp[hu],h⟩
theorem zt (l:List Term) (h:∀ t∈l,jr t=true):oU l=true↔∀ t∈l,∀ n:Int,1≤n→n≤t.level→fE l n=true:=by
  have hb:∀ t∈l,0≤t.level∧(t.level≠0→t.assoc≠0):=fun t ht=>by
    have:=h t ht
    simp only[jr,Bool.and_eq_true,decide_eq_true_eq,beq_iff_eq] at this
    refine ⟨this.1.1.1.1.2,fun h1 h2=>?_⟩
    have e:=this.2
    simp[h1,h2] at e
  have hs:=uS l [] 0 (fun t ht=>(hb t ht).2) (by simp[dm]) (by simp)
  have hL:∀ n:Int,1≤n→(fE l n=true↔∃ a,(∃ t∈l,t.level=n)∧∀ t∈l,t.level=n→t.assoc=a):=fun n hn=>yo n l (fun t ht e=>(hb t ht).2 (by omega))
  unfold oU
  cases hx:kb l [] 0 with
  | none =>
    rw[hx] at hs
    simp only[Bool.false_eq_true,false_iff]
    intro hall
    refine hs ⟨fun t ht u hu e hz=>?_,fun t ht v _ hp=>by simp[dm] at hp⟩
    have h1:=hb t ht
    obtain ⟨a,_,h2⟩:=(hL t.level (by omega)).1 (hall t ht t.level (by omega) (by omega))
    exact (h2 t ht rfl).trans (h2 u hu e.symm).symm
  | some x =>
    obtain ⟨a,top⟩:=x
    rw[hx] at hs
    obtain ⟨i1,_,i3,i4,i5,i6,i7⟩:=hs
    simp only[beq_iff_eq]
    have hmem:∀ n,n∈a.map (·.1)↔n≠0∧∃ t∈l,t.level=n:=fun n=>by rw[i4]; simp
    have hin:∀ x∈a.map (·.1),1≤x∧x≤(top.toNat:Int):=fun x hx=>by
      obtain ⟨h1,t,ht,rfl⟩:=(hmem x).1 hx
      have:=(hb t ht).1
      have:=i6 t ht h1
      omega
    constructor
    · intro hlen t ht n hn1 hn2
      have htop:t.level≤top:=i6 t ht (by omega)
      have hm:=Md i3 hin (by simp; omega) hn1 (show n≤(top.toNat:Int) by omega)
      obtain ⟨hz,u,hu,rfl⟩:=(hmem n).1 hm
      exact (hL _ hn1).2 ⟨u.assoc,⟨u,hu,rfl⟩,fun w hw e=>i1 w hw u hu e (by omega)⟩
    · intro hall
      have h1:a.length≤top.toNat:=by
        have:=kD _ (jZ top.toNat) i3 (fun x hx=>sj.2 (hin x hx))
        simpa [jZ] using this
      have h2:top.toNat≤a.length:=by
        rcases i7 with e | ⟨t,ht,e,hz⟩
        · subst e; simp
        · have:=kD (jZ top.toNat) (a.map (·.1)) (Dl _) (fun x hx=>by
            rw[sj] at hx
            have:=(hb t ht).1
            obtain ⟨_,⟨u,hu,hl⟩,_⟩:=(hL x hx.1).1 (hall t ht x hx.1 (by omega))
            exact (hmem x).2 ⟨by omega,u,hu,hl⟩)
          simpa [jZ] using this
      omega
theorem yc (g:ao):∀ (l:List Term) (i:Int),im g l i=true↔∀ (k:Nat) (t:Term),l[k]?=some t→iM g (i+k) t=true
  | [],i=>by simp[im]
  | t :: r,i=>by
    simp only[im,Bool.and_eq_true,yc g r (i+1)]
    constructor
    · rintro ⟨h1,h2⟩ k u hk
      cases k with
      | zero=>simp at hk; subst hk; simpa using h1
      | succ k =>
        have:=h2 k u (by simpa using hk)
        rw[show i+((k+1:Nat):Int)=i+1+k by push_cast; omega]; exact this
    · intro h
      refine ⟨by simpa using h 0 t rfl,fun k u hk=>?_⟩
      have:=h (k+1) u (by simpa using hk)
      rw[show i+1+(k:Int)=i+((k+1:Nat):Int) by push_cast; omega]; exact this
theorem p9 (g:ao):∀ (l:List ByteArray) (i:Int),oH g l i=true↔∀ (k:Nat) (s:ByteArray),l[k]?=some s→jL g (i+k) s=true
  | [],i=>by simp[oH]
  | t :: r,i=>by
    simp only[oH,Bool.and_eq_true,p9 g r (i+1)]
    constructor
    · rintro ⟨h1,h2⟩ k u hk
      cases k with
      | zero=>simp at hk; subst hk; simpa using h1
      | succ k =>
        have:=h2 k u (by simpa using hk)
        rw[show i+((k+1:Nat):Int)=i+1+k by push_cast; omega]; exact this
    · intro h
      refine ⟨by simpa using h 0 t rfl,fun k u hk=>?_⟩
      have:=h (k+1) u (by simpa using hk)
      rw[show i+1+(k:Int)=i+((k+1:Nat):Int) by push_cast; omega]; exact this
theorem Bp (g:ao) (s:ByteArray):j4 g s < 0↔s ∉ g.aA.map Term.name:=by
  unfold j4
  rcases vp s (g.aA.map Term.name) 0 (by omega) with ⟨h1,h2⟩ | ⟨k,h1,h2,_⟩
  · exact ⟨fun _=>h2,fun _=>h1⟩
  · constructor
    · intro h; omega
    · intro h; exact absurd (List.mem_of_getElem? h2) h
theorem A9 (g:ao) (t:Term):oI g t=true↔∀ n:Int,1≤n→n≤t.level→fE g.aA n=true:=by
  simp only[oI,List.all_eq_true,List.mem_range]
  constructor
  · intro h n h1 h2
    have:=h (n - 1).toNat (by omega)
    rwa [show (((n - 1).toNat:Nat):Int)+1=n by omega] at this
  · intro h k hk
    exact h _ (by omega) (by omega)
theorem Hl (g:ao):nN g=bt g:=by
  rw[Bool.eq_iff_iff]
  simp only[nN,bt,ix,jd,pM,Bool.and_eq_true,decide_eq_true_eq,yc,p9,Ef,List.all_eq_true,Bool.not_eq_true',List.any_eq_false,Bool.not_eq_true,Ip,pQ,List.nodup_append,Int.zero_add,Int.zero_sub,Bool.not_not]
  have hT:(∀ (k:Nat) (t:Term),g.aA[k]?=some t→iM g k t=true)↔(∀ t∈g.aA,jr t=true)∧(g.aA.map Term.name).Nodup∧(∀ t∈g.aA,oI g t=true):=by
    rw[← qi]
    constructor
    · intro h
      have h':∀ t∈g.aA,∃ k:Nat,g.aA[k]?=some t:=fun t ht=>List.getElem?_of_mem ht
      refine ⟨fun t ht=>?_,fun k s hk=>?_,fun t ht=>?_⟩
      · obtain ⟨k,hk⟩:=h' t ht
        have:=h k t hk
        simp only[iM,jr,Bool.and_eq_true,decide_eq_true_eq] at this ⊢
        simp[this]
      · rw[List.getElem?_map,Option.map_eq_some_iff] at hk
        obtain ⟨t,hk,rfl⟩:=hk
        have:=h k t hk
        simp only[iM,Bool.and_eq_true,beq_iff_eq] at this
        exact this.1.1.1.1.1.1.2
      · obtain ⟨k,hk⟩:=h' t ht
        have:=h k t hk
        simp only[iM,Bool.and_eq_true] at this
        exact this.2
    · rintro ⟨h1,h2,h3⟩ k t hk
      have hm:=List.mem_of_getElem? hk
      have a:=h1 t hm
      have b:=h2 k t.name (by rw[List.getElem?_map,hk]; rfl)
      have c:=h3 t hm
      simp only[iM,jr,j4,Bool.and_eq_true,decide_eq_true_eq] at a ⊢
      simp[a,b,c]
  have hN:(∀ (k:Nat) (s:ByteArray),g.aC[k]?=some s→jL g k s=true)↔(∀ s∈g.aC,eW (dZ s)=true)∧g.aC.Nodup∧(∀ s∈g.aC,s ∉ g.aA.map Term.name):=by
    rw[← qi]
    constructor
    · intro h
      have h':∀ t∈g.aC,∃ k:Nat,g.aC[k]?=some t:=fun t ht=>List.getElem?_of_mem ht
      refine ⟨fun t ht=>?_,fun k s hk=>?_,fun t ht=>?_⟩
      · obtain ⟨k,hk⟩:=h' t ht
        have:=h k t hk
        simp only[jL,Bool.and_eq_true] at this
        exact this.1.1
      · have:=h k s hk
        simp only[jL,um,Bool.and_eq_true,beq_iff_eq] at this
        exact this.1.2
      · obtain ⟨k,hk⟩:=h' t ht
        have:=h k t hk
        simp only[jL,Bool.and_eq_true,decide_eq_true_eq] at this
        exact (Bp g t).1 this.2
    · rintro ⟨h1,h2,h3⟩ k s hk
      have hm:=List.mem_of_getElem? hk
      have a:=h1 s hm
      have b:=h2 k s hk
      have c:=(Bp g s).2 (h3 s hm)
      simp[jL,um,a,b,c]
  rw[hT,hN]
  constructor
  · rintro ⟨⟨⟨⟨⟨⟨⟨⟨t1,t2⟩,t3⟩,n1,n2⟩,r1,r2⟩,a1,a2,a3⟩,s1,s2⟩,n3⟩,ru⟩
    have hl:=(zt g.aA t1).1 t3
    exact ⟨⟨⟨⟨⟨⟨⟨t2,t1,a2,fun t ht=>(A9 g t).2 (hl t ht)⟩,⟨by omega,by omega⟩,fun s hs=>by simpa using n3 s hs,a1,fun s hs hm=>a3 s hs s hm rfl⟩,by omega⟩,by omega⟩,s1⟩,by omega⟩,ru⟩
  · rintro ⟨⟨⟨⟨⟨⟨⟨t2,t1,a2,t3⟩,⟨n1,n2⟩,n3,a1,a3⟩,r1⟩,r2⟩,s1⟩,s2⟩,ru⟩
    have hl:=(zt g.aA t1).2 (fun t ht=>(A9 g t).1 (t3 t ht))
    exact ⟨⟨⟨⟨⟨⟨⟨⟨t1,t2⟩,hl⟩,by omega,by omega⟩,by omega,by omega⟩,a1,a2,fun s hs u hu e=>a3 s hs (e ▸ hu)⟩,s1,by omega⟩,fun s hs=>by simp[n3 s hs]⟩,ru⟩
theorem nb (g:ao) (hg:g.Ok) (hs:g.aC.length+g.aA.length≤1000):aE Tryz.prog 52 [.agg (ax g)] (gb (bt g)):=by
  rw[← Hl]; exact G8 g hg hs
def Cr (n:Nat) (r:aN):Prop:=bB r.left∧0≤r.left∧r.left < n∧r.right.length≤6∧∀ s∈r.right,bB s∧(s < 0→-1 - s < n)
theorem ao.fA.xX {g:ao} (hg:g.Ok) (h:g.fA) {r:aN} (hr:r∈g.rules):Cr g.aC.length r :=
  ⟨(hg.aF r hr).1,(h.left r hr).1,(h.left r hr).2,h.right r hr,fun s hs=>⟨(hg.aF r hr).2.2.2 s hs,fun hn=>h.neg hr hs hn⟩⟩
def qd:SF:=⟨.seq (al [aY 3 false]) <|
  .seq (.region false [⟨none,[aa 4 0,az 5 .lss 4 0,aa 6 5]⟩,⟨(some (6,true)),[aw 7 1,aa 8 0,((some 9),.op (.arith .sub (.val (.val (.int .i64 (-1)))) (.tmp 8))),aZ 10 1 7 9,aw 11 10,b7 12 11]⟩,⟨none,[bz 13 6 12,aa 3 13]⟩]) <|
  .ret,
  [.tmp 3],14⟩
theorem vH:bf Tryz.prog 197 []=some qd:=by kernel_rfl
def tI:SF:=⟨.seq (al [bQ 2 0,bQ 3 1,aY 4 false]) <|
  .seq (al [au 5 1 2,aw 6 5,((some 7),.op (.o9 197 [] [(.tmp 3)])),aH 8 91 [6,7],b7 9 8,aa 4 9]) <|
  .ret,
  [.tmp 4],10⟩
theorem xb:bf Tryz.prog 160 [2,3]=some tI:=by kernel_rfl
def lY:SF:=⟨.seq (al [bQ 2 0,((some 4),.op (.bk (.val (.emp 1))))]) <|
  .seq (.seq (al [aK 5 3 2,aa 6 1,aH 7 160 [5,6]]) <|
  .cond (.tmp 7) (.seq (al [au 8 0 2,aw 9 8,((some 10),.op (.bF 1 1 [(.val (.int .i64 0))] [(0,(.tmp 9))])),aa 4 10]) <|
  .ret) (.skip)) <|
  .seq (al [((some 4),.op (.bk (.val (.emp 1))))]) <|
  .ret,
  [.tmp 4],11⟩
theorem qP:bf Tryz.prog 195 [2]=some lY:=by kernel_rfl
def k9:SC :=
  .seq (al [aS 24 .lss 23 22]) <|
  .seq (.cond (.tmp 24) (.skip) (.exit 0)) <|
  .seq (.block 1 (.seq (al [aZ 25 1 21 23,aw 26 25,aa 7 26]) <|
  .seq (al [aa 27 7,az 28 .lss 27 0]) <|
  .cond (.tmp 28) (al [aa 29 5,aa 30 7,((some 31),.op (.arith .sub (.val (.val (.int .i64 (-1)))) (.tmp 30))),((some 32),.op (.bF 1 1 [(.val (.int .i64 0))] [(0,(.tmp 31))])),((some 33),.op (.app 1 8 (.tmp 29) (.tmp 32))),aa 5 33]) (.skip))) <|
  al [az 34 .add 23 1,aa 23 34]
def nj:SF:=⟨.seq (al [bQ 3 0,((some 5),.op (.bk (.val (.emp 1))))]) <|
  .seq (.seq (.region false [⟨none,[aa 8 1,au 9 0 3,aw 10 9,aZ 11 1 8 10,aw 12 11,b7 13 12,aa 14 13]⟩,⟨(some (14,false)),[aK 15 3 3,aw 16 2,aH 17 160 [15,16],b7 18 17]⟩,⟨none,[bC 19 14 18]⟩]) <|
  .cond (.tmp 19) (.seq (al [((some 5),.op (.bk (.val (.emp 1))))]) <|
  .ret) (.skip)) <|
  .seq (.seq (al [au 20 1 3,aw 21 20,aR 22 21,aJ 23 0]) <|
  .block 0 (.loop k9)) <|
  .seq (al [aa 35 5,aa 5 35]) <|
  .ret,
  [.tmp 5],36⟩
theorem rh:bf Tryz.prog 196 [3]=some nj:=by kernel_rfl
theorem Da (r:aN) (is:List Bool):∀ v∈[V.agg (bo r),df is],Tree v:=by
  intro v hv; simp at hv
  rcases hv with rfl | rfl
  · exact cg _ (fM r)
  · exact kz is
def zE (is:List Bool) (s:Int):Bool:=decide (s < 0) && !is.getD (-1 - s).toNat false
theorem G9 (is:List Bool) (s:Int) (hs:bB s∧(s < 0→-1 - s < is.length)):aE Tryz.prog 197 [gi s,.aX [df is] 0] (gb (zE is s)):=by
  refine aE.val ?_ fun H=>?_
  · intro v hv; simp at hv
    rcases hv with rfl | rfl
    · exact .val _
    · exact iW (by intro v hv; simp at hv; subst hv; exact kz is)
  obtain ⟨⟨h1,h2⟩,h3⟩:=hs
  refine aB.of mixed vH ?_
  simp (disch:=omega) only [↓wr,↓reduceIte,wq,ah,ag,aj,ab,ae,af,ai,isNil,Nat.reduceEqDiff,Nat.reduceAdd,Nat.reduceLT,Nat.reduceLeDiff,Int.reduceNeg,Int.reduceToNat,reduceCtorEq,qd,df]
  refine av.dec (fun h=>?_) (fun h=>?_)
  · have hb:is[(-1 - s).toNat]?=some (is[(-1 - s).toNat]'(by omega)):=List.getElem?_eq_getElem (by omega)
    have hbd:is.getD (-1 - s).toNat false=is[(-1 - s).toNat]'(by omega):=by simp[List.getD_eq_getElem?_getD,hb]
    generalize is[(-1 - s).toNat]'(by omega)=b at hb hbd
    simp (disch:=omega) only [↓wr,↓reduceIte,wq,ah,ag,aj,ab,ae,af,ai,isNil,Nat.reduceEqDiff,Nat.reduceAdd,Nat.reduceLT,Nat.reduceLeDiff,Int.reduceNeg,Int.reduceToNat,reduceCtorEq,List.getElem?_map,hb]
    simp only[zE,hbd,h,decide_true,Bool.true_and]
  · simp (disch:=omega) only [↓wr,↓reduceIte,wq,ah,ag,aj,ab,ae,af,ai,isNil,Nat.reduceEqDiff,Nat.reduceAdd,Nat.reduceLT,Nat.reduceLeDiff,Int.reduceNeg,Int.reduceToNat,reduceCtorEq]
    simp[zE,h]
theorem Gm {is:List Bool} {l:List Int} : (!l.any (zE is))=fB l is true:=by
  simp only[fB,List.not_any_eq_all_not]
  congr 1
  funext s
  simp only[zE]
  by_cases h:0≤s
  · simp[h,show ¬ s < 0 by omega]
  · simp[h,show s < 0 by omega]
theorem u9 (r:aN) (is:List Bool) (hr:bc r.right) (hs:∀ s∈r.right,bB s∧(s < 0→-1 - s < is.length)):aE Tryz.prog 160 [.agg (bo r),df is] (gb (fB r.right is true)):=by
  rw[← Gm]
  refine aE.val (Da r is) fun H=>?_
  refine aB.of mixed xb ?_
  simp (disch:=omega) only [↓wr,↓reduceIte,wq,ah,ag,aj,ab,ae,af,ai,isNil,Nat.reduceEqDiff,Nat.reduceAdd,Nat.reduceLT,Nat.reduceLeDiff,Int.reduceNeg,Int.reduceToNat,reduceCtorEq,tI,bo,df,encI]
  refine aG.pure (pn r.right hr 197 [.aX [df is] 0] (by
    intro v hv; simp at hv; subst hv
    exact iW (by intro v hv; simp at hv; subst hv; exact kz is)) (zE is) (fun x hx=>G9 is x (hs x hx)) (by kernel_rfl)) (by kernel_rfl) ?_
  simp (disch:=omega) only [↓wr,↓reduceIte,wq,ah,ag,aj,ab,ae,af,ai,isNil,Nat.reduceEqDiff,Nat.reduceAdd,Nat.reduceLT,Nat.reduceLeDiff,Int.reduceNeg,Int.reduceToNat,reduceCtorEq]
theorem mC {h:aD} {u:V} {l:List Int} (ho:aO h.view u 1 (l.map fun x=>[gi x])):dJ h u (encI l):=dJ.Ky (f:=Value.int .i64) ho
theorem z7 (r:aN) (is:List Bool) (hr:Cr is.length r):dR Tryz.prog 195 [.agg (bo r),df is] (encI (if fB r.right is true=true then [r.left] else [])):=by
  obtain ⟨hl,_,_,hr6,hs⟩:=hr
  have hsh:bc r.right:=by unfold bc; omega
  refine dR.of (Da r is) ?_
  refine aB.of mixed qP ?_
  simp (disch:=omega) only [↓wr,↓reduceIte,wq,ah,ag,aj,ab,ae,af,ai,isNil,Nat.reduceEqDiff,Nat.reduceAdd,Nat.reduceLT,Nat.reduceLeDiff,Int.reduceNeg,Int.reduceToNat,reduceCtorEq,lY,bo,encI]
  refine aG.pure (u9 r is hsh hs) (by kernel_rfl) ?_
  repeat' (first | (refine av.dec (fun _=>?_) (fun _=>?_)) | (refine av.eq (fun _=>?_) (fun _=>?_)) | (refine av.ne (fun _=>?_) (fun _=>?_)) | (refine av.split (fun _=>?_) (fun _=>?_)) | (simp (disch:=omega) only [↓wr,↓reduceIte,wq,ah,ag,aj,ab,ae,af,ai,isNil,Nat.reduceEqDiff,Nat.reduceAdd,Nat.reduceLT,Nat.reduceLeDiff,Int.reduceNeg,Int.reduceToNat,reduceCtorEq,bo,encI]))
  all_goals first
    | (intro n h' hh; rw[if_pos (by simp[*])]; exact mC (l:=[r.left]) (.inr ⟨n,rfl,by rw[hh]; simp[View.set]⟩))
    | (intro h' hh; rw[if_neg (by simp[*])]; exact .emp _)
def fh (l:List Int):List Int:=(l.filter fun s=>decide (s < 0)).map fun s=>-1 - s
theorem IF (r:aN) (is p:List Bool):∀ v∈[V.agg (bo r),df is,.aX [df p] 0],Tree v:=by
  intro v hv; simp at hv
  rcases hv with rfl | rfl | rfl
  · exact cg _ (fM r)
  · exact kz is
  · exact iW (by intro v hv; simp at hv; subst hv; exact kz p)
set_option maxHeartbeats 1000000 in
theorem B1 (r:aN) (is p:List Bool) (hr:Cr is.length r) (hp:p.length=is.length) :
    dR Tryz.prog 196 [.agg (bo r),df is,.aX [df p] 0] (encI (if (is.getD r.left.toNat false && fB r.right p true)=true then fh r.right else [])):=by
  obtain ⟨hl,hl0,hl1,hr6,hs⟩:=hr
  have hsh:bc r.right:=by unfold bc; omega
  refine dR.of (IF r is p) ?_
  refine aB.of mixed rh ?_
  have hb:is[r.left.toNat]?=some (is[r.left.toNat]'(by omega)):=List.getElem?_eq_getElem (by omega)
  have hbd:is.getD r.left.toNat false=is[r.left.toNat]'(by omega):=by simp[List.getD_eq_getElem?_getD,hb]
  generalize is[r.left.toNat]'(by omega)=b at hb hbd
  rw[hbd]
  simp (disch:=omega) only [↓wr,↓reduceIte,wq,ah,ag,aj,ab,ae,af,ai,isNil,Nat.reduceEqDiff,Nat.reduceAdd,Nat.reduceLT,Nat.reduceLeDiff,Int.reduceNeg,Int.reduceToNat,reduceCtorEq,nj,bo,encI,df,List.getElem?_map,hb]
  cases b with
  | false =>
    simp (disch:=omega) only [↓wr,↓reduceIte,wq,ah,ag,aj,ab,ae,af,ai,isNil,Nat.reduceEqDiff,Nat.reduceAdd,Nat.reduceLT,Nat.reduceLeDiff,Int.reduceNeg,Int.reduceToNat,reduceCtorEq]
    intro h' hh
    exact .emp _
  | true =>
    simp (disch:=omega) only [↓wr,↓reduceIte,wq,ah,ag,aj,ab,ae,af,ai,isNil,Nat.reduceEqDiff,Nat.reduceAdd,Nat.reduceLT,Nat.reduceLeDiff,Int.reduceNeg,Int.reduceToNat,reduceCtorEq,bo,encI,df]
    refine aG.pure (u9 r p hsh (fun s hs'=>⟨(hs s hs').1,fun h=>by rw[hp]; exact (hs s hs').2 h⟩)) (by kernel_rfl) ?_
    repeat' (first | (refine av.dec (fun _=>?_) (fun _=>?_)) | (refine av.eq (fun _=>?_) (fun _=>?_)) | (refine av.ne (fun _=>?_) (fun _=>?_)) | (refine av.split (fun _=>?_) (fun _=>?_)) | (simp (disch:=omega) only [↓wr,↓reduceIte,wq,ah,ag,aj,ab,ae,af,ai,isNil,Nat.reduceEqDiff,Nat.reduceAdd,Nat.reduceLT,Nat.reduceLeDiff,Int.reduceNeg,Int.reduceToNat,reduceCtorEq,bo,encI,df]))
    · rename_i ha
      rw[if_pos (by simp[ha])]
      refine bH.up r.right.length (fun i T H=>(∃ u,T 5=u∧aO H u 1 ((fh (r.right.take i)).map fun x=>[gi x]))∧T 21=encI r.right∧T 22=gi r.right.length∧T 23=gi i) ?_ ?_
      · exact ⟨⟨_,rfl,.nil⟩,rfl,rfl,rfl⟩
      rintro i k T H' hk ⟨⟨u,h5,hu⟩,h21,h22,h23⟩
      simp (disch:=omega) only [↓wr,↓reduceIte,wq,ah,ag,aj,ab,ae,af,ai,isNil,Nat.reduceEqDiff,Nat.reduceAdd,Nat.reduceLT,Nat.reduceLeDiff,Int.reduceNeg,Int.reduceToNat,reduceCtorEq,k9,h5,h21,h22,h23,encI]
      refine av.dec (fun hc=>?_) (fun hc=>?_)
      · have hg:r.right[i]?=some (r.right[i]'(by omega)):=List.getElem?_eq_getElem (by omega)
        have hm:r.right[i]'(by omega)∈r.right:=List.getElem_mem _
        have htk:fh (r.right.take (i+1))=fh (r.right.take i) ++ fh [r.right[i]'(by omega)]:=by
          rw[List.take_add_one,hg,fh,List.filter_append,List.map_append]; rfl
        have hlen:(fh (r.right.take i)).length≤6:=by
          have h1:(fh (r.right.take i)).length≤(r.right.take i).length:=by simp only[fh,List.length_map]; exact List.length_filter_le _ _
          have h2:(r.right.take i).length≤i:=List.length_take_le _ _
          omega
        generalize r.right[i]'(by omega)=s at hg hm htk
        obtain ⟨⟨s1,s2⟩,s3⟩:=hs s hm
        simp (disch:=omega) only [↓wr,↓reduceIte,wq,ah,ag,aj,ab,ae,af,ai,isNil,Nat.reduceEqDiff,Nat.reduceAdd,Nat.reduceLT,Nat.reduceLeDiff,Int.reduceNeg,Int.reduceToNat,reduceCtorEq,h5,h21,h22,h23,encI,List.getElem?_map,hg]
        refine av.dec (fun hd=>?_) (fun hd=>?_)
        · simp (disch:=omega) only [↓wr,↓reduceIte,wq,ah,ag,aj,ab,ae,af,ai,isNil,Nat.reduceEqDiff,Nat.reduceAdd,Nat.reduceLT,Nat.reduceLeDiff,Int.reduceNeg,Int.reduceToNat,reduceCtorEq,h5,h21,h22,h23]
          intro m hm
          try simp (disch:=omega) only [↓wr,↓reduceIte,wq,ah,ag,aj,ab,ae,af,ai,isNil,Nat.reduceEqDiff,Nat.reduceAdd,Nat.reduceLT,Nat.reduceLeDiff,Int.reduceNeg,Int.reduceToNat,reduceCtorEq,h5,h21,h22,h23,ed]
          refine uZ (hu.fresh hm) (by simp) (by simp[aU]) (by unfold aW; simp at hlen ⊢; omega) (by unfold aW; simp at hlen ⊢; omega) ?_
          intro u' H2 hu' _
          simp (disch:=omega) only [↓wr,↓reduceIte,wq,ah,ag,aj,ab,ae,af,ai,isNil,Nat.reduceEqDiff,Nat.reduceAdd,Nat.reduceLT,Nat.reduceLeDiff,Int.reduceNeg,Int.reduceToNat,reduceCtorEq,h21,h22,h23]
          refine bD hk (by omega) ⟨⟨u',rfl,?_⟩,h21,h22,rfl⟩
          rw[htk]
          simpa [fh,hd] using hu'
        · simp (disch:=omega) only [↓wr,↓reduceIte,wq,ah,ag,aj,ab,ae,af,ai,isNil,Nat.reduceEqDiff,Nat.reduceAdd,Nat.reduceLT,Nat.reduceLeDiff,Int.reduceNeg,Int.reduceToNat,reduceCtorEq,h5,h21,h22,h23]
          refine bD hk (by omega) ⟨⟨u,h5,?_⟩,h21,h22,rfl⟩
          rw[htk]
          simpa [fh,hd] using hu
      · rw[List.take_of_length_le (by omega)] at hu
        simp (disch:=omega) only [↓wr,↓reduceIte,wq,ah,ag,aj,ab,ae,af,ai,isNil,Nat.reduceEqDiff,Nat.reduceAdd,Nat.reduceLT,Nat.reduceLeDiff,Int.reduceNeg,Int.reduceToNat,reduceCtorEq,h5,h21,h22,h23]
        intro h' hh
        exact mC (by rw[hh]; exact hu)
    · rename_i ha
      intro h' hh
      rw[if_neg (by simp[ha])]
      exact .emp _
def oz (is:List Bool) (l:List Int):List Bool:=l.foldl (fun is n=>is.set n.toNat true) is
def stepG (comes:aN→List Bool→List Int) (is:List Bool) (r:aN):List Bool:=oz is (comes r is)
def dg (comes:aN→List Bool→List Int) (rules:List aN) (is:List Bool):List Bool:=rules.foldl (stepG comes) is
def fD (a b:List Bool):Prop:=a.length=b.length∧∀ i,a.getD i false=true→b.getD i false=true
theorem fD.refl (a:List Bool):fD a a:=⟨rfl,fun _ h=>h⟩
theorem fD.trans {a b c:List Bool} (h:fD a b) (k:fD b c):fD a c:=⟨h.1.trans k.1,fun i hi=>k.2 i (h.2 i hi)⟩
theorem fD.set (a:List Bool) (i:Nat):fD a (a.set i true):=by
  refine ⟨by simp,fun j h=>?_⟩
  simp only[List.getD_eq_getElem?_getD,List.getElem?_set] at h ⊢
  split
  · split
    · rfl
    · rename_i e h2; rw[← e,List.getElem?_eq_none (by omega)] at h; simp at h
  · exact h
theorem D4:∀ (l:List Int) (is:List Bool),fD is (oz is l)
  | [],is=>.refl _
  | n :: l,is=>(fD.set is n.toNat).trans (D4 l _)
theorem qc (comes:aN→List Bool→List Int):∀ (rules:List aN) (is:List Bool),fD is (dg comes rules is)
  | [],is=>.refl _
  | r :: rs,is=>(D4 _ _).trans (qc comes rs _)
def dN (a:List Bool):Nat:=a.countP fun x=>x
theorem xB (a:List Bool):dN a≤a.length:=List.countP_le_length
theorem fD.dN:∀ {a b:List Bool},fD a b→dN a≤dN b∧(dN a=dN b→a=b)
  | [],[],_=>⟨Nat.le_refl _,fun _=>rfl⟩
  | [],_ :: _,h=>by simp[fD] at h
  | _ :: _,[],h=>by simp[fD] at h
  | x :: a,y :: b,h=>by
    have hxy:x=true→y=true:=fun e=>by have:=h.2 0 (by simpa using e); simpa using this
    obtain ⟨h1,h2⟩:=fD.dN (a:=a) (b:=b) ⟨by simpa using h.1,fun i hi=>by have:=h.2 (i+1) (by simpa using hi); simpa using this⟩
    unfold Gv.dN at h1 h2 ⊢
    simp only[List.countP_cons]
    cases x with
    | true =>
      have:=hxy rfl; subst this
      simp only[if_true]
      exact ⟨by omega,fun e=>by rw[h2 (by omega)]⟩
    | false =>
      cases y with
      | false=>simp only[Bool.false_eq_true,if_false]; exact ⟨by omega,fun e=>by rw[h2 (by omega)]⟩
      | true=>simp only[Bool.false_eq_true,if_false,if_true]; exact ⟨by omega,fun e=>by omega⟩
def fH (comes:aN→List Bool→List Int) (rules:List aN):Nat→List Bool→List Bool
  | 0,is=>is
  | k+1,is=>if dg comes rules is=is then is else fH comes rules k (dg comes rules is)
theorem pZ (comes:aN→List Bool→List Int) (rules:List aN):∀ (k:Nat) (is:List Bool),is.length≤dN is+k→dg comes rules (fH comes rules k is)=fH comes rules k is∧fD is (fH comes rules k is)
  | 0,is,h=>by
    have h1:=qc comes rules is
    have h2:=xB (dg comes rules is)
    have h3:=h1.dN
    rw[← h1.1] at h2
    have h4:=xB is
    exact ⟨(h3.2 (by omega)).symm,.refl _⟩
  | k+1,is,h=>by
    simp only[fH]
    by_cases e:dg comes rules is=is
    · rw[if_pos e]; exact ⟨e,.refl _⟩
    · rw[if_neg e]
      have h1:=qc comes rules is
      have h3:=h1.dN
      have:dN is < dN (dg comes rules is):=by
        rcases Nat.lt_or_ge (dN is) (dN (dg comes rules is)) with h | h
        · exact h
        · exact absurd (h3.2 (by omega)).symm e
      obtain ⟨g1,g2⟩:=pZ comes rules k (dg comes rules is) (by rw[← h1.1]; omega)
      exact ⟨g1,h1.trans g2⟩
def tQ:SC :=
  .seq (al [aS 26 .lss 25 24]) <|
  .seq (.cond (.tmp 26) (.skip) (.exit 4)) <|
  .seq (.block 5 (.seq (al [aZ 27 1 23 25,aw 28 27,aa 11 28]) <|
  .seq (.region false [⟨none,[aa 29 7,aa 30 29]⟩,⟨(some (30,false)),[aa 31 1,aa 32 11,aZ 33 1 31 32,aw 34 33,b7 35 34]⟩,⟨none,[bC 36 30 35,aa 7 36]⟩]) <|
  al [aa 37 1,aa 38 11,aZ 39 1 37 38,(none,.op (.store 1 (.tmp 39) (.val (.val (.bool true)))))])) <|
  al [az 40 .add 25 1,aa 25 40]
def tS:SC :=
  .seq (al [aS 17 .lss 16 15]) <|
  .seq (.cond (.tmp 17) (.skip) (.exit 2)) <|
  .seq (.block 3 (.seq (al [aZ 18 3 14 16,aK 19 3 18,((some 9),.op (.alloc [(.val (.int .i64 0)),(.emp 1),(.val (.int .i64 0))])),(none,.op (.store 3 (.tmp 9) (.tmp 19)))]) <|
  .seq (al [aa 20 2,aK 21 3 9,aa 22 1,((some 23),.call (.tmp 20) [(.tmp 21),(.tmp 22)]),aR 24 23,aJ 25 0]) <|
  .block 4 (.loop tQ))) <|
  al [az 41 .add 16 1,aa 16 41]
def nS:SC :=
  .seq (.seq (al [aa 12 7]) <|
  .cond (.tmp 12) (.skip) (.exit 0)) <|
  .block 1 (.seq (al [aY 7 false]) <|
  .seq (al [au 13 2 3,aw 14 13,aR 15 14,aJ 16 0]) <|
  .block 2 (.loop tS))
def wQ:SF:=⟨.seq (al [bQ 3 0,((some 6),.op (.bk (.val (.emp 1))))]) <|
  .seq (.seq (al [aY 7 true]) <|
  .block 0 (.loop nS)) <|
  .seq (al [aa 42 1,aa 6 42]) <|
  .ret,
  [.tmp 6],43⟩
theorem Ak:bf Tryz.prog 169 [3]=some wQ:=by kernel_rfl
theorem Kh {is:List Bool} {i:Nat} (h:is.getD i false=true):is.set i true=is:=by
  apply List.ext_getElem?
  intro j
  simp only[List.getD_eq_getElem?_getD] at h
  rw[List.getElem?_set]
  split
  · rename_i e; subst e
    split
    · rename_i hl; rw[List.getElem?_eq_getElem hl] at h ⊢; simp at h; simp[h]
    · rename_i hl; rw[List.getElem?_eq_none (by omega)] at h; simp at h
  · rfl
theorem GA {comes:aN→List Bool→List Int} {rules:List aN} {k:Nat} {is:List Bool} (h:dg comes rules is=is):fH comes rules k is=is:=by
  cases k with
  | zero=>rfl
  | succ k=>simp only[fH,h,if_true]
theorem Hd {comes:aN→List Bool→List Int} {rules:List aN} {k:Nat} {is:List Bool} (h:¬ dg comes rules is=is) (hk:is.length≤dN is+k):∃ j,k=j+1∧fH comes rules k is=fH comes rules j (dg comes rules is)∧(dg comes rules is).length≤dN (dg comes rules is)+j:=by
  have h1:=qc comes rules is
  have h3:=h1.dN
  have h5:=xB (dg comes rules is)
  have:dN is < dN (dg comes rules is):=by
    rcases Nat.lt_or_ge (dN is) (dN (dg comes rules is)) with h | h
    · exact h
    · exact absurd (h3.2 (by omega)).symm (by assumption)
  have hl:=h1.1
  obtain ⟨j,rfl⟩:∃ j,k=j+1:=⟨k - 1,by omega⟩
  exact ⟨j,rfl,by simp only[fH]; rw[if_neg h],by omega⟩
theorem KS {a is:List Bool} {i:Nat} {b:Bool} (hle:fD a is) (hi:i < is.length) (hb:b = !decide (is=a)):(b || !is.getD i false) = !decide (is.set i true=a):=by
  cases hx:is.getD i false with
  | true=>rw[Kh hx,hb]; simp
  | false =>
    have:¬ is.set i true=a:=fun e=>by
      have h1:(is.set i true).getD i false=true:=by simp[List.getD_eq_getElem?_getD,hi]
      rw[e] at h1
      have:=hle.2 i h1
      rw[hx] at this; simp at this
    simp[this]
set_option maxHeartbeats 8000000 in
theorem EU (g:ao) (hr:g.rules.length≤40) (comes:aN→List Bool→List Int) (f:FuncId) (capt capt':List V) (hok:cM Tryz.prog f=true) (N:Nat) (hN:N≤16)
    (hc:∀ r∈g.rules,∀ is:List Bool,is.length=N→dR Tryz.prog f (.agg (bo r) :: df is :: capt') (encI (comes r is))∧(comes r is).length≤100∧∀ n∈comes r is,bB n∧0≤n∧n < N)
    (id:Nat) (is0:List Bool) (his:is0.length=N) (H:View) (hH:H id=.arr 1 (cQ is0)) (hlent:∀ H':View,(∀ k,H k≠.dead→k≠id→H' k=H k)→mI H' capt capt') :
    aB Tryz.prog 169 [.agg (ax g),.sl id 0 N 1,.fn f [] capt] H fun r H'=>r=.sl id 0 N 1∧H' id=.arr 1 (cQ (fH comes g.rules 16 is0))∧∀ k,H k≠.dead→k≠id→H' k=H k:=by
  refine aB.of mixed Ak ?_
  simp (disch:=omega) only [↓wr,↓reduceIte,wq,ah,ag,aj,ab,ae,af,ai,isNil,Nat.reduceEqDiff,Nat.reduceAdd,Nat.reduceLT,Nat.reduceLeDiff,Int.reduceNeg,Int.reduceToNat,reduceCtorEq,wQ,ax,encS]
  refine bH.intro (fun k T H'=>∃ is:List Bool,is.length=N∧H' id=.arr 1 (cQ is)∧(∀ k,H k≠.dead→k≠id→H' k=H k)∧T 1=.sl id 0 N 1∧T 2=.fn f [] capt∧T 3=.aX (ax g) 0 ∧
    ((T 7=gb true∧∃ j,k=j+1∧fH comes g.rules j is=fH comes g.rules 16 is0∧N≤dN is+j)∨(T 7=gb false∧is=fH comes g.rules 16 is0))) 17 ?_ ?_
  · exact ⟨is0,his,hH,fun _ _ _=>rfl,rfl,rfl,rfl,.inl ⟨rfl,16,rfl,rfl,by omega⟩⟩
  rintro k T H1 ⟨is,hlen,hid,hfr,t1,t2,t3,h7⟩
  rcases h7 with ⟨h7,j,rfl,hgr,hj⟩ | ⟨h7,hgr⟩
  · simp (disch:=omega) only [↓wr,↓reduceIte,wq,ah,ag,aj,ab,ae,af,ai,isNil,Nat.reduceEqDiff,Nat.reduceAdd,Nat.reduceLT,Nat.reduceLeDiff,Int.reduceNeg,Int.reduceToNat,reduceCtorEq,nS,t1,t2,t3,h7,ax,encS]
    refine bH.up g.rules.length (fun i T H'=>∃ lO:List Bool,lO.length=N∧fD is lO∧lO=(g.rules.take i).foldl (stepG comes) is∧H' id=.arr 1 (cQ lO)∧(∀ k,H k≠.dead→k≠id→H' k=H k)∧T 1=.sl id 0 N 1∧T 2=.fn f [] capt∧T 3=.aX (ax g) 0 ∧
      T 7=gb (!decide (lO=is))∧T 14=.aP (g.rules.map bo)∧T 15=gi g.rules.length∧T 16=gi i) ?_ ?_
    · exact ⟨is,hlen,.refl _,rfl,hid,hfr,t1,t2,t3,by simp; rfl,rfl,rfl,rfl⟩
    clear t1 t2 t3 h7 hid hfr
    rintro i k T H1 hk ⟨lO,hlen2,hle2,hst,hid,hfr,t1,t2,t3,h7,h14,h15,h16⟩
    simp (disch:=omega) only [↓wr,↓reduceIte,wq,ah,ag,aj,ab,ae,af,ai,isNil,Nat.reduceEqDiff,Nat.reduceAdd,Nat.reduceLT,Nat.reduceLeDiff,Int.reduceNeg,Int.reduceToNat,reduceCtorEq,tS,t1,t2,t3,h7,h14,h15,h16,ax,encS]
    refine av.dec (fun hcc=>?_) (fun hcc=>?_)
    · have hg2:g.rules[i]?=some (g.rules[i]'(by omega)):=List.getElem?_eq_getElem (by omega)
      have hmem:g.rules[i]'(by omega)∈g.rules:=List.getElem_mem _
      have htk:(g.rules.take (i+1)).foldl (stepG comes) is=stepG comes ((g.rules.take i).foldl (stepG comes) is) (g.rules[i]'(by omega)):=by
        rw[List.take_add_one,hg2,List.foldl_append]; rfl
      generalize g.rules[i]'(by omega)=r at hg2 hmem htk
      obtain ⟨hcp,hcl,hcn⟩:=hc r hmem lO hlen2
      simp (disch:=omega) only [↓wr,↓reduceIte,wq,ah,ag,aj,ab,ae,af,ai,isNil,Nat.reduceEqDiff,Nat.reduceAdd,Nat.reduceLT,Nat.reduceLeDiff,Int.reduceNeg,Int.reduceToNat,reduceCtorEq,t1,t2,t3,h7,h14,h15,h16,bo,encI,List.getElem?_map,hg2]
      intro b hb
      have hbid:b≠id:=by rintro rfl; rw[hid] at hb; simp at hb
      try simp (disch:=omega) only [↓wr,↓reduceIte,wq,ah,ag,aj,ab,ae,af,ai,isNil,Nat.reduceEqDiff,Nat.reduceAdd,Nat.reduceLT,Nat.reduceLeDiff,Int.reduceNeg,Int.reduceToNat,reduceCtorEq,t1,t2,t3,h7,h14,h15,h16]
      refine aG.LG hcp hok ⟨dQ.tree (cg _ (fM r)),HD (by simp[View.set,hbid.symm,hid]) hlen2.symm,hlent _ (fun k hk hki=>?_)⟩ ?_
      · have hkb:k≠b:=by
          rintro rfl
          rw[hfr k hk hki] at hb
          exact hk hb
        simp[View.set,hkb,hfr k hk hki]
      generalize hl:comes r lO=l at hcl hcn
      simp (disch:=omega) only [↓wr,↓reduceIte,wq,ah,ag,aj,ab,ae,af,ai,isNil,Nat.reduceEqDiff,Nat.reduceAdd,Nat.reduceLT,Nat.reduceLeDiff,Int.reduceNeg,Int.reduceToNat,reduceCtorEq,t1,t2,t3,h7,h14,h15,h16,encI]
      refine bH.up l.length (fun q T H'=>∃ is3:List Bool,is3.length=N∧fD is is3∧is3=oz lO (l.take q)∧H' id=.arr 1 (cQ is3)∧(∀ k,H k≠.dead→k≠id→H' k=H k)∧T 1=.sl id 0 N 1∧T 2=.fn f [] capt∧T 3=.aX (ax g) 0 ∧
        T 7=gb (!decide (is3=is))∧T 14=.aP (g.rules.map bo)∧T 15=gi g.rules.length∧T 16=gi i∧T 23=encI l∧T 24=gi l.length∧T 25=gi q) ?_ ?_
      · refine ⟨lO,hlen2,hle2,rfl,by simp[View.set,hbid.symm,hid],fun k hk hki=>?_,t1,t2,t3,h7,h14,h15,h16,rfl,rfl,rfl⟩
        have hkb:k≠b:=by
          rintro rfl
          rw[hfr k hk hki] at hb
          exact hk hb
        simp[View.set,hkb,hfr k hk hki]
      clear t1 t2 t3 h7 h14 h15 h16 hid hfr hb hbid
      rintro q k2 T H1 hk2 ⟨is3,hlen3,hle3,hst3,hid,hfr,t1,t2,t3,h7,h14,h15,h16,h23,h24,h25⟩
      simp (disch:=omega) only [↓wr,↓reduceIte,wq,ah,ag,aj,ab,ae,af,ai,isNil,Nat.reduceEqDiff,Nat.reduceAdd,Nat.reduceLT,Nat.reduceLeDiff,Int.reduceNeg,Int.reduceToNat,reduceCtorEq,tQ,t1,t2,t3,h7,h14,h15,h16,h23,h24,h25,encI]
      refine av.dec (fun hqc=>?_) (fun hqc=>?_)
      · have hgq:l[q]?=some (l[q]'(by omega)):=List.getElem?_eq_getElem (by omega)
        have hmq:l[q]'(by omega)∈l:=List.getElem_mem _
        have htq:oz lO (l.take (q+1))=(oz lO (l.take q)).set (l[q]'(by omega)).toNat true:=by
          unfold oz; rw[List.take_add_one,hgq,List.foldl_append]; rfl
        generalize l[q]'(by omega)=n at hgq hmq htq
        obtain ⟨⟨n1,n2⟩,n3,n4⟩:=hcn n hmq
        have hbn:is3.getD n.toNat false=is3[n.toNat]'(by omega):=by simp[List.getD_eq_getElem?_getD,show n.toNat < is3.length by omega]
        have hnew:=KS hle3 (show n.toNat < is3.length by omega) (b:=!decide (is3=is)) rfl
        rw[hbn] at hnew
        have hbg:=BI (show n.toNat < is3.length by omega)
        generalize is3[n.toNat]'(by omega)=x at hnew hbg hbn
        have fin:∀ (T2:Env),T2 7=gb (!decide (is3.set n.toNat true=is))→T2 1=.sl id 0 N 1→T2 2=.fn f [] capt→T2 3=.aX (ax g) 0→T2 14=.aP (g.rules.map bo)→T2 15=gi g.rules.length→T2 16=gi i→T2 23=encI l→T2 24=gi l.length→T2 25=gi ((q:Int)+1) →
            ∃ k',k' < k2∧Ga l.length k' (fun q T H'=>∃ is3:List Bool,is3.length=N∧fD is is3∧is3=oz lO (l.take q)∧H' id=.arr 1 (cQ is3)∧(∀ k,H k≠.dead→k≠id→H' k=H k)∧T 1=.sl id 0 N 1∧T 2=.fn f [] capt∧T 3=.aX (ax g) 0 ∧
              T 7=gb (!decide (is3=is))∧T 14=.aP (g.rules.map bo)∧T 15=gi g.rules.length∧T 16=gi i∧T 23=encI l∧T 24=gi l.length∧T 25=gi q) T2 (H1.set id (.arr 1 (cQ (is3.set n.toNat true)))):=by
          intro T2 a7 a1 a2 a3 a14 a15 a16 a23 a24 a25
          refine bD hk2 (by omega) ⟨is3.set n.toNat true,by simp[hlen3],hle3.trans (.set _ _),by rw[htq,← hst3],by simp[View.set],fun k hk hki=>by simp[View.set,hki,hfr k hk hki],a1,a2,a3,a7,a14,a15,a16,a23,a24,by rw[a25]; rfl⟩
        simp (disch:=omega) only [↓wr,↓reduceIte,wq,ah,ag,aj,ab,ae,af,ai,isNil,Nat.reduceEqDiff,Nat.reduceAdd,Nat.reduceLT,Nat.reduceLeDiff,Int.reduceNeg,Int.reduceToNat,reduceCtorEq,t1,t2,t3,h7,h14,h15,h16,h23,h24,h25,encI,List.getElem?_map,hgq]
        refine av.dec (fun e=>?_) (fun e=>?_)
        · simp (disch:=omega) only [↓wr,↓reduceIte,wq,ah,ag,aj,ab,ae,af,ai,isNil,Nat.reduceEqDiff,Nat.reduceAdd,Nat.reduceLT,Nat.reduceLeDiff,Int.reduceNeg,Int.reduceToNat,reduceCtorEq,t1,t2,t3,h7,h14,h15,h16,h23,h24,h25,encI,hid,hbg,List.length_map]
          refine ⟨by omega,by omega,?_⟩
          try simp (disch:=omega) only [↓wr,↓reduceIte,wq,ah,ag,aj,ab,ae,af,ai,isNil,Nat.reduceEqDiff,Nat.reduceAdd,Nat.reduceLT,Nat.reduceLeDiff,Int.reduceNeg,Int.reduceToNat,reduceCtorEq,t1,t2,t3,h7,h14,h15,h16,h23,h24,h25,encI,hid,hbg,List.length_map]
          refine ⟨by omega,by omega,?_⟩
          rw[uG]
          exact fin _ (by rw[← hnew]; simp[e]; rfl) t1 t2 t3 h14 h15 h16 h23 h24 rfl
        · simp (disch:=omega) only [↓wr,↓reduceIte,wq,ah,ag,aj,ab,ae,af,ai,isNil,Nat.reduceEqDiff,Nat.reduceAdd,Nat.reduceLT,Nat.reduceLeDiff,Int.reduceNeg,Int.reduceToNat,reduceCtorEq,t1,t2,t3,h7,h14,h15,h16,h23,h24,h25,encI,hid,hbg,List.length_map]
          refine ⟨by omega,by omega,?_⟩
          rw[uG]
          exact fin _ (by rw[← hnew]; simp[e]; rfl) t1 t2 t3 h14 h15 h16 h23 h24 rfl
      · rw[List.take_of_length_le (by omega)] at hst3
        simp (disch:=omega) only [↓wr,↓reduceIte,wq,ah,ag,aj,ab,ae,af,ai,isNil,Nat.reduceEqDiff,Nat.reduceAdd,Nat.reduceLT,Nat.reduceLeDiff,Int.reduceNeg,Int.reduceToNat,reduceCtorEq,t1,t2,t3,h7,h14,h15,h16,h23,h24,h25]
        refine bD hk (by omega) ⟨is3,hlen3,hle3,?_,hid,hfr,t1,t2,t3,h7,h14,h15,rfl⟩
        rw[htk,← hst,stepG,hl,← hst3]
    · rw[List.take_of_length_le (by omega)] at hst
      simp (disch:=omega) only [↓wr,↓reduceIte,wq,ah,ag,aj,ab,ae,af,ai,isNil,Nat.reduceEqDiff,Nat.reduceAdd,Nat.reduceLT,Nat.reduceLeDiff,Int.reduceNeg,Int.reduceToNat,reduceCtorEq,t1,t2,t3,h7,h14,h15,h16]
      have hrd:lO=dg comes g.rules is:=hst
      by_cases e:lO=is
      · refine ⟨0,by omega,lO,hlen2,hid,hfr,rfl,.inr ⟨by simp[e],?_⟩⟩
        rw[← hgr,e]
        exact (GA (by rw[← hrd]; exact e)).symm
      · obtain ⟨j2,rfl,e2,e3⟩:=Hd (k:=j) (fun h=>e (hrd.trans h)) (by rw[hlen]; exact hj)
        refine ⟨j2+1,by omega,lO,hlen2,hid,hfr,rfl,.inl ⟨by simp[e],j2,rfl,?_,?_⟩⟩
        · rw[← hgr,e2,hrd]
        · rw[← hrd,hlen2] at e3; exact e3
  · simp (disch:=omega) only [↓wr,↓reduceIte,wq,ah,ag,aj,ab,ae,af,ai,isNil,Nat.reduceEqDiff,Nat.reduceAdd,Nat.reduceLT,Nat.reduceLeDiff,Int.reduceNeg,Int.reduceToNat,reduceCtorEq,nS,t1,t2,t3,h7,ax,encS]
    exact ⟨hgr ▸ hid,hfr⟩
theorem xM {α:Type} {f:α→α} {x:α} (h:f x=x):∀ n,iter f n x=x
  | 0=>rfl
  | n+1=>by rw[iter,h,xM h n]
theorem Ei {α:Type} (f:α→α):∀ (a b:Nat) (x:α),iter f (a+b) x=iter f b (iter f a x)
  | 0,b,x=>by rw[Nat.zero_add]; rfl
  | a+1,b,x=>by rw[Nat.add_right_comm,iter,iter,Ei f a b]
theorem yF (comes:aN→List Bool→List Int) (rules:List aN):∀ (k:Nat) (is:List Bool),fH comes rules k is=iter (dg comes rules) k is
  | 0,is=>rfl
  | k+1,is=>by
    simp only[fH,iter]
    by_cases e:dg comes rules is=is
    · rw[if_pos e,e,xM e]
    · rw[if_neg e,yF comes rules k]
theorem uW (comes:aN→List Bool→List Int) (rules:List aN) (is:List Bool) (h:is.length≤16):fH comes rules 16 is=iter (dg comes rules) is.length is:=by
  have h1:=(pZ comes rules is.length is (by omega)).1
  rw[yF] at h1 ⊢
  obtain ⟨m,hm⟩:∃ m,16=is.length+m:=⟨16 - is.length,by omega⟩
  rw[hm,Ei,xM h1]
def pF (t:Bool) (r:aN) (is:List Bool):List Int:=if fB r.right is t=true then [r.left] else []
def pb (p:List Bool) (r:aN) (is:List Bool):List Int:=if (is.getD r.left.toNat false && fB r.right p true)=true then fh r.right else []
theorem FR (g:ao) (t:Bool):dg (pF t) g.rules=mG g t:=by
  funext is
  unfold dg mG
  congr 1
  funext is r
  unfold stepG pF eo
  split <;> rfl
theorem yG:∀ (l:List Int) (is:List Bool),oz is (fh l)=l.foldl mark is
  | [],is=>rfl
  | s :: l,is=>by
    have ih:=yG l
    unfold oz fh at ih ⊢
    rw[List.foldl_cons,← ih]
    unfold mark
    by_cases h:s < 0
    · rw[if_pos h,List.filter_cons_of_pos (by simpa using h)]; rfl
    · rw[if_neg h,List.filter_cons_of_neg (by simpa using h)]
theorem E2 (g:ao) (p:List Bool):dg (pb p) g.rules=rv g p:=by
  funext is
  unfold dg rv
  congr 1
  funext is r
  unfold stepG pb iJ
  split
  · exact yG _ _
  · rfl
theorem Jb {g:ao} (h:bt g=true) (t:Bool):fH (pF t) g.rules 16 (cR g)=aM g t:=by
  have hf:=bu h
  have hl:(cR g).length=g.aC.length:=by simp[cR]
  have:=hf.aC
  rw[uW _ _ _ (by rw[hl]; exact hf.aC),FR,hl,aM,if_pos h]
theorem IJ {g:ao} (h:bt g=true):fH (pb (aM g true)) g.rules 16 ((cR g).set g.start.toNat true)=bE g:=by
  have hf:=bu h
  have hl:((cR g).set g.start.toNat true).length=g.aC.length:=by simp[cR]
  rw[uW _ _ _ (by rw[hl]; exact hf.aC),E2,hl,bE,if_pos h]
def oc:SF:=⟨.seq (al [bQ 1 0,((some 2),.op (.bk (.val (.emp 1))))]) <|
  .seq (.seq (al [aK 3 4 1,aH 4 52 [3],b7 5 4]) <|
  .cond (.tmp 5) (.seq (al [((some 2),.op (.bk (.val (.emp 1))))]) <|
  .ret) (.skip)) <|
  .seq (al [aK 6 4 1,au 7 1 1,aw 8 7,aR 9 8,((some 10),.op (.make 1 1 [(.val (.bool false))] (.tmp 9) (.tmp 9))),cX 11 169 [(.tmp 6),(.tmp 10),(.val (.fn 195 [] []))],aa 2 11]) <|
  .ret,
  [.tmp 2],12⟩
theorem sM:bf Tryz.prog 157 [1]=some oc:=by kernel_rfl
def oW:SF:=⟨.seq (al [bQ 1 0,((some 2),.op (.bk (.val (.emp 1))))]) <|
  .seq (.seq (al [aK 5 4 1,aH 6 52 [5],b7 7 6]) <|
  .cond (.tmp 7) (.seq (al [((some 2),.op (.bk (.val (.emp 1))))]) <|
  .ret) (.skip)) <|
  .seq (al [aK 8 4 1,aH 9 157 [8],((some 3),.op (.alloc [(.emp 1)])),(none,.op (.store 1 (.tmp 3) (.tmp 9)))]) <|
  .seq (al [au 10 1 1,aw 11 10,aR 12 11,((some 13),.op (.make 1 1 [(.val (.bool false))] (.tmp 12) (.tmp 12))),aa 4 13]) <|
  .seq (al [aa 14 4,au 15 3 1,aw 16 15,aZ 17 1 14 16,(none,.op (.store 1 (.tmp 17) (.val (.val (.bool true)))))]) <|
  .seq (al [aK 18 4 1,aa 19 4,((some 20),.op (.o9 196 [] [(.tmp 3)])),aH 21 169 [18,19,20],aa 2 21]) <|
  .ret,
  [.tmp 2],22⟩
theorem ub:bf Tryz.prog 158 [1]=some oW:=by kernel_rfl
structure ao.Small (g:ao):Prop where
  names:g.aC.length+g.aA.length≤1000
theorem BG {h':aD} {id n:Nat} {is:List Bool} (hv:h'.view id=.arr 1 (cQ is)) (hn:n=is.length):dJ h' (.sl id 0 n 1) (df is):=by
  subst hn; exact ui hv
set_option maxHeartbeats 2000000 in
theorem rO (g:ao) (hg:g.Ok) (hs:g.Small):dR Tryz.prog 157 [.agg (ax g)] (df (aM g true)):=by
  refine dR.of (jj g) ?_
  refine aB.of mixed sM ?_
  have hn:=hg.aC
  unfold bc at hn
  simp (disch:=omega) only [↓wr,↓reduceIte,wq,ah,ag,aj,ab,ae,af,ai,isNil,Nat.reduceEqDiff,Nat.reduceAdd,Nat.reduceLT,Nat.reduceLeDiff,Int.reduceNeg,Int.reduceToNat,reduceCtorEq,oc,ax,encS]
  refine aG.pure (nb g hg hs.names) (by kernel_rfl) ?_
  repeat' (first | (refine av.dec (fun _=>?_) (fun _=>?_)) | (refine av.eq (fun _=>?_) (fun _=>?_)) | (refine av.ne (fun _=>?_) (fun _=>?_)) | (refine av.split (fun _=>?_) (fun _=>?_)) | (simp (disch:=omega) only [↓wr,↓reduceIte,wq,ah,ag,aj,ab,ae,af,ai,isNil,Nat.reduceEqDiff,Nat.reduceAdd,Nat.reduceLT,Nat.reduceLeDiff,Int.reduceNeg,Int.reduceToNat,reduceCtorEq,ax,encS]))
  · rename_i hr
    have hf:=bu hr
    have h1:=hf.yO
    have h2:=hf.aC
    try simp (disch:=omega) only [↓wr,↓reduceIte,wq,ah,ag,aj,ab,ae,af,ai,isNil,Nat.reduceEqDiff,Nat.reduceAdd,Nat.reduceLT,Nat.reduceLeDiff,Int.reduceNeg,Int.reduceToNat,reduceCtorEq,ax,encS]
    refine ⟨⟨by omega,by unfold aW; omega,by unfold aW; omega⟩,fun h=>by omega,?_⟩
    intro _ n
    try simp (disch:=omega) only [↓wr,↓reduceIte,wq,ah,ag,aj,ab,ae,af,ai,isNil,Nat.reduceEqDiff,Nat.reduceAdd,Nat.reduceLT,Nat.reduceLeDiff,Int.reduceNeg,Int.reduceToNat,reduceCtorEq,ax,encS]
    refine aG.gT ((EU g hf.rules (pF true) 195 [] [] (by kernel_rfl) g.aC.length h2 (fun r hr' is his=>⟨z7 r is (by rw[his]; exact hf.xX hg hr'),?_,?_⟩) n (cR g) (by simp[cR]) _ (by simp[View.set,cR]) (fun H' _=>trivial)).mono ?_)
    · unfold pF; split <;> simp
    · intro m hm
      unfold pF at hm
      split at hm
      · simp only[List.mem_singleton] at hm; subst hm
        exact ⟨(hg.aF r hr').1,hf.left r hr'⟩
      · simp at hm
    · rintro r H' ⟨rfl,hid,_⟩
      simp (disch:=omega) only [↓wr,↓reduceIte,wq,ah,ag,aj,ab,ae,af,ai,isNil,Nat.reduceEqDiff,Nat.reduceAdd,Nat.reduceLT,Nat.reduceLeDiff,Int.reduceNeg,Int.reduceToNat,reduceCtorEq]
      intro h' hh
      rw[Jb hr] at hid
      exact BG (by rw[hh]; exact hid) (mU hr _).symm
  · rename_i hr
    intro h' hh
    simp only[aM,hr]
    exact .emp _
theorem qX {g:ao} (hr:bt g=true):(bE g).length=g.aC.length:=by
  rw[bE,if_pos hr,xG (f:=rv g (aM g true)) (fun is=>xp (fun is x=>JH _ is x) g.rules is)]
  simp[cR]
set_option maxHeartbeats 2000000 in
theorem B2 (g:ao) (hg:g.Ok) (hs:g.Small):dR Tryz.prog 158 [.agg (ax g)] (df (bE g)):=by
  refine dR.of (jj g) ?_
  refine aB.of mixed ub ?_
  have hn:=hg.aC
  unfold bc at hn
  simp (disch:=omega) only [↓wr,↓reduceIte,wq,ah,ag,aj,ab,ae,af,ai,isNil,Nat.reduceEqDiff,Nat.reduceAdd,Nat.reduceLT,Nat.reduceLeDiff,Int.reduceNeg,Int.reduceToNat,reduceCtorEq,oW,ax,encS]
  refine aG.pure (nb g hg hs.names) (by kernel_rfl) ?_
  repeat' (first | (refine av.dec (fun _=>?_) (fun _=>?_)) | (refine av.eq (fun _=>?_) (fun _=>?_)) | (refine av.ne (fun _=>?_) (fun _=>?_)) | (refine av.split (fun _=>?_) (fun _=>?_)) | (simp (disch:=omega) only [↓wr,↓reduceIte,wq,ah,ag,aj,ab,ae,af,ai,isNil,Nat.reduceEqDiff,Nat.reduceAdd,Nat.reduceLT,Nat.reduceLeDiff,Int.reduceNeg,Int.reduceToNat,reduceCtorEq,ax,encS]))
  · rename_i hr
    have hf:=bu hr
    have h1:=hf.yO
    have h2:=hf.aC
    have h3:=hf.lF
    have h4:=hf.start
    have hpl:=mU hr true
    try simp (disch:=omega) only [↓wr,↓reduceIte,wq,ah,ag,aj,ab,ae,af,ai,isNil,Nat.reduceEqDiff,Nat.reduceAdd,Nat.reduceLT,Nat.reduceLeDiff,Int.reduceNeg,Int.reduceToNat,reduceCtorEq,ax,encS]
    refine aG.pure (rO g hg hs).pure (by kernel_rfl) ?_
    simp (disch:=omega) only [↓wr,↓reduceIte,wq,ah,ag,aj,ab,ae,af,ai,isNil,Nat.reduceEqDiff,Nat.reduceAdd,Nat.reduceLT,Nat.reduceLeDiff,Int.reduceNeg,Int.reduceToNat,reduceCtorEq,ax,encS,df]
    intro q
    try simp (disch:=omega) only [↓wr,↓reduceIte,wq,ah,ag,aj,ab,ae,af,ai,isNil,Nat.reduceEqDiff,Nat.reduceAdd,Nat.reduceLT,Nat.reduceLeDiff,Int.reduceNeg,Int.reduceToNat,reduceCtorEq,ax,encS,set_set]
    refine ⟨⟨by omega,by unfold aW; omega,by unfold aW; omega⟩,fun h=>by omega,?_⟩
    intro _ n hn'
    have hnq:=(fQ hn' fU).1
    try simp (disch:=omega) only [↓wr,↓reduceIte,wq,ah,ag,aj,ab,ae,af,ai,isNil,Nat.reduceEqDiff,Nat.reduceAdd,Nat.reduceLT,Nat.reduceLeDiff,Int.reduceNeg,Int.reduceToNat,reduceCtorEq,ax,encS,set_set]
    have hbg:=BI (is:=cR g) (show g.start.toNat < (cR g).length by simp[cR]; omega)
    refine ⟨by omega,by simp; omega,?_⟩
    refine aG.gT ((EU g hf.rules (pb (aM g true)) 196 [.ptr q 0 0] [.aX [df (aM g true)] 0] (by kernel_rfl) g.aC.length h2 (fun r hr' is his=>⟨B1 r is (aM g true) (by rw[his]; exact hf.xX hg hr') (by rw[his,hpl]),?_,?_⟩) n ((cR g).set g.start.toNat true) (by simp[cR]) _ ?_ (fun H' hfr=>⟨dQ.box (z:=1) ?_ ?_,trivial⟩)).mono ?_)
    · have h6:=hf.right r hr'
      unfold pb
      split
      · have:(fh r.right).length≤r.right.length:=by simp only[fh,List.length_map]; exact List.length_filter_le _ _
        omega
      · simp
    · intro m hm
      unfold pb at hm
      split at hm
      · simp only[fh,List.mem_map,List.mem_filter,decide_eq_true_eq] at hm
        obtain ⟨s,⟨hs',hneg⟩,rfl⟩:=hm
        have a:=hf.neg hr' hs' hneg
        have b:=((hg.aF r hr').2.2.2 s hs').1
        exact ⟨⟨by omega,by omega⟩,by omega,a⟩
      · simp at hm
    · simp only[View.set,if_true]
      congr 1
      rw[← uG]
      unfold cR at hbg ⊢
      rw[HU,hbg]
      rfl
    · rw[hfr q (by simp[View.set,Ne.symm hnq]) (Ne.symm hnq)]
      simp[View.set,Ne.symm hnq]
      rfl
    · intro v hv; simp at hv; subst hv; exact kz _
    · rintro r H' ⟨rfl,hid,_⟩
      simp (disch:=omega) only [↓wr,↓reduceIte,wq,ah,ag,aj,ab,ae,af,ai,isNil,Nat.reduceEqDiff,Nat.reduceAdd,Nat.reduceLT,Nat.reduceLeDiff,Int.reduceNeg,Int.reduceToNat,reduceCtorEq]
      intro h' hh
      rw[IJ hr] at hid
      exact BG (by rw[hh]; exact hid) (by rw[qX hr])
  · rename_i hr
    intro h' hh
    simp only[bE,hr]
    exact .emp _
def bI (p q:List Bool) (r:aN):Bool:=q.getD r.left.toNat false && fB r.right p true
def db (p q:List Bool):List aN→Int→List Int
  | [],_=>[]
  | r :: l,i=>if bI p q r=true then i :: db p q l (i+1) else db p q l (i+1)
def dS (acc:List Int) (r:aN):List Int:=if r.left∈acc then acc else acc ++ [r.left]
def cK (p q:List Bool) (l:List aN):List Int:=(l.filter (bI p q)).foldl dS []
def bK (o:List Int) (x:Int):Int:=c4 (fun y=>y == x) o 0
def bA (f:Int→Int) (r:aN):aN:=⟨f r.left,r.right.map fun s=>if s < 0 then -1 - f (-1 - s) else s,r.prec⟩
def kg (g:ao) (f:Int→Int) (p q:List Bool):ao :=
  ⟨g.aA,(cK p q g.rules).map fun x=>g.aC.getD x.toNat ⟨#[]⟩,(g.rules.filter (bI p q)).map (bA f),f g.start⟩
def qh:ao:=⟨[],[],[],0⟩
instance:DecidableEq Term:=fun a b=>decidable_of_iff (a.name=b.name∧a.level=b.level∧a.assoc=b.assoc) (by cases a; cases b; simp)
instance:DecidableEq aN:=fun a b=>decidable_of_iff (a.left=b.left∧a.prec=b.prec∧a.right=b.right) (by cases a; cases b; simp[and_comm])
instance:DecidableEq ao:=fun a b=>decidable_of_iff (a.aA=b.aA∧a.aC=b.aC∧a.rules=b.rules∧a.start=b.start) (by cases a; cases b; simp)
def ie (g:ao):ao × List Int × Int :=
  if bt g=true then
    if (aM g true).getD g.start.toNat false=true then (kg g (bK (cK (aM g true) (bE g) g.rules)) (aM g true) (bE g),db (aM g true) (bE g) g.rules 0,0)
    else (qh,[],9)
  else (qh,[],1)
theorem CU {g:ao} (hr:bt g=true):ie g=if (aM g true).getD g.start.toNat false=true then (kg g (bK (cK (aM g true) (bE g) g.rules)) (aM g true) (bE g),db (aM g true) (bE g) g.rules 0,0) else (qh,[],9):=by
  rw[ie,if_pos hr]
theorem po (p q:List Bool):∀ (a b:List aN) (i:Int),db p q (a ++ b) i=db p q a i ++ db p q b (i+a.length)
  | [],b,i=>by simp[db]
  | r :: a,b,i=>by
    simp only[List.cons_append,db,po p q a b (i+1),List.length_cons]
    have:i+1+(a.length:Int)=i+((a.length+1:Nat):Int):=by push_cast; omega
    rw[this]
    split <;> simp
theorem ql (p q:List Bool):∀ (a:List aN) (i:Int),(db p q a i).length=(a.filter (bI p q)).length
  | [],i=>rfl
  | r :: a,i=>by
    simp only[db,List.filter_cons]
    split <;> simp[ql p q a]
theorem vA (p q:List Bool):∀ (a:List aN) (i:Int) (k:Nat),k < (db p q a i).length→∃ m:Nat,(db p q a i)[k]?=some (i+m)∧a[m]?=(a.filter (bI p q))[k]?∧m < a.length
  | [],i,k,h=>by simp[db] at h
  | r :: a,i,k,h=>by
    simp only[db,List.filter_cons] at h ⊢
    by_cases hr:bI p q r=true
    · rw[if_pos hr] at h ⊢
      rw[if_pos hr]
      cases k with
      | zero=>exact ⟨0,by simp,by simp,by simp⟩
      | succ k =>
        obtain ⟨m,h1,h2,h3⟩:=vA p q a (i+1) k (by simpa using h)
        exact ⟨m+1,by rw[List.getElem?_cons_succ,h1]; congr 1; push_cast; omega,by simpa using h2,by simpa using h3⟩
    · rw[if_neg hr] at h ⊢
      rw[if_neg hr]
      obtain ⟨m,h1,h2,h3⟩:=vA p q a (i+1) k h
      exact ⟨m+1,by rw[h1]; congr 1; push_cast; omega,by simpa using h2,by simpa using h3⟩
theorem A6 (p q:List Bool) (l:List aN) (r:aN):cK p q (l ++ [r])=if bI p q r=true then dS (cK p q l) r else cK p q l:=by
  unfold cK
  rw[List.filter_append]
  by_cases h:bI p q r=true
  · rw[if_pos h,List.filter_cons_of_pos h,List.foldl_append]; rfl
  · rw[if_neg h,List.filter_cons_of_neg h]; simp
theorem CI {o:List Int} {x:Int} : bK o x < 0↔x ∉ o:=by
  have:=sq (fun y=>y == x) o 0 (by omega)
  unfold bK
  rw[← Int.not_le]
  constructor
  · intro h hx
    have e:(o.any fun y=>y == x)=true:=List.any_eq_true.2 ⟨x,hx,by simp⟩
    rw[e] at this; exact h (by simpa using this)
  · intro h hx
    have e:(o.any fun y=>y == x)=true:=by rw[← this]; simpa using hx
    obtain ⟨y,hy,e⟩:=List.any_eq_true.1 e
    simp at e; subst e; exact h hy
theorem wT {α:Type} (p:α→Bool):∀ (a b:List α) (i:Int),0≤i→c4 p (a ++ b) i=if 0≤c4 p a i then c4 p a i else c4 p b (i+a.length)
  | [],b,i,_=>by simp[c4]
  | x :: a,b,i,h=>by
    by_cases hp:p x=true
    · simp[c4,hp,h]
    · simp only[List.cons_append,c4,if_neg hp]
      rw[wT p a b (i+1) (by omega)]
      have:i+1+(a.length:Int)=i+(((x :: a).length:Nat):Int):=by simp; omega
      rw[this]
theorem jk {o:List Int} {x:Int} (h:x∈o):0≤bK o x∧bK o x < o.length:=by
  have h0:¬ bK o x < 0:=fun e=>CI.1 e h
  refine ⟨by omega,?_⟩
  unfold bK
  have:∀ (l:List Int) (i:Int),c4 (fun z=>z == x) l i < i+l.length∨c4 (fun z=>z == x) l i = -1:=by
    intro l
    induction l with
    | nil=>intro i; right; rfl
    | cons z l ih =>
      intro i
      simp only[c4]
      split
      · left; simp; omega
      · rcases ih (i+1) with h | h
        · left; simp at h ⊢; omega
        · right; exact h
  rcases this o 0 with h1 | h1
  · simpa using h1
  · unfold bK at h0; omega
theorem F2 (o:List Int) (x:Int) : -1≤bK o x∧bK o x≤o.length:=by
  by_cases h:x∈o
  · have:=jk h; omega
  · have h1:=CI.2 h
    have h2:∀ (l:List Int) (i:Int),0≤i→-1≤c4 (fun z=>z == x) l i:=by
      intro l
      induction l with
      | nil=>intro i _; simp[c4]
      | cons z l ih =>
        intro i hi
        simp only[c4]
        split
        · omega
        · exact ih _ (by omega)
    have:=h2 o 0 (by omega)
    unfold bK at h1 ⊢
    omega
def hU:List Int→Int→List (Int × Int)
  | [],_=>[]
  | x :: l,i=>(x,i) :: hU l (i+1)
theorem pV (x:Int):∀ (o:List Int) (i:Int),dm (hU o i) x=if x∈o then some (c4 (fun y=>y == x) o i) else none
  | [],i=>by simp[hU,dm]
  | y :: o,i=>by
    have ih:=pV x o (i+1)
    unfold dm at ih ⊢
    simp only[hU,List.find?_cons,c4]
    by_cases e:x=y
    · subst e; simp
    · have e2:¬ ((y == x)=true):=by simp[Ne.symm e]
      rw[show (x == y)=false by simp[e],if_neg e2]
      simp only
      rw[ih]
      simp[e]
theorem AN {x v:Int} : ∀ {o:List Int} {i:Int},x ∉ o→iy x v (hU o i)=hU o i ++ [(x,v)]
  | [],i,_=>rfl
  | y :: o,i,h=>by
    simp only[List.mem_cons,not_or] at h
    simp only[hU,iy,show (x == y)=false by simp[h.1],Bool.false_eq_true,if_false,AN h.2,List.cons_append]
theorem zl {x:Int} : ∀ {o:List Int} {i:Int},hU (o ++ [x]) i=hU o i ++ [(x,i+o.length)]
  | [],i=>by simp[hU]
  | y :: o,i=>by
    simp only[List.cons_append,hU,zl (o:=o),List.length_cons]
    congr 4
    push_cast; omega
def dc (o:List Int) (x:Int):Int:=(dm (hU o 0) x).getD 0
theorem vZ {o:List Int} {x:Int} (h:x∈o):dc o x=bK o x:=by
  simp[dc,pV,h,bK]
theorem Mt (o:List Int) (x:Int):0≤dc o x∧dc o x≤o.length:=by
  by_cases h:x∈o
  · rw[vZ h]; have:=jk h; omega
  · simp[dc,pV,h]
theorem IL {g:ao} {p q:List Bool} (hst:g.start∈cK p q g.rules) (hin:∀ r∈g.rules.filter (bI p q),r.left∈cK p q g.rules∧∀ s∈r.right,s < 0→-1 - s∈cK p q g.rules) :
    kg g (dc (cK p q g.rules)) p q=kg g (bK (cK p q g.rules)) p q:=by
  unfold kg
  congr 1
  · apply List.map_congr_left
    intro r hr
    obtain ⟨h1,h2⟩:=hin r hr
    unfold bA
    congr 1
    · exact vZ h1
    · apply List.map_congr_left
      intro s hs
      split
      · rename_i h; rw[vZ (h2 s hs h)]
      · rfl
  · exact vZ hst
theorem ri:∀ (l:List aN) (acc:List Int) (x:Int),x∈l.foldl dS acc↔x∈acc∨∃ r∈l,r.left=x
  | [],acc,x=>by simp
  | r :: l,acc,x=>by
    rw[List.foldl_cons,ri l]
    have:x∈dS acc r↔x∈acc∨r.left=x:=by
      unfold dS
      split
      · rename_i h
        constructor
        · exact .inl
        · rintro (h' | rfl)
          · exact h'
          · exact h
      · simp[eq_comm]
    rw[this]
    simp only[List.mem_cons,exists_eq_or_imp]
    constructor
    · rintro ((h | h) | h)
      · exact .inl h
      · exact .inr (.inl h)
      · exact .inr (.inr h)
    · rintro (h | h | h)
      · exact .inl (.inl h)
      · exact .inl (.inr h)
      · exact .inr h
theorem C8 {p q:List Bool} {l:List aN} {x:Int} : x∈cK p q l↔∃ r∈l,bI p q r=true∧r.left=x:=by
  unfold cK
  rw[ri]
  simp[List.mem_filter,and_assoc]
abbrev du (l:List Int):List (List V):=l.map fun x=>[gi x]
abbrev pW (l:List ByteArray):List (List V):=l.map fun s=>[gs s]
theorem Df {l:List Int} {i:Nat} (h:i < l.length):(du l).getD i []=[gi l[i]]:=by simp[List.getD_eq_getElem?_getD,h]
theorem ints_set (l:List Int) (i:Nat) (x:Int):(du l).set i [gi x]=du (l.set i x):=by simp[List.map_set]
abbrev yL:=List (V × aN)
def iZ (b:yL):List (List V):=b.map fun x=>[gi x.2.left,x.1,gi x.2.prec]
def rE (b:yL):List fa:=b.map fun x=>(x.1,1,du x.2.right)
theorem HV {h:aD} {u:V} {b:yL} (ho:aO h.view u 3 (iZ b)) (hb:∀ x∈rE b,aO h.view x.1 x.2.1 x.2.2):dJ h u (.aP ((b.map (·.2)).map bo)):=by
  refine dJ.own ho (by simp[iZ]) (fun i hi=>?_) (fun i j hi hj=>?_)
  all_goals
    simp only[iZ,List.length_map] at hi
    have e1:(iZ b).getD i []=[gi b[i].2.left,b[i].1,gi b[i].2.prec]:=by simp[iZ,List.getD_eq_getElem?_getD,hi]
    have e2:((b.map (·.2)).map bo).getD i []=bo b[i].2:=by simp[List.getD_eq_getElem?_getD,hi]
  · rw[e1,e2]; rfl
  · rw[e1,e2]
    rw[e2] at hj
    have hm:b[i]∈b:=List.getElem_mem _
    have ho:=hb (b[i].1,1,du b[i].2.right) (List.mem_map.2 ⟨_,hm,rfl⟩)
    match j,hj with
    | 0,_=>exact .val _
    | 1,_=>exact mC ho
    | 2,_=>exact .val _
    | n+3,hj=>exact absurd hj (by simp only[bo,List.length_cons,List.length_nil]; omega)
theorem KK {h:aD} {u:V} {l:List ByteArray} (ho:aO h.view u 1 (pW l)):dJ h u (encS l):=dJ.Ky (f:=Value.string) ho
theorem Jy {h:aD} {u:V} {l:List Term} (ho:aO h.view u 3 (l.map cU)):dJ h u (dw l):=by
  refine dJ.own ho rfl (fun _ _=>rfl) (fun i j hi hj=>?_)
  simp only[List.length_map] at hi
  have e1:(l.map cU).getD i []=cU l[i]:=by simp[List.getD_eq_getElem?_getD,hi]
  rw[e1] at hj ⊢
  match j,hj with
  | 0,_=>exact .val _
  | 1,_=>exact .val _
  | 2,_=>exact .val _
  | n+3,hj=>exact absurd hj (by simp only[cU,List.length_cons,List.length_nil]; omega)
def zR (x:ao × List Int × Int):V:=.bg [.agg (ax x.1),encI x.2.1,gi x.2.2]
theorem CO {h:aD} {e:Int} {k1 k2 k3 k4:Nat} : dJ h (.bg [.agg [.emp k1,.emp k2,.emp k3,gi 0],.emp k4,gi e]) (zR (qh,[],e)):=by
  refine .bg _ _ rfl fun i hi=>?_
  match i,hi with
  | 0,_ =>
    refine .agg _ _ rfl fun j hj=>?_
    match j,hj with
    | 0,_=>exact .emp _
    | 1,_=>exact .emp _
    | 2,_=>exact .emp _
    | 3,_=>exact .val _
    | n+4,hj=>exact absurd hj (by simp only[List.length_cons,List.length_nil]; omega)
  | 1,_=>exact .emp _
  | 2,_=>exact .val _
  | n+3,hi=>exact absurd hi (by simp only[List.length_cons,List.length_nil]; omega)
theorem L2 {h:aD} {u0 u1 u2 u3:V} {x:ao × List Int × Int} {b:yL} (h0:aO h.view u0 3 (x.1.aA.map cU)) (h1:aO h.view u1 1 (pW x.1.aC)) (h2:aO h.view u2 3 (iZ b)) (hb:∀ y∈rE b,aO h.view y.1 y.2.1 y.2.2)
    (hr:b.map (·.2)=x.1.rules) (h3:aO h.view u3 1 (du x.2.1)):dJ h (.bg [.agg [u0,u1,u2,gi x.1.start],u3,gi x.2.2]) (zR x):=by
  refine .bg _ _ rfl fun i hi=>?_
  match i,hi with
  | 0,_ =>
    refine .agg _ _ rfl fun j hj=>?_
    match j,hj with
    | 0,_=>exact Jy h0
    | 1,_=>exact KK h1
    | 2,_=>have:=HV h2 hb; rw[hr] at this; exact this
    | 3,_=>exact .val _
    | n+4,hj=>exact absurd hj (by simp only[List.length_cons,List.length_nil]; omega)
  | 1,_=>exact mC h3
  | 2,_=>exact .val _
  | n+3,hi=>exact absurd hi (by simp only[List.length_cons,List.length_nil]; omega)
theorem EO {g:ao} (e:jV g=false):g.Small:=by
  simp only[jV,Bool.or_eq_false_iff,decide_eq_false_iff_not] at e
  exact ⟨by omega⟩
theorem KH (g:ao):aE Tryz.prog 16 [.agg (ax g)] (gb (jV g)):=aE.val (jj g) fun H=>(KY g H).mono fun _ _ h=>h.1
theorem AD {a b:V} (ha:Tree a) (hb:Tree b):Tree (.bg [a,b]):=.bg _ fun i hi=>by
  match i,hi with
  | 0,_=>exact ha
  | 1,_=>exact hb
  | n+2,h=>exact absurd h (by simp)
theorem yi {H:View} {id n:Nat} {l:List Int} (hv:H id=.arr 1 (du l)) (hn:n=l.length):dQ H (.sl id 0 n 1) (encI l):=by
  subst hn
  exact dQ.own (sz:=1) (.inr ⟨id,by simp,hv⟩) fun e he v hv=>by
    obtain ⟨x,_,rfl⟩:=List.mem_map.1 he
    simp at hv; subst hv; exact .val _
theorem aO.elems {H:View} {u:V} {sz:Nat} {es:List (List V)} (h:aO H u sz es):∃ rd,bG H u=some (es,rd):=by
  rcases h with ⟨rfl,k,rfl⟩ | ⟨n,rfl,hn⟩
  · exact ⟨[],rfl⟩
  · cases es with
    | nil=>exact ⟨[],rfl⟩
    | cons e r =>
      refine ⟨[n],?_⟩
      rw[List.length_cons,lA _ n 0 r.length sz sz _ hn (by simp),List.drop_zero,List.take_of_length_le (by simp)]
theorem b6.step {H H' H1:View} {u u1:V} (h:b6 H H' u) (l:Left H' H1 u u1):b6 H H1 u1:=fun id hid=>by
  have h1:=h id hid
  have h2:=l id (by rw[h1.1]; exact hid) h1.2
  exact ⟨h2.1.trans h1.1,h2.2⟩
theorem b6.put {H H':View} {u:V} {n:Nat} {o:bM} (h:b6 H H' u) (hn:H' n=.dead):b6 H (H'.set n o) u:=fun id hid=>by
  have h1:=h id hid
  have e:id≠n:=by rintro rfl; rw[h1.1] at hn; exact hid hn
  exact ⟨by simp[View.set,e,h1.1],h1.2⟩
theorem b6.call {H H' H2:View} {u r:V} (h:b6 H H' u) (k:b6 H' H2 r):b6 H H2 u:=fun id hid=>by
  have h1:=h id hid
  have h2:=k id (by rw[h1.1]; exact hid)
  exact ⟨h2.1.trans h1.1,h1.2⟩
theorem kV {P:Program} {t:TypeId} {d:TypeDesc} (hu:P.underlying t=some d) (hd:d=.string∨∃ k,d=.int k) (cs:Array Value) (off:Nat) {v:Value} (hv:cs[off]?=some v):bp P (part t cs off)=some v:=by
  have h0:bp P (isAgg t)=some false:=by
    rcases hd with rfl | ⟨k,rfl⟩
    all_goals simp only[isAgg,bh,dO hu,Option.bind_some]; rfl
  simp only[part,bh,h0,Option.bind_some,Bool.false_eq_true,if_false,hv]
  rfl
inductive fw (P:Program) (d:Nat) (xs ys:Array Value):List Field→Bool→Prop
  | nil:fw P d xs ys [] true
  | str (f:Field) (l:List Field) (c:Bool) (a b:ByteArray):(f.name≠ "_")→P.underlying f.type=some .string→xs[f.offset]?=some (.string a)→ys[f.offset]?=some (.string b)→fw P d xs ys l c→fw P d xs ys (f :: l) (a == b && c)
  | int (f:Field) (l:List Field) (c:Bool) (k:IntKind) (a b:Int):(f.name≠ "_")→P.underlying f.type=some (.int k)→xs[f.offset]?=some (.int k a)→ys[f.offset]?=some (.int k b)→fw P d xs ys l c→fw P d xs ys (f :: l) (a == b && c)
theorem fw.forIn {P:Program} {d e:Nat} {xs ys:Array Value} {l:List Field} {c:Bool} (h:fw P d xs ys l c) (hd:e=d+1) :
    bp P (forIn l ((none:Option Bool),()) fun f _ =>
        if f.name≠ "_" then do
          let a ← part f.type xs f.offset
          let b ← part f.type ys f.offset
          let e ← Op.equalIn e f.type a b
          if (!e)=true then pure (ForInStep.done (some false,())) else pure (ForInStep.yield (none,()))
        else pure (ForInStep.yield (none,())))=some (if c=true then (none,()) else (some false,())):=by
  subst hd
  induction h with
  | nil=>rfl
  | str f l c a b hn hu hx hy _ ih =>
    have he:bp P (Op.equalIn (d+1) f.type (.string a) (.string b))=some (a == b):=by
      simp only[Op.equalIn,bh,dO hu,Option.bind_some]; rfl
    rw[List.forIn_cons,bh,if_pos hn,bh,kV hu (.inl rfl) xs _ hx,Option.bind_some,bh,kV hu (.inl rfl) ys _ hy,Option.bind_some,bh,he,Option.bind_some]
    cases a == b with
    | false=>rfl
    | true=>exact ih
  | int f l c k a b hn hu hx hy _ ih =>
    have he:bp P (Op.equalIn (d+1) f.type (.int k a) (.int k b))=some (a == b):=by
      simp only[Op.equalIn,bh,dO hu,Option.bind_some]; rfl
    rw[List.forIn_cons,bh,if_pos hn,bh,kV hu (.inr ⟨k,rfl⟩) xs _ hx,Option.bind_some,bh,kV hu (.inr ⟨k,rfl⟩) ys _ hy,Option.bind_some,bh,he,Option.bind_some]
    cases a == b with
    | false=>rfl
    | true=>exact ih
theorem w6 {P:Program} {t:TypeId} {fs:Array Field} {xs ys:Array Value} {c:Bool} (hu:P.underlying t=some (.struct fs)) (hs:P.stoodInHeld t=false) (h:fw P 9998 xs ys fs.toList c) :
    bp P (Op.equal t (.agg xs) (.agg ys))=some c:=by
  rw[ji]
  rw[Op.equalIn,bh,dO hu,Option.bind_some]
  have hst:(bp P program)=some P:=rfl
  rw[bh,hst,Option.bind_some,hs]
  simp only[← Array.forIn_toList,Bool.false_eq_true,if_false]
  rw[bh,h.forIn (e:=9999) rfl,Option.bind_some]
  cases c <;> rfl
theorem Ay {P:Program} {o:Oper} {T:Env} {op:BinOp} {t u:TypeId} {x y:Operand} {fs:Array Field} {xs ys:Array Value} {c r:Bool} (ho:o.op=.binOp op t x y u) (hu:P.underlying t=some (.struct fs)) (hs:P.stoodInHeld t=false) (hg:P.eqGuardType P.depth t=false)
    (hx:cD (ev T x)=some (.agg xs)) (hy:cD (ev T y)=some (.agg ys)) (h:fw P 9998 xs ys fs.toList c) (hr:(op=.eql∧r=c)∨(op=.neq∧r = !c)) :
    c3 P o T=some (.val (.bool r),.none,[]):=by
  have he:=w6 hu hs h
  have hst:(bp P program)=some P:=rfl
  unfold c3
  simp only[ho,Op.operands,hx,hy]
  rcases hr with ⟨rfl,rfl⟩ | ⟨rfl,rfl⟩
  · simp[execOp,ho,hx,hy,eqGuard,binOp,gC,bh,hst,hg,he,plain]
    try simp[bp,pure,plain]
  · simp[execOp,ho,hx,hy,eqGuard,binOp,gC,bh,hst,hg,he,plain]
    try simp[bp,pure,plain,bne]
theorem jY {P:Program} {T:Env} {H:View} {K:V→View→Prop} {w:cq (T,H,K)} {op:BinOp} {t u ty:TypeId} {x y:Operand} {fs:Array Field} {xs ys:Array Value} {c r:Bool} (hu:P.underlying t=some (.struct fs)) (hs:P.stoodInHeld t=false) (hg:P.eqGuardType P.depth t=false)
    (hx:cD (ev T x)=some (.agg xs)) (hy:cD (ev T y)=some (.agg ys)) (h:fw P 9998 xs ys fs.toList c) (hr:(op=.eql∧r=c)∨(op=.neq∧r = !c)) (hk:K (.val (.bool r)) H):tc P (.binOp op t x y u) ty T H K w:=by
  intro n _
  refine ⟨.val (.bool r),.none,[],?_,hk⟩
  have hn:gO P t=none:=by simp[gO,hu]
  simp only[sI,bO,oper,hn]
  simp only[Option.isSome_none,Bool.false_eq_true,if_false]
  exact Ay rfl hu hs hg hx hy h hr
def u5 (hp:Array Obj) (cs:List Value) (vs:List V):Prop :=
  vs.length=cs.length∧∀ μ i,i < vs.length→ay (fun b=>b < hp.size) μ hp (vs.getD i .any) (cs.getD i undef)
def Wt {H:Type} (P:Program) (t:TypeId) (d:DataW H):Prop:=∀ n∈d.weights P t,n≤reachBytes
def rF (P:Program) (t:TypeId) {α:Type} (f:α→List V) (ok:α→Prop):Prop :=
  ∀ {H:Type} (enc:TypeId × Value→H) (w:World) (base:Nat) (sp:Nat→Bool) (held:Bool) (fuel:Nat) (cs:List Value) (x:DataW H × List MemPlace),
    DataW.trod enc P w base sp held fuel t cs=some x→Wt P t x.1→∃ a,ok a∧u5 w.heap cs (f a)
theorem tl {hp:Array Obj} {c:Value} {v:V} (h:∀ μ,ay (fun b=>b < hp.size) μ hp v c):u5 hp [c] [v]:=by
  refine ⟨rfl,fun μ i hi=>?_⟩
  match i,hi with
  | 0,_=>exact h μ
theorem Nh {P:Program} {t:TypeId} {k:IntKind} (ht:P.underlying t=some (.int k)):rF P t (fun n=>[.val (.int k n)]) (fun n=>(Lit.int k n).wf=true):=by
  intro H enc w base sp held fuel cs x h _
  obtain ⟨n,rfl,_,hw⟩:=DataW.trod_int ht h
  exact ⟨n,hw,tl fun μ=>.val _ rfl⟩
theorem Bb {P:Program} {t:TypeId} (ht:P.underlying t=some .string):rF P t (fun s=>[.val (.string s)]) (fun _=>True):=by
  intro H enc w base sp held fuel cs x h _
  obtain ⟨s,rfl,_,_⟩:=DataW.trod_string ht h
  exact ⟨s,trivial,tl fun μ=>.val _ rfl⟩
theorem Ea {w:World} {base:Nat} {a:Addr} {n:Nat} {cs:List Value} (h:w.cells? base a n=some cs):cs.length=n∧∀ i,i < n→w.cell? (a.add i)=some (cs.getD i undef):=by
  obtain ⟨_,h2,h3⟩:=World.cells?_some h
  refine ⟨h2,fun i hi=>?_⟩
  rw[h3 i hi,List.getD_eq_getElem?_getD,List.getElem?_eq_getElem (by omega)]
  rfl
theorem JO {w:World} {a:Addr} {v:Value} (h:w.cell? a=some v):a.spot=none∧a.block < w.heap.size:=by
  unfold World.cell? at h
  split at h
  · rename_i c _ _ hb
    split at h
    · simp at h
    · rename_i hs
      exact ⟨by simpa using hs,(Array.getElem?_eq_some_iff.1 hb).1⟩
  · simp at h
theorem JM {H:Type} {P:Program} {e:TypeId} : ∀ {l:List (DataW H)},(∀ n∈DataW.weightsAll P e l,n≤reachBytes)→∀ d∈l,Wt P e d
  | [],_,d,hd=>by simp at hd
  | x :: l,h,d,hd=>by
    simp only[DataW.weightsAll,List.mem_append] at h
    rcases List.mem_cons.1 hd with rfl | hd
    · exact fun n hn=>h n (.inl hn)
    · exact JM (fun n hn=>h n (.inr hn)) d hd
theorem Ln {H:Type} {P:Program} {t e:TypeId} {elems spare:List (DataW H)} (ht:P.underlying t=some (.slice e)) (h:Wt P t (.slice elems spare)) :
    (elems.length+spare.length) * P.bytesOf e≤reachBytes∧∀ d∈elems,Wt P e d:=by
  unfold Wt at h
  unfold DataW.weights at h
  rw[ht] at h
  simp only[List.mem_cons,List.mem_append] at h
  exact ⟨h _ (.inl rfl),JM fun n hn=>h n (.inr (.inl hn))⟩
theorem HE {H:Type} {P:Program} {t:TypeId} {fs:Array Field} {parts:List (DataW H)} (ht:P.underlying t=some (.struct fs)) (h:Wt P t (.agg parts)) {j:Nat} {f:Field} {d:DataW H} (hf:fs[j]?=some f) (hd:parts[j]?=some d):Wt P f.type d:=by
  intro n hn
  refine h n ?_
  unfold DataW.weights
  rw[ht]
  exact DataW.weights_mem_each (j:=j) (t:=f.type) (by simp[hf]) hd n hn
theorem F1 {α:Type} {φ:Nat→α→Prop} : ∀ (n:Nat),(∀ i,i < n→∃ a,φ i a)→∃ l:List α,l.length=n∧∀ i (hi:i < l.length),φ i l[i]
  | 0,_=>⟨[],rfl,fun i hi=>by simp at hi⟩
  | n+1,h=>by
    obtain ⟨l,hl,hφ⟩:=F1 n fun i hi=>h i (by omega)
    obtain ⟨a,ha⟩:=h n (by omega)
    refine ⟨l ++ [a],by simp[hl],fun i hi=>?_⟩
    by_cases e:i < l.length
    · rw[List.getElem_append_left e]; exact hφ i e
    · have:i=n:=by simp at hi; omega
      subst this
      rw[List.getElem_append_right (by omega)]
      simp only[hl,Nat.sub_self,List.getElem_cons_zero]; exact ha
theorem py {P:Program} {t e:TypeId} {α:Type} {f:α→List V} {ok:α→Prop} (ht:P.underlying t=some (.slice e)) (hc:0 < P.cellsOf e) (hb:0 < P.bytesOf e) (he:rF P e f ok) :
    rF P t (fun l:List α=>[.aP (l.map f)]) (fun l=>l.length < 4611686018427387904∧∀ a∈l,ok a):=by
  intro H enc w base sp held fuel cs x h hw
  rcases DataW.trod_slice ht h with ⟨rfl,rfl⟩ | ⟨a,len,cap,elems,rest,n,_,rfl,rfl,hba,hl,hm,hlen,hel,_,_⟩
  · exact ⟨[],⟨by simp,by simp⟩,tl fun μ=>.fR none 0 (by simp)⟩
  obtain ⟨hw1,hw2⟩:=Ln ht hw
  simp only[List.length_map] at hw1
  have hlt:len < 4611686018427387904:=by
    have h1:len * 1≤(elems.length+rest.length) * P.bytesOf e:=Nat.mul_le_mul (by omega) hb
    unfold reachBytes at hw1
    omega
  have each:∀ i,i < len→∃ y,ok y∧∃ ci,w.cells? base (a.add (i * P.cellsOf e)) (P.cellsOf e)=some ci∧u5 w.heap ci (f y):=by
    intro i hi
    have h1:=hel i hi
    have h2:elems[i]?=some (elems[i]'(by omega)):=List.getElem?_eq_getElem (by omega)
    have hmem:elems[i]'(by omega)∈elems:=List.getElem_mem _
    rw[h2,Option.bind_eq_some_iff] at h1
    obtain ⟨ci,h3,h4⟩:=h1
    obtain ⟨y,h5,h6⟩:=he enc w base sp held n ci _ h4 (hw2 _ (List.mem_map.2 ⟨_,hmem,rfl⟩))
    exact ⟨y,h5,ci,h3,h6⟩
  obtain ⟨l,hll,hφ⟩:=F1 len each
  subst hll
  refine ⟨l,⟨hlt,fun y hy=>?_⟩,tl fun μ=>?_⟩
  · obtain ⟨i,hi,rfl⟩:=List.getElem_of_mem hy
    exact (hφ i hi).1
  by_cases h0:l=[]
  · subst h0
    exact .fR (some a) cap (by simp)
  have hpos:0 < l.length:=List.length_pos_iff.2 h0
  have hcell:∀ i j,i < l.length→j < P.cellsOf e→∃ c,cellAt w.heap a.block (a.off+i * P.cellsOf e+j)=some c∧a.block < w.heap.size∧(i=0→j=0→a.spot=none)∧∀ (hi:i < l.length),ay (fun b=>b < w.heap.size) μ w.heap ((f l[i]).getD j .any) c:=by
    intro i j hi hj
    obtain ⟨_,ci,h1,h2⟩:=hφ i hi
    obtain ⟨h3,h4⟩:=Ea h1
    have h5:=h4 j hj
    have h6:=JO h5
    have hbk:((a.add (i * P.cellsOf e)).add j).block=a.block:=by simp only[Addr.add]; split <;> split <;> rfl
    have hof:((a.add (i * P.cellsOf e)).add j).off=a.off+i * P.cellsOf e+j:=by
      simp only[Addr.add]; split <;> split <;> simp_all
    refine ⟨ci.getD j undef,?_,by rw[← hbk]; exact h6.2,?_,fun _=>?_⟩
    · rw[← hof,← hbk,← kF]
      rw[← h5]
      congr 1
      generalize (a.add (i * P.cellsOf e)).add j=b at h6
      cases b
      simp at h6 ⊢
      exact h6.1.symm
    · rintro rfl rfl
      simp[Addr.add] at h6
      exact h6.1
    · exact h2.2 μ j (by rw[h2.1,h3]; exact hj)
  obtain ⟨_,_,hz,hs,_⟩:=hcell 0 0 hpos hc
  have ha:a=⟨a.block,a.off,none⟩:=by
    cases a; simp at hs ⊢; exact hs
  have hlf:∀ i,i < l.length→(f (l[i]?.getD (l[0]'hpos))).length=P.cellsOf e:=fun i hi=>by
    obtain ⟨_,ci,h1,h2⟩:=hφ i hi
    rw[List.getElem?_eq_getElem hi,Option.getD_some,h2.1,(Ea h1).1]
  have hgd:∀ i (hi:i < l.length),(l.map f).getD i []=f l[i]:=fun i hi=>by simp[List.getD_eq_getElem?_getD,hi]
  have hcl:(l.map f).length=l.length:=by simp
  have:=ay.aP (Z:=fun b=>b < w.heap.size) (μ:=μ) (hp:=w.heap) (l.map f) a.block a.off (P.cellsOf e) cap (fun i j=>(cellAt w.heap a.block (a.off+i * P.cellsOf e+j)).getD undef) hz (by rw[hcl]; exact hl)
    (fun i hi=>by
      rw[hcl] at hi
      have:=hlf i hi
      rw[List.getElem?_eq_getElem hi,Option.getD_some] at this
      rw[hgd i hi]; exact this)
    (fun i j hi hj=>by
      rw[hcl] at hi
      obtain ⟨c,h1,_⟩:=hcell i j hi hj
      rw[h1]; rfl)
    (fun i j hi hj=>by
      rw[hcl] at hi
      obtain ⟨c,h1,_,_,h2⟩:=hcell i j hi hj
      rw[h1,hgd i hi]; exact h2 hi)
  rw[hcl,← ha] at this
  exact this
theorem qb {P:Program} {t:TypeId} {fs:Array Field} (ht:P.underlying t=some (.struct fs)) (hf:∀ (i:Nat) (f:Field),fs[i]?=some f→f.offset=i∧P.cellsOf f.type=1) (hn:P.cellsOf t=fs.size)
    {H:Type} {enc:TypeId × Value→H} {w:World} {base:Nat} {sp:Nat→Bool} {held:Bool} {fuel:Nat} {cs:List Value} {x:DataW H × List MemPlace} (h:DataW.trod enc P w base sp held fuel t cs=some x) (hw:Wt P t x.1) :
    cs.length=fs.size∧∀ (i:Nat) (f:Field),fs[i]?=some f→∀ {α:Type} {g:α→List V} {ok:α→Prop},rF P f.type g ok→∃ a,ok a∧u5 w.heap [cs.getD i undef] (g a):=by
  obtain ⟨xs,n,rfl,rfl,hl,hlen,hx⟩:=DataW.trod_struct ht h
  refine ⟨by rw[hl,hn],fun i f hi α g ok hr=>?_⟩
  obtain ⟨h1,h2⟩:=hf i f hi
  have hi2:i < fs.size:=(Array.getElem?_eq_some_iff.1 hi).1
  have h3:=hx i f hi
  have h4:xs[i]?=some (xs[i]'(by omega)):=List.getElem?_eq_getElem (by omega)
  rw[h4,h1,h2] at h3
  have h5:(cs.drop i).take 1=[cs.getD i undef]:=by
    rw[List.getD_eq_getElem?_getD,List.getElem?_eq_getElem (by omega),List.drop_eq_getElem_cons (by omega)]
    rfl
  rw[h5] at h3
  exact hr enc w base sp held n _ _ h3 (HE ht hw hi (by simp[h4]))
theorem eA {hp:Array Obj} {c:Value} {cs:List Value} {v:V} {vs:List V} (h:u5 hp [c] [v]) (k:u5 hp cs vs):u5 hp (c :: cs) (v :: vs):=by
  refine ⟨by simp[k.1],fun μ i hi=>?_⟩
  cases i with
  | zero=>exact h.2 μ 0 (by simp)
  | succ i=>exact k.2 μ i (by simpa using hi)
theorem s8 {hp:Array Obj} : u5 hp [] []:=⟨rfl,fun μ i hi=>by simp at hi⟩
theorem LZ {n:Int} (h:(Lit.int .i64 n).wf=true):bB n:=by
  simp only[Lit.wf,Bool.and_eq_true,decide_eq_true_eq] at h
  exact h
theorem iX:rF Tryz.prog 3 (fun n=>[gi n]) bB:=fun enc w base sp held fuel cs x h hw=>by
  obtain ⟨n,h1,h2⟩:=Nh Tryz.underlying3 enc w base sp held fuel cs x h hw
  exact ⟨n,LZ h1,h2⟩
theorem L6:rF Tryz.prog 43 (fun l:List Int=>[encI l]) (fun l=>bc l∧∀ x∈l,bB x) :=
  py Tryz.underlying43 (of_decide_eq_true (by kernel_rfl)) (of_decide_eq_true (by kernel_rfl)) iX
theorem Gp:rF Tryz.prog 23 (fun l:List ByteArray=>[encS l]) (fun l=>bc l∧∀ x∈l,True) :=
  py Tryz.underlying23 (of_decide_eq_true (by kernel_rfl)) (of_decide_eq_true (by kernel_rfl)) (Bb Tryz.underlying9)
theorem NU {cs:List Value} (h:cs.length=3):cs=[cs.getD 0 undef,cs.getD 1 undef,cs.getD 2 undef]:=by
  match cs,h with
  | [a,b,c],_=>rfl
theorem O0 {cs:List Value} (h:cs.length=4):cs=[cs.getD 0 undef,cs.getD 1 undef,cs.getD 2 undef,cs.getD 3 undef]:=by
  match cs,h with
  | [a,b,c,d],_=>rfl
theorem LW:rF Tryz.prog 129 cU (fun t=>bB t.level∧bB t.assoc):=fun enc w base sp held fuel cs x h hw=>by
  obtain ⟨hl,hf⟩:=qb Tryz.underlying129 (by
    intro i f hi
    match i,hi with
    | 0,hi=>simp at hi; subst hi; exact ⟨rfl,by kernel_rfl⟩
    | 1,hi=>simp at hi; subst hi; exact ⟨rfl,by kernel_rfl⟩
    | 2,hi=>simp at hi; subst hi; exact ⟨rfl,by kernel_rfl⟩
    | n+3,hi=>simp at hi) (by kernel_rfl) h hw
  obtain ⟨a,_,h1⟩:=hf 0 _ rfl (Bb Tryz.underlying9)
  obtain ⟨b,h2,h3⟩:=hf 1 _ rfl iX
  obtain ⟨c,h4,h5⟩:=hf 2 _ rfl iX
  refine ⟨⟨a,b,c⟩,⟨h2,h4⟩,?_⟩
  rw[NU hl]
  exact eA h1 (eA h3 (eA h5 s8))
theorem Ml:rF Tryz.prog 71 bo (fun r=>bB r.left∧bB r.prec∧bc r.right∧∀ x∈r.right,bB x):=fun enc w base sp held fuel cs x h hw=>by
  obtain ⟨hl,hf⟩:=qb Tryz.underlying71 (by
    intro i f hi
    match i,hi with
    | 0,hi=>simp at hi; subst hi; exact ⟨rfl,by kernel_rfl⟩
    | 1,hi=>simp at hi; subst hi; exact ⟨rfl,by kernel_rfl⟩
    | 2,hi=>simp at hi; subst hi; exact ⟨rfl,by kernel_rfl⟩
    | n+3,hi=>simp at hi) (by kernel_rfl) h hw
  obtain ⟨a,h0,h1⟩:=hf 0 _ rfl iX
  obtain ⟨b,h2,h3⟩:=hf 1 _ rfl L6
  obtain ⟨c,h4,h5⟩:=hf 2 _ rfl iX
  refine ⟨⟨a,b,c⟩,⟨h0,h4,h2.1,h2.2⟩,?_⟩
  rw[NU hl]
  exact eA h1 (eA h3 (eA h5 s8))
theorem Mv:rF Tryz.prog 26 ax ao.Ok:=fun enc w base sp held fuel cs x h hw=>by
  obtain ⟨hl,hf⟩:=qb Tryz.underlying26 (by
    intro i f hi
    match i,hi with
    | 0,hi=>simp at hi; subst hi; exact ⟨rfl,by kernel_rfl⟩
    | 1,hi=>simp at hi; subst hi; exact ⟨rfl,by kernel_rfl⟩
    | 2,hi=>simp at hi; subst hi; exact ⟨rfl,by kernel_rfl⟩
    | 3,hi=>simp at hi; subst hi; exact ⟨rfl,by kernel_rfl⟩
    | n+4,hi=>simp at hi) (by kernel_rfl) h hw
  obtain ⟨a,h0,h1⟩:=hf 0 _ rfl (py Tryz.underlying22 (of_decide_eq_true (by kernel_rfl)) (of_decide_eq_true (by kernel_rfl)) LW)
  obtain ⟨b,h2,h3⟩:=hf 1 _ rfl Gp
  obtain ⟨c,h4,h5⟩:=hf 2 _ rfl (py Tryz.underlying24 (of_decide_eq_true (by kernel_rfl)) (of_decide_eq_true (by kernel_rfl)) Ml)
  obtain ⟨d,h6,h7⟩:=hf 3 _ rfl iX
  refine ⟨⟨a,b,c,d⟩,⟨h0.1,h2.1,h4.1,h6,h0.2,h4.2⟩,?_⟩
  rw[O0 hl]
  exact eA h1 (eA h3 (eA h5 (eA h7 s8)))
end Gv
