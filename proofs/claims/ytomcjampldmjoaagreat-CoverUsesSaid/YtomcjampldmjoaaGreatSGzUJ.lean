/-
  Part 10 of the proof: what the machine does and what the functions answer.
  Conditions: those that each lemma names.
-/
import Derived.ProofKit
import Derived.SizedLaws
import Derived.Test.YtomcjampldmjoaaGreatSGzUI
set_option linter.unusedSimpArgs false
set_option linter.unusedVariables false
set_option linter.unusedSimpArgs false
set_option maxRecDepth 100000
namespace Gv
open Go Go.Proofs
theorem bL.ff {P:Program} {f:FuncId} {h:aC} (h1:bL P f [.emp 1] h (.emp 1) h) (h2:bL P f [.emp 2] h (.emp 2) h) (h3:bL P f [.de] h (.emp 2) h):bL P f [.aN []] h (.emp 0) h:=by
  refine ⟨Nat.le_refl _,fun Z μ F w xs hrel hr hfree=>?_⟩
  obtain ⟨hl,hv⟩:=hrel
  obtain ⟨x,rfl⟩:∃ x,xs=[x]:=by
    match xs,hl with
    | [x],_=>exact ⟨x,rfl⟩
  have h0:aw Z μ w.heap (.aN []) x:=hv 0 (by simp)
  have one:∀ v,aw Z μ w.heap v x→dG Z μ w.heap [v] [x]:=fun v h=>⟨rfl,fun i hi=>by
    simp at hi; subst hi; exact h⟩
  have weak:∀ k,bL P f [if k=3 then .de else .emp k] h (if k=3 then .emp 2 else .emp k) h→aw Z μ w.heap (if k=3 then .de else .emp k) x→Calls P f [x].toArray w fun e w'=>∃ x Z' μ',e=.returned x∧aw Z' μ' w'.heap (.emp 0) x∧fk Z' μ' w'.heap (cat h F)∧Ext Z μ w h.length Z' μ' w'∧(∀ id,id < h.length∨h.length≤id→μ' id=μ id):=by
    intro k hk hx
    refine (hk.2 Z μ F w [x] (one _ hx) hr hfree).mono ?_
    rintro e w' ⟨y,Z',μ',rfl,hy,rest⟩
    refine ⟨y,Z',μ',rfl,?_,rest⟩
    have:∀ k',aw Z' μ' w'.heap (.emp k') y→aw Z' μ' w'.heap (.emp 0) y:=fun k' h=>by
      cases h with | emp _ a _ _=>exact .emp 0 a (by simp) (by simp)
    split at hy <;> exact this _ hy
  rcases DY h0 with ⟨_,a,cap,rfl,hz⟩ | ⟨b,off,esz,cap,c,rfl,_,_,_⟩
  · cases a with
    | none =>
      have:=hz rfl
      subst this
      exact weak 1 (by simpa using h1) (.emp 1 none (by simp) (by simp))
    | some a =>
      cases cap with
      | zero=>exact weak 2 (by simpa using h2) (.emp 2 (some a) (by simp) (by simp))
      | succ c=>exact weak 3 (by simpa using h3) (.de a (c+1))
  · cases cap with
    | zero=>exact weak 2 (by simpa using h2) (.emp 2 (some ⟨b,off,none⟩) (by simp) (by simp))
    | succ c=>exact weak 3 (by simpa using h3) (.de ⟨b,off,none⟩ (c+1))
def uz (sz:Nat) (es:List (List V)) (H:View) (K:V→View→Prop):Prop :=
  (es=[]→∀ k,K (.emp k) H)∧(es≠[]→∀ n,H n=.dead→K (.sl n 0 es.length sz) (H.set n (.arr sz es)))
def cg:SF:=⟨.seq (ak [((some 2),.op (.bd (.val (.emp 1))))]) <|
  .seq (.seq (ak [aa 3 0,((some 4),.op (.nil true 0 (.tmp 3) (.val (.emp 1))))]) <|
  .cond (.tmp 4) (.seq (ak [((some 2),.op (.bd (.val (.emp 1))))]) <|
  .ret) (.skip)) <|
  .seq (ak [((some 5),.op (.bd (.val (.emp 2)))),aa 6 0,((some 7),.op (.app 1 16 (.tmp 5) (.tmp 6))),aa 2 7]) <|
  .ret,
  [.tmp 2],8⟩
theorem cF:aV Tryz.prog 80 []=some cg:=by kernel_rfl
def c4:SF:=⟨.seq (ak [((some 2),.op (.bd (.val (.emp 1))))]) <|
  .seq (.seq (ak [aa 3 0,((some 4),.op (.nil true 0 (.tmp 3) (.val (.emp 1))))]) <|
  .cond (.tmp 4) (.seq (ak [((some 2),.op (.bd (.val (.emp 1))))]) <|
  .ret) (.skip)) <|
  .seq (ak [((some 5),.op (.bd (.val (.emp 2)))),aa 6 0,((some 7),.op (.app 1 8 (.tmp 5) (.tmp 6))),aa 2 7]) <|
  .ret,
  [.tmp 2],8⟩
theorem dh:aV Tryz.prog 164 []=some c4:=by kernel_rfl
def bX:SF:=⟨.seq (ak [((some 2),.op (.bd (.val (.emp 1))))]) <|
  .seq (.seq (ak [aa 3 0,((some 4),.op (.nil true 0 (.tmp 3) (.val (.emp 1))))]) <|
  .cond (.tmp 4) (.seq (ak [((some 2),.op (.bd (.val (.emp 1))))]) <|
  .ret) (.skip)) <|
  .seq (ak [((some 5),.op (.bd (.val (.emp 2)))),aa 6 0,((some 7),.op (.app 3 32 (.tmp 5) (.tmp 6))),aa 2 7]) <|
  .ret,
  [.tmp 2],8⟩
theorem cd:aV Tryz.prog 162 []=some bX:=by kernel_rfl
theorem aE.tree {P:Program} {f:FuncId} {vs:List V} {t:V} (hv:∀ v∈vs,Tree v) (ht:Tree t) (h:∀ H,aB P f vs H fun r _=>r=t):aE P f vs t :=
  aE.of hv ((h _).mono fun r H' e h' _=>by rw[e]; exact .tree _ ht)
theorem qu {H:View} : bO H .de=some ([],[]):=id rfl
theorem iY {H:View} (sz bytes k:Nat) (K:V→View→Prop) (w:cm (H,K)):k9 sz bytes (.emp k) [] H K w=K (.emp k) H:=propext Iff.rfl
theorem II (l:List ByteArray) (hl:l.length≤100000) (H:View) (K:V→View→Prop) (hk:uz 1 (l.map fun s=>[gs s]) H K):aB Tryz.prog 80 [encS l] H K:=by
  cases l with
  | nil =>
    have hp:∀ v t,Tree v→Tree t→(∀ H,aB Tryz.prog 80 [v] H fun r _=>r=t)→aE Tryz.prog 80 [v] t:=fun v t hv ht h=>aE.tree (by intro x hx; simp at hx; subst hx; exact hv) ht h
    have h1:=hp (.emp 1) (.emp 1) (.emp 1) (.emp 1) (fun H=>by
      refine aB.of mixed cF ?_
      simp (disch:=omega) only [↓wr,↓reduceIte,wq,ah,ag,aj,ab,ae,af,ai,isNil,Nat.reduceEqDiff,Nat.reduceAdd,Nat.reduceLT,Nat.reduceLeDiff,Int.reduceNeg,Int.reduceToNat,reduceCtorEq,cg])
    have h2:=hp (.emp 2) (.emp 2) (.emp 2) (.emp 2) (fun H=>by
      refine aB.of mixed cF ?_
      simp (disch:=omega) only [↓wr,↓reduceIte,wq,ah,ag,aj,ab,ae,af,ai,isNil,Nat.reduceEqDiff,Nat.reduceAdd,Nat.reduceLT,Nat.reduceLeDiff,Int.reduceNeg,Int.reduceToNat,reduceCtorEq,cg,iY,List.isEmpty_nil])
    have h3:=hp .de (.emp 2) .de (.emp 2) (fun H=>by
      refine aB.of mixed cF ?_
      simp (disch:=omega) only [↓wr,↓reduceIte,wq,ah,ag,aj,ab,ae,af,ai,isNil,Nat.reduceEqDiff,Nat.reduceAdd,Nat.reduceLT,Nat.reduceLeDiff,Int.reduceNeg,Int.reduceToNat,reduceCtorEq,cg,qu,iY,List.isEmpty_nil])
    refine ⟨by kernel_rfl,?_⟩
    rintro h rfl
    exact ⟨.emp 0,h,bL.ff (bL.fw h1 h) (bL.fw h2 h) (bL.fw h3 h),.refl _,hk.1 rfl 0⟩
  | cons x r =>
    refine aB.of mixed cF ?_
    simp only[List.length_cons] at hl
    simp (disch:=omega) only [↓wr,↓reduceIte,wq,ah,ag,aj,ab,ae,af,ai,isNil,Nat.reduceEqDiff,Nat.reduceAdd,Nat.reduceLT,Nat.reduceLeDiff,Int.reduceNeg,Int.reduceToNat,reduceCtorEq,cg,encS]
    refine ⟨?_,?_,?_⟩
    · simp[List.all_map,encS,aM]
    · unfold aL; simp; omega
    · intro n hn
      have:=hk.2 (by simp) n hn
      simp (disch:=omega) only [↓wr,↓reduceIte,wq,ah,ag,aj,ab,ae,af,ai,isNil,Nat.reduceEqDiff,Nat.reduceAdd,Nat.reduceLT,Nat.reduceLeDiff,Int.reduceNeg,Int.reduceToNat,reduceCtorEq]
      simpa [cz] using this
theorem Ip (l:List Int) (hl:l.length≤100000) (H:View) (K:V→View→Prop) (hk:uz 1 (l.map fun s=>[gi s]) H K):aB Tryz.prog 164 [encI l] H K:=by
  cases l with
  | nil =>
    have hp:∀ v t,Tree v→Tree t→(∀ H,aB Tryz.prog 164 [v] H fun r _=>r=t)→aE Tryz.prog 164 [v] t:=fun v t hv ht h=>aE.tree (by intro x hx; simp at hx; subst hx; exact hv) ht h
    have h1:=hp (.emp 1) (.emp 1) (.emp 1) (.emp 1) (fun H=>by
      refine aB.of mixed dh ?_
      simp (disch:=omega) only [↓wr,↓reduceIte,wq,ah,ag,aj,ab,ae,af,ai,isNil,Nat.reduceEqDiff,Nat.reduceAdd,Nat.reduceLT,Nat.reduceLeDiff,Int.reduceNeg,Int.reduceToNat,reduceCtorEq,c4])
    have h2:=hp (.emp 2) (.emp 2) (.emp 2) (.emp 2) (fun H=>by
      refine aB.of mixed dh ?_
      simp (disch:=omega) only [↓wr,↓reduceIte,wq,ah,ag,aj,ab,ae,af,ai,isNil,Nat.reduceEqDiff,Nat.reduceAdd,Nat.reduceLT,Nat.reduceLeDiff,Int.reduceNeg,Int.reduceToNat,reduceCtorEq,c4,iY,List.isEmpty_nil])
    have h3:=hp .de (.emp 2) .de (.emp 2) (fun H=>by
      refine aB.of mixed dh ?_
      simp (disch:=omega) only [↓wr,↓reduceIte,wq,ah,ag,aj,ab,ae,af,ai,isNil,Nat.reduceEqDiff,Nat.reduceAdd,Nat.reduceLT,Nat.reduceLeDiff,Int.reduceNeg,Int.reduceToNat,reduceCtorEq,c4,qu,iY,List.isEmpty_nil])
    refine ⟨by kernel_rfl,?_⟩
    rintro h rfl
    exact ⟨.emp 0,h,bL.ff (bL.fw h1 h) (bL.fw h2 h) (bL.fw h3 h),.refl _,hk.1 rfl 0⟩
  | cons x r =>
    refine aB.of mixed dh ?_
    simp only[List.length_cons] at hl
    simp (disch:=omega) only [↓wr,↓reduceIte,wq,ah,ag,aj,ab,ae,af,ai,isNil,Nat.reduceEqDiff,Nat.reduceAdd,Nat.reduceLT,Nat.reduceLeDiff,Int.reduceNeg,Int.reduceToNat,reduceCtorEq,c4,encI]
    refine ⟨?_,?_,?_⟩
    · simp[List.all_map,encI,aM]
    · unfold aL; simp; omega
    · intro n hn
      have:=hk.2 (by simp) n hn
      simp (disch:=omega) only [↓wr,↓reduceIte,wq,ah,ag,aj,ab,ae,af,ai,isNil,Nat.reduceEqDiff,Nat.reduceAdd,Nat.reduceLT,Nat.reduceLeDiff,Int.reduceNeg,Int.reduceToNat,reduceCtorEq]
      simpa [cz] using this
theorem G4 (l:List Term) (hl:l.length≤100000) (H:View) (K:V→View→Prop) (hk:uz 3 (l.map cz) H K):aB Tryz.prog 162 [c9 l] H K:=by
  cases l with
  | nil =>
    have hp:∀ v t,Tree v→Tree t→(∀ H,aB Tryz.prog 162 [v] H fun r _=>r=t)→aE Tryz.prog 162 [v] t:=fun v t hv ht h=>aE.tree (by intro x hx; simp at hx; subst hx; exact hv) ht h
    have h1:=hp (.emp 1) (.emp 1) (.emp 1) (.emp 1) (fun H=>by
      refine aB.of mixed cd ?_
      simp (disch:=omega) only [↓wr,↓reduceIte,wq,ah,ag,aj,ab,ae,af,ai,isNil,Nat.reduceEqDiff,Nat.reduceAdd,Nat.reduceLT,Nat.reduceLeDiff,Int.reduceNeg,Int.reduceToNat,reduceCtorEq,bX])
    have h2:=hp (.emp 2) (.emp 2) (.emp 2) (.emp 2) (fun H=>by
      refine aB.of mixed cd ?_
      simp (disch:=omega) only [↓wr,↓reduceIte,wq,ah,ag,aj,ab,ae,af,ai,isNil,Nat.reduceEqDiff,Nat.reduceAdd,Nat.reduceLT,Nat.reduceLeDiff,Int.reduceNeg,Int.reduceToNat,reduceCtorEq,bX,iY,List.isEmpty_nil])
    have h3:=hp .de (.emp 2) .de (.emp 2) (fun H=>by
      refine aB.of mixed cd ?_
      simp (disch:=omega) only [↓wr,↓reduceIte,wq,ah,ag,aj,ab,ae,af,ai,isNil,Nat.reduceEqDiff,Nat.reduceAdd,Nat.reduceLT,Nat.reduceLeDiff,Int.reduceNeg,Int.reduceToNat,reduceCtorEq,bX,qu,iY,List.isEmpty_nil])
    refine ⟨by kernel_rfl,?_⟩
    rintro h rfl
    exact ⟨.emp 0,h,bL.ff (bL.fw h1 h) (bL.fw h2 h) (bL.fw h3 h),.refl _,hk.1 rfl 0⟩
  | cons x r =>
    refine aB.of mixed cd ?_
    simp only[List.length_cons] at hl
    simp (disch:=omega) only [↓wr,↓reduceIte,wq,ah,ag,aj,ab,ae,af,ai,isNil,Nat.reduceEqDiff,Nat.reduceAdd,Nat.reduceLT,Nat.reduceLeDiff,Int.reduceNeg,Int.reduceToNat,reduceCtorEq,bX,c9,cz]
    refine ⟨?_,?_,?_⟩
    · simp[List.all_map,c9,cz,aM]
    · unfold aL; simp; omega
    · intro n hn
      have:=hk.2 (by simp) n hn
      simp (disch:=omega) only [↓wr,↓reduceIte,wq,ah,ag,aj,ab,ae,af,ai,isNil,Nat.reduceEqDiff,Nat.reduceAdd,Nat.reduceLT,Nat.reduceLeDiff,Int.reduceNeg,Int.reduceToNat,reduceCtorEq]
      simpa [cz] using this
theorem uz.own {sz:Nat} {es:List (List V)} {H:View} : uz sz es H fun r H'=>aO H' r sz es∧c6 H H' r :=
  ⟨fun he k=>⟨by rw[he]; exact .nil,.emp⟩,fun _ n hn=>⟨.new,.new hn⟩⟩
theorem Hi (l:List ByteArray) (hl:l.length≤100000) (H:View):aB Tryz.prog 80 [encS l] H fun r H'=>aO H' r 1 (l.map fun s=>[gs s])∧c6 H H' r:=II l hl H _ .own
theorem Hf (l:List Int) (hl:l.length≤100000) (H:View):aB Tryz.prog 164 [encI l] H fun r H'=>aO H' r 1 (l.map fun s=>[gi s])∧c6 H H' r:=Ip l hl H _ .own
theorem GO (l:List Term) (hl:l.length≤100000) (H:View):aB Tryz.prog 162 [c9 l] H fun r H'=>aO H' r 3 (l.map cz)∧c6 H H' r:=G4 l hl H _ .own
end Gv
set_option linter.unusedSimpArgs false
set_option maxRecDepth 100000
namespace Gv
open Go Go.Proofs
def jF (g:al):List aJ→Int→Bool
  | [],next=>next == g.ax.length
  | r :: l,next=>decide (0≤r.left) && decide (r.left≤next) && fp g r && jF g l (if r.left+1 > next then r.left+1 else next)
def oF (g:al):List ByteArray:=g.ax ++ g.ay.map Term.name
def nb (g:al):Bool :=
  o8 g.ay && (decide ((1:Int)≤g.ax.length) && decide ((g.ax.length:Int)≤16)) && (decide ((1:Int)≤g.rules.length) && decide ((g.rules.length:Int)≤40)) && decide (names (oF g)).Nodup && (decide (0≤g.start) && decide (g.start≤(g.ax.length:Int) - 1)) &&
    !(g.ax.any fun s=>!ec (dI s)) && jF g g.rules 0
theorem B5 {l:List ByteArray} : ∀ e∈(l.map fun s=>[gs s]),∀ v∈e,Tree v:=by
  intro e he v hv
  obtain ⟨a,_,rfl⟩:=List.mem_map.1 he
  rw[List.mem_singleton] at hv
  subst hv
  exact .val _
set_option maxHeartbeats 4000000 in
theorem H8 (g:al) (hg:g.Ok) (hs:g.ax.length+g.ay.length≤1000) (H:View):aB Tryz.prog 45 [.agg (av g)] H fun r _=>r=gb (nb g):=by
  refine aB.of mixed zk ?_
  have hn:=hg.ax
  have ht:=hg.ay
  have hr:=hg.rules
  unfold aH at hn ht hr
  simp (disch:=omega) only [↓wr,↓reduceIte,wq,ah,ag,aj,ab,ae,af,ai,isNil,Nat.reduceEqDiff,Nat.reduceAdd,Nat.reduceLT,Nat.reduceLeDiff,Int.reduceNeg,Int.reduceToNat,reduceCtorEq,vF,av,encS]
  refine aF.gH ((Hi g.ax (by omega) H).mono ?_)
  rintro u H1 ⟨hu,hf⟩
  simp (disch:=omega) only [↓wr,↓reduceIte,wq,ah,ag,aj,ab,ae,af,ai,isNil,Nat.reduceEqDiff,Nat.reduceAdd,Nat.reduceLT,Nat.reduceLeDiff,Int.reduceNeg,Int.reduceToNat,reduceCtorEq,av,encS]
  refine bw.up g.ay.length (fun i T H=>T 1=.aR (av g) 0∧(∃ u,T 3=u∧aO H u 1 ((g.ax ++ (g.ay.take i).map Term.name).map fun s=>[gs s]))∧T 13=c9 g.ay∧T 14=gi g.ay.length∧T 15=gi i) ?_ ?_
  · exact ⟨rfl,⟨u,rfl,by simpa using hu⟩,rfl,rfl,rfl⟩
  rintro i k T H' hk ⟨h1,⟨u,h3,hu⟩,h13,h14,h15⟩
  simp (disch:=omega) only [↓wr,↓reduceIte,wq,ah,ag,aj,ab,ae,af,ai,isNil,Nat.reduceEqDiff,Nat.reduceAdd,Nat.reduceLT,Nat.reduceLeDiff,Int.reduceNeg,Int.reduceToNat,reduceCtorEq,tg,h1,h13,h14,h15,c9]
  refine an.dec (fun hc=>?_) (fun hc=>?_)
  · have hg2:g.ay[i]?=some (g.ay[i]'(by omega)):=List.getElem?_eq_getElem (by omega)
    have htk:(g.ay.take (i+1)).map Term.name=(g.ay.take i).map Term.name ++ [(g.ay[i]'(by omega)).name]:=by
      rw[List.take_add_one,hg2,List.map_append]; rfl
    generalize g.ay[i]'(by omega)=t at hg2 htk
    simp (disch:=omega) only [↓wr,↓reduceIte,wq,ah,ag,aj,ab,ae,af,ai,isNil,Nat.reduceEqDiff,Nat.reduceAdd,Nat.reduceLT,Nat.reduceLeDiff,Int.reduceNeg,Int.reduceToNat,reduceCtorEq,h1,h3,h13,h14,h15,c9,cz,List.getElem?_map,hg2]
    intro b hb
    try simp (disch:=omega) only [↓wr,↓reduceIte,wq,ah,ag,aj,ab,ae,af,ai,isNil,Nat.reduceEqDiff,Nat.reduceAdd,Nat.reduceLT,Nat.reduceLeDiff,Int.reduceNeg,Int.reduceToNat,reduceCtorEq,h1,h3,h13,h14,h15,set_set]
    intro m hm
    have hmb:=(dk hm dr).1
    have hm:=(dk (dk hm dr).2 dr).2
    try simp (disch:=omega) only [↓wr,↓reduceIte,wq,ah,ag,aj,ab,ae,af,ai,isNil,Nat.reduceEqDiff,Nat.reduceAdd,Nat.reduceLT,Nat.reduceLeDiff,Int.reduceNeg,Int.reduceToNat,reduceCtorEq,h1,h3,h13,h14,h15,dg]
    have hl:((g.ax ++ (g.ay.take i).map Term.name).map fun s=>[gs s]).length≤1000:=by simp; omega
    refine pk (((hu.fresh hb).other (hu.ne hb)).fresh (by simp[View.set,hm,hmb])) (by simp) (by simp[aM]) (by unfold aL; simp at hl ⊢; omega) (by unfold aL; simp at hl ⊢; omega) ?_
    intro u' H2 hu' _
    simp (disch:=omega) only [↓wr,↓reduceIte,wq,ah,ag,aj,ab,ae,af,ai,isNil,Nat.reduceEqDiff,Nat.reduceAdd,Nat.reduceLT,Nat.reduceLeDiff,Int.reduceNeg,Int.reduceToNat,reduceCtorEq,h1,h3,h13,h14,h15]
    refine aT hk (by omega) ⟨h1,⟨u',rfl,?_⟩,h13,h14,rfl⟩
    rw[htk]
    simpa using hu'
  · rw[List.take_of_length_le (by omega)] at hu
    have hal:H'=H':=rfl
    have hall:(oF g).length≤1000:=by simp[oF]; omega
    repeat' (first | (refine an.dec (fun _=>?_) (fun _=>?_)) | (refine an.eq (fun _=>?_) (fun _=>?_)) | (refine an.ne (fun _=>?_) (fun _=>?_)) | (refine an.split (fun _=>?_) (fun _=>?_)) | (refine aF.pure (GD g.ay hg.ay) (by kernel_rfl) ?_) | (refine aF.pure (nY _ _ _) (by kernel_rfl) ?_) | (refine aF.MO (Jq (oF g) hall) (by kernel_rfl) (.val _) ⟨dt.own hu B5,trivial⟩ ?_) | (simp (disch:=omega) only [↓wr,↓reduceIte,wq,ah,ag,aj,ab,ae,af,ai,isNil,Nat.reduceEqDiff,Nat.reduceAdd,Nat.reduceLT,Nat.reduceLeDiff,Int.reduceNeg,Int.reduceToNat,reduceCtorEq,h1,h3,h13,h14,h15,av,encS]))
    all_goals try (simp[nb, *]; done)
    rename_i e1 e2 e3 e4 e5
    refine aF.pure (wO g.ax hg.ax 85 [] (by simp) (fun s=>!ec (dI s)) (fun x _=>F0 x) (by kernel_rfl)) (by kernel_rfl) ?_
    repeat' (first | (refine an.dec (fun _=>?_) (fun _=>?_)) | (refine an.eq (fun _=>?_) (fun _=>?_)) | (refine an.ne (fun _=>?_) (fun _=>?_)) | (refine an.split (fun _=>?_) (fun _=>?_)) | (simp (disch:=omega) only [↓wr,↓reduceIte,wq,ah,ag,aj,ab,ae,af,ai,isNil,Nat.reduceEqDiff,Nat.reduceAdd,Nat.reduceLT,Nat.reduceLeDiff,Int.reduceNeg,Int.reduceToNat,reduceCtorEq,h1,h3,h13,h14,h15,av,encS]))
    all_goals try (simp[nb, *]; done)
    rename_i e6
    have hle:g.rules.length≤40:=by simp at e3; omega
    have hpre:∀ b,jF g g.rules 0=b→gb b=gb (nb g):=fun b e=>by
      simp only[nb,e1,e2,e3,e4,e5,e6,e,decide_true,Bool.true_and,Bool.not_false]
    refine bw.up g.rules.length (fun i T _=>∃ w:Int,0≤w∧w≤i∧jF g (g.rules.drop i) w=jF g g.rules 0∧T 1=.aR (av g) 0∧T 6=gi w∧T 62=.aN (g.rules.map bf)∧T 63=gi g.rules.length∧T 64=gi i) ?_ ?_
    · exact ⟨0,by omega,by omega,rfl,h1,rfl,rfl,rfl,rfl⟩
    rintro i k T H' hk ⟨w,hw1,hw2,hi,h1,h6,h62,h63,h64⟩
    simp (disch:=omega) only [↓wr,↓reduceIte,wq,ah,ag,aj,ab,ae,af,ai,isNil,Nat.reduceEqDiff,Nat.reduceAdd,Nat.reduceLT,Nat.reduceLeDiff,Int.reduceNeg,Int.reduceToNat,reduceCtorEq,s8,h1,h6,h62,h63,h64,av]
    refine an.dec (fun hc=>?_) (fun hc=>?_)
    · have hg2:g.rules[i]?=some (g.rules[i]'(by omega)):=List.getElem?_eq_getElem (by omega)
      rw[dC (show i < g.rules.length by omega)] at hi
      have hmem:g.rules[i]'(by omega)∈g.rules:=List.getElem_mem _
      generalize g.rules[i]'(by omega)=t at hg2 hi hmem
      obtain ⟨⟨hl1,hl2⟩,hp,hr1,hr2⟩:=hg.bb t hmem
      simp only[jF] at hi
      simp (disch:=omega) only [↓wr,↓reduceIte,wq,ah,ag,aj,ab,ae,af,ai,isNil,Nat.reduceEqDiff,Nat.reduceAdd,Nat.reduceLT,Nat.reduceLeDiff,Int.reduceNeg,Int.reduceToNat,reduceCtorEq,h1,h6,h62,h63,h64,bf,encI,List.getElem?_map,hg2]
      intro b hb
      repeat' (first | (refine an.dec (fun _=>?_) (fun _=>?_)) | (refine an.eq (fun _=>?_) (fun _=>?_)) | (refine an.ne (fun _=>?_) (fun _=>?_)) | (refine an.split (fun _=>?_) (fun _=>?_)) | (refine aF.pure (nY _ _ _) (by kernel_rfl) ?_) | (refine aF.pure (I7 g t hg ⟨hr1,hr2⟩) (by kernel_rfl) ?_) | (simp (disch:=omega) only [↓wr,↓reduceIte,wq,ah,ag,aj,ab,ae,af,ai,isNil,Nat.reduceEqDiff,Nat.reduceAdd,Nat.reduceLT,Nat.reduceLeDiff,Int.reduceNeg,Int.reduceToNat,reduceCtorEq,h1,h6,h62,h63,h64,av,bf,encI,encS,set_set]))
      · rename_i e7 e8
        have e7':0≤t.left∧t.left≤w:=by simpa using e7
        rw[e7,e8,Bool.true_and,Bool.true_and] at hi
        have hw:IntKind.wrap .i64 (t.left+1)=t.left+1:=wrap64 (by omega) (by omega)
        refine aT hk (by omega) ⟨_,by split <;> omega,by split <;> (push_cast; omega),hi,h1,?_,h62,h63,rfl⟩
        show gi (if IntKind.wrap .i64 (t.left+1) > w then IntKind.wrap .i64 (t.left+1) else w)=_
        rw[hw]
      · rename_i e7 e8
        rw[e8,Bool.and_false,Bool.false_and] at hi
        exact hpre _ hi.symm
      · rename_i e7
        rw[e7,Bool.false_and,Bool.false_and] at hi
        exact hpre _ hi.symm
    · rw[List.drop_eq_nil_of_le (by omega)] at hi
      simp only[jF] at hi
      simp (disch:=omega) only [↓wr,↓reduceIte,wq,ah,ag,aj,ab,ae,af,ai,isNil,Nat.reduceEqDiff,Nat.reduceAdd,Nat.reduceLT,Nat.reduceLeDiff,Int.reduceNeg,Int.reduceToNat,reduceCtorEq,h1,h6,h62,h63,h64,av,encS]
      exact hpre _ hi.symm
theorem Fi (g:al) (hg:g.Ok) (hs:g.ax.length+g.ay.length≤1000):aE Tryz.prog 45 [.agg (av g)] (gb (nb g)):=aE.val (gn g) (H8 g hg hs)
theorem CP (g:al):∀ (l:List aJ) (next:Int),jF g l next=eO g l (next - 1)
  | [],next=>by
    simp only[jF,eO]
    rw[Bool.eq_iff_iff]; simp
  | r :: l,next=>by
    simp only[jF,eO,CP g l]
    have e1:(if r.left+1 > next then r.left+1 else next) - 1=if r.left > next - 1 then r.left else next - 1:=by
      split <;> split <;> omega
    have e2:next - 1+1=next:=by omega
    rw[e1,e2]
theorem uf (s:ByteArray):∀ (l:List ByteArray) (i:Int),0≤i→(kz s l i < 0∧s ∉ l)∨∃ k:Nat,kz s l i=i+k∧l[k]?=some s∧∀ j < k,l[j]?≠some s
  | [],i,h=>.inl ⟨by simp[kz],by simp⟩
  | x :: l,i,h=>by
    have hx:fE x s=true↔x=s:=by
      unfold fE
      rw[beq_iff_eq]
      constructor
      · intro e; cases x; cases s; simp at e; simp[e]
      · rintro rfl; rfl
    simp only[kz]
    by_cases e:x=s
    · rw[if_pos (hx.2 e)]
      exact .inr ⟨0,by simp,by simp[e],by simp⟩
    · rw[if_neg (fun h=>e (hx.1 h))]
      rcases uf s l (i+1) (by omega) with ⟨h1,h2⟩ | ⟨k,h1,h2,h3⟩
      · exact .inl ⟨h1,by simp[h2,Ne.symm e]⟩
      · refine .inr ⟨k+1,by rw[h1]; push_cast; omega,by simpa using h2,fun j hj=>?_⟩
        cases j with
        | zero=>simp[e]
        | succ j=>simpa using h3 j (by omega)
theorem p7 (l:List ByteArray):(∀ (k:Nat) (s:ByteArray),l[k]?=some s→kz s l 0=k)↔l.Nodup:=by
  constructor
  · intro h
    rw[List.nodup_iff_pairwise_ne,List.pairwise_iff_getElem]
    intro i j hi hj hij e
    have h1:=h i l[i] (by simp[hi])
    have h2:=h j l[j] (by simp[hj])
    rw[e] at h1
    omega
  · intro hn k s hk
    rcases uf s l 0 (by omega) with ⟨_,h2⟩ | ⟨j,h1,h2,h3⟩
    · exact absurd (List.mem_of_getElem? hk) h2
    · have hj:j < l.length:=by
        rcases Nat.lt_or_ge j l.length with h | h
        · exact h
        · simp[List.getElem?_eq_none h] at h2
      have hk':k < l.length:=by
        rcases Nat.lt_or_ge k l.length with h | h
        · exact h
        · simp[List.getElem?_eq_none h] at hk
      have:j=k:=(List.getElem_inj hn).1 (by
        rw[List.getElem?_eq_getElem hj] at h2; rw[List.getElem?_eq_getElem hk'] at hk
        simp at h2 hk; rw[h2,hk])
      rw[h1,this]; simp
theorem bytes_inj {a b:ByteArray} : a.data.toList=b.data.toList↔a=b:=by
  constructor
  · intro h; cases a; cases b; simp at h; simp[h]
  · rintro rfl; rfl
theorem GM {l:List ByteArray} : (names l).Nodup↔l.Nodup:=by
  unfold names
  rw[List.nodup_iff_pairwise_ne,List.pairwise_map,List.nodup_iff_pairwise_ne]
  constructor
  · exact fun h=>h.imp fun h e=>h (bytes_inj.2 e)
  · exact fun h=>h.imp fun h e=>h (bytes_inj.1 e)
end Gv
set_option linter.unusedSimpArgs false
namespace Gv
open Go Go.Proofs
theorem mT {α:Type} [BEq α] [LawfulBEq α]:∀ (l m:List α),l.Nodup→(∀ x∈l,x∈m)→l.length≤m.length
  | [],m,_,_=>by simp
  | x :: l,m,hn,hs=>by
    rw[List.nodup_cons] at hn
    have hx:x∈m:=hs x (by simp)
    have:=mT l (m.erase x) hn.2 (fun y hy=>by
      have hne:y≠x:=by rintro rfl; exact hn.1 hy
      exact (List.mem_erase_of_ne hne).2 (hs y (by simp[hy])))
    rw[List.length_erase_of_mem hx] at this
    have:0 < m.length:=List.length_pos_of_mem hx
    simp only[List.length_cons]
    omega
def jC (n:Nat):List Int:=(List.range n).map fun (k:Nat)=>(k:Int)+1
theorem sN {n:Nat} {x:Int} : x∈jC n↔1≤x∧x≤n:=by
  simp only[jC,List.mem_map,List.mem_range]
  constructor
  · rintro ⟨k,hk,rfl⟩; omega
  · rintro ⟨h1,h2⟩; exact ⟨(x - 1).toNat,by omega,by omega⟩
theorem Bm (n:Nat):(jC n).Nodup:=by
  rw[jC,List.nodup_iff_pairwise_ne,List.pairwise_map]
  exact (List.nodup_range (n:=n)).imp fun h e=>h (by omega)
theorem KX {l:List Int} {n:Nat} (hn:l.Nodup) (hs:∀ x∈l,1≤x∧x≤n) (hl:l.length=n) {x:Int} (h1:1≤x) (h2:x≤n):x∈l:=by
  refine Classical.byContradiction fun hx=>?_
  have:=mT (x :: l) (jC n) (List.nodup_cons.2 ⟨hx,hn⟩) (fun y hy=>by
    rw[sN]
    rcases List.mem_cons.1 hy with rfl | hy
    · exact ⟨h1,h2⟩
    · exact hs y hy)
  simp[jC] at this
  omega
theorem sE (n:Int):∀ (l:List Term) (w:Int),w≠0→gq n l w=if (∀ t∈l,t.level=n→t.assoc=w) then some w else none
  | [],w,_=>by simp[gq]
  | t :: r,w,hw=>by
    simp only[gq]
    by_cases ht:t.level=n
    · rw[if_pos ht]
      by_cases ha:w=t.assoc
      · rw[if_neg (by simp[ha]),← ha,sE n r w hw]
        congr 1
        simp[ht,ha]
      · rw[if_pos ⟨hw,ha⟩,if_neg (fun h=>ha (h t (by simp) ht).symm)]
    · rw[if_neg ht,sE n r w hw]
      congr 1
      simp[ht]
theorem yf (n:Int):∀ (l:List Term),(∀ t∈l,t.level=n→t.assoc≠0)→(eP l n=true↔∃ a,(∃ t∈l,t.level=n)∧∀ t∈l,t.level=n→t.assoc=a)
  | [],_=>by simp[eP,gq]
  | t :: r,h=>by
    by_cases ht:t.level=n
    · have ha:=h t (by simp) ht
      have e:eP (t :: r) n=match (if (∀ u∈r,u.level=n→u.assoc=t.assoc) then some t.assoc else none) with | some w=>w != 0 | none=>false:=by
        simp only[eP,gq]
        rw[if_pos ht,if_neg (by simp),sE n r _ ha]
        rfl
      rw[e]
      by_cases hr:∀ u∈r,u.level=n→u.assoc=t.assoc
      · rw[if_pos hr]
        simp only[bne_iff_ne,ne_eq,ha,not_false_eq_true,true_iff]
        refine ⟨t.assoc,⟨t,by simp,ht⟩,fun u hu hl=>?_⟩
        rcases List.mem_cons.1 hu with rfl | hu
        · rfl
        · exact hr u hu hl
      · rw[if_neg hr]
        simp only[Bool.false_eq_true,false_iff]
        rintro ⟨a,_,h2⟩
        exact hr fun u hu hl=>(h2 u (by simp[hu]) hl).trans (h2 t (by simp) ht).symm
    · have ih:=yf n r (fun u hu=>h u (by simp[hu]))
      have e:eP (t :: r) n=eP r n:=by
        simp only[eP,gq,if_neg ht]
      rw[e,ih]
      constructor
      · rintro ⟨a,⟨u,hu,hl⟩,h2⟩
        refine ⟨a,⟨u,by simp[hu],hl⟩,fun v hv hl=>?_⟩
        rcases List.mem_cons.1 hv with rfl | hv
        · exact absurd hl ht
        · exact h2 v hv hl
      · rintro ⟨a,⟨u,hu,hl⟩,h2⟩
        rcases List.mem_cons.1 hu with rfl | hu
        · exact absurd hl ht
        · exact ⟨a,⟨u,hu,hl⟩,fun v hv=>h2 v (by simp[hv])⟩
def rD (l:List Term):Prop:=∀ t∈l,∀ u∈l,t.level=u.level→t.level≠0→t.assoc=u.assoc
theorem CY {κ β:Type} [BEq κ] [LawfulBEq κ] {k:κ} {v:β} : ∀ {a:List (κ × β)},(a.map (·.1)).Nodup→((hO k v a).map (·.1)).Nodup∧∀ x,x∈(hO k v a).map (·.1)↔x=k∨x∈a.map (·.1)
  | [],_=>by simp[hO]
  | y :: a,h=>by
    simp only[List.map_cons,List.nodup_cons] at h
    obtain ⟨h1,h2⟩:=CY (k:=k) (v:=v) h.2
    simp only[hO]
    by_cases e:k=y.1
    · simp only[e,beq_self_eq_true,if_true,List.map_cons,List.nodup_cons]
      refine ⟨h,fun x=>by simp[e]⟩
    · have:(k == y.1)=false:=by simp[e]
      rw[this]
      simp only[Bool.false_eq_true,if_false,List.map_cons,List.nodup_cons,List.mem_cons]
      refine ⟨⟨fun hm=>?_,h1⟩,fun x=>?_⟩
      · rcases (h2 _).1 hm with e' | hm
        · exact e e'.symm
        · exact h.1 hm
      · rw[h2]
        constructor
        · rintro (h | h | h) <;> simp[h]
        · rintro (h | h | h) <;> simp[h]
theorem uX:∀ (l:List Term) (a:List (Int × Int)) (top:Int),(∀ t∈l,t.level≠0→t.assoc≠0)→(∀ n v,c3 a n=some v→v≠0)→(a.map (·.1)).Nodup →
    match jS l a top with
    | some (a',top')=>rD l∧(∀ t∈l,∀ v,t.level≠0→c3 a t.level=some v→t.assoc=v)∧(a'.map (·.1)).Nodup∧(∀ n,n∈a'.map (·.1)↔n∈a.map (·.1)∨(n≠0∧∃ t∈l,t.level=n)) ∧
        top≤top'∧(∀ t∈l,t.level≠0→t.level≤top')∧(top'=top∨∃ t∈l,t.level=top'∧t.level≠0)
    | none=>¬ (rD l∧∀ t∈l,∀ v,t.level≠0→c3 a t.level=some v→t.assoc=v)
  | [],a,top,_,_,hn=>by
    simp only[jS]
    exact ⟨fun t ht=>by simp at ht,fun t ht=>by simp at ht,hn,fun n=>by simp,by omega,fun t ht=>by simp at ht,by simp⟩
  | t :: r,a,top,h0,hv,hn=>by
    have h0r:∀ u∈r,u.level≠0→u.assoc≠0:=fun u hu=>h0 u (by simp[hu])
    simp only[jS]
    by_cases ht:t.level=0
    · rw[if_pos ht]
      have ih:=uX r a top h0r hv hn
      have one:rD (t :: r)↔rD r:=by
        constructor
        · exact fun h u hu w hw=>h u (by simp[hu]) w (by simp[hw])
        · intro h u hu w hw e hz
          rcases List.mem_cons.1 hu with rfl | hu
          · exact absurd ht hz
          · rcases List.mem_cons.1 hw with rfl | hw
            · exact absurd (e.trans ht) hz
            · exact h u hu w hw e hz
      have con:(∀ u∈t :: r,∀ v,u.level≠0→c3 a u.level=some v→u.assoc=v)↔∀ u∈r,∀ v,u.level≠0→c3 a u.level=some v→u.assoc=v:=by
        simp[ht]
      have mem:∀ n,(n≠0∧∃ u∈t :: r,u.level=n)↔(n≠0∧∃ u∈r,u.level=n):=fun n=>by
        constructor
        · rintro ⟨h1,u,hu,rfl⟩
          rcases List.mem_cons.1 hu with rfl | hu
          · exact absurd ht h1
          · exact ⟨h1,u,hu,rfl⟩
        · rintro ⟨h1,u,hu,rfl⟩; exact ⟨h1,u,by simp[hu],rfl⟩
      cases hs:jS r a top with
      | none=>rw[hs] at ih; rw[one,con]; exact ih
      | some x =>
        obtain ⟨a',top'⟩:=x
        rw[hs] at ih
        obtain ⟨i1,i2,i3,i4,i5,i6,i7⟩:=ih
        refine ⟨one.2 i1,con.2 i2,i3,fun n=>by rw[i4,mem],i5,?_,?_⟩
        · intro u hu hz
          rcases List.mem_cons.1 hu with rfl | hu
          · exact absurd ht hz
          · exact i6 u hu hz
        · rcases i7 with h | ⟨u,hu,h⟩
          · exact .inl h
          · exact .inr ⟨u,by simp[hu],h⟩
    · rw[if_neg ht]
      have ha:=h0 t (by simp) ht
      by_cases hc:(c3 a t.level).getD 0≠0∧(c3 a t.level).getD 0≠t.assoc
      · rw[if_pos hc]
        simp only
        rintro ⟨_,h2⟩
        cases hp:c3 a t.level with
        | none=>simp[hp] at hc
        | some v =>
          have:=h2 t (by simp) v ht hp
          simp[hp] at hc
          exact hc.2 this.symm
      · rw[if_neg hc]
        have hcon:∀ v,c3 a t.level=some v→t.assoc=v:=fun v hp=>by
          have:=hv _ _ hp
          simp[hp] at hc
          exact (hc this).symm
        have hput:∀ n,c3 (hO t.level t.assoc a) n=if n=t.level then some t.assoc else c3 a n:=fun n=>by
          rw[BZ]; simp
        have hk:=CY (k:=t.level) (v:=t.assoc) hn
        have ih:=uX r (hO t.level t.assoc a) (if t.level > top then t.level else top) h0r (fun n v hp=>by
          rw[hput] at hp
          split at hp
          · simp at hp; rw[← hp]; exact ha
          · exact hv n v hp) hk.1
        have both:(rD (t :: r)∧∀ u∈t :: r,∀ v,u.level≠0→c3 a u.level=some v→u.assoc=v)↔(rD r∧∀ u∈r,∀ v,u.level≠0→c3 (hO t.level t.assoc a) u.level=some v→u.assoc=v):=by
          constructor
          · rintro ⟨h1,h2⟩
            refine ⟨fun u hu w hw=>h1 u (by simp[hu]) w (by simp[hw]),fun u hu v hz hp=>?_⟩
            rw[hput] at hp
            split at hp
            · rename_i e
              simp at hp; rw[← hp]
              exact h1 u (by simp[hu]) t (by simp) e hz
            · exact h2 u (by simp[hu]) v hz hp
          · rintro ⟨h1,h2⟩
            have h3:∀ u∈r,u.level=t.level→u.assoc=t.assoc:=fun u hu e=>h2 u hu t.assoc (by rw[e]; exact ht) (by rw[hput,if_pos e])
            refine ⟨fun u hu w hw e hz=>?_,fun u hu v hz hp=>?_⟩
            · rcases List.mem_cons.1 hu with e1 | hu2
              · rcases List.mem_cons.1 hw with e2 | hw2
                · rw[e1,e2]
                · rw[e1] at e ⊢
                  exact (h3 w hw2 e.symm).symm
              · rcases List.mem_cons.1 hw with e2 | hw2
                · rw[e2] at e ⊢
                  exact h3 u hu2 e
                · exact h1 u hu2 w hw2 e hz
            · rcases List.mem_cons.1 hu with rfl | hu
              · exact hcon v hp
              · by_cases e:u.level=t.level
                · rw[h3 u hu e]; exact hcon v (by rw[← e]; exact hp)
                · exact h2 u hu v hz (by rw[hput,if_neg e]; exact hp)
        have htop:top≤(if t.level > top then t.level else top)∧t.level≤(if t.level > top then t.level else top):=by split <;> omega
        cases hs:jS r (hO t.level t.assoc a) (if t.level > top then t.level else top) with
        | none=>rw[hs] at ih; simp only; rw[both]; exact ih
        | some x =>
          obtain ⟨a',top'⟩:=x
          rw[hs] at ih
          obtain ⟨i1,i2,i3,i4,i5,i6,i7⟩:=ih
          obtain ⟨b1,b2⟩:=both.2 ⟨i1,i2⟩
          refine ⟨b1,b2,i3,fun n=>?_,by omega,?_,?_⟩
          · rw[i4,hk.2]
            constructor
            · rintro ((rfl | h) | ⟨h1,u,hu,h⟩)
              · exact .inr ⟨ht,t,by simp,rfl⟩
              · exact .inl h
              · exact .inr ⟨h1,u,by simp[hu],h⟩
            · rintro (h | ⟨h1,u,hu,h⟩)
              · exact .inl (.inr h)
              · rcases List.mem_cons.1 hu with rfl | hu
                · exact .inl (.inl h.symm)
                · exact .inr ⟨h1,u,hu,h⟩
          · intro u hu hz
            rcases List.mem_cons.1 hu with rfl | hu
            · omega
            · exact i6 u hu hz
          · rcases i7 with h | ⟨u,hu,h⟩
            · by_cases e:t.level > top
              · rw[if_pos e] at h; exact .inr ⟨t,by simp,h.symm,ht⟩
              · rw[if_neg e] at h; exact .inl h
            · exact .inr ⟨u,by simp[hu],h⟩
theorem xq (l:List Term) (h:∀ t∈l,je t=true):ow l=true↔∀ t∈l,∀ n:Int,1≤n→n≤t.level→eP l n=true:=by
  have hb:∀ t∈l,0≤t.level∧(t.level≠0→t.assoc≠0):=fun t ht=>by
    have:=h t ht
    simp only[je,Bool.and_eq_true,decide_eq_true_eq,beq_iff_eq] at this
    refine ⟨this.1.1.1.1.2,fun h1 h2=>?_⟩
    have e:=this.2
    simp[h1,h2] at e
  have hs:=uX l [] 0 (fun t ht=>(hb t ht).2) (by simp[c3]) (by simp)
  have hL:∀ n:Int,1≤n→(eP l n=true↔∃ a,(∃ t∈l,t.level=n)∧∀ t∈l,t.level=n→t.assoc=a):=fun n hn=>yf n l (fun t ht e=>(hb t ht).2 (by omega))
  unfold ow
  cases hx:jS l [] 0 with
  | none =>
    rw[hx] at hs
    simp only[Bool.false_eq_true,false_iff]
    intro hall
    refine hs ⟨fun t ht u hu e hz=>?_,fun t ht v _ hp=>by simp[c3] at hp⟩
    have h1:=hb t ht
    obtain ⟨a,_,h2⟩:=(hL t.level (by omega)).1 (hall t ht t.level (by omega) (by omega))
    exact (h2 t ht rfl).trans (h2 u hu e.symm).symm
  | some x =>
    obtain ⟨a,top⟩:=x
    rw[hx] at hs
    obtain ⟨i1,_,i3,i4,i5,i6,i7⟩:=hs
    simp only[beq_iff_eq]
    have hmem:∀ n,n∈a.map (·.1)↔n≠0∧∃ t∈l,t.level=n:=fun n=>by rw[i4]; simp
    have hin:∀ x∈a.map (·.1),1≤x∧x≤(top.toNat:Int):=fun x hx=>by
      obtain ⟨h1,t,ht,rfl⟩:=(hmem x).1 hx
      have:=(hb t ht).1
      have:=i6 t ht h1
      omega
    constructor
    · intro hlen t ht n hn1 hn2
      have htop:t.level≤top:=i6 t ht (by omega)
      have hm:=KX i3 hin (by simp; omega) hn1 (show n≤(top.toNat:Int) by omega)
      obtain ⟨hz,u,hu,rfl⟩:=(hmem n).1 hm
      exact (hL _ hn1).2 ⟨u.assoc,⟨u,hu,rfl⟩,fun w hw e=>i1 w hw u hu e (by omega)⟩
    · intro hall
      have h1:a.length≤top.toNat:=by
        have:=mT _ (jC top.toNat) i3 (fun x hx=>sN.2 (hin x hx))
        simpa [jC] using this
      have h2:top.toNat≤a.length:=by
        rcases i7 with e | ⟨t,ht,e,hz⟩
        · subst e; simp
        · have:=mT (jC top.toNat) (a.map (·.1)) (Bm _) (fun x hx=>by
            rw[sN] at hx
            have:=(hb t ht).1
            obtain ⟨_,⟨u,hu,hl⟩,_⟩:=(hL x hx.1).1 (hall t ht x hx.1 (by omega))
            exact (hmem x).2 ⟨by omega,u,hu,hl⟩)
          simpa [jC] using this
      omega
end Gv
set_option linter.unusedSimpArgs false
namespace Gv
open Go Go.Proofs
theorem yq (g:al):∀ (l:List Term) (i:Int),gQ g l i=true↔∀ (k:Nat) (t:Term),l[k]?=some t→ij g (i+k) t=true
  | [],i=>by simp[gQ]
  | t :: r,i=>by
    simp only[gQ,Bool.and_eq_true,yq g r (i+1)]
    constructor
    · rintro ⟨h1,h2⟩ k u hk
      cases k with
      | zero=>simp at hk; subst hk; simpa using h1
      | succ k =>
        have:=h2 k u (by simpa using hk)
        rw[show i+((k+1:Nat):Int)=i+1+k by push_cast; omega]; exact this
    · intro h
      refine ⟨by simpa using h 0 t rfl,fun k u hk=>?_⟩
      have:=h (k+1) u (by simpa using hk)
      rw[show i+1+(k:Int)=i+((k+1:Nat):Int) by push_cast; omega]; exact this
theorem pV (g:al):∀ (l:List ByteArray) (i:Int),nV g l i=true↔∀ (k:Nat) (s:ByteArray),l[k]?=some s→jv g (i+k) s=true
  | [],i=>by simp[nV]
  | t :: r,i=>by
    simp only[nV,Bool.and_eq_true,pV g r (i+1)]
    constructor
    · rintro ⟨h1,h2⟩ k u hk
      cases k with
      | zero=>simp at hk; subst hk; simpa using h1
      | succ k =>
        have:=h2 k u (by simpa using hk)
        rw[show i+((k+1:Nat):Int)=i+1+k by push_cast; omega]; exact this
    · intro h
      refine ⟨by simpa using h 0 t rfl,fun k u hk=>?_⟩
      have:=h (k+1) u (by simpa using hk)
      rw[show i+1+(k:Int)=i+((k+1:Nat):Int) by push_cast; omega]; exact this
theorem AH (g:al) (s:ByteArray):jM g s < 0↔s ∉ g.ay.map Term.name:=by
  unfold jM
  rcases uf s (g.ay.map Term.name) 0 (by omega) with ⟨h1,h2⟩ | ⟨k,h1,h2,_⟩
  · exact ⟨fun _=>h2,fun _=>h1⟩
  · constructor
    · intro h; omega
    · intro h; exact absurd (List.mem_of_getElem? h2) h
theorem zy (g:al) (t:Term):nX g t=true↔∀ n:Int,1≤n→n≤t.level→eP g.ay n=true:=by
  simp only[nX,List.all_eq_true,List.mem_range]
  constructor
  · intro h n h1 h2
    have:=h (n - 1).toNat (by omega)
    rwa [show (((n - 1).toNat:Nat):Int)+1=n by omega] at this
  · intro h k hk
    exact h _ (by omega) (by omega)
theorem Fc (g:al):nb g=bk g:=by
  rw[Bool.eq_iff_iff]
  simp only[nb,bk,g9,iH,o8,Bool.and_eq_true,decide_eq_true_eq,yq,pV,CP,List.all_eq_true,Bool.not_eq_true',List.any_eq_false,Bool.not_eq_true,GM,oF,List.nodup_append,Int.zero_add,Int.zero_sub,Bool.not_not]
  have hT:(∀ (k:Nat) (t:Term),g.ay[k]?=some t→ij g k t=true)↔(∀ t∈g.ay,je t=true)∧(g.ay.map Term.name).Nodup∧(∀ t∈g.ay,nX g t=true):=by
    rw[← p7]
    constructor
    · intro h
      have h':∀ t∈g.ay,∃ k:Nat,g.ay[k]?=some t:=fun t ht=>List.getElem?_of_mem ht
      refine ⟨fun t ht=>?_,fun k s hk=>?_,fun t ht=>?_⟩
      · obtain ⟨k,hk⟩:=h' t ht
        have:=h k t hk
        simp only[ij,je,Bool.and_eq_true,decide_eq_true_eq] at this ⊢
        simp[this]
      · rw[List.getElem?_map,Option.map_eq_some_iff] at hk
        obtain ⟨t,hk,rfl⟩:=hk
        have:=h k t hk
        simp only[ij,Bool.and_eq_true,beq_iff_eq] at this
        exact this.1.1.1.1.1.1.2
      · obtain ⟨k,hk⟩:=h' t ht
        have:=h k t hk
        simp only[ij,Bool.and_eq_true] at this
        exact this.2
    · rintro ⟨h1,h2,h3⟩ k t hk
      have hm:=List.mem_of_getElem? hk
      have a:=h1 t hm
      have b:=h2 k t.name (by rw[List.getElem?_map,hk]; rfl)
      have c:=h3 t hm
      simp only[ij,je,jM,Bool.and_eq_true,decide_eq_true_eq] at a ⊢
      simp[a,b,c]
  have hN:(∀ (k:Nat) (s:ByteArray),g.ax[k]?=some s→jv g k s=true)↔(∀ s∈g.ax,ec (dI s)=true)∧g.ax.Nodup∧(∀ s∈g.ax,s ∉ g.ay.map Term.name):=by
    rw[← p7]
    constructor
    · intro h
      have h':∀ t∈g.ax,∃ k:Nat,g.ax[k]?=some t:=fun t ht=>List.getElem?_of_mem ht
      refine ⟨fun t ht=>?_,fun k s hk=>?_,fun t ht=>?_⟩
      · obtain ⟨k,hk⟩:=h' t ht
        have:=h k t hk
        simp only[jv,Bool.and_eq_true] at this
        exact this.1.1
      · have:=h k s hk
        simp only[jv,tI,Bool.and_eq_true,beq_iff_eq] at this
        exact this.1.2
      · obtain ⟨k,hk⟩:=h' t ht
        have:=h k t hk
        simp only[jv,Bool.and_eq_true,decide_eq_true_eq] at this
        exact (AH g t).1 this.2
    · rintro ⟨h1,h2,h3⟩ k s hk
      have hm:=List.mem_of_getElem? hk
      have a:=h1 s hm
      have b:=h2 k s hk
      have c:=(AH g s).2 (h3 s hm)
      simp[jv,tI,a,b,c]
  rw[hT,hN]
  constructor
  · rintro ⟨⟨⟨⟨⟨⟨⟨⟨t1,t2⟩,t3⟩,n1,n2⟩,r1,r2⟩,a1,a2,a3⟩,s1,s2⟩,n3⟩,ru⟩
    have hl:=(xq g.ay t1).1 t3
    exact ⟨⟨⟨⟨⟨⟨⟨t2,t1,a2,fun t ht=>(zy g t).2 (hl t ht)⟩,⟨by omega,by omega⟩,fun s hs=>by simpa using n3 s hs,a1,fun s hs hm=>a3 s hs s hm rfl⟩,by omega⟩,by omega⟩,s1⟩,by omega⟩,ru⟩
  · rintro ⟨⟨⟨⟨⟨⟨⟨t2,t1,a2,t3⟩,⟨n1,n2⟩,n3,a1,a3⟩,r1⟩,r2⟩,s1⟩,s2⟩,ru⟩
    have hl:=(xq g.ay t1).2 (fun t ht=>(zy g t).1 (t3 t ht))
    exact ⟨⟨⟨⟨⟨⟨⟨⟨t1,t2⟩,hl⟩,by omega,by omega⟩,by omega,by omega⟩,a1,a2,fun s hs u hu e=>a3 s hs (e ▸ hu)⟩,s1,by omega⟩,fun s hs=>by simp[n3 s hs]⟩,ru⟩
theorem kp (g:al) (hg:g.Ok) (hs:g.ax.length+g.ay.length≤1000):aE Tryz.prog 45 [.agg (av g)] (gb (bk g)):=by
  rw[← Fc]; exact Fi g hg hs
end Gv
set_option linter.unusedSimpArgs false
set_option maxRecDepth 100000
namespace Gv
open Go Go.Proofs
def Bp (n:Nat) (r:aJ):Prop:=bT r.left∧0≤r.left∧r.left < n∧r.right.length≤6∧∀ s∈r.right,bT s∧(s < 0→-1 - s < n)
theorem al.iJ.xD {g:al} (hg:g.Ok) (h:g.iJ) {r:aJ} (hr:r∈g.rules):Bp g.ax.length r :=
  ⟨(hg.bb r hr).1,(h.left r hr).1,(h.left r hr).2,h.right r hr,fun s hs=>⟨(hg.bb r hr).2.2.2 s hs,fun hn=>h.neg hr hs hn⟩⟩
def pq:SF:=⟨.seq (ak [aW 3 false]) <|
  .seq (.region false [⟨none,[aa 4 0,aA 5 .lss 4 0,aa 6 5]⟩,⟨(some (6,true)),[aq 7 1,aa 8 0,((some 9),.op (.arith .sub (.val (.val (.int .i64 (-1)))) (.tmp 8))),bo 10 1 7 9,aq 11 10,cn 12 11]⟩,⟨none,[bI 13 6 12,aa 3 13]⟩]) <|
  .ret,
  [.tmp 3],14⟩
theorem uh:aV Tryz.prog 207 []=some pq:=by kernel_rfl
def td:SF:=⟨.seq (ak [c8 2 0,c8 3 1,aW 4 false]) <|
  .seq (ak [ao 5 1 2,aq 6 5,((some 7),.op (.sJ 207 [] [(.tmp 3)])),aK 8 46 [6,7],cn 9 8,aa 4 9]) <|
  .ret,
  [.tmp 4],10⟩
theorem wo:aV Tryz.prog 163 [2,3]=some td:=by kernel_rfl
def lC:SF:=⟨.seq (ak [c8 2 0,((some 4),.op (.bd (.val (.emp 1))))]) <|
  .seq (.seq (ak [aZ 5 3 2,aa 6 1,aK 7 163 [5,6]]) <|
  .cond (.tmp 7) (.seq (ak [ao 8 0 2,aq 9 8,((some 10),.op (.bE 1 1 [(.val (.int .i64 0))] [(0,(.tmp 9))])),aa 4 10]) <|
  .ret) (.skip)) <|
  .seq (ak [((some 4),.op (.bd (.val (.emp 1))))]) <|
  .ret,
  [.tmp 4],11⟩
theorem qH:aV Tryz.prog 205 [2]=some lC:=by kernel_rfl
def kF:SC :=
  .seq (ak [aS 24 .lss 23 22]) <|
  .seq (.cond (.tmp 24) (.skip) (.exit 0)) <|
  .seq (.block 1 (.seq (ak [bo 25 1 21 23,aq 26 25,aa 7 26]) <|
  .seq (ak [aa 27 7,aA 28 .lss 27 0]) <|
  .cond (.tmp 28) (ak [aa 29 5,aa 30 7,((some 31),.op (.arith .sub (.val (.val (.int .i64 (-1)))) (.tmp 30))),((some 32),.op (.bE 1 1 [(.val (.int .i64 0))] [(0,(.tmp 31))])),((some 33),.op (.app 1 8 (.tmp 29) (.tmp 32))),aa 5 33]) (.skip))) <|
  ak [aA 34 .add 23 1,aa 23 34]
def m7:SF:=⟨.seq (ak [c8 3 0,((some 5),.op (.bd (.val (.emp 1))))]) <|
  .seq (.seq (.region false [⟨none,[aa 8 1,ao 9 0 3,aq 10 9,bo 11 1 8 10,aq 12 11,cn 13 12,aa 14 13]⟩,⟨(some (14,false)),[aZ 15 3 3,aq 16 2,aK 17 163 [15,16],cn 18 17]⟩,⟨none,[bC 19 14 18]⟩]) <|
  .cond (.tmp 19) (.seq (ak [((some 5),.op (.bd (.val (.emp 1))))]) <|
  .ret) (.skip)) <|
  .seq (.seq (ak [ao 20 1 3,aq 21 20,aQ 22 21,aI 23 0]) <|
  .block 0 (.loop kF)) <|
  .seq (ak [aa 35 5,aa 5 35]) <|
  .ret,
  [.tmp 5],36⟩
theorem rK:aV Tryz.prog 206 [3]=some m7:=by kernel_rfl
theorem BX (r:aJ) (is:List Bool):∀ v∈[V.agg (bf r),bR is],Tree v:=by
  intro v hv; simp at hv
  rcases hv with rfl | rfl
  · exact dp _ (eZ r)
  · exact iG is
def yU (is:List Bool) (s:Int):Bool:=decide (s < 0) && !is.getD (-1 - s).toNat false
theorem F4 (is:List Bool) (s:Int) (hs:bT s∧(s < 0→-1 - s < is.length)):aE Tryz.prog 207 [gi s,.aR [bR is] 0] (gb (yU is s)):=by
  refine aE.val ?_ fun H=>?_
  · intro v hv; simp at hv
    rcases hv with rfl | rfl
    · exact .val _
    · exact iL (by intro v hv; simp at hv; subst hv; exact iG is)
  obtain ⟨⟨h1,h2⟩,h3⟩:=hs
  refine aB.of mixed uh ?_
  simp (disch:=omega) only [↓wr,↓reduceIte,wq,ah,ag,aj,ab,ae,af,ai,isNil,Nat.reduceEqDiff,Nat.reduceAdd,Nat.reduceLT,Nat.reduceLeDiff,Int.reduceNeg,Int.reduceToNat,reduceCtorEq,pq,bR]
  refine an.dec (fun h=>?_) (fun h=>?_)
  · have hb:is[(-1 - s).toNat]?=some (is[(-1 - s).toNat]'(by omega)):=List.getElem?_eq_getElem (by omega)
    have hbd:is.getD (-1 - s).toNat false=is[(-1 - s).toNat]'(by omega):=by simp[List.getD_eq_getElem?_getD,hb]
    generalize is[(-1 - s).toNat]'(by omega)=b at hb hbd
    simp (disch:=omega) only [↓wr,↓reduceIte,wq,ah,ag,aj,ab,ae,af,ai,isNil,Nat.reduceEqDiff,Nat.reduceAdd,Nat.reduceLT,Nat.reduceLeDiff,Int.reduceNeg,Int.reduceToNat,reduceCtorEq,List.getElem?_map,hb]
    simp only[yU,hbd,h,decide_true,Bool.true_and]
  · simp (disch:=omega) only [↓wr,↓reduceIte,wq,ah,ag,aj,ab,ae,af,ai,isNil,Nat.reduceEqDiff,Nat.reduceAdd,Nat.reduceLT,Nat.reduceLeDiff,Int.reduceNeg,Int.reduceToNat,reduceCtorEq]
    simp[yU,h]
theorem E4 {is:List Bool} {l:List Int} : (!l.any (yU is))=ep l is true:=by
  simp only[ep,List.not_any_eq_all_not]
  congr 1
  funext s
  simp only[yU]
  by_cases h:0≤s
  · simp[h,show ¬ s < 0 by omega]
  · simp[h,show s < 0 by omega]
theorem uL (r:aJ) (is:List Bool) (hr:aH r.right) (hs:∀ s∈r.right,bT s∧(s < 0→-1 - s < is.length)):aE Tryz.prog 163 [.agg (bf r),bR is] (gb (ep r.right is true)):=by
  rw[← E4]
  refine aE.val (BX r is) fun H=>?_
  refine aB.of mixed wo ?_
  simp (disch:=omega) only [↓wr,↓reduceIte,wq,ah,ag,aj,ab,ae,af,ai,isNil,Nat.reduceEqDiff,Nat.reduceAdd,Nat.reduceLT,Nat.reduceLeDiff,Int.reduceNeg,Int.reduceToNat,reduceCtorEq,td,bf,bR,encI]
  refine aF.pure (pa r.right hr 207 [.aR [bR is] 0] (by
    intro v hv; simp at hv; subst hv
    exact iL (by intro v hv; simp at hv; subst hv; exact iG is)) (yU is) (fun x hx=>F4 is x (hs x hx)) (by kernel_rfl)) (by kernel_rfl) ?_
  simp (disch:=omega) only [↓wr,↓reduceIte,wq,ah,ag,aj,ab,ae,af,ai,isNil,Nat.reduceEqDiff,Nat.reduceAdd,Nat.reduceLT,Nat.reduceLeDiff,Int.reduceNeg,Int.reduceToNat,reduceCtorEq]
theorem jX {h:aC} {u:V} {l:List Int} (ho:aO h.view u 1 (l.map fun x=>[gi x])):cX h u (encI l):=cX.IU (f:=Value.int .i64) ho
theorem yC (r:aJ) (is:List Bool) (hr:Bp is.length r):cr Tryz.prog 205 [.agg (bf r),bR is] (encI (if ep r.right is true=true then [r.left] else [])):=by
  obtain ⟨hl,_,_,hr6,hs⟩:=hr
  have hsh:aH r.right:=by unfold aH; omega
  refine cr.of (BX r is) ?_
  refine aB.of mixed qH ?_
  simp (disch:=omega) only [↓wr,↓reduceIte,wq,ah,ag,aj,ab,ae,af,ai,isNil,Nat.reduceEqDiff,Nat.reduceAdd,Nat.reduceLT,Nat.reduceLeDiff,Int.reduceNeg,Int.reduceToNat,reduceCtorEq,lC,bf,encI]
  refine aF.pure (uL r is hsh hs) (by kernel_rfl) ?_
  repeat' (first | (refine an.dec (fun _=>?_) (fun _=>?_)) | (refine an.eq (fun _=>?_) (fun _=>?_)) | (refine an.ne (fun _=>?_) (fun _=>?_)) | (refine an.split (fun _=>?_) (fun _=>?_)) | (simp (disch:=omega) only [↓wr,↓reduceIte,wq,ah,ag,aj,ab,ae,af,ai,isNil,Nat.reduceEqDiff,Nat.reduceAdd,Nat.reduceLT,Nat.reduceLeDiff,Int.reduceNeg,Int.reduceToNat,reduceCtorEq,bf,encI]))
  all_goals first
    | (intro n h' hh; rw[if_pos (by simp[*])]; exact jX (l:=[r.left]) (.inr ⟨n,rfl,by rw[hh]; simp[View.set]⟩))
    | (intro h' hh; rw[if_neg (by simp[*])]; exact .emp _)
def ez (l:List Int):List Int:=(l.filter fun s=>decide (s < 0)).map fun s=>-1 - s
theorem Ir (r:aJ) (is p:List Bool):∀ v∈[V.agg (bf r),bR is,.aR [bR p] 0],Tree v:=by
  intro v hv; simp at hv
  rcases hv with rfl | rfl | rfl
  · exact dp _ (eZ r)
  · exact iG is
  · exact iL (by intro v hv; simp at hv; subst hv; exact iG p)
set_option maxHeartbeats 1000000 in
theorem AN (r:aJ) (is p:List Bool) (hr:Bp is.length r) (hp:p.length=is.length) :
    cr Tryz.prog 206 [.agg (bf r),bR is,.aR [bR p] 0] (encI (if (is.getD r.left.toNat false && ep r.right p true)=true then ez r.right else [])):=by
  obtain ⟨hl,hl0,hl1,hr6,hs⟩:=hr
  have hsh:aH r.right:=by unfold aH; omega
  refine cr.of (Ir r is p) ?_
  refine aB.of mixed rK ?_
  have hb:is[r.left.toNat]?=some (is[r.left.toNat]'(by omega)):=List.getElem?_eq_getElem (by omega)
  have hbd:is.getD r.left.toNat false=is[r.left.toNat]'(by omega):=by simp[List.getD_eq_getElem?_getD,hb]
  generalize is[r.left.toNat]'(by omega)=b at hb hbd
  rw[hbd]
  simp (disch:=omega) only [↓wr,↓reduceIte,wq,ah,ag,aj,ab,ae,af,ai,isNil,Nat.reduceEqDiff,Nat.reduceAdd,Nat.reduceLT,Nat.reduceLeDiff,Int.reduceNeg,Int.reduceToNat,reduceCtorEq,m7,bf,encI,bR,List.getElem?_map,hb]
  cases b with
  | false =>
    simp (disch:=omega) only [↓wr,↓reduceIte,wq,ah,ag,aj,ab,ae,af,ai,isNil,Nat.reduceEqDiff,Nat.reduceAdd,Nat.reduceLT,Nat.reduceLeDiff,Int.reduceNeg,Int.reduceToNat,reduceCtorEq]
    intro h' hh
    exact .emp _
  | true =>
    simp (disch:=omega) only [↓wr,↓reduceIte,wq,ah,ag,aj,ab,ae,af,ai,isNil,Nat.reduceEqDiff,Nat.reduceAdd,Nat.reduceLT,Nat.reduceLeDiff,Int.reduceNeg,Int.reduceToNat,reduceCtorEq,bf,encI,bR]
    refine aF.pure (uL r p hsh (fun s hs'=>⟨(hs s hs').1,fun h=>by rw[hp]; exact (hs s hs').2 h⟩)) (by kernel_rfl) ?_
    repeat' (first | (refine an.dec (fun _=>?_) (fun _=>?_)) | (refine an.eq (fun _=>?_) (fun _=>?_)) | (refine an.ne (fun _=>?_) (fun _=>?_)) | (refine an.split (fun _=>?_) (fun _=>?_)) | (simp (disch:=omega) only [↓wr,↓reduceIte,wq,ah,ag,aj,ab,ae,af,ai,isNil,Nat.reduceEqDiff,Nat.reduceAdd,Nat.reduceLT,Nat.reduceLeDiff,Int.reduceNeg,Int.reduceToNat,reduceCtorEq,bf,encI,bR]))
    · rename_i ha
      rw[if_pos (by simp[ha])]
      refine bw.up r.right.length (fun i T H=>(∃ u,T 5=u∧aO H u 1 ((ez (r.right.take i)).map fun x=>[gi x]))∧T 21=encI r.right∧T 22=gi r.right.length∧T 23=gi i) ?_ ?_
      · exact ⟨⟨_,rfl,.nil⟩,rfl,rfl,rfl⟩
      rintro i k T H' hk ⟨⟨u,h5,hu⟩,h21,h22,h23⟩
      simp (disch:=omega) only [↓wr,↓reduceIte,wq,ah,ag,aj,ab,ae,af,ai,isNil,Nat.reduceEqDiff,Nat.reduceAdd,Nat.reduceLT,Nat.reduceLeDiff,Int.reduceNeg,Int.reduceToNat,reduceCtorEq,kF,h5,h21,h22,h23,encI]
      refine an.dec (fun hc=>?_) (fun hc=>?_)
      · have hg:r.right[i]?=some (r.right[i]'(by omega)):=List.getElem?_eq_getElem (by omega)
        have hm:r.right[i]'(by omega)∈r.right:=List.getElem_mem _
        have htk:ez (r.right.take (i+1))=ez (r.right.take i) ++ ez [r.right[i]'(by omega)]:=by
          rw[List.take_add_one,hg,ez,List.filter_append,List.map_append]; rfl
        have hlen:(ez (r.right.take i)).length≤6:=by
          have h1:(ez (r.right.take i)).length≤(r.right.take i).length:=by simp only[ez,List.length_map]; exact List.length_filter_le _ _
          have h2:(r.right.take i).length≤i:=List.length_take_le _ _
          omega
        generalize r.right[i]'(by omega)=s at hg hm htk
        obtain ⟨⟨s1,s2⟩,s3⟩:=hs s hm
        simp (disch:=omega) only [↓wr,↓reduceIte,wq,ah,ag,aj,ab,ae,af,ai,isNil,Nat.reduceEqDiff,Nat.reduceAdd,Nat.reduceLT,Nat.reduceLeDiff,Int.reduceNeg,Int.reduceToNat,reduceCtorEq,h5,h21,h22,h23,encI,List.getElem?_map,hg]
        refine an.dec (fun hd=>?_) (fun hd=>?_)
        · simp (disch:=omega) only [↓wr,↓reduceIte,wq,ah,ag,aj,ab,ae,af,ai,isNil,Nat.reduceEqDiff,Nat.reduceAdd,Nat.reduceLT,Nat.reduceLeDiff,Int.reduceNeg,Int.reduceToNat,reduceCtorEq,h5,h21,h22,h23]
          intro m hm
          try simp (disch:=omega) only [↓wr,↓reduceIte,wq,ah,ag,aj,ab,ae,af,ai,isNil,Nat.reduceEqDiff,Nat.reduceAdd,Nat.reduceLT,Nat.reduceLeDiff,Int.reduceNeg,Int.reduceToNat,reduceCtorEq,h5,h21,h22,h23,dg]
          refine pk (hu.fresh hm) (by simp) (by simp[aM]) (by unfold aL; simp at hlen ⊢; omega) (by unfold aL; simp at hlen ⊢; omega) ?_
          intro u' H2 hu' _
          simp (disch:=omega) only [↓wr,↓reduceIte,wq,ah,ag,aj,ab,ae,af,ai,isNil,Nat.reduceEqDiff,Nat.reduceAdd,Nat.reduceLT,Nat.reduceLeDiff,Int.reduceNeg,Int.reduceToNat,reduceCtorEq,h21,h22,h23]
          refine aT hk (by omega) ⟨⟨u',rfl,?_⟩,h21,h22,rfl⟩
          rw[htk]
          simpa [ez,hd] using hu'
        · simp (disch:=omega) only [↓wr,↓reduceIte,wq,ah,ag,aj,ab,ae,af,ai,isNil,Nat.reduceEqDiff,Nat.reduceAdd,Nat.reduceLT,Nat.reduceLeDiff,Int.reduceNeg,Int.reduceToNat,reduceCtorEq,h5,h21,h22,h23]
          refine aT hk (by omega) ⟨⟨u,h5,?_⟩,h21,h22,rfl⟩
          rw[htk]
          simpa [ez,hd] using hu
      · rw[List.take_of_length_le (by omega)] at hu
        simp (disch:=omega) only [↓wr,↓reduceIte,wq,ah,ag,aj,ab,ae,af,ai,isNil,Nat.reduceEqDiff,Nat.reduceAdd,Nat.reduceLT,Nat.reduceLeDiff,Int.reduceNeg,Int.reduceToNat,reduceCtorEq,h5,h21,h22,h23]
        intro h' hh
        exact jX (by rw[hh]; exact hu)
    · rename_i ha
      intro h' hh
      rw[if_neg (by simp[ha])]
      exact .emp _
end Gv
set_option linter.unusedSimpArgs false
set_option maxRecDepth 100000
namespace Gv
open Go Go.Proofs
def oc (is:List Bool) (l:List Int):List Bool:=l.foldl (fun is n=>is.set n.toNat true) is
def stepG (comes:aJ→List Bool→List Int) (is:List Bool) (r:aJ):List Bool:=oc is (comes r is)
def cP (comes:aJ→List Bool→List Int) (rules:List aJ) (is:List Bool):List Bool:=rules.foldl (stepG comes) is
def eE (a b:List Bool):Prop:=a.length=b.length∧∀ i,a.getD i false=true→b.getD i false=true
theorem eE.refl (a:List Bool):eE a a:=⟨rfl,fun _ h=>h⟩
theorem eE.trans {a b c:List Bool} (h:eE a b) (k:eE b c):eE a c:=⟨h.1.trans k.1,fun i hi=>k.2 i (h.2 i hi)⟩
theorem eE.set (a:List Bool) (i:Nat):eE a (a.set i true):=by
  refine ⟨by simp,fun j h=>?_⟩
  simp only[List.getD_eq_getElem?_getD,List.getElem?_set] at h ⊢
  split
  · split
    · rfl
    · rename_i e h2; rw[← e,List.getElem?_eq_none (by omega)] at h; simp at h
  · exact h
theorem B0:∀ (l:List Int) (is:List Bool),eE is (oc is l)
  | [],is=>.refl _
  | n :: l,is=>(eE.set is n.toNat).trans (B0 l _)
theorem pr (comes:aJ→List Bool→List Int):∀ (rules:List aJ) (is:List Bool),eE is (cP comes rules is)
  | [],is=>.refl _
  | r :: rs,is=>(B0 _ _).trans (pr comes rs _)
def cL (a:List Bool):Nat:=a.countP fun x=>x
theorem rW (a:List Bool):cL a≤a.length:=List.countP_le_length
theorem eE.cL:∀ {a b:List Bool},eE a b→cL a≤cL b∧(cL a=cL b→a=b)
  | [],[],_=>⟨Nat.le_refl _,fun _=>rfl⟩
  | [],_ :: _,h=>by simp[eE] at h
  | _ :: _,[],h=>by simp[eE] at h
  | x :: a,y :: b,h=>by
    have hxy:x=true→y=true:=fun e=>by have:=h.2 0 (by simpa using e); simpa using this
    obtain ⟨h1,h2⟩:=eE.cL (a:=a) (b:=b) ⟨by simpa using h.1,fun i hi=>by have:=h.2 (i+1) (by simpa using hi); simpa using this⟩
    unfold Gv.cL at h1 h2 ⊢
    simp only[List.countP_cons]
    cases x with
    | true =>
      have:=hxy rfl; subst this
      simp only[if_true]
      exact ⟨by omega,fun e=>by rw[h2 (by omega)]⟩
    | false =>
      cases y with
      | false=>simp only[Bool.false_eq_true,if_false]; exact ⟨by omega,fun e=>by rw[h2 (by omega)]⟩
      | true=>simp only[Bool.false_eq_true,if_false,if_true]; exact ⟨by omega,fun e=>by omega⟩
def eS (comes:aJ→List Bool→List Int) (rules:List aJ):Nat→List Bool→List Bool
  | 0,is=>is
  | k+1,is=>if cP comes rules is=is then is else eS comes rules k (cP comes rules is)
theorem pM (comes:aJ→List Bool→List Int) (rules:List aJ):∀ (k:Nat) (is:List Bool),is.length≤cL is+k→cP comes rules (eS comes rules k is)=eS comes rules k is∧eE is (eS comes rules k is)
  | 0,is,h=>by
    have h1:=pr comes rules is
    have h2:=rW (cP comes rules is)
    have h3:=h1.cL
    rw[← h1.1] at h2
    have h4:=rW is
    exact ⟨(h3.2 (by omega)).symm,.refl _⟩
  | k+1,is,h=>by
    simp only[eS]
    by_cases e:cP comes rules is=is
    · rw[if_pos e]; exact ⟨e,.refl _⟩
    · rw[if_neg e]
      have h1:=pr comes rules is
      have h3:=h1.cL
      have:cL is < cL (cP comes rules is):=by
        rcases Nat.lt_or_ge (cL is) (cL (cP comes rules is)) with h | h
        · exact h
        · exact absurd (h3.2 (by omega)).symm e
      obtain ⟨g1,g2⟩:=pM comes rules k (cP comes rules is) (by rw[← h1.1]; omega)
      exact ⟨g1,h1.trans g2⟩
def sV:SC :=
  .seq (ak [aS 26 .lss 25 24]) <|
  .seq (.cond (.tmp 26) (.skip) (.exit 4)) <|
  .seq (.block 5 (.seq (ak [bo 27 1 23 25,aq 28 27,aa 11 28]) <|
  .seq (.region false [⟨none,[aa 29 7,aa 30 29]⟩,⟨(some (30,false)),[aa 31 1,aa 32 11,bo 33 1 31 32,aq 34 33,cn 35 34]⟩,⟨none,[bC 36 30 35,aa 7 36]⟩]) <|
  ak [aa 37 1,aa 38 11,bo 39 1 37 38,(none,.op (.store 1 (.tmp 39) (.val (.val (.bool true)))))])) <|
  ak [aA 40 .add 25 1,aa 25 40]
def sR:SC :=
  .seq (ak [aS 17 .lss 16 15]) <|
  .seq (.cond (.tmp 17) (.skip) (.exit 2)) <|
  .seq (.block 3 (.seq (ak [bo 18 3 14 16,aZ 19 3 18,((some 9),.op (.alloc [(.val (.int .i64 0)),(.emp 1),(.val (.int .i64 0))])),(none,.op (.store 3 (.tmp 9) (.tmp 19)))]) <|
  .seq (ak [aa 20 2,aZ 21 3 9,aa 22 1,((some 23),.call (.tmp 20) [(.tmp 21),(.tmp 22)]),aQ 24 23,aI 25 0]) <|
  .block 4 (.loop sV))) <|
  ak [aA 41 .add 16 1,aa 16 41]
def nA:SC :=
  .seq (.seq (ak [aa 12 7]) <|
  .cond (.tmp 12) (.skip) (.exit 0)) <|
  .block 1 (.seq (ak [aW 7 false]) <|
  .seq (ak [ao 13 2 3,aq 14 13,aQ 15 14,aI 16 0]) <|
  .block 2 (.loop sR))
def vR:SF:=⟨.seq (ak [c8 3 0,((some 6),.op (.bd (.val (.emp 1))))]) <|
  .seq (.seq (ak [aW 7 true]) <|
  .block 0 (.loop nA)) <|
  .seq (ak [aa 42 1,aa 6 42]) <|
  .ret,
  [.tmp 6],43⟩
theorem zj:aV Tryz.prog 204 [3]=some vR:=by kernel_rfl
theorem JC {is:List Bool} {i:Nat} (h:is.getD i false=true):is.set i true=is:=by
  apply List.ext_getElem?
  intro j
  simp only[List.getD_eq_getElem?_getD] at h
  rw[List.getElem?_set]
  split
  · rename_i e; subst e
    split
    · rename_i hl; rw[List.getElem?_eq_getElem hl] at h ⊢; simp at h; simp[h]
    · rename_i hl; rw[List.getElem?_eq_none (by omega)] at h; simp at h
  · rfl
theorem FU {comes:aJ→List Bool→List Int} {rules:List aJ} {k:Nat} {is:List Bool} (h:cP comes rules is=is):eS comes rules k is=is:=by
  cases k with
  | zero=>rfl
  | succ k=>simp only[eS,h,if_true]
theorem Fj {comes:aJ→List Bool→List Int} {rules:List aJ} {k:Nat} {is:List Bool} (h:¬ cP comes rules is=is) (hk:is.length≤cL is+k):∃ j,k=j+1∧eS comes rules k is=eS comes rules j (cP comes rules is)∧(cP comes rules is).length≤cL (cP comes rules is)+j:=by
  have h1:=pr comes rules is
  have h3:=h1.cL
  have h5:=rW (cP comes rules is)
  have:cL is < cL (cP comes rules is):=by
    rcases Nat.lt_or_ge (cL is) (cL (cP comes rules is)) with h | h
    · exact h
    · exact absurd (h3.2 (by omega)).symm (by assumption)
  have hl:=h1.1
  obtain ⟨j,rfl⟩:∃ j,k=j+1:=⟨k - 1,by omega⟩
  exact ⟨j,rfl,by simp only[eS]; rw[if_neg h],by omega⟩
theorem JH {a is:List Bool} {i:Nat} {b:Bool} (hle:eE a is) (hi:i < is.length) (hb:b = !decide (is=a)):(b || !is.getD i false) = !decide (is.set i true=a):=by
  cases hx:is.getD i false with
  | true=>rw[JC hx,hb]; simp
  | false =>
    have:¬ is.set i true=a:=fun e=>by
      have h1:(is.set i true).getD i false=true:=by simp[List.getD_eq_getElem?_getD,hi]
      rw[e] at h1
      have:=hle.2 i h1
      rw[hx] at this; simp at this
    simp[this]
set_option maxHeartbeats 8000000 in
theorem EU (g:al) (hr:g.rules.length≤40) (comes:aJ→List Bool→List Int) (f:FuncId) (capt capt':List V) (hok:cy Tryz.prog f=true) (N:Nat) (hN:N≤16)
    (hc:∀ r∈g.rules,∀ is:List Bool,is.length=N→cr Tryz.prog f (.agg (bf r) :: bR is :: capt') (encI (comes r is))∧(comes r is).length≤100∧∀ n∈comes r is,bT n∧0≤n∧n < N)
    (id:Nat) (is0:List Bool) (his:is0.length=N) (H:View) (hH:H id=.arr 1 (db is0)) (hlent:∀ H':View,(∀ k,H k≠.dead→k≠id→H' k=H k)→mF H' capt capt') :
    aB Tryz.prog 204 [.agg (av g),.sl id 0 N 1,.fn f [] capt] H fun r H'=>r=.sl id 0 N 1∧H' id=.arr 1 (db (eS comes g.rules 16 is0))∧∀ k,H k≠.dead→k≠id→H' k=H k:=by
  refine aB.of mixed zj ?_
  simp (disch:=omega) only [↓wr,↓reduceIte,wq,ah,ag,aj,ab,ae,af,ai,isNil,Nat.reduceEqDiff,Nat.reduceAdd,Nat.reduceLT,Nat.reduceLeDiff,Int.reduceNeg,Int.reduceToNat,reduceCtorEq,vR,av,encS]
  refine bw.intro (fun k T H'=>∃ is:List Bool,is.length=N∧H' id=.arr 1 (db is)∧(∀ k,H k≠.dead→k≠id→H' k=H k)∧T 1=.sl id 0 N 1∧T 2=.fn f [] capt∧T 3=.aR (av g) 0 ∧
    ((T 7=gb true∧∃ j,k=j+1∧eS comes g.rules j is=eS comes g.rules 16 is0∧N≤cL is+j)∨(T 7=gb false∧is=eS comes g.rules 16 is0))) 17 ?_ ?_
  · exact ⟨is0,his,hH,fun _ _ _=>rfl,rfl,rfl,rfl,.inl ⟨rfl,16,rfl,rfl,by omega⟩⟩
  rintro k T H1 ⟨is,hlen,hid,hfr,t1,t2,t3,h7⟩
  rcases h7 with ⟨h7,j,rfl,hgr,hj⟩ | ⟨h7,hgr⟩
  · simp (disch:=omega) only [↓wr,↓reduceIte,wq,ah,ag,aj,ab,ae,af,ai,isNil,Nat.reduceEqDiff,Nat.reduceAdd,Nat.reduceLT,Nat.reduceLeDiff,Int.reduceNeg,Int.reduceToNat,reduceCtorEq,nA,t1,t2,t3,h7,av,encS]
    refine bw.up g.rules.length (fun i T H'=>∃ lO:List Bool,lO.length=N∧eE is lO∧lO=(g.rules.take i).foldl (stepG comes) is∧H' id=.arr 1 (db lO)∧(∀ k,H k≠.dead→k≠id→H' k=H k)∧T 1=.sl id 0 N 1∧T 2=.fn f [] capt∧T 3=.aR (av g) 0 ∧
      T 7=gb (!decide (lO=is))∧T 14=.aN (g.rules.map bf)∧T 15=gi g.rules.length∧T 16=gi i) ?_ ?_
    · exact ⟨is,hlen,.refl _,rfl,hid,hfr,t1,t2,t3,by simp; rfl,rfl,rfl,rfl⟩
    clear t1 t2 t3 h7 hid hfr
    rintro i k T H1 hk ⟨lO,hlen2,hle2,hst,hid,hfr,t1,t2,t3,h7,h14,h15,h16⟩
    simp (disch:=omega) only [↓wr,↓reduceIte,wq,ah,ag,aj,ab,ae,af,ai,isNil,Nat.reduceEqDiff,Nat.reduceAdd,Nat.reduceLT,Nat.reduceLeDiff,Int.reduceNeg,Int.reduceToNat,reduceCtorEq,sR,t1,t2,t3,h7,h14,h15,h16,av,encS]
    refine an.dec (fun hcc=>?_) (fun hcc=>?_)
    · have hg2:g.rules[i]?=some (g.rules[i]'(by omega)):=List.getElem?_eq_getElem (by omega)
      have hmem:g.rules[i]'(by omega)∈g.rules:=List.getElem_mem _
      have htk:(g.rules.take (i+1)).foldl (stepG comes) is=stepG comes ((g.rules.take i).foldl (stepG comes) is) (g.rules[i]'(by omega)):=by
        rw[List.take_add_one,hg2,List.foldl_append]; rfl
      generalize g.rules[i]'(by omega)=r at hg2 hmem htk
      obtain ⟨hcp,hcl,hcn⟩:=hc r hmem lO hlen2
      simp (disch:=omega) only [↓wr,↓reduceIte,wq,ah,ag,aj,ab,ae,af,ai,isNil,Nat.reduceEqDiff,Nat.reduceAdd,Nat.reduceLT,Nat.reduceLeDiff,Int.reduceNeg,Int.reduceToNat,reduceCtorEq,t1,t2,t3,h7,h14,h15,h16,bf,encI,List.getElem?_map,hg2]
      intro b hb
      have hbid:b≠id:=by rintro rfl; rw[hid] at hb; simp at hb
      try simp (disch:=omega) only [↓wr,↓reduceIte,wq,ah,ag,aj,ab,ae,af,ai,isNil,Nat.reduceEqDiff,Nat.reduceAdd,Nat.reduceLT,Nat.reduceLeDiff,Int.reduceNeg,Int.reduceToNat,reduceCtorEq,t1,t2,t3,h7,h14,h15,h16]
      refine aF.xg hcp hok ⟨dt.tree (dp _ (eZ r)),F3 (by simp[View.set,hbid.symm,hid]) hlen2.symm,hlent _ (fun k hk hki=>?_)⟩ ?_
      · have hkb:k≠b:=by
          rintro rfl
          rw[hfr k hk hki] at hb
          exact hk hb
        simp[View.set,hkb,hfr k hk hki]
      generalize hl:comes r lO=l at hcl hcn
      simp (disch:=omega) only [↓wr,↓reduceIte,wq,ah,ag,aj,ab,ae,af,ai,isNil,Nat.reduceEqDiff,Nat.reduceAdd,Nat.reduceLT,Nat.reduceLeDiff,Int.reduceNeg,Int.reduceToNat,reduceCtorEq,t1,t2,t3,h7,h14,h15,h16,encI]
      refine bw.up l.length (fun q T H'=>∃ is3:List Bool,is3.length=N∧eE is is3∧is3=oc lO (l.take q)∧H' id=.arr 1 (db is3)∧(∀ k,H k≠.dead→k≠id→H' k=H k)∧T 1=.sl id 0 N 1∧T 2=.fn f [] capt∧T 3=.aR (av g) 0 ∧
        T 7=gb (!decide (is3=is))∧T 14=.aN (g.rules.map bf)∧T 15=gi g.rules.length∧T 16=gi i∧T 23=encI l∧T 24=gi l.length∧T 25=gi q) ?_ ?_
      · refine ⟨lO,hlen2,hle2,rfl,by simp[View.set,hbid.symm,hid],fun k hk hki=>?_,t1,t2,t3,h7,h14,h15,h16,rfl,rfl,rfl⟩
        have hkb:k≠b:=by
          rintro rfl
          rw[hfr k hk hki] at hb
          exact hk hb
        simp[View.set,hkb,hfr k hk hki]
      clear t1 t2 t3 h7 h14 h15 h16 hid hfr hb hbid
      rintro q k2 T H1 hk2 ⟨is3,hlen3,hle3,hst3,hid,hfr,t1,t2,t3,h7,h14,h15,h16,h23,h24,h25⟩
      simp (disch:=omega) only [↓wr,↓reduceIte,wq,ah,ag,aj,ab,ae,af,ai,isNil,Nat.reduceEqDiff,Nat.reduceAdd,Nat.reduceLT,Nat.reduceLeDiff,Int.reduceNeg,Int.reduceToNat,reduceCtorEq,sV,t1,t2,t3,h7,h14,h15,h16,h23,h24,h25,encI]
      refine an.dec (fun hqc=>?_) (fun hqc=>?_)
      · have hgq:l[q]?=some (l[q]'(by omega)):=List.getElem?_eq_getElem (by omega)
        have hmq:l[q]'(by omega)∈l:=List.getElem_mem _
        have htq:oc lO (l.take (q+1))=(oc lO (l.take q)).set (l[q]'(by omega)).toNat true:=by
          unfold oc; rw[List.take_add_one,hgq,List.foldl_append]; rfl
        generalize l[q]'(by omega)=n at hgq hmq htq
        obtain ⟨⟨n1,n2⟩,n3,n4⟩:=hcn n hmq
        have hbn:is3.getD n.toNat false=is3[n.toNat]'(by omega):=by simp[List.getD_eq_getElem?_getD,show n.toNat < is3.length by omega]
        have hnew:=JH hle3 (show n.toNat < is3.length by omega) (b:=!decide (is3=is)) rfl
        rw[hbn] at hnew
        have hbg:=pv (show n.toNat < is3.length by omega)
        generalize is3[n.toNat]'(by omega)=x at hnew hbg hbn
        have fin:∀ (T2:Env),T2 7=gb (!decide (is3.set n.toNat true=is))→T2 1=.sl id 0 N 1→T2 2=.fn f [] capt→T2 3=.aR (av g) 0→T2 14=.aN (g.rules.map bf)→T2 15=gi g.rules.length→T2 16=gi i→T2 23=encI l→T2 24=gi l.length→T2 25=gi ((q:Int)+1) →
            ∃ k',k' < k2∧Ex l.length k' (fun q T H'=>∃ is3:List Bool,is3.length=N∧eE is is3∧is3=oc lO (l.take q)∧H' id=.arr 1 (db is3)∧(∀ k,H k≠.dead→k≠id→H' k=H k)∧T 1=.sl id 0 N 1∧T 2=.fn f [] capt∧T 3=.aR (av g) 0 ∧
              T 7=gb (!decide (is3=is))∧T 14=.aN (g.rules.map bf)∧T 15=gi g.rules.length∧T 16=gi i∧T 23=encI l∧T 24=gi l.length∧T 25=gi q) T2 (H1.set id (.arr 1 (db (is3.set n.toNat true)))):=by
          intro T2 a7 a1 a2 a3 a14 a15 a16 a23 a24 a25
          refine aT hk2 (by omega) ⟨is3.set n.toNat true,by simp[hlen3],hle3.trans (.set _ _),by rw[htq,← hst3],by simp[View.set],fun k hk hki=>by simp[View.set,hki,hfr k hk hki],a1,a2,a3,a7,a14,a15,a16,a23,a24,by rw[a25]; rfl⟩
        simp (disch:=omega) only [↓wr,↓reduceIte,wq,ah,ag,aj,ab,ae,af,ai,isNil,Nat.reduceEqDiff,Nat.reduceAdd,Nat.reduceLT,Nat.reduceLeDiff,Int.reduceNeg,Int.reduceToNat,reduceCtorEq,t1,t2,t3,h7,h14,h15,h16,h23,h24,h25,encI,List.getElem?_map,hgq]
        refine an.dec (fun e=>?_) (fun e=>?_)
        · simp (disch:=omega) only [↓wr,↓reduceIte,wq,ah,ag,aj,ab,ae,af,ai,isNil,Nat.reduceEqDiff,Nat.reduceAdd,Nat.reduceLT,Nat.reduceLeDiff,Int.reduceNeg,Int.reduceToNat,reduceCtorEq,t1,t2,t3,h7,h14,h15,h16,h23,h24,h25,encI,hid,hbg,List.length_map]
          refine ⟨by omega,by omega,?_⟩
          try simp (disch:=omega) only [↓wr,↓reduceIte,wq,ah,ag,aj,ab,ae,af,ai,isNil,Nat.reduceEqDiff,Nat.reduceAdd,Nat.reduceLT,Nat.reduceLeDiff,Int.reduceNeg,Int.reduceToNat,reduceCtorEq,t1,t2,t3,h7,h14,h15,h16,h23,h24,h25,encI,hid,hbg,List.length_map]
          refine ⟨by omega,by omega,?_⟩
          rw[m5]
          exact fin _ (by rw[← hnew]; simp[e]; rfl) t1 t2 t3 h14 h15 h16 h23 h24 rfl
        · simp (disch:=omega) only [↓wr,↓reduceIte,wq,ah,ag,aj,ab,ae,af,ai,isNil,Nat.reduceEqDiff,Nat.reduceAdd,Nat.reduceLT,Nat.reduceLeDiff,Int.reduceNeg,Int.reduceToNat,reduceCtorEq,t1,t2,t3,h7,h14,h15,h16,h23,h24,h25,encI,hid,hbg,List.length_map]
          refine ⟨by omega,by omega,?_⟩
          rw[m5]
          exact fin _ (by rw[← hnew]; simp[e]; rfl) t1 t2 t3 h14 h15 h16 h23 h24 rfl
      · rw[List.take_of_length_le (by omega)] at hst3
        simp (disch:=omega) only [↓wr,↓reduceIte,wq,ah,ag,aj,ab,ae,af,ai,isNil,Nat.reduceEqDiff,Nat.reduceAdd,Nat.reduceLT,Nat.reduceLeDiff,Int.reduceNeg,Int.reduceToNat,reduceCtorEq,t1,t2,t3,h7,h14,h15,h16,h23,h24,h25]
        refine aT hk (by omega) ⟨is3,hlen3,hle3,?_,hid,hfr,t1,t2,t3,h7,h14,h15,rfl⟩
        rw[htk,← hst,stepG,hl,← hst3]
    · rw[List.take_of_length_le (by omega)] at hst
      simp (disch:=omega) only [↓wr,↓reduceIte,wq,ah,ag,aj,ab,ae,af,ai,isNil,Nat.reduceEqDiff,Nat.reduceAdd,Nat.reduceLT,Nat.reduceLeDiff,Int.reduceNeg,Int.reduceToNat,reduceCtorEq,t1,t2,t3,h7,h14,h15,h16]
      have hrd:lO=cP comes g.rules is:=hst
      by_cases e:lO=is
      · refine ⟨0,by omega,lO,hlen2,hid,hfr,rfl,.inr ⟨by simp[e],?_⟩⟩
        rw[← hgr,e]
        exact (FU (by rw[← hrd]; exact e)).symm
      · obtain ⟨j2,rfl,e2,e3⟩:=Fj (k:=j) (fun h=>e (hrd.trans h)) (by rw[hlen]; exact hj)
        refine ⟨j2+1,by omega,lO,hlen2,hid,hfr,rfl,.inl ⟨by simp[e],j2,rfl,?_,?_⟩⟩
        · rw[← hgr,e2,hrd]
        · rw[← hrd,hlen2] at e3; exact e3
  · simp (disch:=omega) only [↓wr,↓reduceIte,wq,ah,ag,aj,ab,ae,af,ai,isNil,Nat.reduceEqDiff,Nat.reduceAdd,Nat.reduceLT,Nat.reduceLeDiff,Int.reduceNeg,Int.reduceToNat,reduceCtorEq,nA,t1,t2,t3,h7,av,encS]
    exact ⟨hgr ▸ hid,hfr⟩
end Gv
set_option linter.unusedSimpArgs false
set_option maxRecDepth 100000
namespace Gv
open Go Go.Proofs
theorem wK {α:Type} {f:α→α} {x:α} (h:f x=x):∀ n,iter f n x=x
  | 0=>rfl
  | n+1=>by rw[iter,h,wK h n]
theorem CO {α:Type} (f:α→α):∀ (a b:Nat) (x:α),iter f (a+b) x=iter f b (iter f a x)
  | 0,b,x=>by rw[Nat.zero_add]; rfl
  | a+1,b,x=>by rw[Nat.add_right_comm,iter,iter,CO f a b]
theorem xV (comes:aJ→List Bool→List Int) (rules:List aJ):∀ (k:Nat) (is:List Bool),eS comes rules k is=iter (cP comes rules) k is
  | 0,is=>rfl
  | k+1,is=>by
    simp only[eS,iter]
    by_cases e:cP comes rules is=is
    · rw[if_pos e,e,wK e]
    · rw[if_neg e,xV comes rules k]
theorem ud (comes:aJ→List Bool→List Int) (rules:List aJ) (is:List Bool) (h:is.length≤16):eS comes rules 16 is=iter (cP comes rules) is.length is:=by
  have h1:=(pM comes rules is.length is (by omega)).1
  rw[xV] at h1 ⊢
  obtain ⟨m,hm⟩:∃ m,16=is.length+m:=⟨16 - is.length,by omega⟩
  rw[hm,CO,wK h1]
def oY (t:Bool) (r:aJ) (is:List Bool):List Int:=if ep r.right is t=true then [r.left] else []
def oP (p:List Bool) (r:aJ) (is:List Bool):List Int:=if (is.getD r.left.toNat false && ep r.right p true)=true then ez r.right else []
theorem EP (g:al) (t:Bool):cP (oY t) g.rules=lS g t:=by
  funext is
  unfold cP lS
  congr 1
  funext is r
  unfold stepG oY dK
  split <;> rfl
theorem xT:∀ (l:List Int) (is:List Bool),oc is (ez l)=l.foldl mark is
  | [],is=>rfl
  | s :: l,is=>by
    have ih:=xT l
    unfold oc ez at ih ⊢
    rw[List.foldl_cons,← ih]
    unfold mark
    by_cases h:s < 0
    · rw[if_pos h,List.filter_cons_of_pos (by simpa using h)]; rfl
    · rw[if_neg h,List.filter_cons_of_neg (by simpa using h)]
theorem Ev (g:al) (p:List Bool):cP (oP p) g.rules=rv g p:=by
  funext is
  unfold cP rv
  congr 1
  funext is r
  unfold stepG oP ig
  split
  · exact xT _ _
  · rfl
theorem G6 {g:al} (h:bk g=true) (t:Bool):eS (oY t) g.rules 16 (cB g)=aG g t:=by
  have hf:=bc h
  have hl:(cB g).length=g.ax.length:=by simp[cB]
  have:=hf.ax
  rw[ud _ _ _ (by rw[hl]; exact hf.ax),EP,hl,aG,if_pos h]
theorem IP {g:al} (h:bk g=true):eS (oP (aG g true)) g.rules 16 ((cB g).set g.start.toNat true)=bu g:=by
  have hf:=bc h
  have hl:((cB g).set g.start.toNat true).length=g.ax.length:=by simp[cB]
  rw[ud _ _ _ (by rw[hl]; exact hf.ax),Ev,hl,bu,if_pos h]
def nL:SF:=⟨.seq (ak [c8 1 0,((some 2),.op (.bd (.val (.emp 1))))]) <|
  .seq (.seq (ak [aZ 3 4 1,aK 4 45 [3],cn 5 4]) <|
  .cond (.tmp 5) (.seq (ak [((some 2),.op (.bd (.val (.emp 1))))]) <|
  .ret) (.skip)) <|
  .seq (ak [aZ 6 4 1,ao 7 1 1,aq 8 7,aQ 9 8,((some 10),.op (.make 1 1 [(.val (.bool false))] (.tmp 9) (.tmp 9))),cH 11 204 [(.tmp 6),(.tmp 10),(.val (.fn 205 [] []))],aa 2 11]) <|
  .ret,
  [.tmp 2],12⟩
theorem so:aV Tryz.prog 160 [1]=some nL:=by kernel_rfl
def o6:SF:=⟨.seq (ak [c8 1 0,((some 2),.op (.bd (.val (.emp 1))))]) <|
  .seq (.seq (ak [aZ 5 4 1,aK 6 45 [5],cn 7 6]) <|
  .cond (.tmp 7) (.seq (ak [((some 2),.op (.bd (.val (.emp 1))))]) <|
  .ret) (.skip)) <|
  .seq (ak [aZ 8 4 1,aK 9 160 [8],((some 3),.op (.alloc [(.emp 1)])),(none,.op (.store 1 (.tmp 3) (.tmp 9)))]) <|
  .seq (ak [ao 10 1 1,aq 11 10,aQ 12 11,((some 13),.op (.make 1 1 [(.val (.bool false))] (.tmp 12) (.tmp 12))),aa 4 13]) <|
  .seq (ak [aa 14 4,ao 15 3 1,aq 16 15,bo 17 1 14 16,(none,.op (.store 1 (.tmp 17) (.val (.val (.bool true)))))]) <|
  .seq (ak [aZ 18 4 1,aa 19 4,((some 20),.op (.sJ 206 [] [(.tmp 3)])),aK 21 204 [18,19,20],aa 2 21]) <|
  .ret,
  [.tmp 2],22⟩
theorem th:aV Tryz.prog 161 [1]=some o6:=by kernel_rfl
structure al.Small (g:al):Prop where
  names:g.ax.length+g.ay.length≤1000
theorem As {h':aC} {id n:Nat} {is:List Bool} (hv:h'.view id=.arr 1 (db is)) (hn:n=is.length):cX h' (.sl id 0 n 1) (bR is):=by
  subst hn; exact mY hv
set_option maxHeartbeats 2000000 in
theorem q4 (g:al) (hg:g.Ok) (hs:g.Small):cr Tryz.prog 160 [.agg (av g)] (bR (aG g true)):=by
  refine cr.of (gn g) ?_
  refine aB.of mixed so ?_
  have hn:=hg.ax
  unfold aH at hn
  simp (disch:=omega) only [↓wr,↓reduceIte,wq,ah,ag,aj,ab,ae,af,ai,isNil,Nat.reduceEqDiff,Nat.reduceAdd,Nat.reduceLT,Nat.reduceLeDiff,Int.reduceNeg,Int.reduceToNat,reduceCtorEq,nL,av,encS]
  refine aF.pure (kp g hg hs.names) (by kernel_rfl) ?_
  repeat' (first | (refine an.dec (fun _=>?_) (fun _=>?_)) | (refine an.eq (fun _=>?_) (fun _=>?_)) | (refine an.ne (fun _=>?_) (fun _=>?_)) | (refine an.split (fun _=>?_) (fun _=>?_)) | (simp (disch:=omega) only [↓wr,↓reduceIte,wq,ah,ag,aj,ab,ae,af,ai,isNil,Nat.reduceEqDiff,Nat.reduceAdd,Nat.reduceLT,Nat.reduceLeDiff,Int.reduceNeg,Int.reduceToNat,reduceCtorEq,av,encS]))
  · rename_i hr
    have hf:=bc hr
    have h1:=hf.xS
    have h2:=hf.ax
    try simp (disch:=omega) only [↓wr,↓reduceIte,wq,ah,ag,aj,ab,ae,af,ai,isNil,Nat.reduceEqDiff,Nat.reduceAdd,Nat.reduceLT,Nat.reduceLeDiff,Int.reduceNeg,Int.reduceToNat,reduceCtorEq,av,encS]
    refine ⟨⟨by omega,by unfold aL; omega,by unfold aL; omega⟩,fun h=>by omega,?_⟩
    intro _ n
    try simp (disch:=omega) only [↓wr,↓reduceIte,wq,ah,ag,aj,ab,ae,af,ai,isNil,Nat.reduceEqDiff,Nat.reduceAdd,Nat.reduceLT,Nat.reduceLeDiff,Int.reduceNeg,Int.reduceToNat,reduceCtorEq,av,encS]
    refine aF.gH ((EU g hf.rules (oY true) 205 [] [] (by kernel_rfl) g.ax.length h2 (fun r hr' is his=>⟨yC r is (by rw[his]; exact hf.xD hg hr'),?_,?_⟩) n (cB g) (by simp[cB]) _ (by simp[View.set,cB]) (fun H' _=>trivial)).mono ?_)
    · unfold oY; split <;> simp
    · intro m hm
      unfold oY at hm
      split at hm
      · simp only[List.mem_singleton] at hm; subst hm
        exact ⟨(hg.bb r hr').1,hf.left r hr'⟩
      · simp at hm
    · rintro r H' ⟨rfl,hid,_⟩
      simp (disch:=omega) only [↓wr,↓reduceIte,wq,ah,ag,aj,ab,ae,af,ai,isNil,Nat.reduceEqDiff,Nat.reduceAdd,Nat.reduceLT,Nat.reduceLeDiff,Int.reduceNeg,Int.reduceToNat,reduceCtorEq]
      intro h' hh
      rw[G6 hr] at hid
      exact As (by rw[hh]; exact hid) (my hr _).symm
  · rename_i hr
    intro h' hh
    simp only[aG,hr]
    exact .emp _
theorem qi {g:al} (hr:bk g=true):(bu g).length=g.ax.length:=by
  rw[bu,if_pos hr,wA (f:=rv g (aG g true)) (fun is=>w7 (fun is x=>HQ _ is x) g.rules is)]
  simp[cB]
set_option maxHeartbeats 2000000 in
theorem AW (g:al) (hg:g.Ok) (hs:g.Small):cr Tryz.prog 161 [.agg (av g)] (bR (bu g)):=by
  refine cr.of (gn g) ?_
  refine aB.of mixed th ?_
  have hn:=hg.ax
  unfold aH at hn
  simp (disch:=omega) only [↓wr,↓reduceIte,wq,ah,ag,aj,ab,ae,af,ai,isNil,Nat.reduceEqDiff,Nat.reduceAdd,Nat.reduceLT,Nat.reduceLeDiff,Int.reduceNeg,Int.reduceToNat,reduceCtorEq,o6,av,encS]
  refine aF.pure (kp g hg hs.names) (by kernel_rfl) ?_
  repeat' (first | (refine an.dec (fun _=>?_) (fun _=>?_)) | (refine an.eq (fun _=>?_) (fun _=>?_)) | (refine an.ne (fun _=>?_) (fun _=>?_)) | (refine an.split (fun _=>?_) (fun _=>?_)) | (simp (disch:=omega) only [↓wr,↓reduceIte,wq,ah,ag,aj,ab,ae,af,ai,isNil,Nat.reduceEqDiff,Nat.reduceAdd,Nat.reduceLT,Nat.reduceLeDiff,Int.reduceNeg,Int.reduceToNat,reduceCtorEq,av,encS]))
  · rename_i hr
    have hf:=bc hr
    have h1:=hf.xS
    have h2:=hf.ax
    have h3:=hf.gY
    have h4:=hf.start
    have hpl:=my hr true
    try simp (disch:=omega) only [↓wr,↓reduceIte,wq,ah,ag,aj,ab,ae,af,ai,isNil,Nat.reduceEqDiff,Nat.reduceAdd,Nat.reduceLT,Nat.reduceLeDiff,Int.reduceNeg,Int.reduceToNat,reduceCtorEq,av,encS]
    refine aF.pure (q4 g hg hs).pure (by kernel_rfl) ?_
    simp (disch:=omega) only [↓wr,↓reduceIte,wq,ah,ag,aj,ab,ae,af,ai,isNil,Nat.reduceEqDiff,Nat.reduceAdd,Nat.reduceLT,Nat.reduceLeDiff,Int.reduceNeg,Int.reduceToNat,reduceCtorEq,av,encS,bR]
    intro q
    try simp (disch:=omega) only [↓wr,↓reduceIte,wq,ah,ag,aj,ab,ae,af,ai,isNil,Nat.reduceEqDiff,Nat.reduceAdd,Nat.reduceLT,Nat.reduceLeDiff,Int.reduceNeg,Int.reduceToNat,reduceCtorEq,av,encS,set_set]
    refine ⟨⟨by omega,by unfold aL; omega,by unfold aL; omega⟩,fun h=>by omega,?_⟩
    intro _ n hn'
    have hnq:=(dk hn' dr).1
    try simp (disch:=omega) only [↓wr,↓reduceIte,wq,ah,ag,aj,ab,ae,af,ai,isNil,Nat.reduceEqDiff,Nat.reduceAdd,Nat.reduceLT,Nat.reduceLeDiff,Int.reduceNeg,Int.reduceToNat,reduceCtorEq,av,encS,set_set]
    have hbg:=pv (is:=cB g) (show g.start.toNat < (cB g).length by simp[cB]; omega)
    refine ⟨by omega,by simp; omega,?_⟩
    refine aF.gH ((EU g hf.rules (oP (aG g true)) 206 [.ptr q 0 0] [.aR [bR (aG g true)] 0] (by kernel_rfl) g.ax.length h2 (fun r hr' is his=>⟨AN r is (aG g true) (by rw[his]; exact hf.xD hg hr') (by rw[his,hpl]),?_,?_⟩) n ((cB g).set g.start.toNat true) (by simp[cB]) _ ?_ (fun H' hfr=>⟨dt.box (z:=1) ?_ ?_,trivial⟩)).mono ?_)
    · have h6:=hf.right r hr'
      unfold oP
      split
      · have:(ez r.right).length≤r.right.length:=by simp only[ez,List.length_map]; exact List.length_filter_le _ _
        omega
      · simp
    · intro m hm
      unfold oP at hm
      split at hm
      · simp only[ez,List.mem_map,List.mem_filter,decide_eq_true_eq] at hm
        obtain ⟨s,⟨hs',hneg⟩,rfl⟩:=hm
        have a:=hf.neg hr' hs' hneg
        have b:=((hg.bb r hr').2.2.2 s hs').1
        exact ⟨⟨by omega,by omega⟩,by omega,a⟩
      · simp at hm
    · simp only[View.set,if_true]
      congr 1
      rw[← m5]
      unfold cB at hbg ⊢
      rw[Iu,hbg]
      rfl
    · rw[hfr q (by simp[View.set,Ne.symm hnq]) (Ne.symm hnq)]
      simp[View.set,Ne.symm hnq]
      rfl
    · intro v hv; simp at hv; subst hv; exact iG _
    · rintro r H' ⟨rfl,hid,_⟩
      simp (disch:=omega) only [↓wr,↓reduceIte,wq,ah,ag,aj,ab,ae,af,ai,isNil,Nat.reduceEqDiff,Nat.reduceAdd,Nat.reduceLT,Nat.reduceLeDiff,Int.reduceNeg,Int.reduceToNat,reduceCtorEq]
      intro h' hh
      rw[IP hr] at hid
      exact As (by rw[hh]; exact hid) (by rw[qi hr])
  · rename_i hr
    intro h' hh
    simp only[bu,hr]
    exact .emp _
end Gv
set_option linter.unusedSimpArgs false
namespace Gv
open Go Go.Proofs
def bH (p q:List Bool) (r:aJ):Bool:=q.getD r.left.toNat false && ep r.right p true
def cM (p q:List Bool):List aJ→Int→List Int
  | [],_=>[]
  | r :: l,i=>if bH p q r=true then i :: cM p q l (i+1) else cM p q l (i+1)
def dn (acc:List Int) (r:aJ):List Int:=if r.left∈acc then acc else acc ++ [r.left]
def ca (p q:List Bool) (l:List aJ):List Int:=(l.filter (bH p q)).foldl dn []
def bJ (o:List Int) (x:Int):Int:=cO (fun y=>y == x) o 0
def bz (f:Int→Int) (r:aJ):aJ:=⟨f r.left,r.right.map fun s=>if s < 0 then -1 - f (-1 - s) else s,r.prec⟩
def iQ (g:al) (f:Int→Int) (p q:List Bool):al :=
  ⟨g.ay,(ca p q g.rules).map fun x=>g.ax.getD x.toNat ⟨#[]⟩,(g.rules.filter (bH p q)).map (bz f),f g.start⟩
def oK:al:=⟨[],[],[],0⟩
instance:DecidableEq Term:=fun a b=>decidable_of_iff (a.name=b.name∧a.level=b.level∧a.assoc=b.assoc) (by cases a; cases b; simp)
instance:DecidableEq aJ:=fun a b=>decidable_of_iff (a.left=b.left∧a.prec=b.prec∧a.right=b.right) (by cases a; cases b; simp[and_comm])
instance:DecidableEq al:=fun a b=>decidable_of_iff (a.ay=b.ay∧a.ax=b.ax∧a.rules=b.rules∧a.start=b.start) (by cases a; cases b; simp)
def fK (g:al):al × List Int × Int :=
  if bk g=true then
    if (aG g true).getD g.start.toNat false=true then (iQ g (bJ (ca (aG g true) (bu g) g.rules)) (aG g true) (bu g),cM (aG g true) (bu g) g.rules 0,0)
    else (oK,[],9)
  else (oK,[],1)
theorem oA {g:al} (hr:bk g=true):fK g=if (aG g true).getD g.start.toNat false=true then (iQ g (bJ (ca (aG g true) (bu g) g.rules)) (aG g true) (bu g),cM (aG g true) (bu g) g.rules 0,0) else (oK,[],9):=by
  rw[fK,if_pos hr]
theorem o5 (p q:List Bool):∀ (a b:List aJ) (i:Int),cM p q (a ++ b) i=cM p q a i ++ cM p q b (i+a.length)
  | [],b,i=>by simp[cM]
  | r :: a,b,i=>by
    simp only[List.cons_append,cM,o5 p q a b (i+1),List.length_cons]
    have:i+1+(a.length:Int)=i+((a.length+1:Nat):Int):=by push_cast; omega
    rw[this]
    split <;> simp
theorem pI (p q:List Bool):∀ (a:List aJ) (i:Int),(cM p q a i).length=(a.filter (bH p q)).length
  | [],i=>rfl
  | r :: a,i=>by
    simp only[cM,List.filter_cons]
    split <;> simp[pI p q a]
theorem tS (p q:List Bool):∀ (a:List aJ) (i:Int) (k:Nat),k < (cM p q a i).length→∃ m:Nat,(cM p q a i)[k]?=some (i+m)∧a[m]?=(a.filter (bH p q))[k]?∧m < a.length
  | [],i,k,h=>by simp[cM] at h
  | r :: a,i,k,h=>by
    simp only[cM,List.filter_cons] at h ⊢
    by_cases hr:bH p q r=true
    · rw[if_pos hr] at h ⊢
      rw[if_pos hr]
      cases k with
      | zero=>exact ⟨0,by simp,by simp,by simp⟩
      | succ k =>
        obtain ⟨m,h1,h2,h3⟩:=tS p q a (i+1) k (by simpa using h)
        exact ⟨m+1,by rw[List.getElem?_cons_succ,h1]; congr 1; push_cast; omega,by simpa using h2,by simpa using h3⟩
    · rw[if_neg hr] at h ⊢
      rw[if_neg hr]
      obtain ⟨m,h1,h2,h3⟩:=tS p q a (i+1) k h
      exact ⟨m+1,by rw[h1]; congr 1; push_cast; omega,by simpa using h2,by simpa using h3⟩
theorem zL (p q:List Bool) (l:List aJ) (r:aJ):ca p q (l ++ [r])=if bH p q r=true then dn (ca p q l) r else ca p q l:=by
  unfold ca
  rw[List.filter_append]
  by_cases h:bH p q r=true
  · rw[if_pos h,List.filter_cons_of_pos h,List.foldl_append]; rfl
  · rw[if_neg h,List.filter_cons_of_neg h]; simp
theorem Ff {acc:List Int} {r:aJ} (h:acc.Nodup):(dn acc r).Nodup:=by
  unfold dn
  split
  · exact h
  · rename_i hn
    rw[List.nodup_append]
    exact ⟨h,by simp,fun a ha b hb e=>hn (by simp at hb; rw[← hb,← e]; exact ha)⟩
theorem Ct {o:List Int} {x:Int} : bJ o x < 0↔x ∉ o:=by
  have:=mo (fun y=>y == x) o 0 (by omega)
  unfold bJ
  rw[← Int.not_le]
  constructor
  · intro h hx
    have e:(o.any fun y=>y == x)=true:=List.any_eq_true.2 ⟨x,hx,by simp⟩
    rw[e] at this; exact h (by simpa using this)
  · intro h hx
    have e:(o.any fun y=>y == x)=true:=by rw[← this]; simpa using hx
    obtain ⟨y,hy,e⟩:=List.any_eq_true.1 e
    simp at e; subst e; exact h hy
theorem vQ {α:Type} (p:α→Bool):∀ (a b:List α) (i:Int),0≤i→cO p (a ++ b) i=if 0≤cO p a i then cO p a i else cO p b (i+a.length)
  | [],b,i,_=>by simp[cO]
  | x :: a,b,i,h=>by
    by_cases hp:p x=true
    · simp[cO,hp,h]
    · simp only[List.cons_append,cO,if_neg hp]
      rw[vQ p a b (i+1) (by omega)]
      have:i+1+(a.length:Int)=i+(((x :: a).length:Nat):Int):=by simp; omega
      rw[this]
theorem iV {o:List Int} {x:Int} (h:x∈o):0≤bJ o x∧bJ o x < o.length:=by
  have h0:¬ bJ o x < 0:=fun e=>Ct.1 e h
  refine ⟨by omega,?_⟩
  unfold bJ
  have:∀ (l:List Int) (i:Int),cO (fun z=>z == x) l i < i+l.length∨cO (fun z=>z == x) l i = -1:=by
    intro l
    induction l with
    | nil=>intro i; right; rfl
    | cons z l ih =>
      intro i
      simp only[cO]
      split
      · left; simp; omega
      · rcases ih (i+1) with h | h
        · left; simp at h ⊢; omega
        · right; exact h
  rcases this o 0 with h1 | h1
  · simpa using h1
  · unfold bJ at h0; omega
theorem Du (o:List Int) (x:Int) : -1≤bJ o x∧bJ o x≤o.length:=by
  by_cases h:x∈o
  · have:=iV h; omega
  · have h1:=Ct.2 h
    have h2:∀ (l:List Int) (i:Int),0≤i→-1≤cO (fun z=>z == x) l i:=by
      intro l
      induction l with
      | nil=>intro i _; simp[cO]
      | cons z l ih =>
        intro i hi
        simp only[cO]
        split
        · omega
        · exact ih _ (by omega)
    have:=h2 o 0 (by omega)
    unfold bJ at h1 ⊢
    omega
def gI:List Int→Int→List (Int × Int)
  | [],_=>[]
  | x :: l,i=>(x,i) :: gI l (i+1)
theorem pN (x:Int):∀ (o:List Int) (i:Int),c3 (gI o i) x=if x∈o then some (cO (fun y=>y == x) o i) else none
  | [],i=>by simp[gI,c3]
  | y :: o,i=>by
    have ih:=pN x o (i+1)
    unfold c3 at ih ⊢
    simp only[gI,List.find?_cons,cO]
    by_cases e:x=y
    · subst e; simp
    · have e2:¬ ((y == x)=true):=by simp[Ne.symm e]
      rw[show (x == y)=false by simp[e],if_neg e2]
      simp only
      rw[ih]
      simp[e]
theorem Ap {x v:Int} : ∀ {o:List Int} {i:Int},x ∉ o→hO x v (gI o i)=gI o i ++ [(x,v)]
  | [],i,_=>rfl
  | y :: o,i,h=>by
    simp only[List.mem_cons,not_or] at h
    simp only[gI,hO,show (x == y)=false by simp[h.1],Bool.false_eq_true,if_false,Ap h.2,List.cons_append]
theorem xz {x:Int} : ∀ {o:List Int} {i:Int},gI (o ++ [x]) i=gI o i ++ [(x,i+o.length)]
  | [],i=>by simp[gI]
  | y :: o,i=>by
    simp only[List.cons_append,gI,xz (o:=o),List.length_cons]
    congr 4
    push_cast; omega
def cQ (o:List Int) (x:Int):Int:=(c3 (gI o 0) x).getD 0
theorem vo {o:List Int} {x:Int} (h:x∈o):cQ o x=bJ o x:=by
  simp[cQ,pN,h,bJ]
theorem Lm (o:List Int) (x:Int):0≤cQ o x∧cQ o x≤o.length:=by
  by_cases h:x∈o
  · rw[vo h]; have:=iV h; omega
  · simp[cQ,pN,h]
theorem Gp {g:al} {p q:List Bool} (hst:g.start∈ca p q g.rules) (hin:∀ r∈g.rules.filter (bH p q),r.left∈ca p q g.rules∧∀ s∈r.right,s < 0→-1 - s∈ca p q g.rules) :
    iQ g (cQ (ca p q g.rules)) p q=iQ g (bJ (ca p q g.rules)) p q:=by
  unfold iQ
  congr 1
  · apply List.map_congr_left
    intro r hr
    obtain ⟨h1,h2⟩:=hin r hr
    unfold bz
    congr 1
    · exact vo h1
    · apply List.map_congr_left
      intro s hs
      split
      · rename_i h; rw[vo (h2 s hs h)]
      · rfl
  · exact vo hst
theorem rp:∀ (l:List aJ) (acc:List Int) (x:Int),x∈l.foldl dn acc↔x∈acc∨∃ r∈l,r.left=x
  | [],acc,x=>by simp
  | r :: l,acc,x=>by
    rw[List.foldl_cons,rp l]
    have:x∈dn acc r↔x∈acc∨r.left=x:=by
      unfold dn
      split
      · rename_i h
        constructor
        · exact .inl
        · rintro (h' | rfl)
          · exact h'
          · exact h
      · simp[eq_comm]
    rw[this]
    simp only[List.mem_cons,exists_eq_or_imp]
    constructor
    · rintro ((h | h) | h)
      · exact .inl h
      · exact .inr (.inl h)
      · exact .inr (.inr h)
    · rintro (h | h | h)
      · exact .inl (.inl h)
      · exact .inl (.inr h)
      · exact .inr h
theorem oU {p q:List Bool} {l:List aJ} {x:Int} : x∈ca p q l↔∃ r∈l,bH p q r=true∧r.left=x:=by
  unfold ca
  rw[rp]
  simp[List.mem_filter,and_assoc]
end Gv
set_option linter.unusedSimpArgs false
set_option maxRecDepth 100000
namespace Gv
open Go Go.Proofs
abbrev bY (l:List Int):List (List V):=l.map fun x=>[gi x]
abbrev pW (l:List ByteArray):List (List V):=l.map fun s=>[gs s]
theorem C6 {l:List Int} {i:Nat} (h:i < l.length):(bY l).getD i []=[gi l[i]]:=by simp[List.getD_eq_getElem?_getD,h]
theorem ints_set (l:List Int) (i:Nat) (x:Int):(bY l).set i [gi x]=bY (l.set i x):=by simp[List.map_set]
abbrev yn:=List (V × aJ)
def iF (b:yn):List (List V):=b.map fun x=>[gi x.2.left,x.1,gi x.2.prec]
def rE (b:yn):List fv:=b.map fun x=>(x.1,1,bY x.2.right)
theorem Hh {h:aC} {u:V} {b:yn} (ho:aO h.view u 3 (iF b)) (hb:∀ x∈rE b,aO h.view x.1 x.2.1 x.2.2):cX h u (.aN ((b.map (·.2)).map bf)):=by
  refine cX.own ho (by simp[iF]) (fun i hi=>?_) (fun i j hi hj=>?_)
  all_goals
    simp only[iF,List.length_map] at hi
    have e1:(iF b).getD i []=[gi b[i].2.left,b[i].1,gi b[i].2.prec]:=by simp[iF,List.getD_eq_getElem?_getD,hi]
    have e2:((b.map (·.2)).map bf).getD i []=bf b[i].2:=by simp[List.getD_eq_getElem?_getD,hi]
  · rw[e1,e2]; rfl
  · rw[e1,e2]
    rw[e2] at hj
    have hm:b[i]∈b:=List.getElem_mem _
    have ho:=hb (b[i].1,1,bY b[i].2.right) (List.mem_map.2 ⟨_,hm,rfl⟩)
    match j,hj with
    | 0,_=>exact .val _
    | 1,_=>exact jX ho
    | 2,_=>exact .val _
    | n+3,hj=>exact absurd hj (by simp only[bf,List.length_cons,List.length_nil]; omega)
theorem JT {h:aC} {u:V} {l:List ByteArray} (ho:aO h.view u 1 (pW l)):cX h u (encS l):=cX.IU (f:=Value.string) ho
theorem Iw {h:aC} {u:V} {l:List Term} (ho:aO h.view u 3 (l.map cz)):cX h u (c9 l):=by
  refine cX.own ho rfl (fun _ _=>rfl) (fun i j hi hj=>?_)
  simp only[List.length_map] at hi
  have e1:(l.map cz).getD i []=cz l[i]:=by simp[List.getD_eq_getElem?_getD,hi]
  rw[e1] at hj ⊢
  match j,hj with
  | 0,_=>exact .val _
  | 1,_=>exact .val _
  | 2,_=>exact .val _
  | n+3,hj=>exact absurd hj (by simp only[cz,List.length_cons,List.length_nil]; omega)
def zi (x:al × List Int × Int):V:=.bg [.agg (av x.1),encI x.2.1,gi x.2.2]
theorem BN {h:aC} {e:Int} {k1 k2 k3 k4:Nat} : cX h (.bg [.agg [.emp k1,.emp k2,.emp k3,gi 0],.emp k4,gi e]) (zi (oK,[],e)):=by
  refine .bg _ _ rfl fun i hi=>?_
  match i,hi with
  | 0,_ =>
    refine .agg _ _ rfl fun j hj=>?_
    match j,hj with
    | 0,_=>exact .emp _
    | 1,_=>exact .emp _
    | 2,_=>exact .emp _
    | 3,_=>exact .val _
    | n+4,hj=>exact absurd hj (by simp only[List.length_cons,List.length_nil]; omega)
  | 1,_=>exact .emp _
  | 2,_=>exact .val _
  | n+3,hi=>exact absurd hi (by simp only[List.length_cons,List.length_nil]; omega)
theorem KG {h:aC} {u0 u1 u2 u3:V} {x:al × List Int × Int} {b:yn} (h0:aO h.view u0 3 (x.1.ay.map cz)) (h1:aO h.view u1 1 (pW x.1.ax)) (h2:aO h.view u2 3 (iF b)) (hb:∀ y∈rE b,aO h.view y.1 y.2.1 y.2.2)
    (hr:b.map (·.2)=x.1.rules) (h3:aO h.view u3 1 (bY x.2.1)):cX h (.bg [.agg [u0,u1,u2,gi x.1.start],u3,gi x.2.2]) (zi x):=by
  refine .bg _ _ rfl fun i hi=>?_
  match i,hi with
  | 0,_ =>
    refine .agg _ _ rfl fun j hj=>?_
    match j,hj with
    | 0,_=>exact Iw h0
    | 1,_=>exact JT h1
    | 2,_=>have:=Hh h2 hb; rw[hr] at this; exact this
    | 3,_=>exact .val _
    | n+4,hj=>exact absurd hj (by simp only[List.length_cons,List.length_nil]; omega)
  | 1,_=>exact jX h3
  | 2,_=>exact .val _
  | n+3,hi=>exact absurd hi (by simp only[List.length_cons,List.length_nil]; omega)
end Gv
set_option linter.unusedSimpArgs false
set_option maxRecDepth 100000
namespace Gv
open Go Go.Proofs
theorem Da {g:al} (e:kU g=false):g.Small:=by
  simp only[kU,Bool.or_eq_false_iff,decide_eq_false_iff_not] at e
  exact ⟨by omega⟩
theorem J9 (g:al):aE Tryz.prog 12 [.agg (av g)] (gb (kU g)):=aE.val (gn g) fun H=>(Jk g H).mono fun _ _ h=>h.1
theorem w5 {h:aC} {a b c d:V} (ha:cX h a c) (hb:cX h b d):cX h (.bg [a,b]) (.bg [c,d]):=.bg _ _ rfl fun i hi=>by
  match i,hi with
  | 0,_=>exact ha
  | 1,_=>exact hb
  | n+2,h=>exact absurd h (by simp)
theorem xQ {H:View} {id n:Nat} {l:List Int} (hv:H id=.arr 1 (bY l)) (hn:n=l.length):dt H (.sl id 0 n 1) (encI l):=by
  subst hn
  exact dt.own (sz:=1) (.inr ⟨id,by simp,hv⟩) fun e he v hv=>by
    obtain ⟨x,_,rfl⟩:=List.mem_map.1 he
    simp at hv; subst hv; exact .val _
theorem aO.elems {H:View} {u:V} {sz:Nat} {es:List (List V)} (h:aO H u sz es):∃ rd,bO H u=some (es,rd):=by
  rcases h with ⟨rfl,k,rfl⟩ | ⟨n,rfl,hn⟩
  · exact ⟨[],rfl⟩
  · cases es with
    | nil=>exact ⟨[],rfl⟩
    | cons e r =>
      refine ⟨[n],?_⟩
      rw[List.length_cons,sn _ n 0 r.length sz sz _ hn (by simp),List.drop_zero,List.take_of_length_le (by simp)]
theorem c6.step {H H' H1:View} {u u1:V} (h:c6 H H' u) (l:Left H' H1 u u1):c6 H H1 u1:=fun id hid=>by
  have h1:=h id hid
  have h2:=l id (by rw[h1.1]; exact hid) h1.2
  exact ⟨h2.1.trans h1.1,h2.2⟩
theorem c6.put {H H':View} {u:V} {n:Nat} {o:bN} (h:c6 H H' u) (hn:H' n=.dead):c6 H (H'.set n o) u:=fun id hid=>by
  have h1:=h id hid
  have e:id≠n:=by rintro rfl; rw[h1.1] at hn; exact hid hn
  exact ⟨by simp[View.set,e,h1.1],h1.2⟩
theorem c6.call {H H' H2:View} {u r:V} (h:c6 H H' u) (k:c6 H' H2 r):c6 H H2 u:=fun id hid=>by
  have h1:=h id hid
  have h2:=k id (by rw[h1.1]; exact hid)
  exact ⟨h2.1.trans h1.1,h1.2⟩
end Gv
set_option linter.unusedSimpArgs false
namespace Gv
open Go
theorem kZ {P:Program} {t:TypeId} {d:TypeDesc} (hu:P.underlying t=some d) (hd:d=.string∨∃ k,d=.int k) (cs:Array Value) (off:Nat) {v:Value} (hv:cs[off]?=some v):bp P (part t cs off)=some v:=by
  have h0:bp P (isAgg t)=some false:=by
    rcases hd with rfl | ⟨k,rfl⟩
    all_goals simp only[isAgg,bh,dA hu,Option.bind_some]; rfl
  simp only[part,bh,h0,Option.bind_some,Bool.false_eq_true,if_false,hv]
  rfl
inductive fe (P:Program) (d:Nat) (xs ys:Array Value):List Field→Bool→Prop
  | nil:fe P d xs ys [] true
  | str (f:Field) (l:List Field) (c:Bool) (a b:ByteArray):(f.name≠ "_")→P.underlying f.type=some .string→xs[f.offset]?=some (.string a)→ys[f.offset]?=some (.string b)→fe P d xs ys l c→fe P d xs ys (f :: l) (a == b && c)
  | int (f:Field) (l:List Field) (c:Bool) (k:IntKind) (a b:Int):(f.name≠ "_")→P.underlying f.type=some (.int k)→xs[f.offset]?=some (.int k a)→ys[f.offset]?=some (.int k b)→fe P d xs ys l c→fe P d xs ys (f :: l) (a == b && c)
theorem fe.forIn {P:Program} {d e:Nat} {xs ys:Array Value} {l:List Field} {c:Bool} (h:fe P d xs ys l c) (hd:e=d+1) :
    bp P (forIn l ((none:Option Bool),()) fun f _ =>
        if f.name≠ "_" then do
          let a ← part f.type xs f.offset
          let b ← part f.type ys f.offset
          let e ← Op.equalIn e f.type a b
          if (!e)=true then pure (ForInStep.done (some false,())) else pure (ForInStep.yield (none,()))
        else pure (ForInStep.yield (none,())))=some (if c=true then (none,()) else (some false,())):=by
  subst hd
  induction h with
  | nil=>rfl
  | str f l c a b hn hu hx hy _ ih =>
    have he:bp P (Op.equalIn (d+1) f.type (.string a) (.string b))=some (a == b):=by
      simp only[Op.equalIn,bh,dA hu,Option.bind_some]; rfl
    rw[List.forIn_cons,bh,if_pos hn,bh,kZ hu (.inl rfl) xs _ hx,Option.bind_some,bh,kZ hu (.inl rfl) ys _ hy,Option.bind_some,bh,he,Option.bind_some]
    cases a == b with
    | false=>rfl
    | true=>exact ih
  | int f l c k a b hn hu hx hy _ ih =>
    have he:bp P (Op.equalIn (d+1) f.type (.int k a) (.int k b))=some (a == b):=by
      simp only[Op.equalIn,bh,dA hu,Option.bind_some]; rfl
    rw[List.forIn_cons,bh,if_pos hn,bh,kZ hu (.inr ⟨k,rfl⟩) xs _ hx,Option.bind_some,bh,kZ hu (.inr ⟨k,rfl⟩) ys _ hy,Option.bind_some,bh,he,Option.bind_some]
    cases a == b with
    | false=>rfl
    | true=>exact ih
theorem wX {P:Program} {t:TypeId} {fs:Array Field} {xs ys:Array Value} {c:Bool} (hu:P.underlying t=some (.struct fs)) (hs:P.stoodInHeld t=false) (h:fe P 9998 xs ys fs.toList c) :
    bp P (Op.equal t (.agg xs) (.agg ys))=some c:=by
  rw[jh]
  rw[Op.equalIn,bh,dA hu,Option.bind_some]
  have hst:(bp P program)=some P:=rfl
  rw[bh,hst,Option.bind_some,hs]
  simp only[← Array.forIn_toList,Bool.false_eq_true,if_false]
  rw[bh,h.forIn (e:=9999) rfl,Option.bind_some]
  cases c <;> rfl
theorem yB {P:Program} {o:Oper} {T:Env} {op:BinOp} {t u:TypeId} {x y:Operand} {fs:Array Field} {xs ys:Array Value} {c r:Bool} (ho:o.op=.binOp op t x y u) (hu:P.underlying t=some (.struct fs)) (hs:P.stoodInHeld t=false) (hg:P.eqGuardType P.depth t=false)
    (hx:ch (ev T x)=some (.agg xs)) (hy:ch (ev T y)=some (.agg ys)) (h:fe P 9998 xs ys fs.toList c) (hr:(op=.eql∧r=c)∨(op=.neq∧r = !c)) :
    cJ P o T=some (.val (.bool r),.none,[]):=by
  have he:=wX hu hs h
  have hst:(bp P program)=some P:=rfl
  unfold cJ
  simp only[ho,Op.operands,hx,hy]
  rcases hr with ⟨rfl,rfl⟩ | ⟨rfl,rfl⟩
  · simp[execOp,ho,hx,hy,eqGuard,binOp,fN,bh,hst,hg,he,plain]
    try simp[bp,pure,plain]
  · simp[execOp,ho,hx,hy,eqGuard,binOp,fN,bh,hst,hg,he,plain]
    try simp[bp,pure,plain,bne]
theorem De {P:Program} {T:Env} {H:View} {K:V→View→Prop} {w:cm (T,H,K)} {op:BinOp} {t u ty:TypeId} {x y:Operand} {fs:Array Field} {xs ys:Array Value} {c r:Bool} (hu:P.underlying t=some (.struct fs)) (hs:P.stoodInHeld t=false) (hg:P.eqGuardType P.depth t=false)
    (hx:ch (ev T x)=some (.agg xs)) (hy:ch (ev T y)=some (.agg ys)) (h:fe P 9998 xs ys fs.toList c) (hr:(op=.eql∧r=c)∨(op=.neq∧r = !c)) (hk:K (.val (.bool r)) H):mz P (.binOp op t x y u) ty T H K w:=by
  intro n _
  refine ⟨.val (.bool r),.none,[],?_,hk⟩
  have hn:gp P t=none:=by simp[gp,hu]
  simp only[sI,bM,oper,hn]
  simp only[Option.isSome_none,Bool.false_eq_true,if_false]
  exact yB rfl hu hs hg hx hy h hr
end Gv
set_option linter.unusedSimpArgs false
namespace Gv
open Go
def tE (hp:Array Obj) (cs:List Value) (vs:List V):Prop :=
  vs.length=cs.length∧∀ μ i,i < vs.length→aw (fun b=>b < hp.size) μ hp (vs.getD i .any) (cs.getD i undef)
def Wt {H:Type} (P:Program) (t:TypeId) (d:DataW H):Prop:=∀ n∈d.weights P t,n≤reachBytes
def sS (P:Program) (t:TypeId) {α:Type} (f:α→List V) (ok:α→Prop):Prop :=
  ∀ {H:Type} (enc:TypeId × Value→H) (w:World) (base:Nat) (sp:Nat→Bool) (held:Bool) (fuel:Nat) (cs:List Value) (x:DataW H × List MemPlace),
    DataW.trod enc P w base sp held fuel t cs=some x→Wt P t x.1→∃ a,ok a∧tE w.heap cs (f a)
theorem sH {hp:Array Obj} {c:Value} {v:V} (h:∀ μ,aw (fun b=>b < hp.size) μ hp v c):tE hp [c] [v]:=by
  refine ⟨rfl,fun μ i hi=>?_⟩
  match i,hi with
  | 0,_=>exact h μ
theorem LG {P:Program} {t:TypeId} {k:IntKind} (ht:P.underlying t=some (.int k)):sS P t (fun n=>[.val (.int k n)]) (fun n=>(Lit.int k n).wf=true):=by
  intro H enc w base sp held fuel cs x h _
  obtain ⟨n,rfl,_,hw⟩:=DataW.trod_int ht h
  exact ⟨n,hw,sH fun μ=>.val _ rfl⟩
theorem zr {P:Program} {t:TypeId} (ht:P.underlying t=some .string):sS P t (fun s=>[.val (.string s)]) (fun _=>True):=by
  intro H enc w base sp held fuel cs x h _
  obtain ⟨s,rfl,_,_⟩:=DataW.trod_string ht h
  exact ⟨s,trivial,sH fun μ=>.val _ rfl⟩
theorem Cx {w:World} {base:Nat} {a:Addr} {n:Nat} {cs:List Value} (h:w.cells? base a n=some cs):cs.length=n∧∀ i,i < n→w.cell? (a.add i)=some (cs.getD i undef):=by
  obtain ⟨_,h2,h3⟩:=World.cells?_some h
  refine ⟨h2,fun i hi=>?_⟩
  rw[h3 i hi,List.getD_eq_getElem?_getD,List.getElem?_eq_getElem (by omega)]
  rfl
theorem Ha {w:World} {a:Addr} {v:Value} (h:w.cell? a=some v):a.spot=none∧a.block < w.heap.size:=by
  unfold World.cell? at h
  split at h
  · rename_i c _ _ hb
    split at h
    · simp at h
    · rename_i hs
      exact ⟨by simpa using hs,(Array.getElem?_eq_some_iff.1 hb).1⟩
  · simp at h
theorem G0 {H:Type} {P:Program} {e:TypeId} : ∀ {l:List (DataW H)},(∀ n∈DataW.weightsAll P e l,n≤reachBytes)→∀ d∈l,Wt P e d
  | [],_,d,hd=>by simp at hd
  | x :: l,h,d,hd=>by
    simp only[DataW.weightsAll,List.mem_append] at h
    rcases List.mem_cons.1 hd with rfl | hd
    · exact fun n hn=>h n (.inl hn)
    · exact G0 (fun n hn=>h n (.inr hn)) d hd
theorem J1 {H:Type} {P:Program} {t e:TypeId} {elems spare:List (DataW H)} (ht:P.underlying t=some (.slice e)) (h:Wt P t (.slice elems spare)) :
    (elems.length+spare.length) * P.bytesOf e≤reachBytes∧∀ d∈elems,Wt P e d:=by
  unfold Wt at h
  unfold DataW.weights at h
  rw[ht] at h
  simp only[List.mem_cons,List.mem_append] at h
  exact ⟨h _ (.inl rfl),G0 fun n hn=>h n (.inr (.inl hn))⟩
theorem Iz {H:Type} {P:Program} {t:TypeId} {fs:Array Field} {parts:List (DataW H)} (ht:P.underlying t=some (.struct fs)) (h:Wt P t (.agg parts)) {j:Nat} {f:Field} {d:DataW H} (hf:fs[j]?=some f) (hd:parts[j]?=some d):Wt P f.type d:=by
  intro n hn
  refine h n ?_
  unfold DataW.weights
  rw[ht]
  exact DataW.weights_mem_each (j:=j) (t:=f.type) (by simp[hf]) hd n hn
theorem DD {α:Type} {φ:Nat→α→Prop} : ∀ (n:Nat),(∀ i,i < n→∃ a,φ i a)→∃ l:List α,l.length=n∧∀ i (hi:i < l.length),φ i l[i]
  | 0,_=>⟨[],rfl,fun i hi=>by simp at hi⟩
  | n+1,h=>by
    obtain ⟨l,hl,hφ⟩:=DD n fun i hi=>h i (by omega)
    obtain ⟨a,ha⟩:=h n (by omega)
    refine ⟨l ++ [a],by simp[hl],fun i hi=>?_⟩
    by_cases e:i < l.length
    · rw[List.getElem_append_left e]; exact hφ i e
    · have:i=n:=by simp at hi; omega
      subst this
      rw[List.getElem_append_right (by omega)]
      simp only[hl,Nat.sub_self,List.getElem_cons_zero]; exact ha
theorem oM {P:Program} {t e:TypeId} {α:Type} {f:α→List V} {ok:α→Prop} (ht:P.underlying t=some (.slice e)) (hc:0 < P.cellsOf e) (hb:0 < P.bytesOf e) (he:sS P e f ok) :
    sS P t (fun l:List α=>[.aN (l.map f)]) (fun l=>l.length < 4611686018427387904∧∀ a∈l,ok a):=by
  intro H enc w base sp held fuel cs x h hw
  rcases DataW.trod_slice ht h with ⟨rfl,rfl⟩ | ⟨a,len,cap,elems,rest,n,_,rfl,rfl,hba,hl,hm,hlen,hel,_,_⟩
  · exact ⟨[],⟨by simp,by simp⟩,sH fun μ=>.ff none 0 (by simp)⟩
  obtain ⟨hw1,hw2⟩:=J1 ht hw
  simp only[List.length_map] at hw1
  have hlt:len < 4611686018427387904:=by
    have h1:len * 1≤(elems.length+rest.length) * P.bytesOf e:=Nat.mul_le_mul (by omega) hb
    unfold reachBytes at hw1
    omega
  have each:∀ i,i < len→∃ y,ok y∧∃ ci,w.cells? base (a.add (i * P.cellsOf e)) (P.cellsOf e)=some ci∧tE w.heap ci (f y):=by
    intro i hi
    have h1:=hel i hi
    have h2:elems[i]?=some (elems[i]'(by omega)):=List.getElem?_eq_getElem (by omega)
    have hmem:elems[i]'(by omega)∈elems:=List.getElem_mem _
    rw[h2,Option.bind_eq_some_iff] at h1
    obtain ⟨ci,h3,h4⟩:=h1
    obtain ⟨y,h5,h6⟩:=he enc w base sp held n ci _ h4 (hw2 _ (List.mem_map.2 ⟨_,hmem,rfl⟩))
    exact ⟨y,h5,ci,h3,h6⟩
  obtain ⟨l,hll,hφ⟩:=DD len each
  subst hll
  refine ⟨l,⟨hlt,fun y hy=>?_⟩,sH fun μ=>?_⟩
  · obtain ⟨i,hi,rfl⟩:=List.getElem_of_mem hy
    exact (hφ i hi).1
  by_cases h0:l=[]
  · subst h0
    exact .ff (some a) cap (by simp)
  have hpos:0 < l.length:=List.length_pos_iff.2 h0
  have hcell:∀ i j,i < l.length→j < P.cellsOf e→∃ c,cellAt w.heap a.block (a.off+i * P.cellsOf e+j)=some c∧a.block < w.heap.size∧(i=0→j=0→a.spot=none)∧∀ (hi:i < l.length),aw (fun b=>b < w.heap.size) μ w.heap ((f l[i]).getD j .any) c:=by
    intro i j hi hj
    obtain ⟨_,ci,h1,h2⟩:=hφ i hi
    obtain ⟨h3,h4⟩:=Cx h1
    have h5:=h4 j hj
    have h6:=Ha h5
    have hbk:((a.add (i * P.cellsOf e)).add j).block=a.block:=by simp only[Addr.add]; split <;> split <;> rfl
    have hof:((a.add (i * P.cellsOf e)).add j).off=a.off+i * P.cellsOf e+j:=by
      simp only[Addr.add]; split <;> split <;> simp_all
    refine ⟨ci.getD j undef,?_,by rw[← hbk]; exact h6.2,?_,fun _=>?_⟩
    · rw[← hof,← hbk,← ox]
      rw[← h5]
      congr 1
      generalize (a.add (i * P.cellsOf e)).add j=b at h6
      cases b
      simp at h6 ⊢
      exact h6.1.symm
    · rintro rfl rfl
      simp[Addr.add] at h6
      exact h6.1
    · exact h2.2 μ j (by rw[h2.1,h3]; exact hj)
  obtain ⟨_,_,hz,hs,_⟩:=hcell 0 0 hpos hc
  have ha:a=⟨a.block,a.off,none⟩:=by
    cases a; simp at hs ⊢; exact hs
  have hlf:∀ i,i < l.length→(f (l[i]?.getD (l[0]'hpos))).length=P.cellsOf e:=fun i hi=>by
    obtain ⟨_,ci,h1,h2⟩:=hφ i hi
    rw[List.getElem?_eq_getElem hi,Option.getD_some,h2.1,(Cx h1).1]
  have hgd:∀ i (hi:i < l.length),(l.map f).getD i []=f l[i]:=fun i hi=>by simp[List.getD_eq_getElem?_getD,hi]
  have hcl:(l.map f).length=l.length:=by simp
  have:=aw.aN (Z:=fun b=>b < w.heap.size) (μ:=μ) (hp:=w.heap) (l.map f) a.block a.off (P.cellsOf e) cap (fun i j=>(cellAt w.heap a.block (a.off+i * P.cellsOf e+j)).getD undef) hz (by rw[hcl]; exact hl)
    (fun i hi=>by
      rw[hcl] at hi
      have:=hlf i hi
      rw[List.getElem?_eq_getElem hi,Option.getD_some] at this
      rw[hgd i hi]; exact this)
    (fun i j hi hj=>by
      rw[hcl] at hi
      obtain ⟨c,h1,_⟩:=hcell i j hi hj
      rw[h1]; rfl)
    (fun i j hi hj=>by
      rw[hcl] at hi
      obtain ⟨c,h1,_,_,h2⟩:=hcell i j hi hj
      rw[h1,hgd i hi]; exact h2 hi)
  rw[hcl,← ha] at this
  exact this
theorem uC {P:Program} {t:TypeId} {fs:Array Field} (ht:P.underlying t=some (.struct fs)) (hf:∀ (i:Nat) (f:Field),fs[i]?=some f→f.offset=i∧P.cellsOf f.type=1) (hn:P.cellsOf t=fs.size)
    {H:Type} {enc:TypeId × Value→H} {w:World} {base:Nat} {sp:Nat→Bool} {held:Bool} {fuel:Nat} {cs:List Value} {x:DataW H × List MemPlace} (h:DataW.trod enc P w base sp held fuel t cs=some x) (hw:Wt P t x.1) :
    cs.length=fs.size∧∀ (i:Nat) (f:Field),fs[i]?=some f→∀ {α:Type} {g:α→List V} {ok:α→Prop},sS P f.type g ok→∃ a,ok a∧tE w.heap [cs.getD i undef] (g a):=by
  obtain ⟨xs,n,rfl,rfl,hl,hlen,hx⟩:=DataW.trod_struct ht h
  refine ⟨by rw[hl,hn],fun i f hi α g ok hr=>?_⟩
  obtain ⟨h1,h2⟩:=hf i f hi
  have hi2:i < fs.size:=(Array.getElem?_eq_some_iff.1 hi).1
  have h3:=hx i f hi
  have h4:xs[i]?=some (xs[i]'(by omega)):=List.getElem?_eq_getElem (by omega)
  rw[h4,h1,h2] at h3
  have h5:(cs.drop i).take 1=[cs.getD i undef]:=by
    rw[List.getD_eq_getElem?_getD,List.getElem?_eq_getElem (by omega),List.drop_eq_getElem_cons (by omega)]
    rfl
  rw[h5] at h3
  exact hr enc w base sp held n _ _ h3 (Iz ht hw hi (by simp[h4]))
theorem fa {hp:Array Obj} {c:Value} {cs:List Value} {v:V} {vs:List V} (h:tE hp [c] [v]) (k:tE hp cs vs):tE hp (c :: cs) (v :: vs):=by
  refine ⟨by simp[k.1],fun μ i hi=>?_⟩
  cases i with
  | zero=>exact h.2 μ 0 (by simp)
  | succ i=>exact k.2 μ i (by simpa using hi)
theorem wN {hp:Array Obj} : tE hp [] []:=⟨rfl,fun μ i hi=>by simp at hi⟩
end Gv
set_option linter.unusedSimpArgs false
set_option maxRecDepth 100000
namespace Gv
open Go Go.Proofs
theorem Ld {n:Int} (h:(Lit.int .i64 n).wf=true):bT n:=by
  simp only[Lit.wf,Bool.and_eq_true,decide_eq_true_eq] at h
  exact h
theorem ml:sS Tryz.prog 3 (fun n=>[gi n]) bT:=fun enc w base sp held fuel cs x h hw=>by
  obtain ⟨n,h1,h2⟩:=LG Tryz.underlying3 enc w base sp held fuel cs x h hw
  exact ⟨n,Ld h1,h2⟩
theorem Dw:sS Tryz.prog 31 (fun l:List Int=>[encI l]) (fun l=>aH l∧∀ x∈l,bT x) :=
  oM Tryz.underlying31 (of_decide_eq_true (by kernel_rfl)) (of_decide_eq_true (by kernel_rfl)) ml
theorem FE:sS Tryz.prog 23 (fun l:List ByteArray=>[encS l]) (fun l=>aH l∧∀ x∈l,True) :=
  oM Tryz.underlying23 (of_decide_eq_true (by kernel_rfl)) (of_decide_eq_true (by kernel_rfl)) (zr Tryz.underlying9)
theorem MH {cs:List Value} (h:cs.length=3):cs=[cs.getD 0 undef,cs.getD 1 undef,cs.getD 2 undef]:=by
  match cs,h with
  | [a,b,c],_=>rfl
theorem M9 {cs:List Value} (h:cs.length=4):cs=[cs.getD 0 undef,cs.getD 1 undef,cs.getD 2 undef,cs.getD 3 undef]:=by
  match cs,h with
  | [a,b,c,d],_=>rfl
theorem KV:sS Tryz.prog 119 cz (fun t=>bT t.level∧bT t.assoc):=fun enc w base sp held fuel cs x h hw=>by
  obtain ⟨hl,hf⟩:=uC Tryz.underlying119 (by
    intro i f hi
    match i,hi with
    | 0,hi=>simp at hi; subst hi; exact ⟨rfl,by kernel_rfl⟩
    | 1,hi=>simp at hi; subst hi; exact ⟨rfl,by kernel_rfl⟩
    | 2,hi=>simp at hi; subst hi; exact ⟨rfl,by kernel_rfl⟩
    | n+3,hi=>simp at hi) (by kernel_rfl) h hw
  obtain ⟨a,_,h1⟩:=hf 0 _ rfl (zr Tryz.underlying9)
  obtain ⟨b,h2,h3⟩:=hf 1 _ rfl ml
  obtain ⟨c,h4,h5⟩:=hf 2 _ rfl ml
  refine ⟨⟨a,b,c⟩,⟨h2,h4⟩,?_⟩
  rw[MH hl]
  exact fa h1 (fa h3 (fa h5 wN))
theorem Lo:sS Tryz.prog 75 bf (fun r=>bT r.left∧bT r.prec∧aH r.right∧∀ x∈r.right,bT x):=fun enc w base sp held fuel cs x h hw=>by
  obtain ⟨hl,hf⟩:=uC Tryz.underlying75 (by
    intro i f hi
    match i,hi with
    | 0,hi=>simp at hi; subst hi; exact ⟨rfl,by kernel_rfl⟩
    | 1,hi=>simp at hi; subst hi; exact ⟨rfl,by kernel_rfl⟩
    | 2,hi=>simp at hi; subst hi; exact ⟨rfl,by kernel_rfl⟩
    | n+3,hi=>simp at hi) (by kernel_rfl) h hw
  obtain ⟨a,h0,h1⟩:=hf 0 _ rfl ml
  obtain ⟨b,h2,h3⟩:=hf 1 _ rfl Dw
  obtain ⟨c,h4,h5⟩:=hf 2 _ rfl ml
  refine ⟨⟨a,b,c⟩,⟨h0,h4,h2.1,h2.2⟩,?_⟩
  rw[MH hl]
  exact fa h1 (fa h3 (fa h5 wN))
theorem Lq:sS Tryz.prog 26 av al.Ok:=fun enc w base sp held fuel cs x h hw=>by
  obtain ⟨hl,hf⟩:=uC Tryz.underlying26 (by
    intro i f hi
    match i,hi with
    | 0,hi=>simp at hi; subst hi; exact ⟨rfl,by kernel_rfl⟩
    | 1,hi=>simp at hi; subst hi; exact ⟨rfl,by kernel_rfl⟩
    | 2,hi=>simp at hi; subst hi; exact ⟨rfl,by kernel_rfl⟩
    | 3,hi=>simp at hi; subst hi; exact ⟨rfl,by kernel_rfl⟩
    | n+4,hi=>simp at hi) (by kernel_rfl) h hw
  obtain ⟨a,h0,h1⟩:=hf 0 _ rfl (oM Tryz.underlying22 (of_decide_eq_true (by kernel_rfl)) (of_decide_eq_true (by kernel_rfl)) KV)
  obtain ⟨b,h2,h3⟩:=hf 1 _ rfl FE
  obtain ⟨c,h4,h5⟩:=hf 2 _ rfl (oM Tryz.underlying24 (of_decide_eq_true (by kernel_rfl)) (of_decide_eq_true (by kernel_rfl)) Lo)
  obtain ⟨d,h6,h7⟩:=hf 3 _ rfl ml
  refine ⟨⟨a,b,c,d⟩,⟨h0.1,h2.1,h4.1,h6,h0.2,h4.2⟩,?_⟩
  rw[M9 hl]
  exact fa h1 (fa h3 (fa h5 (fa h7 wN)))
end Gv
