/-
  Part 10 of the proof: what the machine does and what the functions answer.
  Conditions: those that each lemma names.
-/
import Derived.ProofKit
import Derived.SizedLaws
import Derived.Test.YtihmlbdfcmfbdaaGreatSGzA8I
set_option linter.unusedSimpArgs false
set_option linter.unusedVariables false
set_option maxRecDepth 100000
namespace Gv
open Go Go.Proofs
theorem bw.fY {P:Program} {f:FuncId} {h:aB} (h1:bw P f [.emp 1] h (.emp 1) h) (h2:bw P f [.emp 2] h (.emp 2) h) (h3:bw P f [.c8] h (.emp 2) h):bw P f [.aK []] h (.emp 0) h:=by
  refine ⟨Nat.le_refl _,fun Z μ F w xs hrel hr hfree=>?_⟩
  obtain ⟨hl,hv⟩:=hrel
  obtain ⟨x,rfl⟩:∃ x,xs=[x]:=by
    match xs,hl with
    | [x],_=>exact ⟨x,rfl⟩
  have h0:ay Z μ w.heap (.aK []) x:=hv 0 (by simp)
  have one:∀ v,ay Z μ w.heap v x→dR Z μ w.heap [v] [x]:=fun v h=>⟨rfl,fun i hi=>by
    simp at hi; subst hi; exact h⟩
  have weak:∀ k,bw P f [if k=3 then .c8 else .emp k] h (if k=3 then .emp 2 else .emp k) h→ay Z μ w.heap (if k=3 then .c8 else .emp k) x→Calls P f [x].toArray w fun e w'=>∃ x Z' μ',e=.returned x∧ay Z' μ' w'.heap (.emp 0) x∧fL Z' μ' w'.heap (cat h F)∧Ext Z μ w h.length Z' μ' w'∧(∀ id,id < h.length∨h.length≤id→μ' id=μ id):=by
    intro k hk hx
    refine (hk.2 Z μ F w [x] (one _ hx) hr hfree).mono ?_
    rintro e w' ⟨y,Z',μ',rfl,hy,rest⟩
    refine ⟨y,Z',μ',rfl,?_,rest⟩
    have:∀ k',ay Z' μ' w'.heap (.emp k') y→ay Z' μ' w'.heap (.emp 0) y:=fun k' h=>by
      cases h with | emp _ a _ _=>exact .emp 0 a (by simp) (by simp)
    split at hy <;> exact this _ hy
  rcases AI h0 with ⟨_,a,cap,rfl,hz⟩ | ⟨b,off,esz,cap,c,rfl,_,_,_⟩
  · cases a with
    | none =>
      have:=hz rfl
      subst this
      exact weak 1 (by simpa using h1) (.emp 1 none (by simp) (by simp))
    | some a =>
      cases cap with
      | zero=>exact weak 2 (by simpa using h2) (.emp 2 (some a) (by simp) (by simp))
      | succ c=>exact weak 3 (by simpa using h3) (.c8 a (c+1))
  · cases cap with
    | zero=>exact weak 2 (by simpa using h2) (.emp 2 (some ⟨b,off,none⟩) (by simp) (by simp))
    | succ c=>exact weak 3 (by simpa using h3) (.c8 ⟨b,off,none⟩ (c+1))
def vP (sz:Nat) (es:List (List V)) (H:View) (K:V→View→Prop):Prop :=
  (es=[]→∀ k,K (.emp k) H)∧(es≠[]→∀ n,H n=.dead→K (.sl n 0 es.length sz) (H.set n (.arr sz es)))
def cD:SF:=⟨.seq (al [((some 2),.op (.bj (.val (.emp 1))))]) <|
  .seq (.seq (al [aa 3 0,((some 4),.op (.nil true 0 (.tmp 3) (.val (.emp 1))))]) <|
  .cond (.tmp 4) (.seq (al [((some 2),.op (.bj (.val (.emp 1))))]) <|
  .ret) (.skip)) <|
  .seq (al [((some 5),.op (.bj (.val (.emp 2)))),aa 6 0,((some 7),.op (.app 1 16 (.tmp 5) (.tmp 6))),aa 2 7]) <|
  .ret,
  [.tmp 2],8⟩
theorem cY:bh Tryz.prog 96 []=some cD:=by kernel_rfl
def dy:SF:=⟨.seq (al [((some 2),.op (.bj (.val (.emp 1))))]) <|
  .seq (.seq (al [aa 3 0,((some 4),.op (.nil true 0 (.tmp 3) (.val (.emp 1))))]) <|
  .cond (.tmp 4) (.seq (al [((some 2),.op (.bj (.val (.emp 1))))]) <|
  .ret) (.skip)) <|
  .seq (al [((some 5),.op (.bj (.val (.emp 2)))),aa 6 0,((some 7),.op (.app 1 8 (.tmp 5) (.tmp 6))),aa 2 7]) <|
  .ret,
  [.tmp 2],8⟩
theorem dH:bh Tryz.prog 161 []=some dy:=by kernel_rfl
def b7:SF:=⟨.seq (al [((some 2),.op (.bj (.val (.emp 1))))]) <|
  .seq (.seq (al [aa 3 0,((some 4),.op (.nil true 0 (.tmp 3) (.val (.emp 1))))]) <|
  .cond (.tmp 4) (.seq (al [((some 2),.op (.bj (.val (.emp 1))))]) <|
  .ret) (.skip)) <|
  .seq (al [((some 5),.op (.bj (.val (.emp 2)))),aa 6 0,((some 7),.op (.app 3 32 (.tmp 5) (.tmp 6))),aa 2 7]) <|
  .ret,
  [.tmp 2],8⟩
theorem cy:bh Tryz.prog 159 []=some b7:=by kernel_rfl
theorem aC.tree {P:Program} {f:FuncId} {vs:List V} {t:V} (hv:∀ v∈vs,Tree v) (ht:Tree t) (h:∀ H,aA P f vs H fun r _=>r=t):aC P f vs t :=
  aC.of hv ((h _).mono fun r H' e h' _=>by rw[e]; exact .tree _ ht)
theorem mU {H:View} : bG H .c8=some ([],[]):=id rfl
theorem gA {H:View} (sz bytes k:Nat) (K:V→View→Prop) (w:cp (H,K)):oR sz bytes (.emp k) [] H K w=K (.emp k) H:=propext Iff.rfl
theorem I7 (l:List ByteArray) (hl:l.length≤100000) (H:View) (K:V→View→Prop) (hk:vP 1 (l.map fun s=>[gs s]) H K):aA Tryz.prog 96 [encS l] H K:=by
  cases l with
  | nil =>
    have hp:∀ v t,Tree v→Tree t→(∀ H,aA Tryz.prog 96 [v] H fun r _=>r=t)→aC Tryz.prog 96 [v] t:=fun v t hv ht h=>aC.tree (by intro x hx; simp at hx; subst hx; exact hv) ht h
    have h1:=hp (.emp 1) (.emp 1) (.emp 1) (.emp 1) (fun H=>by
      refine aA.of mixed cY ?_
      simp (disch:=omega) only [↓wr,↓reduceIte,wq,ah,ag,aj,ab,ae,af,ai,isNil,Nat.reduceEqDiff,Nat.reduceAdd,Nat.reduceLT,Nat.reduceLeDiff,Int.reduceNeg,Int.reduceToNat,reduceCtorEq,cD])
    have h2:=hp (.emp 2) (.emp 2) (.emp 2) (.emp 2) (fun H=>by
      refine aA.of mixed cY ?_
      simp (disch:=omega) only [↓wr,↓reduceIte,wq,ah,ag,aj,ab,ae,af,ai,isNil,Nat.reduceEqDiff,Nat.reduceAdd,Nat.reduceLT,Nat.reduceLeDiff,Int.reduceNeg,Int.reduceToNat,reduceCtorEq,cD,gA,List.isEmpty_nil])
    have h3:=hp .c8 (.emp 2) .c8 (.emp 2) (fun H=>by
      refine aA.of mixed cY ?_
      simp (disch:=omega) only [↓wr,↓reduceIte,wq,ah,ag,aj,ab,ae,af,ai,isNil,Nat.reduceEqDiff,Nat.reduceAdd,Nat.reduceLT,Nat.reduceLeDiff,Int.reduceNeg,Int.reduceToNat,reduceCtorEq,cD,mU,gA,List.isEmpty_nil])
    refine ⟨by kernel_rfl,?_⟩
    rintro h rfl
    exact ⟨.emp 0,h,bw.fY (bw.eT h1 h) (bw.eT h2 h) (bw.eT h3 h),.refl _,hk.1 rfl 0⟩
  | cons x r =>
    refine aA.of mixed cY ?_
    simp only[List.length_cons] at hl
    simp (disch:=omega) only [↓wr,↓reduceIte,wq,ah,ag,aj,ab,ae,af,ai,isNil,Nat.reduceEqDiff,Nat.reduceAdd,Nat.reduceLT,Nat.reduceLeDiff,Int.reduceNeg,Int.reduceToNat,reduceCtorEq,cD,encS]
    refine ⟨?_,?_,?_⟩
    · simp[List.all_map,encS,aR]
    · unfold aW; simp; omega
    · intro n hn
      have:=hk.2 (by simp) n hn
      simp (disch:=omega) only [↓wr,↓reduceIte,wq,ah,ag,aj,ab,ae,af,ai,isNil,Nat.reduceEqDiff,Nat.reduceAdd,Nat.reduceLT,Nat.reduceLeDiff,Int.reduceNeg,Int.reduceToNat,reduceCtorEq]
      simpa [cX] using this
theorem Jb (l:List Int) (hl:l.length≤100000) (H:View) (K:V→View→Prop) (hk:vP 1 (l.map fun s=>[gi s]) H K):aA Tryz.prog 161 [encI l] H K:=by
  cases l with
  | nil =>
    have hp:∀ v t,Tree v→Tree t→(∀ H,aA Tryz.prog 161 [v] H fun r _=>r=t)→aC Tryz.prog 161 [v] t:=fun v t hv ht h=>aC.tree (by intro x hx; simp at hx; subst hx; exact hv) ht h
    have h1:=hp (.emp 1) (.emp 1) (.emp 1) (.emp 1) (fun H=>by
      refine aA.of mixed dH ?_
      simp (disch:=omega) only [↓wr,↓reduceIte,wq,ah,ag,aj,ab,ae,af,ai,isNil,Nat.reduceEqDiff,Nat.reduceAdd,Nat.reduceLT,Nat.reduceLeDiff,Int.reduceNeg,Int.reduceToNat,reduceCtorEq,dy])
    have h2:=hp (.emp 2) (.emp 2) (.emp 2) (.emp 2) (fun H=>by
      refine aA.of mixed dH ?_
      simp (disch:=omega) only [↓wr,↓reduceIte,wq,ah,ag,aj,ab,ae,af,ai,isNil,Nat.reduceEqDiff,Nat.reduceAdd,Nat.reduceLT,Nat.reduceLeDiff,Int.reduceNeg,Int.reduceToNat,reduceCtorEq,dy,gA,List.isEmpty_nil])
    have h3:=hp .c8 (.emp 2) .c8 (.emp 2) (fun H=>by
      refine aA.of mixed dH ?_
      simp (disch:=omega) only [↓wr,↓reduceIte,wq,ah,ag,aj,ab,ae,af,ai,isNil,Nat.reduceEqDiff,Nat.reduceAdd,Nat.reduceLT,Nat.reduceLeDiff,Int.reduceNeg,Int.reduceToNat,reduceCtorEq,dy,mU,gA,List.isEmpty_nil])
    refine ⟨by kernel_rfl,?_⟩
    rintro h rfl
    exact ⟨.emp 0,h,bw.fY (bw.eT h1 h) (bw.eT h2 h) (bw.eT h3 h),.refl _,hk.1 rfl 0⟩
  | cons x r =>
    refine aA.of mixed dH ?_
    simp only[List.length_cons] at hl
    simp (disch:=omega) only [↓wr,↓reduceIte,wq,ah,ag,aj,ab,ae,af,ai,isNil,Nat.reduceEqDiff,Nat.reduceAdd,Nat.reduceLT,Nat.reduceLeDiff,Int.reduceNeg,Int.reduceToNat,reduceCtorEq,dy,encI]
    refine ⟨?_,?_,?_⟩
    · simp[List.all_map,encI,aR]
    · unfold aW; simp; omega
    · intro n hn
      have:=hk.2 (by simp) n hn
      simp (disch:=omega) only [↓wr,↓reduceIte,wq,ah,ag,aj,ab,ae,af,ai,isNil,Nat.reduceEqDiff,Nat.reduceAdd,Nat.reduceLT,Nat.reduceLeDiff,Int.reduceNeg,Int.reduceToNat,reduceCtorEq]
      simpa [cX] using this
theorem JD (l:List Term) (hl:l.length≤100000) (H:View) (K:V→View→Prop) (hk:vP 3 (l.map cX) H K):aA Tryz.prog 159 [dz l] H K:=by
  cases l with
  | nil =>
    have hp:∀ v t,Tree v→Tree t→(∀ H,aA Tryz.prog 159 [v] H fun r _=>r=t)→aC Tryz.prog 159 [v] t:=fun v t hv ht h=>aC.tree (by intro x hx; simp at hx; subst hx; exact hv) ht h
    have h1:=hp (.emp 1) (.emp 1) (.emp 1) (.emp 1) (fun H=>by
      refine aA.of mixed cy ?_
      simp (disch:=omega) only [↓wr,↓reduceIte,wq,ah,ag,aj,ab,ae,af,ai,isNil,Nat.reduceEqDiff,Nat.reduceAdd,Nat.reduceLT,Nat.reduceLeDiff,Int.reduceNeg,Int.reduceToNat,reduceCtorEq,b7])
    have h2:=hp (.emp 2) (.emp 2) (.emp 2) (.emp 2) (fun H=>by
      refine aA.of mixed cy ?_
      simp (disch:=omega) only [↓wr,↓reduceIte,wq,ah,ag,aj,ab,ae,af,ai,isNil,Nat.reduceEqDiff,Nat.reduceAdd,Nat.reduceLT,Nat.reduceLeDiff,Int.reduceNeg,Int.reduceToNat,reduceCtorEq,b7,gA,List.isEmpty_nil])
    have h3:=hp .c8 (.emp 2) .c8 (.emp 2) (fun H=>by
      refine aA.of mixed cy ?_
      simp (disch:=omega) only [↓wr,↓reduceIte,wq,ah,ag,aj,ab,ae,af,ai,isNil,Nat.reduceEqDiff,Nat.reduceAdd,Nat.reduceLT,Nat.reduceLeDiff,Int.reduceNeg,Int.reduceToNat,reduceCtorEq,b7,mU,gA,List.isEmpty_nil])
    refine ⟨by kernel_rfl,?_⟩
    rintro h rfl
    exact ⟨.emp 0,h,bw.fY (bw.eT h1 h) (bw.eT h2 h) (bw.eT h3 h),.refl _,hk.1 rfl 0⟩
  | cons x r =>
    refine aA.of mixed cy ?_
    simp only[List.length_cons] at hl
    simp (disch:=omega) only [↓wr,↓reduceIte,wq,ah,ag,aj,ab,ae,af,ai,isNil,Nat.reduceEqDiff,Nat.reduceAdd,Nat.reduceLT,Nat.reduceLeDiff,Int.reduceNeg,Int.reduceToNat,reduceCtorEq,b7,dz,cX]
    refine ⟨?_,?_,?_⟩
    · simp[List.all_map,dz,cX,aR]
    · unfold aW; simp; omega
    · intro n hn
      have:=hk.2 (by simp) n hn
      simp (disch:=omega) only [↓wr,↓reduceIte,wq,ah,ag,aj,ab,ae,af,ai,isNil,Nat.reduceEqDiff,Nat.reduceAdd,Nat.reduceLT,Nat.reduceLeDiff,Int.reduceNeg,Int.reduceToNat,reduceCtorEq]
      simpa [cX] using this
theorem vP.own {sz:Nat} {es:List (List V)} {H:View} : vP sz es H fun r H'=>aN H' r sz es∧cz H H' r :=
  ⟨fun he k=>⟨by rw[he]; exact .nil,.emp⟩,fun _ n hn=>⟨.new,.new hn⟩⟩
theorem Iz (l:List ByteArray) (hl:l.length≤100000) (H:View):aA Tryz.prog 96 [encS l] H fun r H'=>aN H' r 1 (l.map fun s=>[gs s])∧cz H H' r:=I7 l hl H _ .own
theorem Jp (l:List Int) (hl:l.length≤100000) (H:View):aA Tryz.prog 161 [encI l] H fun r H'=>aN H' r 1 (l.map fun s=>[gi s])∧cz H H' r:=Jb l hl H _ .own
theorem Ig (l:List Term) (hl:l.length≤100000) (H:View):aA Tryz.prog 159 [dz l] H fun r H'=>aN H' r 3 (l.map cX)∧cz H H' r:=JD l hl H _ .own
def j8 (g:an):List aL→Int→Bool
  | [],next=>next == g.az.length
  | r :: l,next=>decide (0≤r.left) && decide (r.left≤next) && ga g r && j8 g l (if r.left+1 > next then r.left+1 else next)
def pS (g:an):List ByteArray:=g.az ++ g.av.map Term.name
def nG (g:an):Bool :=
  pf g.av && (decide ((1:Int)≤g.az.length) && decide ((g.az.length:Int)≤16)) && (decide ((1:Int)≤g.rules.length) && decide ((g.rules.length:Int)≤40)) && decide (names (pS g)).Nodup && (decide (0≤g.start) && decide (g.start≤(g.az.length:Int) - 1)) &&
    !(g.az.any fun s=>!fc (eh s)) && j8 g g.rules 0
theorem El {l:List ByteArray} : ∀ e∈(l.map fun s=>[gs s]),∀ v∈e,Tree v:=by
  intro e he v hv
  obtain ⟨a,_,rfl⟩:=List.mem_map.1 he
  rw[List.mem_singleton] at hv
  subst hv
  exact .val _
set_option maxHeartbeats 4000000 in
theorem JN (g:an) (hg:g.Ok) (hs:g.az.length+g.av.length≤1000) (H:View):aA Tryz.prog 52 [.agg (aw g)] H fun r _=>r=gb (nG g):=by
  refine aA.of mixed Ar ?_
  have hn:=hg.az
  have ht:=hg.av
  have hr:=hg.rules
  unfold bo at hn ht hr
  simp (disch:=omega) only [↓wr,↓reduceIte,wq,ah,ag,aj,ab,ae,af,ai,isNil,Nat.reduceEqDiff,Nat.reduceAdd,Nat.reduceLT,Nat.reduceLeDiff,Int.reduceNeg,Int.reduceToNat,reduceCtorEq,xb,aw,encS]
  refine aE.gF ((Iz g.az (by omega) H).mono ?_)
  rintro u H1 ⟨hu,hf⟩
  simp (disch:=omega) only [↓wr,↓reduceIte,wq,ah,ag,aj,ab,ae,af,ai,isNil,Nat.reduceEqDiff,Nat.reduceAdd,Nat.reduceLT,Nat.reduceLeDiff,Int.reduceNeg,Int.reduceToNat,reduceCtorEq,aw,encS]
  refine bK.up g.av.length (fun i T H=>T 1=.aU (aw g) 0∧(∃ u,T 3=u∧aN H u 1 ((g.az ++ (g.av.take i).map Term.name).map fun s=>[gs s]))∧T 13=dz g.av∧T 14=gi g.av.length∧T 15=gi i) ?_ ?_
  · exact ⟨rfl,⟨u,rfl,by simpa using hu⟩,rfl,rfl,rfl⟩
  rintro i k T H' hk ⟨h1,⟨u,h3,hu⟩,h13,h14,h15⟩
  simp (disch:=omega) only [↓wr,↓reduceIte,wq,ah,ag,aj,ab,ae,af,ai,isNil,Nat.reduceEqDiff,Nat.reduceAdd,Nat.reduceLT,Nat.reduceLeDiff,Int.reduceNeg,Int.reduceToNat,reduceCtorEq,tM,h1,h13,h14,h15,dz]
  refine au.dec (fun hc=>?_) (fun hc=>?_)
  · have hg2:g.av[i]?=some (g.av[i]'(by omega)):=List.getElem?_eq_getElem (by omega)
    have htk:(g.av.take (i+1)).map Term.name=(g.av.take i).map Term.name ++ [(g.av[i]'(by omega)).name]:=by
      rw[List.take_add_one,hg2,List.map_append]; rfl
    generalize g.av[i]'(by omega)=t at hg2 htk
    simp (disch:=omega) only [↓wr,↓reduceIte,wq,ah,ag,aj,ab,ae,af,ai,isNil,Nat.reduceEqDiff,Nat.reduceAdd,Nat.reduceLT,Nat.reduceLeDiff,Int.reduceNeg,Int.reduceToNat,reduceCtorEq,h1,h3,h13,h14,h15,dz,cX,List.getElem?_map,hg2]
    intro b hb
    try simp (disch:=omega) only [↓wr,↓reduceIte,wq,ah,ag,aj,ab,ae,af,ai,isNil,Nat.reduceEqDiff,Nat.reduceAdd,Nat.reduceLT,Nat.reduceLeDiff,Int.reduceNeg,Int.reduceToNat,reduceCtorEq,h1,h3,h13,h14,h15,set_set]
    intro m hm
    have hmb:=(fA hm fW).1
    have hm:=(fA (fA hm fW).2 fW).2
    try simp (disch:=omega) only [↓wr,↓reduceIte,wq,ah,ag,aj,ab,ae,af,ai,isNil,Nat.reduceEqDiff,Nat.reduceAdd,Nat.reduceLT,Nat.reduceLeDiff,Int.reduceNeg,Int.reduceToNat,reduceCtorEq,h1,h3,h13,h14,h15,fP]
    have hl:((g.az ++ (g.av.take i).map Term.name).map fun s=>[gs s]).length≤1000:=by simp; omega
    refine vF (((hu.fresh hb).other (hu.ne hb)).fresh (by simp[View.set,hm,hmb])) (by simp) (by simp[aR]) (by unfold aW; simp at hl ⊢; omega) (by unfold aW; simp at hl ⊢; omega) ?_
    intro u' H2 hu' _
    simp (disch:=omega) only [↓wr,↓reduceIte,wq,ah,ag,aj,ab,ae,af,ai,isNil,Nat.reduceEqDiff,Nat.reduceAdd,Nat.reduceLT,Nat.reduceLeDiff,Int.reduceNeg,Int.reduceToNat,reduceCtorEq,h1,h3,h13,h14,h15]
    refine bE hk (by omega) ⟨h1,⟨u',rfl,?_⟩,h13,h14,rfl⟩
    rw[htk]
    simpa using hu'
  · rw[List.take_of_length_le (by omega)] at hu
    have hal:H'=H':=rfl
    have hall:(pS g).length≤1000:=by simp[pS]; omega
    repeat' (first | (refine au.dec (fun _=>?_) (fun _=>?_)) | (refine au.eq (fun _=>?_) (fun _=>?_)) | (refine au.ne (fun _=>?_) (fun _=>?_)) | (refine au.split (fun _=>?_) (fun _=>?_)) | (refine aE.pure (Kh g.av hg.av) (by kernel_rfl) ?_) | (refine aE.pure (oI _ _ _) (by kernel_rfl) ?_) | (refine aE.Oz (La (pS g) hall) (by kernel_rfl) (.val _) ⟨eK.own hu El,trivial⟩ ?_) | (simp (disch:=omega) only [↓wr,↓reduceIte,wq,ah,ag,aj,ab,ae,af,ai,isNil,Nat.reduceEqDiff,Nat.reduceAdd,Nat.reduceLT,Nat.reduceLeDiff,Int.reduceNeg,Int.reduceToNat,reduceCtorEq,h1,h3,h13,h14,h15,aw,encS]))
    all_goals try (simp[nG, *]; done)
    rename_i e1 e2 e3 e4 e5
    refine aE.pure (xO g.az hg.az 101 [] (by simp) (fun s=>!fc (eh s)) (fun x _=>HY x) (by kernel_rfl)) (by kernel_rfl) ?_
    repeat' (first | (refine au.dec (fun _=>?_) (fun _=>?_)) | (refine au.eq (fun _=>?_) (fun _=>?_)) | (refine au.ne (fun _=>?_) (fun _=>?_)) | (refine au.split (fun _=>?_) (fun _=>?_)) | (simp (disch:=omega) only [↓wr,↓reduceIte,wq,ah,ag,aj,ab,ae,af,ai,isNil,Nat.reduceEqDiff,Nat.reduceAdd,Nat.reduceLT,Nat.reduceLeDiff,Int.reduceNeg,Int.reduceToNat,reduceCtorEq,h1,h3,h13,h14,h15,aw,encS]))
    all_goals try (simp[nG, *]; done)
    rename_i e6
    have hle:g.rules.length≤40:=by simp at e3; omega
    have hpre:∀ b,j8 g g.rules 0=b→gb b=gb (nG g):=fun b e=>by
      simp only[nG,e1,e2,e3,e4,e5,e6,e,decide_true,Bool.true_and,Bool.not_false]
    refine bK.up g.rules.length (fun i T _=>∃ w:Int,0≤w∧w≤i∧j8 g (g.rules.drop i) w=j8 g g.rules 0∧T 1=.aU (aw g) 0∧T 6=gi w∧T 62=.aK (g.rules.map bm)∧T 63=gi g.rules.length∧T 64=gi i) ?_ ?_
    · exact ⟨0,by omega,by omega,rfl,h1,rfl,rfl,rfl,rfl⟩
    rintro i k T H' hk ⟨w,hw1,hw2,hi,h1,h6,h62,h63,h64⟩
    simp (disch:=omega) only [↓wr,↓reduceIte,wq,ah,ag,aj,ab,ae,af,ai,isNil,Nat.reduceEqDiff,Nat.reduceAdd,Nat.reduceLT,Nat.reduceLeDiff,Int.reduceNeg,Int.reduceToNat,reduceCtorEq,tD,h1,h6,h62,h63,h64,aw]
    refine au.dec (fun hc=>?_) (fun hc=>?_)
    · have hg2:g.rules[i]?=some (g.rules[i]'(by omega)):=List.getElem?_eq_getElem (by omega)
      rw[fv (show i < g.rules.length by omega)] at hi
      have hmem:g.rules[i]'(by omega)∈g.rules:=List.getElem_mem _
      generalize g.rules[i]'(by omega)=t at hg2 hi hmem
      obtain ⟨⟨hl1,hl2⟩,hp,hr1,hr2⟩:=hg.aD t hmem
      simp only[j8] at hi
      simp (disch:=omega) only [↓wr,↓reduceIte,wq,ah,ag,aj,ab,ae,af,ai,isNil,Nat.reduceEqDiff,Nat.reduceAdd,Nat.reduceLT,Nat.reduceLeDiff,Int.reduceNeg,Int.reduceToNat,reduceCtorEq,h1,h6,h62,h63,h64,bm,encI,List.getElem?_map,hg2]
      intro b hb
      repeat' (first | (refine au.dec (fun _=>?_) (fun _=>?_)) | (refine au.eq (fun _=>?_) (fun _=>?_)) | (refine au.ne (fun _=>?_) (fun _=>?_)) | (refine au.split (fun _=>?_) (fun _=>?_)) | (refine aE.pure (oI _ _ _) (by kernel_rfl) ?_) | (refine aE.pure (LN g t hg ⟨hr1,hr2⟩) (by kernel_rfl) ?_) | (simp (disch:=omega) only [↓wr,↓reduceIte,wq,ah,ag,aj,ab,ae,af,ai,isNil,Nat.reduceEqDiff,Nat.reduceAdd,Nat.reduceLT,Nat.reduceLeDiff,Int.reduceNeg,Int.reduceToNat,reduceCtorEq,h1,h6,h62,h63,h64,aw,bm,encI,encS,set_set]))
      · rename_i e7 e8
        have e7':0≤t.left∧t.left≤w:=by simpa using e7
        rw[e7,e8,Bool.true_and,Bool.true_and] at hi
        have hw:IntKind.wrap .i64 (t.left+1)=t.left+1:=wrap64 (by omega) (by omega)
        refine bE hk (by omega) ⟨_,by split <;> omega,by split <;> (push_cast; omega),hi,h1,?_,h62,h63,rfl⟩
        show gi (if IntKind.wrap .i64 (t.left+1) > w then IntKind.wrap .i64 (t.left+1) else w)=_
        rw[hw]
      · rename_i e7 e8
        rw[e8,Bool.and_false,Bool.false_and] at hi
        exact hpre _ hi.symm
      · rename_i e7
        rw[e7,Bool.false_and,Bool.false_and] at hi
        exact hpre _ hi.symm
    · rw[List.drop_eq_nil_of_le (by omega)] at hi
      simp only[j8] at hi
      simp (disch:=omega) only [↓wr,↓reduceIte,wq,ah,ag,aj,ab,ae,af,ai,isNil,Nat.reduceEqDiff,Nat.reduceAdd,Nat.reduceLT,Nat.reduceLeDiff,Int.reduceNeg,Int.reduceToNat,reduceCtorEq,h1,h6,h62,h63,h64,aw,encS]
      exact hpre _ hi.symm
theorem HB (g:an) (hg:g.Ok) (hs:g.az.length+g.av.length≤1000):aC Tryz.prog 52 [.agg (aw g)] (gb (nG g)):=aC.val (iC g) (JN g hg hs)
theorem Ei (g:an):∀ (l:List aL) (next:Int),j8 g l next=fH g l (next - 1)
  | [],next=>by
    simp only[j8,fH]
    rw[Bool.eq_iff_iff]; simp
  | r :: l,next=>by
    simp only[j8,fH,Ei g l]
    have e1:(if r.left+1 > next then r.left+1 else next) - 1=if r.left > next - 1 then r.left else next - 1:=by
      split <;> split <;> omega
    have e2:next - 1+1=next:=by omega
    rw[e1,e2]
theorem uC (s:ByteArray):∀ (l:List ByteArray) (i:Int),0≤i→(lg s l i < 0∧s ∉ l)∨∃ k:Nat,lg s l i=i+k∧l[k]?=some s∧∀ j < k,l[j]?≠some s
  | [],i,h=>.inl ⟨by simp[lg],by simp⟩
  | x :: l,i,h=>by
    have hx:gB x s=true↔x=s:=by
      unfold gB
      rw[beq_iff_eq]
      constructor
      · intro e; cases x; cases s; simp at e; simp[e]
      · rintro rfl; rfl
    simp only[lg]
    by_cases e:x=s
    · rw[if_pos (hx.2 e)]
      exact .inr ⟨0,by simp,by simp[e],by simp⟩
    · rw[if_neg (fun h=>e (hx.1 h))]
      rcases uC s l (i+1) (by omega) with ⟨h1,h2⟩ | ⟨k,h1,h2,h3⟩
      · exact .inl ⟨h1,by simp[h2,Ne.symm e]⟩
      · refine .inr ⟨k+1,by rw[h1]; push_cast; omega,by simpa using h2,fun j hj=>?_⟩
        cases j with
        | zero=>simp[e]
        | succ j=>simpa using h3 j (by omega)
theorem qz (l:List ByteArray):(∀ (k:Nat) (s:ByteArray),l[k]?=some s→lg s l 0=k)↔l.Nodup:=by
  constructor
  · intro h
    rw[List.nodup_iff_pairwise_ne,List.pairwise_iff_getElem]
    intro i j hi hj hij e
    have h1:=h i l[i] (by simp[hi])
    have h2:=h j l[j] (by simp[hj])
    rw[e] at h1
    omega
  · intro hn k s hk
    rcases uC s l 0 (by omega) with ⟨_,h2⟩ | ⟨j,h1,h2,h3⟩
    · exact absurd (List.mem_of_getElem? hk) h2
    · have hj:j < l.length:=by
        rcases Nat.lt_or_ge j l.length with h | h
        · exact h
        · simp[List.getElem?_eq_none h] at h2
      have hk':k < l.length:=by
        rcases Nat.lt_or_ge k l.length with h | h
        · exact h
        · simp[List.getElem?_eq_none h] at hk
      have:j=k:=(List.getElem_inj hn).1 (by
        rw[List.getElem?_eq_getElem hj] at h2; rw[List.getElem?_eq_getElem hk'] at hk
        simp at h2 hk; rw[h2,hk])
      rw[h1,this]; simp
theorem bytes_inj {a b:ByteArray} : a.data.toList=b.data.toList↔a=b:=by
  constructor
  · intro h; cases a; cases b; simp at h; simp[h]
  · rintro rfl; rfl
theorem J8 {l:List ByteArray} : (names l).Nodup↔l.Nodup:=by
  unfold names
  rw[List.nodup_iff_pairwise_ne,List.pairwise_map,List.nodup_iff_pairwise_ne]
  constructor
  · exact fun h=>h.imp fun h e=>h (bytes_inj.2 e)
  · exact fun h=>h.imp fun h e=>h (bytes_inj.1 e)
theorem kN {α:Type} [BEq α] [LawfulBEq α]:∀ (l m:List α),l.Nodup→(∀ x∈l,x∈m)→l.length≤m.length
  | [],m,_,_=>by simp
  | x :: l,m,hn,hs=>by
    rw[List.nodup_cons] at hn
    have hx:x∈m:=hs x (by simp)
    have:=kN l (m.erase x) hn.2 (fun y hy=>by
      have hne:y≠x:=by rintro rfl; exact hn.1 hy
      exact (List.mem_erase_of_ne hne).2 (hs y (by simp[hy])))
    rw[List.length_erase_of_mem hx] at this
    have:0 < m.length:=List.length_pos_of_mem hx
    simp only[List.length_cons]
    omega
def j7 (n:Nat):List Int:=(List.range n).map fun (k:Nat)=>(k:Int)+1
theorem sx {n:Nat} {x:Int} : x∈j7 n↔1≤x∧x≤n:=by
  simp only[j7,List.mem_map,List.mem_range]
  constructor
  · rintro ⟨k,hk,rfl⟩; omega
  · rintro ⟨h1,h2⟩; exact ⟨(x - 1).toNat,by omega,by omega⟩
theorem CK (n:Nat):(j7 n).Nodup:=by
  rw[j7,List.nodup_iff_pairwise_ne,List.pairwise_map]
  exact (List.nodup_range (n:=n)).imp fun h e=>h (by omega)
theorem M7 {l:List Int} {n:Nat} (hn:l.Nodup) (hs:∀ x∈l,1≤x∧x≤n) (hl:l.length=n) {x:Int} (h1:1≤x) (h2:x≤n):x∈l:=by
  refine Classical.byContradiction fun hx=>?_
  have:=kN (x :: l) (j7 n) (List.nodup_cons.2 ⟨hx,hn⟩) (fun y hy=>by
    rw[sx]
    rcases List.mem_cons.1 hy with rfl | hy
    · exact ⟨h1,h2⟩
    · exact hs y hy)
  simp[j7] at this
  omega
theorem tn (n:Int):∀ (l:List Term) (w:Int),w≠0→gS n l w=if (∀ t∈l,t.level=n→t.assoc=w) then some w else none
  | [],w,_=>by simp[gS]
  | t :: r,w,hw=>by
    simp only[gS]
    by_cases ht:t.level=n
    · rw[if_pos ht]
      by_cases ha:w=t.assoc
      · rw[if_neg (by simp[ha]),← ha,tn n r w hw]
        congr 1
        simp[ht,ha]
      · rw[if_pos ⟨hw,ha⟩,if_neg (fun h=>ha (h t (by simp) ht).symm)]
    · rw[if_neg ht,tn n r w hw]
      congr 1
      simp[ht]
theorem zt (n:Int):∀ (l:List Term),(∀ t∈l,t.level=n→t.assoc≠0)→(fG l n=true↔∃ a,(∃ t∈l,t.level=n)∧∀ t∈l,t.level=n→t.assoc=a)
  | [],_=>by simp[fG,gS]
  | t :: r,h=>by
    by_cases ht:t.level=n
    · have ha:=h t (by simp) ht
      have e:fG (t :: r) n=match (if (∀ u∈r,u.level=n→u.assoc=t.assoc) then some t.assoc else none) with | some w=>w != 0 | none=>false:=by
        simp only[fG,gS]
        rw[if_pos ht,if_neg (by simp),tn n r _ ha]
        rfl
      rw[e]
      by_cases hr:∀ u∈r,u.level=n→u.assoc=t.assoc
      · rw[if_pos hr]
        simp only[bne_iff_ne,ne_eq,ha,not_false_eq_true,true_iff]
        refine ⟨t.assoc,⟨t,by simp,ht⟩,fun u hu hl=>?_⟩
        rcases List.mem_cons.1 hu with rfl | hu
        · rfl
        · exact hr u hu hl
      · rw[if_neg hr]
        simp only[Bool.false_eq_true,false_iff]
        rintro ⟨a,_,h2⟩
        exact hr fun u hu hl=>(h2 u (by simp[hu]) hl).trans (h2 t (by simp) ht).symm
    · have ih:=zt n r (fun u hu=>h u (by simp[hu]))
      have e:fG (t :: r) n=fG r n:=by
        simp only[fG,gS,if_neg ht]
      rw[e,ih]
      constructor
      · rintro ⟨a,⟨u,hu,hl⟩,h2⟩
        refine ⟨a,⟨u,by simp[hu],hl⟩,fun v hv hl=>?_⟩
        rcases List.mem_cons.1 hv with rfl | hv
        · exact absurd hl ht
        · exact h2 v hv hl
      · rintro ⟨a,⟨u,hu,hl⟩,h2⟩
        rcases List.mem_cons.1 hu with rfl | hu
        · exact absurd hl ht
        · exact ⟨a,⟨u,hu,hl⟩,fun v hv=>h2 v (by simp[hv])⟩
def rT (l:List Term):Prop:=∀ t∈l,∀ u∈l,t.level=u.level→t.level≠0→t.assoc=u.assoc
theorem DT {κ β:Type} [BEq κ] [LawfulBEq κ] {k:κ} {v:β} : ∀ {a:List (κ × β)},(a.map (·.1)).Nodup→((iH k v a).map (·.1)).Nodup∧∀ x,x∈(iH k v a).map (·.1)↔x=k∨x∈a.map (·.1)
  | [],_=>by simp[iH]
  | y :: a,h=>by
    simp only[List.map_cons,List.nodup_cons] at h
    obtain ⟨h1,h2⟩:=DT (k:=k) (v:=v) h.2
    simp only[iH]
    by_cases e:k=y.1
    · simp only[e,beq_self_eq_true,if_true,List.map_cons,List.nodup_cons]
      refine ⟨h,fun x=>by simp[e]⟩
    · have:(k == y.1)=false:=by simp[e]
      rw[this]
      simp only[Bool.false_eq_true,if_false,List.map_cons,List.nodup_cons,List.mem_cons]
      refine ⟨⟨fun hm=>?_,h1⟩,fun x=>?_⟩
      · rcases (h2 _).1 hm with e' | hm
        · exact e e'.symm
        · exact h.1 hm
      · rw[h2]
        constructor
        · rintro (h | h | h) <;> simp[h]
        · rintro (h | h | h) <;> simp[h]
theorem uy:∀ (l:List Term) (a:List (Int × Int)) (top:Int),(∀ t∈l,t.level≠0→t.assoc≠0)→(∀ n v,dt a n=some v→v≠0)→(a.map (·.1)).Nodup →
    match kr l a top with
    | some (a',top')=>rT l∧(∀ t∈l,∀ v,t.level≠0→dt a t.level=some v→t.assoc=v)∧(a'.map (·.1)).Nodup∧(∀ n,n∈a'.map (·.1)↔n∈a.map (·.1)∨(n≠0∧∃ t∈l,t.level=n)) ∧
        top≤top'∧(∀ t∈l,t.level≠0→t.level≤top')∧(top'=top∨∃ t∈l,t.level=top'∧t.level≠0)
    | none=>¬ (rT l∧∀ t∈l,∀ v,t.level≠0→dt a t.level=some v→t.assoc=v)
  | [],a,top,_,_,hn=>by
    simp only[kr]
    exact ⟨fun t ht=>by simp at ht,fun t ht=>by simp at ht,hn,fun n=>by simp,by omega,fun t ht=>by simp at ht,by simp⟩
  | t :: r,a,top,h0,hv,hn=>by
    have h0r:∀ u∈r,u.level≠0→u.assoc≠0:=fun u hu=>h0 u (by simp[hu])
    simp only[kr]
    by_cases ht:t.level=0
    · rw[if_pos ht]
      have ih:=uy r a top h0r hv hn
      have one:rT (t :: r)↔rT r:=by
        constructor
        · exact fun h u hu w hw=>h u (by simp[hu]) w (by simp[hw])
        · intro h u hu w hw e hz
          rcases List.mem_cons.1 hu with rfl | hu
          · exact absurd ht hz
          · rcases List.mem_cons.1 hw with rfl | hw
            · exact absurd (e.trans ht) hz
            · exact h u hu w hw e hz
      have con:(∀ u∈t :: r,∀ v,u.level≠0→dt a u.level=some v→u.assoc=v)↔∀ u∈r,∀ v,u.level≠0→dt a u.level=some v→u.assoc=v:=by
        simp[ht]
      have mem:∀ n,(n≠0∧∃ u∈t :: r,u.level=n)↔(n≠0∧∃ u∈r,u.level=n):=fun n=>by
        constructor
        · rintro ⟨h1,u,hu,rfl⟩
          rcases List.mem_cons.1 hu with rfl | hu
          · exact absurd ht h1
          · exact ⟨h1,u,hu,rfl⟩
        · rintro ⟨h1,u,hu,rfl⟩; exact ⟨h1,u,by simp[hu],rfl⟩
      cases hs:kr r a top with
      | none=>rw[hs] at ih; rw[one,con]; exact ih
      | some x =>
        obtain ⟨a',top'⟩:=x
        rw[hs] at ih
        obtain ⟨i1,i2,i3,i4,i5,i6,i7⟩:=ih
        refine ⟨one.2 i1,con.2 i2,i3,fun n=>by rw[i4,mem],i5,?_,?_⟩
        · intro u hu hz
          rcases List.mem_cons.1 hu with rfl | hu
          · exact absurd ht hz
          · exact i6 u hu hz
        · rcases i7 with h | ⟨u,hu,h⟩
          · exact .inl h
          · exact .inr ⟨u,by simp[hu],h⟩
    · rw[if_neg ht]
      have ha:=h0 t (by simp) ht
      by_cases hc:(dt a t.level).getD 0≠0∧(dt a t.level).getD 0≠t.assoc
      · rw[if_pos hc]
        simp only
        rintro ⟨_,h2⟩
        cases hp:dt a t.level with
        | none=>simp[hp] at hc
        | some v =>
          have:=h2 t (by simp) v ht hp
          simp[hp] at hc
          exact hc.2 this.symm
      · rw[if_neg hc]
        have hcon:∀ v,dt a t.level=some v→t.assoc=v:=fun v hp=>by
          have:=hv _ _ hp
          simp[hp] at hc
          exact (hc this).symm
        have hput:∀ n,dt (iH t.level t.assoc a) n=if n=t.level then some t.assoc else dt a n:=fun n=>by
          rw[Ey]; simp
        have hk:=DT (k:=t.level) (v:=t.assoc) hn
        have ih:=uy r (iH t.level t.assoc a) (if t.level > top then t.level else top) h0r (fun n v hp=>by
          rw[hput] at hp
          split at hp
          · simp at hp; rw[← hp]; exact ha
          · exact hv n v hp) hk.1
        have both:(rT (t :: r)∧∀ u∈t :: r,∀ v,u.level≠0→dt a u.level=some v→u.assoc=v)↔(rT r∧∀ u∈r,∀ v,u.level≠0→dt (iH t.level t.assoc a) u.level=some v→u.assoc=v):=by
          constructor
          · rintro ⟨h1,h2⟩
            refine ⟨fun u hu w hw=>h1 u (by simp[hu]) w (by simp[hw]),fun u hu v hz hp=>?_⟩
            rw[hput] at hp
            split at hp
            · rename_i e
              simp at hp; rw[← hp]
              exact h1 u (by simp[hu]) t (by simp) e hz
            · exact h2 u (by simp[hu]) v hz hp
          · rintro ⟨h1,h2⟩
            have h3:∀ u∈r,u.level=t.level→u.assoc=t.assoc:=fun u hu e=>h2 u hu t.assoc (by rw[e]; exact ht) (by rw[hput,if_pos e])
            refine ⟨fun u hu w hw e hz=>?_,fun u hu v hz hp=>?_⟩
            · rcases List.mem_cons.1 hu with e1 | hu2
              · rcases List.mem_cons.1 hw with e2 | hw2
                · rw[e1,e2]
                · rw[e1] at e ⊢
                  exact (h3 w hw2 e.symm).symm
              · rcases List.mem_cons.1 hw with e2 | hw2
                · rw[e2] at e ⊢
                  exact h3 u hu2 e
                · exact h1 u hu2 w hw2 e hz
            · rcases List.mem_cons.1 hu with rfl | hu
              · exact hcon v hp
              · by_cases e:u.level=t.level
                · rw[h3 u hu e]; exact hcon v (by rw[← e]; exact hp)
                · exact h2 u hu v hz (by rw[hput,if_neg e]; exact hp)
        have htop:top≤(if t.level > top then t.level else top)∧t.level≤(if t.level > top then t.level else top):=by split <;> omega
        cases hs:kr r (iH t.level t.assoc a) (if t.level > top then t.level else top) with
        | none=>rw[hs] at ih; simp only; rw[both]; exact ih
        | some x =>
          obtain ⟨a',top'⟩:=x
          rw[hs] at ih
          obtain ⟨i1,i2,i3,i4,i5,i6,i7⟩:=ih
          obtain ⟨b1,b2⟩:=both.2 ⟨i1,i2⟩
          refine ⟨b1,b2,i3,fun n=>?_,by omega,?_,?_⟩
          · rw[i4,hk.2]
            constructor
            · rintro ((rfl | h) | ⟨h1,u,hu,h⟩)
              · exact .inr ⟨ht,t,by simp,rfl⟩
              · exact .inl h
              · exact .inr ⟨h1,u,by simp[hu],h⟩
            · rintro (h | ⟨h1,u,hu,h⟩)
              · exact .inl (.inr h)
              · rcases List.mem_cons.1 hu with rfl | hu
                · exact .inl (.inl h.symm)
                · exact .inr ⟨h1,u,hu,h⟩
          · intro u hu hz
            rcases List.mem_cons.1 hu with rfl | hu
            · omega
            · exact i6 u hu hz
          · rcases i7 with h | ⟨u,hu,h⟩
            · by_cases e:t.level > top
              · rw[if_pos e] at h; exact .inr ⟨t,by simp,h.symm,ht⟩
              · rw[if_neg e] at h; exact .inl h
            · exact .inr ⟨u,by simp[hu],h⟩
theorem zo (l:List Term) (h:∀ t∈l,jv t=true):oZ l=true↔∀ t∈l,∀ n:Int,1≤n→n≤t.level→fG l n=true:=by
  have hb:∀ t∈l,0≤t.level∧(t.level≠0→t.assoc≠0):=fun t ht=>by
    have:=h t ht
    simp only[jv,Bool.and_eq_true,decide_eq_true_eq,beq_iff_eq] at this
    refine ⟨this.1.1.1.1.2,fun h1 h2=>?_⟩
    have e:=this.2
    simp[h1,h2] at e
  have hs:=uy l [] 0 (fun t ht=>(hb t ht).2) (by simp[dt]) (by simp)
  have hL:∀ n:Int,1≤n→(fG l n=true↔∃ a,(∃ t∈l,t.level=n)∧∀ t∈l,t.level=n→t.assoc=a):=fun n hn=>zt n l (fun t ht e=>(hb t ht).2 (by omega))
  unfold oZ
  cases hx:kr l [] 0 with
  | none =>
    rw[hx] at hs
    simp only[Bool.false_eq_true,false_iff]
    intro hall
    refine hs ⟨fun t ht u hu e hz=>?_,fun t ht v _ hp=>by simp[dt] at hp⟩
    have h1:=hb t ht
    obtain ⟨a,_,h2⟩:=(hL t.level (by omega)).1 (hall t ht t.level (by omega) (by omega))
    exact (h2 t ht rfl).trans (h2 u hu e.symm).symm
  | some x =>
    obtain ⟨a,top⟩:=x
    rw[hx] at hs
    obtain ⟨i1,_,i3,i4,i5,i6,i7⟩:=hs
    simp only[beq_iff_eq]
    have hmem:∀ n,n∈a.map (·.1)↔n≠0∧∃ t∈l,t.level=n:=fun n=>by rw[i4]; simp
    have hin:∀ x∈a.map (·.1),1≤x∧x≤(top.toNat:Int):=fun x hx=>by
      obtain ⟨h1,t,ht,rfl⟩:=(hmem x).1 hx
      have:=(hb t ht).1
      have:=i6 t ht h1
      omega
    constructor
    · intro hlen t ht n hn1 hn2
      have htop:t.level≤top:=i6 t ht (by omega)
      have hm:=M7 i3 hin (by simp; omega) hn1 (show n≤(top.toNat:Int) by omega)
      obtain ⟨hz,u,hu,rfl⟩:=(hmem n).1 hm
      exact (hL _ hn1).2 ⟨u.assoc,⟨u,hu,rfl⟩,fun w hw e=>i1 w hw u hu e (by omega)⟩
    · intro hall
      have h1:a.length≤top.toNat:=by
        have:=kN _ (j7 top.toNat) i3 (fun x hx=>sx.2 (hin x hx))
        simpa [j7] using this
      have h2:top.toNat≤a.length:=by
        rcases i7 with e | ⟨t,ht,e,hz⟩
        · subst e; simp
        · have:=kN (j7 top.toNat) (a.map (·.1)) (CK _) (fun x hx=>by
            rw[sx] at hx
            have:=(hb t ht).1
            obtain ⟨_,⟨u,hu,hl⟩,_⟩:=(hL x hx.1).1 (hall t ht x hx.1 (by omega))
            exact (hmem x).2 ⟨by omega,u,hu,hl⟩)
          simpa [j7] using this
      omega
theorem y6 (g:an):∀ (l:List Term) (i:Int),iA g l i=true↔∀ (k:Nat) (t:Term),l[k]?=some t→iR g (i+k) t=true
  | [],i=>by simp[iA]
  | t :: r,i=>by
    simp only[iA,Bool.and_eq_true,y6 g r (i+1)]
    constructor
    · rintro ⟨h1,h2⟩ k u hk
      cases k with
      | zero=>simp at hk; subst hk; simpa using h1
      | succ k =>
        have:=h2 k u (by simpa using hk)
        rw[show i+((k+1:Nat):Int)=i+1+k by push_cast; omega]; exact this
    · intro h
      refine ⟨by simpa using h 0 t rfl,fun k u hk=>?_⟩
      have:=h (k+1) u (by simpa using hk)
      rw[show i+1+(k:Int)=i+((k+1:Nat):Int) by push_cast; omega]; exact this
theorem qq (g:an):∀ (l:List ByteArray) (i:Int),oF g l i=true↔∀ (k:Nat) (s:ByteArray),l[k]?=some s→jZ g (i+k) s=true
  | [],i=>by simp[oF]
  | t :: r,i=>by
    simp only[oF,Bool.and_eq_true,qq g r (i+1)]
    constructor
    · rintro ⟨h1,h2⟩ k u hk
      cases k with
      | zero=>simp at hk; subst hk; simpa using h1
      | succ k =>
        have:=h2 k u (by simpa using hk)
        rw[show i+((k+1:Nat):Int)=i+1+k by push_cast; omega]; exact this
    · intro h
      refine ⟨by simpa using h 0 t rfl,fun k u hk=>?_⟩
      have:=h (k+1) u (by simpa using hk)
      rw[show i+1+(k:Int)=i+((k+1:Nat):Int) by push_cast; omega]; exact this
theorem A7 (g:an) (s:ByteArray):kf g s < 0↔s ∉ g.av.map Term.name:=by
  unfold kf
  rcases uC s (g.av.map Term.name) 0 (by omega) with ⟨h1,h2⟩ | ⟨k,h1,h2,_⟩
  · exact ⟨fun _=>h2,fun _=>h1⟩
  · constructor
    · intro h; omega
    · intro h; exact absurd (List.mem_of_getElem? h2) h
theorem A9 (g:an) (t:Term):oL g t=true↔∀ n:Int,1≤n→n≤t.level→fG g.av n=true:=by
  simp only[oL,List.all_eq_true,List.mem_range]
  constructor
  · intro h n h1 h2
    have:=h (n - 1).toNat (by omega)
    rwa [show (((n - 1).toNat:Nat):Int)+1=n by omega] at this
  · intro h k hk
    exact h _ (by omega) (by omega)
theorem Ic (g:an):nG g=bt g:=by
  rw[Bool.eq_iff_iff]
  simp only[nG,bt,iB,jn,pf,Bool.and_eq_true,decide_eq_true_eq,y6,qq,Ei,List.all_eq_true,Bool.not_eq_true',List.any_eq_false,Bool.not_eq_true,J8,pS,List.nodup_append,Int.zero_add,Int.zero_sub,Bool.not_not]
  have hT:(∀ (k:Nat) (t:Term),g.av[k]?=some t→iR g k t=true)↔(∀ t∈g.av,jv t=true)∧(g.av.map Term.name).Nodup∧(∀ t∈g.av,oL g t=true):=by
    rw[← qz]
    constructor
    · intro h
      have h':∀ t∈g.av,∃ k:Nat,g.av[k]?=some t:=fun t ht=>List.getElem?_of_mem ht
      refine ⟨fun t ht=>?_,fun k s hk=>?_,fun t ht=>?_⟩
      · obtain ⟨k,hk⟩:=h' t ht
        have:=h k t hk
        simp only[iR,jv,Bool.and_eq_true,decide_eq_true_eq] at this ⊢
        simp[this]
      · rw[List.getElem?_map,Option.map_eq_some_iff] at hk
        obtain ⟨t,hk,rfl⟩:=hk
        have:=h k t hk
        simp only[iR,Bool.and_eq_true,beq_iff_eq] at this
        exact this.1.1.1.1.1.1.2
      · obtain ⟨k,hk⟩:=h' t ht
        have:=h k t hk
        simp only[iR,Bool.and_eq_true] at this
        exact this.2
    · rintro ⟨h1,h2,h3⟩ k t hk
      have hm:=List.mem_of_getElem? hk
      have a:=h1 t hm
      have b:=h2 k t.name (by rw[List.getElem?_map,hk]; rfl)
      have c:=h3 t hm
      simp only[iR,jv,kf,Bool.and_eq_true,decide_eq_true_eq] at a ⊢
      simp[a,b,c]
  have hN:(∀ (k:Nat) (s:ByteArray),g.az[k]?=some s→jZ g k s=true)↔(∀ s∈g.az,fc (eh s)=true)∧g.az.Nodup∧(∀ s∈g.az,s ∉ g.av.map Term.name):=by
    rw[← qz]
    constructor
    · intro h
      have h':∀ t∈g.az,∃ k:Nat,g.az[k]?=some t:=fun t ht=>List.getElem?_of_mem ht
      refine ⟨fun t ht=>?_,fun k s hk=>?_,fun t ht=>?_⟩
      · obtain ⟨k,hk⟩:=h' t ht
        have:=h k t hk
        simp only[jZ,Bool.and_eq_true] at this
        exact this.1.1
      · have:=h k s hk
        simp only[jZ,vo,Bool.and_eq_true,beq_iff_eq] at this
        exact this.1.2
      · obtain ⟨k,hk⟩:=h' t ht
        have:=h k t hk
        simp only[jZ,Bool.and_eq_true,decide_eq_true_eq] at this
        exact (A7 g t).1 this.2
    · rintro ⟨h1,h2,h3⟩ k s hk
      have hm:=List.mem_of_getElem? hk
      have a:=h1 s hm
      have b:=h2 k s hk
      have c:=(A7 g s).2 (h3 s hm)
      simp[jZ,vo,a,b,c]
  rw[hT,hN]
  constructor
  · rintro ⟨⟨⟨⟨⟨⟨⟨⟨t1,t2⟩,t3⟩,n1,n2⟩,r1,r2⟩,a1,a2,a3⟩,s1,s2⟩,n3⟩,ru⟩
    have hl:=(zo g.av t1).1 t3
    exact ⟨⟨⟨⟨⟨⟨⟨t2,t1,a2,fun t ht=>(A9 g t).2 (hl t ht)⟩,⟨by omega,by omega⟩,fun s hs=>by simpa using n3 s hs,a1,fun s hs hm=>a3 s hs s hm rfl⟩,by omega⟩,by omega⟩,s1⟩,by omega⟩,ru⟩
  · rintro ⟨⟨⟨⟨⟨⟨⟨t2,t1,a2,t3⟩,⟨n1,n2⟩,n3,a1,a3⟩,r1⟩,r2⟩,s1⟩,s2⟩,ru⟩
    have hl:=(zo g.av t1).2 (fun t ht=>(A9 g t).1 (t3 t ht))
    exact ⟨⟨⟨⟨⟨⟨⟨⟨t1,t2⟩,hl⟩,by omega,by omega⟩,by omega,by omega⟩,a1,a2,fun s hs u hu e=>a3 s hs (e ▸ hu)⟩,s1,by omega⟩,fun s hs=>by simp[n3 s hs]⟩,ru⟩
theorem np (g:an) (hg:g.Ok) (hs:g.az.length+g.av.length≤1000):aC Tryz.prog 52 [.agg (aw g)] (gb (bt g)):=by
  rw[← Ic]; exact HB g hg hs
def Dq (n:Nat) (r:aL):Prop:=bO r.left∧0≤r.left∧r.left < n∧r.right.length≤6∧∀ s∈r.right,bO s∧(s < 0→-1 - s < n)
theorem an.dg.zn {g:an} (hg:g.Ok) (h:g.dg) {r:aL} (hr:r∈g.rules):Dq g.az.length r :=
  ⟨(hg.aD r hr).1,(h.left r hr).1,(h.left r hr).2,h.right r hr,fun s hs=>⟨(hg.aD r hr).2.2.2 s hs,fun hn=>h.neg hr hs hn⟩⟩
def qw:SF:=⟨.seq (al [aV 3 false]) <|
  .seq (.region false [⟨none,[aa 4 0,ax 5 .lss 4 0,aa 6 5]⟩,⟨(some (6,true)),[aq 7 1,aa 8 0,((some 9),.op (.arith .sub (.val (.val (.int .i64 (-1)))) (.tmp 8))),aZ 10 1 7 9,aq 11 10,cb 12 11]⟩,⟨none,[bB 13 6 12,aa 3 13]⟩]) <|
  .ret,
  [.tmp 3],14⟩
theorem uB:bh Tryz.prog 197 []=some qw:=by kernel_rfl
def tP:SF:=⟨.seq (al [b6 2 0,b6 3 1,aV 4 false]) <|
  .seq (al [ao 5 1 2,aq 6 5,((some 7),.op (.pL 197 [] [(.tmp 3)])),aG 8 91 [6,7],cb 9 8,aa 4 9]) <|
  .ret,
  [.tmp 4],10⟩
theorem xP:bh Tryz.prog 160 [2,3]=some tP:=by kernel_rfl
def lZ:SF:=⟨.seq (al [b6 2 0,((some 4),.op (.bj (.val (.emp 1))))]) <|
  .seq (.seq (al [aH 5 3 2,aa 6 1,aG 7 160 [5,6]]) <|
  .cond (.tmp 7) (.seq (al [ao 8 0 2,aq 9 8,((some 10),.op (.bD 1 1 [(.val (.int .i64 0))] [(0,(.tmp 9))])),aa 4 10]) <|
  .ret) (.skip)) <|
  .seq (al [((some 4),.op (.bj (.val (.emp 1))))]) <|
  .ret,
  [.tmp 4],11⟩
theorem qZ:bh Tryz.prog 195 [2]=some lZ:=by kernel_rfl
def lr:SC :=
  .seq (al [aO 24 .lss 23 22]) <|
  .seq (.cond (.tmp 24) (.skip) (.exit 0)) <|
  .seq (.block 1 (.seq (al [aZ 25 1 21 23,aq 26 25,aa 7 26]) <|
  .seq (al [aa 27 7,ax 28 .lss 27 0]) <|
  .cond (.tmp 28) (al [aa 29 5,aa 30 7,((some 31),.op (.arith .sub (.val (.val (.int .i64 (-1)))) (.tmp 30))),((some 32),.op (.bD 1 1 [(.val (.int .i64 0))] [(0,(.tmp 31))])),((some 33),.op (.app 1 8 (.tmp 29) (.tmp 32))),aa 5 33]) (.skip))) <|
  al [ax 34 .add 23 1,aa 23 34]
def nj:SF:=⟨.seq (al [b6 3 0,((some 5),.op (.bj (.val (.emp 1))))]) <|
  .seq (.seq (.region false [⟨none,[aa 8 1,ao 9 0 3,aq 10 9,aZ 11 1 8 10,aq 12 11,cb 13 12,aa 14 13]⟩,⟨(some (14,false)),[aH 15 3 3,aq 16 2,aG 17 160 [15,16],cb 18 17]⟩,⟨none,[bF 19 14 18]⟩]) <|
  .cond (.tmp 19) (.seq (al [((some 5),.op (.bj (.val (.emp 1))))]) <|
  .ret) (.skip)) <|
  .seq (.seq (al [ao 20 1 3,aq 21 20,aM 22 21,aF 23 0]) <|
  .block 0 (.loop lr)) <|
  .seq (al [aa 35 5,aa 5 35]) <|
  .ret,
  [.tmp 5],36⟩
theorem rz:bh Tryz.prog 196 [3]=some nj:=by kernel_rfl
theorem Dr (r:aL) (is:List Bool):∀ v∈[V.agg (bm r),di is],Tree v:=by
  intro v hv; simp at hv
  rcases hv with rfl | rfl
  · exact cI _ (fS r)
  · exact kQ is
def z2 (is:List Bool) (s:Int):Bool:=decide (s < 0) && !is.getD (-1 - s).toNat false
theorem GX (is:List Bool) (s:Int) (hs:bO s∧(s < 0→-1 - s < is.length)):aC Tryz.prog 197 [gi s,.aU [di is] 0] (gb (z2 is s)):=by
  refine aC.val ?_ fun H=>?_
  · intro v hv; simp at hv
    rcases hv with rfl | rfl
    · exact .val _
    · exact jo (by intro v hv; simp at hv; subst hv; exact kQ is)
  obtain ⟨⟨h1,h2⟩,h3⟩:=hs
  refine aA.of mixed uB ?_
  simp (disch:=omega) only [↓wr,↓reduceIte,wq,ah,ag,aj,ab,ae,af,ai,isNil,Nat.reduceEqDiff,Nat.reduceAdd,Nat.reduceLT,Nat.reduceLeDiff,Int.reduceNeg,Int.reduceToNat,reduceCtorEq,qw,di]
  refine au.dec (fun h=>?_) (fun h=>?_)
  · have hb:is[(-1 - s).toNat]?=some (is[(-1 - s).toNat]'(by omega)):=List.getElem?_eq_getElem (by omega)
    have hbd:is.getD (-1 - s).toNat false=is[(-1 - s).toNat]'(by omega):=by simp[List.getD_eq_getElem?_getD,hb]
    generalize is[(-1 - s).toNat]'(by omega)=b at hb hbd
    simp (disch:=omega) only [↓wr,↓reduceIte,wq,ah,ag,aj,ab,ae,af,ai,isNil,Nat.reduceEqDiff,Nat.reduceAdd,Nat.reduceLT,Nat.reduceLeDiff,Int.reduceNeg,Int.reduceToNat,reduceCtorEq,List.getElem?_map,hb]
    simp only[z2,hbd,h,decide_true,Bool.true_and]
  · simp (disch:=omega) only [↓wr,↓reduceIte,wq,ah,ag,aj,ab,ae,af,ai,isNil,Nat.reduceEqDiff,Nat.reduceAdd,Nat.reduceLT,Nat.reduceLeDiff,Int.reduceNeg,Int.reduceToNat,reduceCtorEq]
    simp[z2,h]
theorem G1 {is:List Bool} {l:List Int} : (!l.any (z2 is))=fC l is true:=by
  simp only[fC,List.not_any_eq_all_not]
  congr 1
  funext s
  simp only[z2]
  by_cases h:0≤s
  · simp[h,show ¬ s < 0 by omega]
  · simp[h,show s < 0 by omega]
theorem uJ (r:aL) (is:List Bool) (hr:bo r.right) (hs:∀ s∈r.right,bO s∧(s < 0→-1 - s < is.length)):aC Tryz.prog 160 [.agg (bm r),di is] (gb (fC r.right is true)):=by
  rw[← G1]
  refine aC.val (Dr r is) fun H=>?_
  refine aA.of mixed xP ?_
  simp (disch:=omega) only [↓wr,↓reduceIte,wq,ah,ag,aj,ab,ae,af,ai,isNil,Nat.reduceEqDiff,Nat.reduceAdd,Nat.reduceLT,Nat.reduceLeDiff,Int.reduceNeg,Int.reduceToNat,reduceCtorEq,tP,bm,di,encI]
  refine aE.pure (pR r.right hr 197 [.aU [di is] 0] (by
    intro v hv; simp at hv; subst hv
    exact jo (by intro v hv; simp at hv; subst hv; exact kQ is)) (z2 is) (fun x hx=>GX is x (hs x hx)) (by kernel_rfl)) (by kernel_rfl) ?_
  simp (disch:=omega) only [↓wr,↓reduceIte,wq,ah,ag,aj,ab,ae,af,ai,isNil,Nat.reduceEqDiff,Nat.reduceAdd,Nat.reduceLT,Nat.reduceLeDiff,Int.reduceNeg,Int.reduceToNat,reduceCtorEq]
theorem mE {h:aB} {u:V} {l:List Int} (ho:aN h.view u 1 (l.map fun x=>[gi x])):dx h u (encI l):=dx.KZ (f:=Value.int .i64) ho
theorem AH (r:aL) (is:List Bool) (hr:Dq is.length r):dW Tryz.prog 195 [.agg (bm r),di is] (encI (if fC r.right is true=true then [r.left] else [])):=by
  obtain ⟨hl,_,_,hr6,hs⟩:=hr
  have hsh:bo r.right:=by unfold bo; omega
  refine dW.of (Dr r is) ?_
  refine aA.of mixed qZ ?_
  simp (disch:=omega) only [↓wr,↓reduceIte,wq,ah,ag,aj,ab,ae,af,ai,isNil,Nat.reduceEqDiff,Nat.reduceAdd,Nat.reduceLT,Nat.reduceLeDiff,Int.reduceNeg,Int.reduceToNat,reduceCtorEq,lZ,bm,encI]
  refine aE.pure (uJ r is hsh hs) (by kernel_rfl) ?_
  repeat' (first | (refine au.dec (fun _=>?_) (fun _=>?_)) | (refine au.eq (fun _=>?_) (fun _=>?_)) | (refine au.ne (fun _=>?_) (fun _=>?_)) | (refine au.split (fun _=>?_) (fun _=>?_)) | (simp (disch:=omega) only [↓wr,↓reduceIte,wq,ah,ag,aj,ab,ae,af,ai,isNil,Nat.reduceEqDiff,Nat.reduceAdd,Nat.reduceLT,Nat.reduceLeDiff,Int.reduceNeg,Int.reduceToNat,reduceCtorEq,bm,encI]))
  all_goals first
    | (intro n h' hh; rw[if_pos (by simp[*])]; exact mE (l:=[r.left]) (.inr ⟨n,rfl,by rw[hh]; simp[View.set]⟩))
    | (intro h' hh; rw[if_neg (by simp[*])]; exact .emp _)
def fk (l:List Int):List Int:=(l.filter fun s=>decide (s < 0)).map fun s=>-1 - s
theorem IN (r:aL) (is p:List Bool):∀ v∈[V.agg (bm r),di is,.aU [di p] 0],Tree v:=by
  intro v hv; simp at hv
  rcases hv with rfl | rfl | rfl
  · exact cI _ (fS r)
  · exact kQ is
  · exact jo (by intro v hv; simp at hv; subst hv; exact kQ p)
set_option maxHeartbeats 1000000 in
theorem Ci (r:aL) (is p:List Bool) (hr:Dq is.length r) (hp:p.length=is.length) :
    dW Tryz.prog 196 [.agg (bm r),di is,.aU [di p] 0] (encI (if (is.getD r.left.toNat false && fC r.right p true)=true then fk r.right else [])):=by
  obtain ⟨hl,hl0,hl1,hr6,hs⟩:=hr
  have hsh:bo r.right:=by unfold bo; omega
  refine dW.of (IN r is p) ?_
  refine aA.of mixed rz ?_
  have hb:is[r.left.toNat]?=some (is[r.left.toNat]'(by omega)):=List.getElem?_eq_getElem (by omega)
  have hbd:is.getD r.left.toNat false=is[r.left.toNat]'(by omega):=by simp[List.getD_eq_getElem?_getD,hb]
  generalize is[r.left.toNat]'(by omega)=b at hb hbd
  rw[hbd]
  simp (disch:=omega) only [↓wr,↓reduceIte,wq,ah,ag,aj,ab,ae,af,ai,isNil,Nat.reduceEqDiff,Nat.reduceAdd,Nat.reduceLT,Nat.reduceLeDiff,Int.reduceNeg,Int.reduceToNat,reduceCtorEq,nj,bm,encI,di,List.getElem?_map,hb]
  cases b with
  | false =>
    simp (disch:=omega) only [↓wr,↓reduceIte,wq,ah,ag,aj,ab,ae,af,ai,isNil,Nat.reduceEqDiff,Nat.reduceAdd,Nat.reduceLT,Nat.reduceLeDiff,Int.reduceNeg,Int.reduceToNat,reduceCtorEq]
    intro h' hh
    exact .emp _
  | true =>
    simp (disch:=omega) only [↓wr,↓reduceIte,wq,ah,ag,aj,ab,ae,af,ai,isNil,Nat.reduceEqDiff,Nat.reduceAdd,Nat.reduceLT,Nat.reduceLeDiff,Int.reduceNeg,Int.reduceToNat,reduceCtorEq,bm,encI,di]
    refine aE.pure (uJ r p hsh (fun s hs'=>⟨(hs s hs').1,fun h=>by rw[hp]; exact (hs s hs').2 h⟩)) (by kernel_rfl) ?_
    repeat' (first | (refine au.dec (fun _=>?_) (fun _=>?_)) | (refine au.eq (fun _=>?_) (fun _=>?_)) | (refine au.ne (fun _=>?_) (fun _=>?_)) | (refine au.split (fun _=>?_) (fun _=>?_)) | (simp (disch:=omega) only [↓wr,↓reduceIte,wq,ah,ag,aj,ab,ae,af,ai,isNil,Nat.reduceEqDiff,Nat.reduceAdd,Nat.reduceLT,Nat.reduceLeDiff,Int.reduceNeg,Int.reduceToNat,reduceCtorEq,bm,encI,di]))
    · rename_i ha
      rw[if_pos (by simp[ha])]
      refine bK.up r.right.length (fun i T H=>(∃ u,T 5=u∧aN H u 1 ((fk (r.right.take i)).map fun x=>[gi x]))∧T 21=encI r.right∧T 22=gi r.right.length∧T 23=gi i) ?_ ?_
      · exact ⟨⟨_,rfl,.nil⟩,rfl,rfl,rfl⟩
      rintro i k T H' hk ⟨⟨u,h5,hu⟩,h21,h22,h23⟩
      simp (disch:=omega) only [↓wr,↓reduceIte,wq,ah,ag,aj,ab,ae,af,ai,isNil,Nat.reduceEqDiff,Nat.reduceAdd,Nat.reduceLT,Nat.reduceLeDiff,Int.reduceNeg,Int.reduceToNat,reduceCtorEq,lr,h5,h21,h22,h23,encI]
      refine au.dec (fun hc=>?_) (fun hc=>?_)
      · have hg:r.right[i]?=some (r.right[i]'(by omega)):=List.getElem?_eq_getElem (by omega)
        have hm:r.right[i]'(by omega)∈r.right:=List.getElem_mem _
        have htk:fk (r.right.take (i+1))=fk (r.right.take i) ++ fk [r.right[i]'(by omega)]:=by
          rw[List.take_add_one,hg,fk,List.filter_append,List.map_append]; rfl
        have hlen:(fk (r.right.take i)).length≤6:=by
          have h1:(fk (r.right.take i)).length≤(r.right.take i).length:=by simp only[fk,List.length_map]; exact List.length_filter_le _ _
          have h2:(r.right.take i).length≤i:=List.length_take_le _ _
          omega
        generalize r.right[i]'(by omega)=s at hg hm htk
        obtain ⟨⟨s1,s2⟩,s3⟩:=hs s hm
        simp (disch:=omega) only [↓wr,↓reduceIte,wq,ah,ag,aj,ab,ae,af,ai,isNil,Nat.reduceEqDiff,Nat.reduceAdd,Nat.reduceLT,Nat.reduceLeDiff,Int.reduceNeg,Int.reduceToNat,reduceCtorEq,h5,h21,h22,h23,encI,List.getElem?_map,hg]
        refine au.dec (fun hd=>?_) (fun hd=>?_)
        · simp (disch:=omega) only [↓wr,↓reduceIte,wq,ah,ag,aj,ab,ae,af,ai,isNil,Nat.reduceEqDiff,Nat.reduceAdd,Nat.reduceLT,Nat.reduceLeDiff,Int.reduceNeg,Int.reduceToNat,reduceCtorEq,h5,h21,h22,h23]
          intro m hm
          try simp (disch:=omega) only [↓wr,↓reduceIte,wq,ah,ag,aj,ab,ae,af,ai,isNil,Nat.reduceEqDiff,Nat.reduceAdd,Nat.reduceLT,Nat.reduceLeDiff,Int.reduceNeg,Int.reduceToNat,reduceCtorEq,h5,h21,h22,h23,fP]
          refine vF (hu.fresh hm) (by simp) (by simp[aR]) (by unfold aW; simp at hlen ⊢; omega) (by unfold aW; simp at hlen ⊢; omega) ?_
          intro u' H2 hu' _
          simp (disch:=omega) only [↓wr,↓reduceIte,wq,ah,ag,aj,ab,ae,af,ai,isNil,Nat.reduceEqDiff,Nat.reduceAdd,Nat.reduceLT,Nat.reduceLeDiff,Int.reduceNeg,Int.reduceToNat,reduceCtorEq,h21,h22,h23]
          refine bE hk (by omega) ⟨⟨u',rfl,?_⟩,h21,h22,rfl⟩
          rw[htk]
          simpa [fk,hd] using hu'
        · simp (disch:=omega) only [↓wr,↓reduceIte,wq,ah,ag,aj,ab,ae,af,ai,isNil,Nat.reduceEqDiff,Nat.reduceAdd,Nat.reduceLT,Nat.reduceLeDiff,Int.reduceNeg,Int.reduceToNat,reduceCtorEq,h5,h21,h22,h23]
          refine bE hk (by omega) ⟨⟨u,h5,?_⟩,h21,h22,rfl⟩
          rw[htk]
          simpa [fk,hd] using hu
      · rw[List.take_of_length_le (by omega)] at hu
        simp (disch:=omega) only [↓wr,↓reduceIte,wq,ah,ag,aj,ab,ae,af,ai,isNil,Nat.reduceEqDiff,Nat.reduceAdd,Nat.reduceLT,Nat.reduceLeDiff,Int.reduceNeg,Int.reduceToNat,reduceCtorEq,h5,h21,h22,h23]
        intro h' hh
        exact mE (by rw[hh]; exact hu)
    · rename_i ha
      intro h' hh
      rw[if_neg (by simp[ha])]
      exact .emp _
def oE (is:List Bool) (l:List Int):List Bool:=l.foldl (fun is n=>is.set n.toNat true) is
def stepG (comes:aL→List Bool→List Int) (is:List Bool) (r:aL):List Bool:=oE is (comes r is)
def dh (comes:aL→List Bool→List Int) (rules:List aL) (is:List Bool):List Bool:=rules.foldl (stepG comes) is
def fF (a b:List Bool):Prop:=a.length=b.length∧∀ i,a.getD i false=true→b.getD i false=true
theorem fF.refl (a:List Bool):fF a a:=⟨rfl,fun _ h=>h⟩
theorem fF.trans {a b c:List Bool} (h:fF a b) (k:fF b c):fF a c:=⟨h.1.trans k.1,fun i hi=>k.2 i (h.2 i hi)⟩
theorem fF.set (a:List Bool) (i:Nat):fF a (a.set i true):=by
  refine ⟨by simp,fun j h=>?_⟩
  simp only[List.getD_eq_getElem?_getD,List.getElem?_set] at h ⊢
  split
  · split
    · rfl
    · rename_i e h2; rw[← e,List.getElem?_eq_none (by omega)] at h; simp at h
  · exact h
theorem C8:∀ (l:List Int) (is:List Bool),fF is (oE is l)
  | [],is=>.refl _
  | n :: l,is=>(fF.set is n.toNat).trans (C8 l _)
theorem pX (comes:aL→List Bool→List Int):∀ (rules:List aL) (is:List Bool),fF is (dh comes rules is)
  | [],is=>.refl _
  | r :: rs,is=>(C8 _ _).trans (pX comes rs _)
def dS (a:List Bool):Nat:=a.countP fun x=>x
theorem x8 (a:List Bool):dS a≤a.length:=List.countP_le_length
theorem fF.dS:∀ {a b:List Bool},fF a b→dS a≤dS b∧(dS a=dS b→a=b)
  | [],[],_=>⟨Nat.le_refl _,fun _=>rfl⟩
  | [],_ :: _,h=>by simp[fF] at h
  | _ :: _,[],h=>by simp[fF] at h
  | x :: a,y :: b,h=>by
    have hxy:x=true→y=true:=fun e=>by have:=h.2 0 (by simpa using e); simpa using this
    obtain ⟨h1,h2⟩:=fF.dS (a:=a) (b:=b) ⟨by simpa using h.1,fun i hi=>by have:=h.2 (i+1) (by simpa using hi); simpa using this⟩
    unfold Gv.dS at h1 h2 ⊢
    simp only[List.countP_cons]
    cases x with
    | true =>
      have:=hxy rfl; subst this
      simp only[if_true]
      exact ⟨by omega,fun e=>by rw[h2 (by omega)]⟩
    | false =>
      cases y with
      | false=>simp only[Bool.false_eq_true,if_false]; exact ⟨by omega,fun e=>by rw[h2 (by omega)]⟩
      | true=>simp only[Bool.false_eq_true,if_false,if_true]; exact ⟨by omega,fun e=>by omega⟩
def fM (comes:aL→List Bool→List Int) (rules:List aL):Nat→List Bool→List Bool
  | 0,is=>is
  | k+1,is=>if dh comes rules is=is then is else fM comes rules k (dh comes rules is)
theorem pZ (comes:aL→List Bool→List Int) (rules:List aL):∀ (k:Nat) (is:List Bool),is.length≤dS is+k→dh comes rules (fM comes rules k is)=fM comes rules k is∧fF is (fM comes rules k is)
  | 0,is,h=>by
    have h1:=pX comes rules is
    have h2:=x8 (dh comes rules is)
    have h3:=h1.dS
    rw[← h1.1] at h2
    have h4:=x8 is
    exact ⟨(h3.2 (by omega)).symm,.refl _⟩
  | k+1,is,h=>by
    simp only[fM]
    by_cases e:dh comes rules is=is
    · rw[if_pos e]; exact ⟨e,.refl _⟩
    · rw[if_neg e]
      have h1:=pX comes rules is
      have h3:=h1.dS
      have:dS is < dS (dh comes rules is):=by
        rcases Nat.lt_or_ge (dS is) (dS (dh comes rules is)) with h | h
        · exact h
        · exact absurd (h3.2 (by omega)).symm e
      obtain ⟨g1,g2⟩:=pZ comes rules k (dh comes rules is) (by rw[← h1.1]; omega)
      exact ⟨g1,h1.trans g2⟩
def tO:SC :=
  .seq (al [aO 26 .lss 25 24]) <|
  .seq (.cond (.tmp 26) (.skip) (.exit 4)) <|
  .seq (.block 5 (.seq (al [aZ 27 1 23 25,aq 28 27,aa 11 28]) <|
  .seq (.region false [⟨none,[aa 29 7,aa 30 29]⟩,⟨(some (30,false)),[aa 31 1,aa 32 11,aZ 33 1 31 32,aq 34 33,cb 35 34]⟩,⟨none,[bF 36 30 35,aa 7 36]⟩]) <|
  al [aa 37 1,aa 38 11,aZ 39 1 37 38,(none,.op (.store 1 (.tmp 39) (.val (.val (.bool true)))))])) <|
  al [ax 40 .add 25 1,aa 25 40]
def tK:SC :=
  .seq (al [aO 17 .lss 16 15]) <|
  .seq (.cond (.tmp 17) (.skip) (.exit 2)) <|
  .seq (.block 3 (.seq (al [aZ 18 3 14 16,aH 19 3 18,((some 9),.op (.alloc [(.val (.int .i64 0)),(.emp 1),(.val (.int .i64 0))])),(none,.op (.store 3 (.tmp 9) (.tmp 19)))]) <|
  .seq (al [aa 20 2,aH 21 3 9,aa 22 1,((some 23),.call (.tmp 20) [(.tmp 21),(.tmp 22)]),aM 24 23,aF 25 0]) <|
  .block 4 (.loop tO))) <|
  al [ax 41 .add 16 1,aa 16 41]
def nV:SC :=
  .seq (.seq (al [aa 12 7]) <|
  .cond (.tmp 12) (.skip) (.exit 0)) <|
  .block 1 (.seq (al [aV 7 false]) <|
  .seq (al [ao 13 2 3,aq 14 13,aM 15 14,aF 16 0]) <|
  .block 2 (.loop tK))
def w6:SF:=⟨.seq (al [b6 3 0,((some 6),.op (.bj (.val (.emp 1))))]) <|
  .seq (.seq (al [aV 7 true]) <|
  .block 0 (.loop nV)) <|
  .seq (al [aa 42 1,aa 6 42]) <|
  .ret,
  [.tmp 6],43⟩
theorem Ap:bh Tryz.prog 169 [3]=some w6:=by kernel_rfl
theorem KV {is:List Bool} {i:Nat} (h:is.getD i false=true):is.set i true=is:=by
  apply List.ext_getElem?
  intro j
  simp only[List.getD_eq_getElem?_getD] at h
  rw[List.getElem?_set]
  split
  · rename_i e; subst e
    split
    · rename_i hl; rw[List.getElem?_eq_getElem hl] at h ⊢; simp at h; simp[h]
    · rename_i hl; rw[List.getElem?_eq_none (by omega)] at h; simp at h
  · rfl
theorem GU {comes:aL→List Bool→List Int} {rules:List aL} {k:Nat} {is:List Bool} (h:dh comes rules is=is):fM comes rules k is=is:=by
  cases k with
  | zero=>rfl
  | succ k=>simp only[fM,h,if_true]
theorem Hi {comes:aL→List Bool→List Int} {rules:List aL} {k:Nat} {is:List Bool} (h:¬ dh comes rules is=is) (hk:is.length≤dS is+k):∃ j,k=j+1∧fM comes rules k is=fM comes rules j (dh comes rules is)∧(dh comes rules is).length≤dS (dh comes rules is)+j:=by
  have h1:=pX comes rules is
  have h3:=h1.dS
  have h5:=x8 (dh comes rules is)
  have:dS is < dS (dh comes rules is):=by
    rcases Nat.lt_or_ge (dS is) (dS (dh comes rules is)) with h | h
    · exact h
    · exact absurd (h3.2 (by omega)).symm (by assumption)
  have hl:=h1.1
  obtain ⟨j,rfl⟩:∃ j,k=j+1:=⟨k - 1,by omega⟩
  exact ⟨j,rfl,by simp only[fM]; rw[if_neg h],by omega⟩
theorem KM {a is:List Bool} {i:Nat} {b:Bool} (hle:fF a is) (hi:i < is.length) (hb:b = !decide (is=a)):(b || !is.getD i false) = !decide (is.set i true=a):=by
  cases hx:is.getD i false with
  | true=>rw[KV hx,hb]; simp
  | false =>
    have:¬ is.set i true=a:=fun e=>by
      have h1:(is.set i true).getD i false=true:=by simp[List.getD_eq_getElem?_getD,hi]
      rw[e] at h1
      have:=hle.2 i h1
      rw[hx] at this; simp at this
    simp[this]
set_option maxHeartbeats 8000000 in
theorem Fi (g:an) (hr:g.rules.length≤40) (comes:aL→List Bool→List Int) (f:FuncId) (capt capt':List V) (hok:cR Tryz.prog f=true) (N:Nat) (hN:N≤16)
    (hc:∀ r∈g.rules,∀ is:List Bool,is.length=N→dW Tryz.prog f (.agg (bm r) :: di is :: capt') (encI (comes r is))∧(comes r is).length≤100∧∀ n∈comes r is,bO n∧0≤n∧n < N)
    (id:Nat) (is0:List Bool) (his:is0.length=N) (H:View) (hH:H id=.arr 1 (cT is0)) (hlent:∀ H':View,(∀ k,H k≠.dead→k≠id→H' k=H k)→m3 H' capt capt') :
    aA Tryz.prog 169 [.agg (aw g),.sl id 0 N 1,.fn f [] capt] H fun r H'=>r=.sl id 0 N 1∧H' id=.arr 1 (cT (fM comes g.rules 16 is0))∧∀ k,H k≠.dead→k≠id→H' k=H k:=by
  refine aA.of mixed Ap ?_
  simp (disch:=omega) only [↓wr,↓reduceIte,wq,ah,ag,aj,ab,ae,af,ai,isNil,Nat.reduceEqDiff,Nat.reduceAdd,Nat.reduceLT,Nat.reduceLeDiff,Int.reduceNeg,Int.reduceToNat,reduceCtorEq,w6,aw,encS]
  refine bK.intro (fun k T H'=>∃ is:List Bool,is.length=N∧H' id=.arr 1 (cT is)∧(∀ k,H k≠.dead→k≠id→H' k=H k)∧T 1=.sl id 0 N 1∧T 2=.fn f [] capt∧T 3=.aU (aw g) 0 ∧
    ((T 7=gb true∧∃ j,k=j+1∧fM comes g.rules j is=fM comes g.rules 16 is0∧N≤dS is+j)∨(T 7=gb false∧is=fM comes g.rules 16 is0))) 17 ?_ ?_
  · exact ⟨is0,his,hH,fun _ _ _=>rfl,rfl,rfl,rfl,.inl ⟨rfl,16,rfl,rfl,by omega⟩⟩
  rintro k T H1 ⟨is,hlen,hid,hfr,t1,t2,t3,h7⟩
  rcases h7 with ⟨h7,j,rfl,hgr,hj⟩ | ⟨h7,hgr⟩
  · simp (disch:=omega) only [↓wr,↓reduceIte,wq,ah,ag,aj,ab,ae,af,ai,isNil,Nat.reduceEqDiff,Nat.reduceAdd,Nat.reduceLT,Nat.reduceLeDiff,Int.reduceNeg,Int.reduceToNat,reduceCtorEq,nV,t1,t2,t3,h7,aw,encS]
    refine bK.up g.rules.length (fun i T H'=>∃ lT:List Bool,lT.length=N∧fF is lT∧lT=(g.rules.take i).foldl (stepG comes) is∧H' id=.arr 1 (cT lT)∧(∀ k,H k≠.dead→k≠id→H' k=H k)∧T 1=.sl id 0 N 1∧T 2=.fn f [] capt∧T 3=.aU (aw g) 0 ∧
      T 7=gb (!decide (lT=is))∧T 14=.aK (g.rules.map bm)∧T 15=gi g.rules.length∧T 16=gi i) ?_ ?_
    · exact ⟨is,hlen,.refl _,rfl,hid,hfr,t1,t2,t3,by simp; rfl,rfl,rfl,rfl⟩
    clear t1 t2 t3 h7 hid hfr
    rintro i k T H1 hk ⟨lT,hlen2,hle2,hst,hid,hfr,t1,t2,t3,h7,h14,h15,h16⟩
    simp (disch:=omega) only [↓wr,↓reduceIte,wq,ah,ag,aj,ab,ae,af,ai,isNil,Nat.reduceEqDiff,Nat.reduceAdd,Nat.reduceLT,Nat.reduceLeDiff,Int.reduceNeg,Int.reduceToNat,reduceCtorEq,tK,t1,t2,t3,h7,h14,h15,h16,aw,encS]
    refine au.dec (fun hcc=>?_) (fun hcc=>?_)
    · have hg2:g.rules[i]?=some (g.rules[i]'(by omega)):=List.getElem?_eq_getElem (by omega)
      have hmem:g.rules[i]'(by omega)∈g.rules:=List.getElem_mem _
      have htk:(g.rules.take (i+1)).foldl (stepG comes) is=stepG comes ((g.rules.take i).foldl (stepG comes) is) (g.rules[i]'(by omega)):=by
        rw[List.take_add_one,hg2,List.foldl_append]; rfl
      generalize g.rules[i]'(by omega)=r at hg2 hmem htk
      obtain ⟨hcp,hcl,hcn⟩:=hc r hmem lT hlen2
      simp (disch:=omega) only [↓wr,↓reduceIte,wq,ah,ag,aj,ab,ae,af,ai,isNil,Nat.reduceEqDiff,Nat.reduceAdd,Nat.reduceLT,Nat.reduceLeDiff,Int.reduceNeg,Int.reduceToNat,reduceCtorEq,t1,t2,t3,h7,h14,h15,h16,bm,encI,List.getElem?_map,hg2]
      intro b hb
      have hbid:b≠id:=by rintro rfl; rw[hid] at hb; simp at hb
      try simp (disch:=omega) only [↓wr,↓reduceIte,wq,ah,ag,aj,ab,ae,af,ai,isNil,Nat.reduceEqDiff,Nat.reduceAdd,Nat.reduceLT,Nat.reduceLeDiff,Int.reduceNeg,Int.reduceToNat,reduceCtorEq,t1,t2,t3,h7,h14,h15,h16]
      refine aE.Oh hcp hok ⟨eK.tree (cI _ (fS r)),Hp (by simp[View.set,hbid.symm,hid]) hlen2.symm,hlent _ (fun k hk hki=>?_)⟩ ?_
      · have hkb:k≠b:=by
          rintro rfl
          rw[hfr k hk hki] at hb
          exact hk hb
        simp[View.set,hkb,hfr k hk hki]
      generalize hl:comes r lT=l at hcl hcn
      simp (disch:=omega) only [↓wr,↓reduceIte,wq,ah,ag,aj,ab,ae,af,ai,isNil,Nat.reduceEqDiff,Nat.reduceAdd,Nat.reduceLT,Nat.reduceLeDiff,Int.reduceNeg,Int.reduceToNat,reduceCtorEq,t1,t2,t3,h7,h14,h15,h16,encI]
      refine bK.up l.length (fun q T H'=>∃ is3:List Bool,is3.length=N∧fF is is3∧is3=oE lT (l.take q)∧H' id=.arr 1 (cT is3)∧(∀ k,H k≠.dead→k≠id→H' k=H k)∧T 1=.sl id 0 N 1∧T 2=.fn f [] capt∧T 3=.aU (aw g) 0 ∧
        T 7=gb (!decide (is3=is))∧T 14=.aK (g.rules.map bm)∧T 15=gi g.rules.length∧T 16=gi i∧T 23=encI l∧T 24=gi l.length∧T 25=gi q) ?_ ?_
      · refine ⟨lT,hlen2,hle2,rfl,by simp[View.set,hbid.symm,hid],fun k hk hki=>?_,t1,t2,t3,h7,h14,h15,h16,rfl,rfl,rfl⟩
        have hkb:k≠b:=by
          rintro rfl
          rw[hfr k hk hki] at hb
          exact hk hb
        simp[View.set,hkb,hfr k hk hki]
      clear t1 t2 t3 h7 h14 h15 h16 hid hfr hb hbid
      rintro q k2 T H1 hk2 ⟨is3,hlen3,hle3,hst3,hid,hfr,t1,t2,t3,h7,h14,h15,h16,h23,h24,h25⟩
      simp (disch:=omega) only [↓wr,↓reduceIte,wq,ah,ag,aj,ab,ae,af,ai,isNil,Nat.reduceEqDiff,Nat.reduceAdd,Nat.reduceLT,Nat.reduceLeDiff,Int.reduceNeg,Int.reduceToNat,reduceCtorEq,tO,t1,t2,t3,h7,h14,h15,h16,h23,h24,h25,encI]
      refine au.dec (fun hqc=>?_) (fun hqc=>?_)
      · have hgq:l[q]?=some (l[q]'(by omega)):=List.getElem?_eq_getElem (by omega)
        have hmq:l[q]'(by omega)∈l:=List.getElem_mem _
        have htq:oE lT (l.take (q+1))=(oE lT (l.take q)).set (l[q]'(by omega)).toNat true:=by
          unfold oE; rw[List.take_add_one,hgq,List.foldl_append]; rfl
        generalize l[q]'(by omega)=n at hgq hmq htq
        obtain ⟨⟨n1,n2⟩,n3,n4⟩:=hcn n hmq
        have hbn:is3.getD n.toNat false=is3[n.toNat]'(by omega):=by simp[List.getD_eq_getElem?_getD,show n.toNat < is3.length by omega]
        have hnew:=KM hle3 (show n.toNat < is3.length by omega) (b:=!decide (is3=is)) rfl
        rw[hbn] at hnew
        have hbg:=A6 (show n.toNat < is3.length by omega)
        generalize is3[n.toNat]'(by omega)=x at hnew hbg hbn
        have fin:∀ (T2:Env),T2 7=gb (!decide (is3.set n.toNat true=is))→T2 1=.sl id 0 N 1→T2 2=.fn f [] capt→T2 3=.aU (aw g) 0→T2 14=.aK (g.rules.map bm)→T2 15=gi g.rules.length→T2 16=gi i→T2 23=encI l→T2 24=gi l.length→T2 25=gi ((q:Int)+1) →
            ∃ k',k' < k2∧FA l.length k' (fun q T H'=>∃ is3:List Bool,is3.length=N∧fF is is3∧is3=oE lT (l.take q)∧H' id=.arr 1 (cT is3)∧(∀ k,H k≠.dead→k≠id→H' k=H k)∧T 1=.sl id 0 N 1∧T 2=.fn f [] capt∧T 3=.aU (aw g) 0 ∧
              T 7=gb (!decide (is3=is))∧T 14=.aK (g.rules.map bm)∧T 15=gi g.rules.length∧T 16=gi i∧T 23=encI l∧T 24=gi l.length∧T 25=gi q) T2 (H1.set id (.arr 1 (cT (is3.set n.toNat true)))):=by
          intro T2 a7 a1 a2 a3 a14 a15 a16 a23 a24 a25
          refine bE hk2 (by omega) ⟨is3.set n.toNat true,by simp[hlen3],hle3.trans (.set _ _),by rw[htq,← hst3],by simp[View.set],fun k hk hki=>by simp[View.set,hki,hfr k hk hki],a1,a2,a3,a7,a14,a15,a16,a23,a24,by rw[a25]; rfl⟩
        simp (disch:=omega) only [↓wr,↓reduceIte,wq,ah,ag,aj,ab,ae,af,ai,isNil,Nat.reduceEqDiff,Nat.reduceAdd,Nat.reduceLT,Nat.reduceLeDiff,Int.reduceNeg,Int.reduceToNat,reduceCtorEq,t1,t2,t3,h7,h14,h15,h16,h23,h24,h25,encI,List.getElem?_map,hgq]
        refine au.dec (fun e=>?_) (fun e=>?_)
        · simp (disch:=omega) only [↓wr,↓reduceIte,wq,ah,ag,aj,ab,ae,af,ai,isNil,Nat.reduceEqDiff,Nat.reduceAdd,Nat.reduceLT,Nat.reduceLeDiff,Int.reduceNeg,Int.reduceToNat,reduceCtorEq,t1,t2,t3,h7,h14,h15,h16,h23,h24,h25,encI,hid,hbg,List.length_map]
          refine ⟨by omega,by omega,?_⟩
          try simp (disch:=omega) only [↓wr,↓reduceIte,wq,ah,ag,aj,ab,ae,af,ai,isNil,Nat.reduceEqDiff,Nat.reduceAdd,Nat.reduceLT,Nat.reduceLeDiff,Int.reduceNeg,Int.reduceToNat,reduceCtorEq,t1,t2,t3,h7,h14,h15,h16,h23,h24,h25,encI,hid,hbg,List.length_map]
          refine ⟨by omega,by omega,?_⟩
          rw[uP]
          exact fin _ (by rw[← hnew]; simp[e]; rfl) t1 t2 t3 h14 h15 h16 h23 h24 rfl
        · simp (disch:=omega) only [↓wr,↓reduceIte,wq,ah,ag,aj,ab,ae,af,ai,isNil,Nat.reduceEqDiff,Nat.reduceAdd,Nat.reduceLT,Nat.reduceLeDiff,Int.reduceNeg,Int.reduceToNat,reduceCtorEq,t1,t2,t3,h7,h14,h15,h16,h23,h24,h25,encI,hid,hbg,List.length_map]
          refine ⟨by omega,by omega,?_⟩
          rw[uP]
          exact fin _ (by rw[← hnew]; simp[e]; rfl) t1 t2 t3 h14 h15 h16 h23 h24 rfl
      · rw[List.take_of_length_le (by omega)] at hst3
        simp (disch:=omega) only [↓wr,↓reduceIte,wq,ah,ag,aj,ab,ae,af,ai,isNil,Nat.reduceEqDiff,Nat.reduceAdd,Nat.reduceLT,Nat.reduceLeDiff,Int.reduceNeg,Int.reduceToNat,reduceCtorEq,t1,t2,t3,h7,h14,h15,h16,h23,h24,h25]
        refine bE hk (by omega) ⟨is3,hlen3,hle3,?_,hid,hfr,t1,t2,t3,h7,h14,h15,rfl⟩
        rw[htk,← hst,stepG,hl,← hst3]
    · rw[List.take_of_length_le (by omega)] at hst
      simp (disch:=omega) only [↓wr,↓reduceIte,wq,ah,ag,aj,ab,ae,af,ai,isNil,Nat.reduceEqDiff,Nat.reduceAdd,Nat.reduceLT,Nat.reduceLeDiff,Int.reduceNeg,Int.reduceToNat,reduceCtorEq,t1,t2,t3,h7,h14,h15,h16]
      have hrd:lT=dh comes g.rules is:=hst
      by_cases e:lT=is
      · refine ⟨0,by omega,lT,hlen2,hid,hfr,rfl,.inr ⟨by simp[e],?_⟩⟩
        rw[← hgr,e]
        exact (GU (by rw[← hrd]; exact e)).symm
      · obtain ⟨j2,rfl,e2,e3⟩:=Hi (k:=j) (fun h=>e (hrd.trans h)) (by rw[hlen]; exact hj)
        refine ⟨j2+1,by omega,lT,hlen2,hid,hfr,rfl,.inl ⟨by simp[e],j2,rfl,?_,?_⟩⟩
        · rw[← hgr,e2,hrd]
        · rw[← hrd,hlen2] at e3; exact e3
  · simp (disch:=omega) only [↓wr,↓reduceIte,wq,ah,ag,aj,ab,ae,af,ai,isNil,Nat.reduceEqDiff,Nat.reduceAdd,Nat.reduceLT,Nat.reduceLeDiff,Int.reduceNeg,Int.reduceToNat,reduceCtorEq,nV,t1,t2,t3,h7,aw,encS]
    exact ⟨hgr ▸ hid,hfr⟩
theorem x6 {α:Type} {f:α→α} {x:α} (h:f x=x):∀ n,iter f n x=x
  | 0=>rfl
  | n+1=>by rw[iter,h,x6 h n]
theorem D5 {α:Type} (f:α→α):∀ (a b:Nat) (x:α),iter f (a+b) x=iter f b (iter f a x)
  | 0,b,x=>by rw[Nat.zero_add]; rfl
  | a+1,b,x=>by rw[Nat.add_right_comm,iter,iter,D5 f a b]
theorem yH (comes:aL→List Bool→List Int) (rules:List aL):∀ (k:Nat) (is:List Bool),fM comes rules k is=iter (dh comes rules) k is
  | 0,is=>rfl
  | k+1,is=>by
    simp only[fM,iter]
    by_cases e:dh comes rules is=is
    · rw[if_pos e,e,x6 e]
    · rw[if_neg e,yH comes rules k]
theorem vL (comes:aL→List Bool→List Int) (rules:List aL) (is:List Bool) (h:is.length≤16):fM comes rules 16 is=iter (dh comes rules) is.length is:=by
  have h1:=(pZ comes rules is.length is (by omega)).1
  rw[yH] at h1 ⊢
  obtain ⟨m,hm⟩:∃ m,16=is.length+m:=⟨16 - is.length,by omega⟩
  rw[hm,D5,x6 h1]
def pj (t:Bool) (r:aL) (is:List Bool):List Int:=if fC r.right is t=true then [r.left] else []
def pN (p:List Bool) (r:aL) (is:List Bool):List Int:=if (is.getD r.left.toNat false && fC r.right p true)=true then fk r.right else []
theorem F9 (g:an) (t:Bool):dh (pj t) g.rules=mM g t:=by
  funext is
  unfold dh mM
  congr 1
  funext is r
  unfold stepG pj eo
  split <;> rfl
theorem zO:∀ (l:List Int) (is:List Bool),oE is (fk l)=l.foldl mark is
  | [],is=>rfl
  | s :: l,is=>by
    have ih:=zO l
    unfold oE fk at ih ⊢
    rw[List.foldl_cons,← ih]
    unfold mark
    by_cases h:s < 0
    · rw[if_pos h,List.filter_cons_of_pos (by simpa using h)]; rfl
    · rw[if_neg h,List.filter_cons_of_neg (by simpa using h)]
theorem Fj (g:an) (p:List Bool):dh (pN p) g.rules=rO g p:=by
  funext is
  unfold dh rO
  congr 1
  funext is r
  unfold stepG pN iU
  split
  · exact zO _ _
  · rfl
theorem Jz {g:an} (h:bt g=true) (t:Bool):fM (pj t) g.rules 16 (cW g)=aI g t:=by
  have hf:=bC h
  have hl:(cW g).length=g.az.length:=by simp[cW]
  have:=hf.az
  rw[vL _ _ _ (by rw[hl]; exact hf.az),F9,hl,aI,if_pos h]
theorem IQ {g:an} (h:bt g=true):fM (pN (aI g true)) g.rules 16 ((cW g).set g.start.toNat true)=bH g:=by
  have hf:=bC h
  have hl:((cW g).set g.start.toNat true).length=g.az.length:=by simp[cW]
  rw[vL _ _ _ (by rw[hl]; exact hf.az),Fj,hl,bH,if_pos h]
def ou:SF:=⟨.seq (al [b6 1 0,((some 2),.op (.bj (.val (.emp 1))))]) <|
  .seq (.seq (al [aH 3 4 1,aG 4 52 [3],cb 5 4]) <|
  .cond (.tmp 5) (.seq (al [((some 2),.op (.bj (.val (.emp 1))))]) <|
  .ret) (.skip)) <|
  .seq (al [aH 6 4 1,ao 7 1 1,aq 8 7,aM 9 8,((some 10),.op (.make 1 1 [(.val (.bool false))] (.tmp 9) (.tmp 9))),cZ 11 169 [(.tmp 6),(.tmp 10),(.val (.fn 195 [] []))],aa 2 11]) <|
  .ret,
  [.tmp 2],12⟩
theorem sF:bh Tryz.prog 157 [1]=some ou:=by kernel_rfl
def pw:SF:=⟨.seq (al [b6 1 0,((some 2),.op (.bj (.val (.emp 1))))]) <|
  .seq (.seq (al [aH 5 4 1,aG 6 52 [5],cb 7 6]) <|
  .cond (.tmp 7) (.seq (al [((some 2),.op (.bj (.val (.emp 1))))]) <|
  .ret) (.skip)) <|
  .seq (al [aH 8 4 1,aG 9 157 [8],((some 3),.op (.alloc [(.emp 1)])),(none,.op (.store 1 (.tmp 3) (.tmp 9)))]) <|
  .seq (al [ao 10 1 1,aq 11 10,aM 12 11,((some 13),.op (.make 1 1 [(.val (.bool false))] (.tmp 12) (.tmp 12))),aa 4 13]) <|
  .seq (al [aa 14 4,ao 15 3 1,aq 16 15,aZ 17 1 14 16,(none,.op (.store 1 (.tmp 17) (.val (.val (.bool true)))))]) <|
  .seq (al [aH 18 4 1,aa 19 4,((some 20),.op (.pL 196 [] [(.tmp 3)])),aG 21 169 [18,19,20],aa 2 21]) <|
  .ret,
  [.tmp 2],22⟩
theorem uh:bh Tryz.prog 158 [1]=some pw:=by kernel_rfl
structure an.Small (g:an):Prop where
  names:g.az.length+g.av.length≤1000
theorem BS {h':aB} {id n:Nat} {is:List Bool} (hv:h'.view id=.arr 1 (cT is)) (hn:n=is.length):dx h' (.sl id 0 n 1) (di is):=by
  subst hn; exact uL hv
set_option maxHeartbeats 2000000 in
theorem rC (g:an) (hg:g.Ok) (hs:g.Small):dW Tryz.prog 157 [.agg (aw g)] (di (aI g true)):=by
  refine dW.of (iC g) ?_
  refine aA.of mixed sF ?_
  have hn:=hg.az
  unfold bo at hn
  simp (disch:=omega) only [↓wr,↓reduceIte,wq,ah,ag,aj,ab,ae,af,ai,isNil,Nat.reduceEqDiff,Nat.reduceAdd,Nat.reduceLT,Nat.reduceLeDiff,Int.reduceNeg,Int.reduceToNat,reduceCtorEq,ou,aw,encS]
  refine aE.pure (np g hg hs.names) (by kernel_rfl) ?_
  repeat' (first | (refine au.dec (fun _=>?_) (fun _=>?_)) | (refine au.eq (fun _=>?_) (fun _=>?_)) | (refine au.ne (fun _=>?_) (fun _=>?_)) | (refine au.split (fun _=>?_) (fun _=>?_)) | (simp (disch:=omega) only [↓wr,↓reduceIte,wq,ah,ag,aj,ab,ae,af,ai,isNil,Nat.reduceEqDiff,Nat.reduceAdd,Nat.reduceLT,Nat.reduceLeDiff,Int.reduceNeg,Int.reduceToNat,reduceCtorEq,aw,encS]))
  · rename_i hr
    have hf:=bC hr
    have h1:=hf.zM
    have h2:=hf.az
    try simp (disch:=omega) only [↓wr,↓reduceIte,wq,ah,ag,aj,ab,ae,af,ai,isNil,Nat.reduceEqDiff,Nat.reduceAdd,Nat.reduceLT,Nat.reduceLeDiff,Int.reduceNeg,Int.reduceToNat,reduceCtorEq,aw,encS]
    refine ⟨⟨by omega,by unfold aW; omega,by unfold aW; omega⟩,fun h=>by omega,?_⟩
    intro _ n
    try simp (disch:=omega) only [↓wr,↓reduceIte,wq,ah,ag,aj,ab,ae,af,ai,isNil,Nat.reduceEqDiff,Nat.reduceAdd,Nat.reduceLT,Nat.reduceLeDiff,Int.reduceNeg,Int.reduceToNat,reduceCtorEq,aw,encS]
    refine aE.gF ((Fi g hf.rules (pj true) 195 [] [] (by kernel_rfl) g.az.length h2 (fun r hr' is his=>⟨AH r is (by rw[his]; exact hf.zn hg hr'),?_,?_⟩) n (cW g) (by simp[cW]) _ (by simp[View.set,cW]) (fun H' _=>trivial)).mono ?_)
    · unfold pj; split <;> simp
    · intro m hm
      unfold pj at hm
      split at hm
      · simp only[List.mem_singleton] at hm; subst hm
        exact ⟨(hg.aD r hr').1,hf.left r hr'⟩
      · simp at hm
    · rintro r H' ⟨rfl,hid,_⟩
      simp (disch:=omega) only [↓wr,↓reduceIte,wq,ah,ag,aj,ab,ae,af,ai,isNil,Nat.reduceEqDiff,Nat.reduceAdd,Nat.reduceLT,Nat.reduceLeDiff,Int.reduceNeg,Int.reduceToNat,reduceCtorEq]
      intro h' hh
      rw[Jz hr] at hid
      exact BS (by rw[hh]; exact hid) (mO hr _).symm
  · rename_i hr
    intro h' hh
    simp only[aI,hr]
    exact .emp _
theorem qO {g:an} (hr:bt g=true):(bH g).length=g.az.length:=by
  rw[bH,if_pos hr,xS (f:=rO g (aI g true)) (fun is=>xR (fun is x=>Kv _ is x) g.rules is)]
  simp[cW]
set_option maxHeartbeats 2000000 in
theorem Cg (g:an) (hg:g.Ok) (hs:g.Small):dW Tryz.prog 158 [.agg (aw g)] (di (bH g)):=by
  refine dW.of (iC g) ?_
  refine aA.of mixed uh ?_
  have hn:=hg.az
  unfold bo at hn
  simp (disch:=omega) only [↓wr,↓reduceIte,wq,ah,ag,aj,ab,ae,af,ai,isNil,Nat.reduceEqDiff,Nat.reduceAdd,Nat.reduceLT,Nat.reduceLeDiff,Int.reduceNeg,Int.reduceToNat,reduceCtorEq,pw,aw,encS]
  refine aE.pure (np g hg hs.names) (by kernel_rfl) ?_
  repeat' (first | (refine au.dec (fun _=>?_) (fun _=>?_)) | (refine au.eq (fun _=>?_) (fun _=>?_)) | (refine au.ne (fun _=>?_) (fun _=>?_)) | (refine au.split (fun _=>?_) (fun _=>?_)) | (simp (disch:=omega) only [↓wr,↓reduceIte,wq,ah,ag,aj,ab,ae,af,ai,isNil,Nat.reduceEqDiff,Nat.reduceAdd,Nat.reduceLT,Nat.reduceLeDiff,Int.reduceNeg,Int.reduceToNat,reduceCtorEq,aw,encS]))
  · rename_i hr
    have hf:=bC hr
    have h1:=hf.zM
    have h2:=hf.az
    have h3:=hf.ld
    have h4:=hf.start
    have hpl:=mO hr true
    try simp (disch:=omega) only [↓wr,↓reduceIte,wq,ah,ag,aj,ab,ae,af,ai,isNil,Nat.reduceEqDiff,Nat.reduceAdd,Nat.reduceLT,Nat.reduceLeDiff,Int.reduceNeg,Int.reduceToNat,reduceCtorEq,aw,encS]
    refine aE.pure (rC g hg hs).pure (by kernel_rfl) ?_
    simp (disch:=omega) only [↓wr,↓reduceIte,wq,ah,ag,aj,ab,ae,af,ai,isNil,Nat.reduceEqDiff,Nat.reduceAdd,Nat.reduceLT,Nat.reduceLeDiff,Int.reduceNeg,Int.reduceToNat,reduceCtorEq,aw,encS,di]
    intro q
    try simp (disch:=omega) only [↓wr,↓reduceIte,wq,ah,ag,aj,ab,ae,af,ai,isNil,Nat.reduceEqDiff,Nat.reduceAdd,Nat.reduceLT,Nat.reduceLeDiff,Int.reduceNeg,Int.reduceToNat,reduceCtorEq,aw,encS,set_set]
    refine ⟨⟨by omega,by unfold aW; omega,by unfold aW; omega⟩,fun h=>by omega,?_⟩
    intro _ n hn'
    have hnq:=(fA hn' fW).1
    try simp (disch:=omega) only [↓wr,↓reduceIte,wq,ah,ag,aj,ab,ae,af,ai,isNil,Nat.reduceEqDiff,Nat.reduceAdd,Nat.reduceLT,Nat.reduceLeDiff,Int.reduceNeg,Int.reduceToNat,reduceCtorEq,aw,encS,set_set]
    have hbg:=A6 (is:=cW g) (show g.start.toNat < (cW g).length by simp[cW]; omega)
    refine ⟨by omega,by simp; omega,?_⟩
    refine aE.gF ((Fi g hf.rules (pN (aI g true)) 196 [.ptr q 0 0] [.aU [di (aI g true)] 0] (by kernel_rfl) g.az.length h2 (fun r hr' is his=>⟨Ci r is (aI g true) (by rw[his]; exact hf.zn hg hr') (by rw[his,hpl]),?_,?_⟩) n ((cW g).set g.start.toNat true) (by simp[cW]) _ ?_ (fun H' hfr=>⟨eK.box (z:=1) ?_ ?_,trivial⟩)).mono ?_)
    · have h6:=hf.right r hr'
      unfold pN
      split
      · have:(fk r.right).length≤r.right.length:=by simp only[fk,List.length_map]; exact List.length_filter_le _ _
        omega
      · simp
    · intro m hm
      unfold pN at hm
      split at hm
      · simp only[fk,List.mem_map,List.mem_filter,decide_eq_true_eq] at hm
        obtain ⟨s,⟨hs',hneg⟩,rfl⟩:=hm
        have a:=hf.neg hr' hs' hneg
        have b:=((hg.aD r hr').2.2.2 s hs').1
        exact ⟨⟨by omega,by omega⟩,by omega,a⟩
      · simp at hm
    · simp only[View.set,if_true]
      congr 1
      rw[← uP]
      unfold cW at hbg ⊢
      rw[Js,hbg]
      rfl
    · rw[hfr q (by simp[View.set,Ne.symm hnq]) (Ne.symm hnq)]
      simp[View.set,Ne.symm hnq]
      rfl
    · intro v hv; simp at hv; subst hv; exact kQ _
    · rintro r H' ⟨rfl,hid,_⟩
      simp (disch:=omega) only [↓wr,↓reduceIte,wq,ah,ag,aj,ab,ae,af,ai,isNil,Nat.reduceEqDiff,Nat.reduceAdd,Nat.reduceLT,Nat.reduceLeDiff,Int.reduceNeg,Int.reduceToNat,reduceCtorEq]
      intro h' hh
      rw[IQ hr] at hid
      exact BS (by rw[hh]; exact hid) (by rw[qO hr])
  · rename_i hr
    intro h' hh
    simp only[bH,hr]
    exact .emp _
def bJ (p q:List Bool) (r:aL):Bool:=q.getD r.left.toNat false && fC r.right p true
def dc (p q:List Bool):List aL→Int→List Int
  | [],_=>[]
  | r :: l,i=>if bJ p q r=true then i :: dc p q l (i+1) else dc p q l (i+1)
def dV (acc:List Int) (r:aL):List Int:=if r.left∈acc then acc else acc ++ [r.left]
def cO (p q:List Bool) (l:List aL):List Int:=(l.filter (bJ p q)).foldl dV []
def bP (o:List Int) (x:Int):Int:=c6 (fun y=>y == x) o 0
def bA (f:Int→Int) (r:aL):aL:=⟨f r.left,r.right.map fun s=>if s < 0 then -1 - f (-1 - s) else s,r.prec⟩
def ki (g:an) (f:Int→Int) (p q:List Bool):an :=
  ⟨g.av,(cO p q g.rules).map fun x=>g.az.getD x.toNat ⟨#[]⟩,(g.rules.filter (bJ p q)).map (bA f),f g.start⟩
def p7:an:=⟨[],[],[],0⟩
instance:DecidableEq Term:=fun a b=>decidable_of_iff (a.name=b.name∧a.level=b.level∧a.assoc=b.assoc) (by cases a; cases b; simp)
instance:DecidableEq aL:=fun a b=>decidable_of_iff (a.left=b.left∧a.prec=b.prec∧a.right=b.right) (by cases a; cases b; simp[and_comm])
instance:DecidableEq an:=fun a b=>decidable_of_iff (a.av=b.av∧a.az=b.az∧a.rules=b.rules∧a.start=b.start) (by cases a; cases b; simp)
def gE (g:an):an × List Int × Int :=
  if bt g=true then
    if (aI g true).getD g.start.toNat false=true then (ki g (bP (cO (aI g true) (bH g) g.rules)) (aI g true) (bH g),dc (aI g true) (bH g) g.rules 0,0)
    else (p7,[],9)
  else (p7,[],1)
theorem CL {g:an} (hr:bt g=true):gE g=if (aI g true).getD g.start.toNat false=true then (ki g (bP (cO (aI g true) (bH g) g.rules)) (aI g true) (bH g),dc (aI g true) (bH g) g.rules 0,0) else (p7,[],9):=by
  rw[gE,if_pos hr]
theorem o9 (p q:List Bool):∀ (a b:List aL) (i:Int),dc p q (a ++ b) i=dc p q a i ++ dc p q b (i+a.length)
  | [],b,i=>by simp[dc]
  | r :: a,b,i=>by
    simp only[List.cons_append,dc,o9 p q a b (i+1),List.length_cons]
    have:i+1+(a.length:Int)=i+((a.length+1:Nat):Int):=by push_cast; omega
    rw[this]
    split <;> simp
theorem qo (p q:List Bool):∀ (a:List aL) (i:Int),(dc p q a i).length=(a.filter (bJ p q)).length
  | [],i=>rfl
  | r :: a,i=>by
    simp only[dc,List.filter_cons]
    split <;> simp[qo p q a]
theorem uu (p q:List Bool):∀ (a:List aL) (i:Int) (k:Nat),k < (dc p q a i).length→∃ m:Nat,(dc p q a i)[k]?=some (i+m)∧a[m]?=(a.filter (bJ p q))[k]?∧m < a.length
  | [],i,k,h=>by simp[dc] at h
  | r :: a,i,k,h=>by
    simp only[dc,List.filter_cons] at h ⊢
    by_cases hr:bJ p q r=true
    · rw[if_pos hr] at h ⊢
      rw[if_pos hr]
      cases k with
      | zero=>exact ⟨0,by simp,by simp,by simp⟩
      | succ k =>
        obtain ⟨m,h1,h2,h3⟩:=uu p q a (i+1) k (by simpa using h)
        exact ⟨m+1,by rw[List.getElem?_cons_succ,h1]; congr 1; push_cast; omega,by simpa using h2,by simpa using h3⟩
    · rw[if_neg hr] at h ⊢
      rw[if_neg hr]
      obtain ⟨m,h1,h2,h3⟩:=uu p q a (i+1) k h
      exact ⟨m+1,by rw[h1]; congr 1; push_cast; omega,by simpa using h2,by simpa using h3⟩
theorem B2 (p q:List Bool) (l:List aL) (r:aL):cO p q (l ++ [r])=if bJ p q r=true then dV (cO p q l) r else cO p q l:=by
  unfold cO
  rw[List.filter_append]
  by_cases h:bJ p q r=true
  · rw[if_pos h,List.filter_cons_of_pos h,List.foldl_append]; rfl
  · rw[if_neg h,List.filter_cons_of_neg h]; simp
theorem CT {o:List Int} {x:Int} : bP o x < 0↔x ∉ o:=by
  have:=tA (fun y=>y == x) o 0 (by omega)
  unfold bP
  rw[← Int.not_le]
  constructor
  · intro h hx
    have e:(o.any fun y=>y == x)=true:=List.any_eq_true.2 ⟨x,hx,by simp⟩
    rw[e] at this; exact h (by simpa using this)
  · intro h hx
    have e:(o.any fun y=>y == x)=true:=by rw[← this]; simpa using hx
    obtain ⟨y,hy,e⟩:=List.any_eq_true.1 e
    simp at e; subst e; exact h hy
theorem wK {α:Type} (p:α→Bool):∀ (a b:List α) (i:Int),0≤i→c6 p (a ++ b) i=if 0≤c6 p a i then c6 p a i else c6 p b (i+a.length)
  | [],b,i,_=>by simp[c6]
  | x :: a,b,i,h=>by
    by_cases hp:p x=true
    · simp[c6,hp,h]
    · simp only[List.cons_append,c6,if_neg hp]
      rw[wK p a b (i+1) (by omega)]
      have:i+1+(a.length:Int)=i+(((x :: a).length:Nat):Int):=by simp; omega
      rw[this]
theorem jA {o:List Int} {x:Int} (h:x∈o):0≤bP o x∧bP o x < o.length:=by
  have h0:¬ bP o x < 0:=fun e=>CT.1 e h
  refine ⟨by omega,?_⟩
  unfold bP
  have:∀ (l:List Int) (i:Int),c6 (fun z=>z == x) l i < i+l.length∨c6 (fun z=>z == x) l i = -1:=by
    intro l
    induction l with
    | nil=>intro i; right; rfl
    | cons z l ih =>
      intro i
      simp only[c6]
      split
      · left; simp; omega
      · rcases ih (i+1) with h | h
        · left; simp at h ⊢; omega
        · right; exact h
  rcases this o 0 with h1 | h1
  · simpa using h1
  · unfold bP at h0; omega
theorem FF (o:List Int) (x:Int) : -1≤bP o x∧bP o x≤o.length:=by
  by_cases h:x∈o
  · have:=jA h; omega
  · have h1:=CT.2 h
    have h2:∀ (l:List Int) (i:Int),0≤i→-1≤c6 (fun z=>z == x) l i:=by
      intro l
      induction l with
      | nil=>intro i _; simp[c6]
      | cons z l ih =>
        intro i hi
        simp only[c6]
        split
        · omega
        · exact ih _ (by omega)
    have:=h2 o 0 (by omega)
    unfold bP at h1 ⊢
    omega
def im:List Int→Int→List (Int × Int)
  | [],_=>[]
  | x :: l,i=>(x,i) :: im l (i+1)
theorem ql (x:Int):∀ (o:List Int) (i:Int),dt (im o i) x=if x∈o then some (c6 (fun y=>y == x) o i) else none
  | [],i=>by simp[im,dt]
  | y :: o,i=>by
    have ih:=ql x o (i+1)
    unfold dt at ih ⊢
    simp only[im,List.find?_cons,c6]
    by_cases e:x=y
    · subst e; simp
    · have e2:¬ ((y == x)=true):=by simp[Ne.symm e]
      rw[show (x == y)=false by simp[e],if_neg e2]
      simp only
      rw[ih]
      simp[e]
theorem BZ {x v:Int} : ∀ {o:List Int} {i:Int},x ∉ o→iH x v (im o i)=im o i ++ [(x,v)]
  | [],i,_=>rfl
  | y :: o,i,h=>by
    simp only[List.mem_cons,not_or] at h
    simp only[im,iH,show (x == y)=false by simp[h.1],Bool.false_eq_true,if_false,BZ h.2,List.cons_append]
theorem yw {x:Int} : ∀ {o:List Int} {i:Int},im (o ++ [x]) i=im o i ++ [(x,i+o.length)]
  | [],i=>by simp[im]
  | y :: o,i=>by
    simp only[List.cons_append,im,yw (o:=o),List.length_cons]
    congr 4
    push_cast; omega
def de (o:List Int) (x:Int):Int:=(dt (im o 0) x).getD 0
theorem wj {o:List Int} {x:Int} (h:x∈o):de o x=bP o x:=by
  simp[de,ql,h,bP]
theorem MU (o:List Int) (x:Int):0≤de o x∧de o x≤o.length:=by
  by_cases h:x∈o
  · rw[wj h]; have:=jA h; omega
  · simp[de,ql,h]
theorem JL {g:an} {p q:List Bool} (hst:g.start∈cO p q g.rules) (hin:∀ r∈g.rules.filter (bJ p q),r.left∈cO p q g.rules∧∀ s∈r.right,s < 0→-1 - s∈cO p q g.rules) :
    ki g (de (cO p q g.rules)) p q=ki g (bP (cO p q g.rules)) p q:=by
  unfold ki
  congr 1
  · apply List.map_congr_left
    intro r hr
    obtain ⟨h1,h2⟩:=hin r hr
    unfold bA
    congr 1
    · exact wj h1
    · apply List.map_congr_left
      intro s hs
      split
      · rename_i h; rw[wj (h2 s hs h)]
      · rfl
  · exact wj hst
theorem rD:∀ (l:List aL) (acc:List Int) (x:Int),x∈l.foldl dV acc↔x∈acc∨∃ r∈l,r.left=x
  | [],acc,x=>by simp
  | r :: l,acc,x=>by
    rw[List.foldl_cons,rD l]
    have:x∈dV acc r↔x∈acc∨r.left=x:=by
      unfold dV
      split
      · rename_i h
        constructor
        · exact .inl
        · rintro (h' | rfl)
          · exact h'
          · exact h
      · simp[eq_comm]
    rw[this]
    simp only[List.mem_cons,exists_eq_or_imp]
    constructor
    · rintro ((h | h) | h)
      · exact .inl h
      · exact .inr (.inl h)
      · exact .inr (.inr h)
    · rintro (h | h | h)
      · exact .inl (.inl h)
      · exact .inl (.inr h)
      · exact .inr h
theorem D6 {p q:List Bool} {l:List aL} {x:Int} : x∈cO p q l↔∃ r∈l,bJ p q r=true∧r.left=x:=by
  unfold cO
  rw[rD]
  simp[List.mem_filter,and_assoc]
abbrev dA (l:List Int):List (List V):=l.map fun x=>[gi x]
abbrev qp (l:List ByteArray):List (List V):=l.map fun s=>[gs s]
theorem De {l:List Int} {i:Nat} (h:i < l.length):(dA l).getD i []=[gi l[i]]:=by simp[List.getD_eq_getElem?_getD,h]
theorem ints_set (l:List Int) (i:Nat) (x:Int):(dA l).set i [gi x]=dA (l.set i x):=by simp[List.map_set]
abbrev yK:=List (V × aL)
def js (b:yK):List (List V):=b.map fun x=>[gi x.2.left,x.1,gi x.2.prec]
def rS (b:yK):List eJ:=b.map fun x=>(x.1,1,dA x.2.right)
theorem Kx {h:aB} {u:V} {b:yK} (ho:aN h.view u 3 (js b)) (hb:∀ x∈rS b,aN h.view x.1 x.2.1 x.2.2):dx h u (.aK ((b.map (·.2)).map bm)):=by
  refine dx.own ho (by simp[js]) (fun i hi=>?_) (fun i j hi hj=>?_)
  all_goals
    simp only[js,List.length_map] at hi
    have e1:(js b).getD i []=[gi b[i].2.left,b[i].1,gi b[i].2.prec]:=by simp[js,List.getD_eq_getElem?_getD,hi]
    have e2:((b.map (·.2)).map bm).getD i []=bm b[i].2:=by simp[List.getD_eq_getElem?_getD,hi]
  · rw[e1,e2]; rfl
  · rw[e1,e2]
    rw[e2] at hj
    have hm:b[i]∈b:=List.getElem_mem _
    have ho:=hb (b[i].1,1,dA b[i].2.right) (List.mem_map.2 ⟨_,hm,rfl⟩)
    match j,hj with
    | 0,_=>exact .val _
    | 1,_=>exact mE ho
    | 2,_=>exact .val _
    | n+3,hj=>exact absurd hj (by simp only[bm,List.length_cons,List.length_nil]; omega)
theorem K9 {h:aB} {u:V} {l:List ByteArray} (ho:aN h.view u 1 (qp l)):dx h u (encS l):=dx.KZ (f:=Value.string) ho
theorem Ir {h:aB} {u:V} {l:List Term} (ho:aN h.view u 3 (l.map cX)):dx h u (dz l):=by
  refine dx.own ho rfl (fun _ _=>rfl) (fun i j hi hj=>?_)
  simp only[List.length_map] at hi
  have e1:(l.map cX).getD i []=cX l[i]:=by simp[List.getD_eq_getElem?_getD,hi]
  rw[e1] at hj ⊢
  match j,hj with
  | 0,_=>exact .val _
  | 1,_=>exact .val _
  | 2,_=>exact .val _
  | n+3,hj=>exact absurd hj (by simp only[cX,List.length_cons,List.length_nil]; omega)
def zV (x:an × List Int × Int):V:=.bc [.agg (aw x.1),encI x.2.1,gi x.2.2]
theorem DK {h:aB} {e:Int} {k1 k2 k3 k4:Nat} : dx h (.bc [.agg [.emp k1,.emp k2,.emp k3,gi 0],.emp k4,gi e]) (zV (p7,[],e)):=by
  refine .bc _ _ rfl fun i hi=>?_
  match i,hi with
  | 0,_ =>
    refine .agg _ _ rfl fun j hj=>?_
    match j,hj with
    | 0,_=>exact .emp _
    | 1,_=>exact .emp _
    | 2,_=>exact .emp _
    | 3,_=>exact .val _
    | n+4,hj=>exact absurd hj (by simp only[List.length_cons,List.length_nil]; omega)
  | 1,_=>exact .emp _
  | 2,_=>exact .val _
  | n+3,hi=>exact absurd hi (by simp only[List.length_cons,List.length_nil]; omega)
theorem MM {h:aB} {u0 u1 u2 u3:V} {x:an × List Int × Int} {b:yK} (h0:aN h.view u0 3 (x.1.av.map cX)) (h1:aN h.view u1 1 (qp x.1.az)) (h2:aN h.view u2 3 (js b)) (hb:∀ y∈rS b,aN h.view y.1 y.2.1 y.2.2)
    (hr:b.map (·.2)=x.1.rules) (h3:aN h.view u3 1 (dA x.2.1)):dx h (.bc [.agg [u0,u1,u2,gi x.1.start],u3,gi x.2.2]) (zV x):=by
  refine .bc _ _ rfl fun i hi=>?_
  match i,hi with
  | 0,_ =>
    refine .agg _ _ rfl fun j hj=>?_
    match j,hj with
    | 0,_=>exact Ir h0
    | 1,_=>exact K9 h1
    | 2,_=>have:=Kx h2 hb; rw[hr] at this; exact this
    | 3,_=>exact .val _
    | n+4,hj=>exact absurd hj (by simp only[List.length_cons,List.length_nil]; omega)
  | 1,_=>exact mE h3
  | 2,_=>exact .val _
  | n+3,hi=>exact absurd hi (by simp only[List.length_cons,List.length_nil]; omega)
theorem E3 {g:an} (e:lp g=false):g.Small:=by
  simp only[lp,Bool.or_eq_false_iff,decide_eq_false_iff_not] at e
  exact ⟨by omega⟩
theorem K2 (g:an):aC Tryz.prog 16 [.agg (aw g)] (gb (lp g)):=aC.val (iC g) fun H=>(KQ g H).mono fun _ _ h=>h.1
theorem Iv {a b:V} (ha:Tree a) (hb:Tree b):Tree (.bc [a,b]):=.bc _ fun i hi=>by
  match i,hi with
  | 0,_=>exact ha
  | 1,_=>exact hb
  | n+2,h=>exact absurd h (by simp)
theorem zA {H:View} {id n:Nat} {l:List Int} (hv:H id=.arr 1 (dA l)) (hn:n=l.length):eK H (.sl id 0 n 1) (encI l):=by
  subst hn
  exact eK.own (sz:=1) (.inr ⟨id,by simp,hv⟩) fun e he v hv=>by
    obtain ⟨x,_,rfl⟩:=List.mem_map.1 he
    simp at hv; subst hv; exact .val _
theorem aN.elems {H:View} {u:V} {sz:Nat} {es:List (List V)} (h:aN H u sz es):∃ rd,bG H u=some (es,rd):=by
  rcases h with ⟨rfl,k,rfl⟩ | ⟨n,rfl,hn⟩
  · exact ⟨[],rfl⟩
  · cases es with
    | nil=>exact ⟨[],rfl⟩
    | cons e r =>
      refine ⟨[n],?_⟩
      rw[List.length_cons,oM _ n 0 r.length sz sz _ hn (by simp),List.drop_zero,List.take_of_length_le (by simp)]
theorem cz.step {H H' H1:View} {u u1:V} (h:cz H H' u) (l:Left H' H1 u u1):cz H H1 u1:=fun id hid=>by
  have h1:=h id hid
  have h2:=l id (by rw[h1.1]; exact hid) h1.2
  exact ⟨h2.1.trans h1.1,h2.2⟩
theorem cz.put {H H':View} {u:V} {n:Nat} {o:bI} (h:cz H H' u) (hn:H' n=.dead):cz H (H'.set n o) u:=fun id hid=>by
  have h1:=h id hid
  have e:id≠n:=by rintro rfl; rw[h1.1] at hn; exact hid hn
  exact ⟨by simp[View.set,e,h1.1],h1.2⟩
theorem cz.call {H H' H2:View} {u r:V} (h:cz H H' u) (k:cz H' H2 r):cz H H2 u:=fun id hid=>by
  have h1:=h id hid
  have h2:=k id (by rw[h1.1]; exact hid)
  exact ⟨h2.1.trans h1.1,h1.2⟩
theorem lL {P:Program} {t:TypeId} {d:TypeDesc} (hu:P.underlying t=some d) (hd:d=.string∨∃ k,d=.int k) (cs:Array Value) (off:Nat) {v:Value} (hv:cs[off]?=some v):bq P (part t cs off)=some v:=by
  have h0:bq P (isAgg t)=some false:=by
    rcases hd with rfl | ⟨k,rfl⟩
    all_goals simp only[isAgg,bg,dP hu,Option.bind_some]; rfl
  simp only[part,bg,h0,Option.bind_some,Bool.false_eq_true,if_false,hv]
  rfl
inductive fB (P:Program) (d:Nat) (xs ys:Array Value):List Field→Bool→Prop
  | nil:fB P d xs ys [] true
  | str (f:Field) (l:List Field) (c:Bool) (a b:ByteArray):(f.name≠ "_")→P.underlying f.type=some .string→xs[f.offset]?=some (.string a)→ys[f.offset]?=some (.string b)→fB P d xs ys l c→fB P d xs ys (f :: l) (a == b && c)
  | int (f:Field) (l:List Field) (c:Bool) (k:IntKind) (a b:Int):(f.name≠ "_")→P.underlying f.type=some (.int k)→xs[f.offset]?=some (.int k a)→ys[f.offset]?=some (.int k b)→fB P d xs ys l c→fB P d xs ys (f :: l) (a == b && c)
theorem fB.forIn {P:Program} {d e:Nat} {xs ys:Array Value} {l:List Field} {c:Bool} (h:fB P d xs ys l c) (hd:e=d+1) :
    bq P (forIn l ((none:Option Bool),()) fun f _ =>
        if f.name≠ "_" then do
          let a ← part f.type xs f.offset
          let b ← part f.type ys f.offset
          let e ← Op.equalIn e f.type a b
          if (!e)=true then pure (ForInStep.done (some false,())) else pure (ForInStep.yield (none,()))
        else pure (ForInStep.yield (none,())))=some (if c=true then (none,()) else (some false,())):=by
  subst hd
  induction h with
  | nil=>rfl
  | str f l c a b hn hu hx hy _ ih =>
    have he:bq P (Op.equalIn (d+1) f.type (.string a) (.string b))=some (a == b):=by
      simp only[Op.equalIn,bg,dP hu,Option.bind_some]; rfl
    rw[List.forIn_cons,bg,if_pos hn,bg,lL hu (.inl rfl) xs _ hx,Option.bind_some,bg,lL hu (.inl rfl) ys _ hy,Option.bind_some,bg,he,Option.bind_some]
    cases a == b with
    | false=>rfl
    | true=>exact ih
  | int f l c k a b hn hu hx hy _ ih =>
    have he:bq P (Op.equalIn (d+1) f.type (.int k a) (.int k b))=some (a == b):=by
      simp only[Op.equalIn,bg,dP hu,Option.bind_some]; rfl
    rw[List.forIn_cons,bg,if_pos hn,bg,lL hu (.inr ⟨k,rfl⟩) xs _ hx,Option.bind_some,bg,lL hu (.inr ⟨k,rfl⟩) ys _ hy,Option.bind_some,bg,he,Option.bind_some]
    cases a == b with
    | false=>rfl
    | true=>exact ih
theorem yb {P:Program} {t:TypeId} {fs:Array Field} {xs ys:Array Value} {c:Bool} (hu:P.underlying t=some (.struct fs)) (hs:P.stoodInHeld t=false) (h:fB P 9998 xs ys fs.toList c) :
    bq P (Op.equal t (.agg xs) (.agg ys))=some c:=by
  rw[jz]
  rw[Op.equalIn,bg,dP hu,Option.bind_some]
  have hst:(bq P program)=some P:=rfl
  rw[bg,hst,Option.bind_some,hs]
  simp only[← Array.forIn_toList,Bool.false_eq_true,if_false]
  rw[bg,h.forIn (e:=9999) rfl,Option.bind_some]
  cases c <;> rfl
theorem zZ {P:Program} {o:Oper} {T:Env} {op:BinOp} {t u:TypeId} {x y:Operand} {fs:Array Field} {xs ys:Array Value} {c r:Bool} (ho:o.op=.binOp op t x y u) (hu:P.underlying t=some (.struct fs)) (hs:P.stoodInHeld t=false) (hg:P.eqGuardType P.depth t=false)
    (hx:cG (ev T x)=some (.agg xs)) (hy:cG (ev T y)=some (.agg ys)) (h:fB P 9998 xs ys fs.toList c) (hr:(op=.eql∧r=c)∨(op=.neq∧r = !c)) :
    c4 P o T=some (.val (.bool r),.none,[]):=by
  have he:=yb hu hs h
  have hst:(bq P program)=some P:=rfl
  unfold c4
  simp only[ho,Op.operands,hx,hy]
  rcases hr with ⟨rfl,rfl⟩ | ⟨rfl,rfl⟩
  · simp[execOp,ho,hx,hy,eqGuard,binOp,gD,bg,hst,hg,he,plain]
    try simp[bq,pure,plain]
  · simp[execOp,ho,hx,hy,eqGuard,binOp,gD,bg,hst,hg,he,plain]
    try simp[bq,pure,plain,bne]
theorem q8 {P:Program} {T:Env} {H:View} {K:V→View→Prop} {w:cp (T,H,K)} {op:BinOp} {t u ty:TypeId} {x y:Operand} {fs:Array Field} {xs ys:Array Value} {c r:Bool} (hu:P.underlying t=some (.struct fs)) (hs:P.stoodInHeld t=false) (hg:P.eqGuardType P.depth t=false)
    (hx:cG (ev T x)=some (.agg xs)) (hy:cG (ev T y)=some (.agg ys)) (h:fB P 9998 xs ys fs.toList c) (hr:(op=.eql∧r=c)∨(op=.neq∧r = !c)) (hk:K (.val (.bool r)) H):m0 P (.binOp op t x y u) ty T H K w:=by
  intro n _
  refine ⟨.val (.bool r),.none,[],?_,hk⟩
  have hn:g8 P t=none:=by simp[g8,hu]
  simp only[sI,bT,oper,hn]
  simp only[Option.isSome_none,Bool.false_eq_true,if_false]
  exact zZ rfl hu hs hg hx hy h hr
def uT (hp:Array Obj) (cs:List Value) (vs:List V):Prop :=
  vs.length=cs.length∧∀ μ i,i < vs.length→ay (fun b=>b < hp.size) μ hp (vs.getD i .any) (cs.getD i undef)
def Wt {H:Type} (P:Program) (t:TypeId) (d:DataW H):Prop:=∀ n∈d.weights P t,n≤reachBytes
def vO (P:Program) (t:TypeId) {α:Type} (f:α→List V) (ok:α→Prop):Prop :=
  ∀ {H:Type} (enc:TypeId × Value→H) (w:World) (base:Nat) (sp:Nat→Bool) (held:Bool) (fuel:Nat) (cs:List Value) (x:DataW H × List MemPlace),
    DataW.trod enc P w base sp held fuel t cs=some x→Wt P t x.1→∃ a,ok a∧uT w.heap cs (f a)
theorem sw {hp:Array Obj} {c:Value} {v:V} (h:∀ μ,ay (fun b=>b < hp.size) μ hp v c):uT hp [c] [v]:=by
  refine ⟨rfl,fun μ i hi=>?_⟩
  match i,hi with
  | 0,_=>exact h μ
theorem Nw {P:Program} {t:TypeId} {k:IntKind} (ht:P.underlying t=some (.int k)):vO P t (fun n=>[.val (.int k n)]) (fun n=>(Lit.int k n).wf=true):=by
  intro H enc w base sp held fuel cs x h _
  obtain ⟨n,rfl,_,hw⟩:=DataW.trod_int ht h
  exact ⟨n,hw,sw fun μ=>.val _ rfl⟩
theorem BW {P:Program} {t:TypeId} (ht:P.underlying t=some .string):vO P t (fun s=>[.val (.string s)]) (fun _=>True):=by
  intro H enc w base sp held fuel cs x h _
  obtain ⟨s,rfl,_,_⟩:=DataW.trod_string ht h
  exact ⟨s,trivial,sw fun μ=>.val _ rfl⟩
theorem DD {w:World} {base:Nat} {a:Addr} {n:Nat} {cs:List Value} (h:w.cells? base a n=some cs):cs.length=n∧∀ i,i < n→w.cell? (a.add i)=some (cs.getD i undef):=by
  obtain ⟨_,h2,h3⟩:=World.cells?_some h
  refine ⟨h2,fun i hi=>?_⟩
  rw[h3 i hi,List.getD_eq_getElem?_getD,List.getElem?_eq_getElem (by omega)]
  rfl
theorem JS {w:World} {a:Addr} {v:Value} (h:w.cell? a=some v):a.spot=none∧a.block < w.heap.size:=by
  unfold World.cell? at h
  split at h
  · rename_i c _ _ hb
    split at h
    · simp at h
    · rename_i hs
      exact ⟨by simpa using hs,(Array.getElem?_eq_some_iff.1 hb).1⟩
  · simp at h
theorem Kp {H:Type} {P:Program} {e:TypeId} : ∀ {l:List (DataW H)},(∀ n∈DataW.weightsAll P e l,n≤reachBytes)→∀ d∈l,Wt P e d
  | [],_,d,hd=>by simp at hd
  | x :: l,h,d,hd=>by
    simp only[DataW.weightsAll,List.mem_append] at h
    rcases List.mem_cons.1 hd with rfl | hd
    · exact fun n hn=>h n (.inl hn)
    · exact Kp (fun n hn=>h n (.inr hn)) d hd
theorem KT {H:Type} {P:Program} {t e:TypeId} {elems spare:List (DataW H)} (ht:P.underlying t=some (.slice e)) (h:Wt P t (.slice elems spare)) :
    (elems.length+spare.length) * P.bytesOf e≤reachBytes∧∀ d∈elems,Wt P e d:=by
  unfold Wt at h
  unfold DataW.weights at h
  rw[ht] at h
  simp only[List.mem_cons,List.mem_append] at h
  exact ⟨h _ (.inl rfl),Kp fun n hn=>h n (.inr (.inl hn))⟩
theorem Is {H:Type} {P:Program} {t:TypeId} {fs:Array Field} {parts:List (DataW H)} (ht:P.underlying t=some (.struct fs)) (h:Wt P t (.agg parts)) {j:Nat} {f:Field} {d:DataW H} (hf:fs[j]?=some f) (hd:parts[j]?=some d):Wt P f.type d:=by
  intro n hn
  refine h n ?_
  unfold DataW.weights
  rw[ht]
  exact DataW.weights_mem_each (j:=j) (t:=f.type) (by simp[hf]) hd n hn
theorem Gi {α:Type} {φ:Nat→α→Prop} : ∀ (n:Nat),(∀ i,i < n→∃ a,φ i a)→∃ l:List α,l.length=n∧∀ i (hi:i < l.length),φ i l[i]
  | 0,_=>⟨[],rfl,fun i hi=>by simp at hi⟩
  | n+1,h=>by
    obtain ⟨l,hl,hφ⟩:=Gi n fun i hi=>h i (by omega)
    obtain ⟨a,ha⟩:=h n (by omega)
    refine ⟨l ++ [a],by simp[hl],fun i hi=>?_⟩
    by_cases e:i < l.length
    · rw[List.getElem_append_left e]; exact hφ i e
    · have:i=n:=by simp at hi; omega
      subst this
      rw[List.getElem_append_right (by omega)]
      simp only[hl,Nat.sub_self,List.getElem_cons_zero]; exact ha
theorem sZ {P:Program} {t e:TypeId} {α:Type} {f:α→List V} {ok:α→Prop} (ht:P.underlying t=some (.slice e)) (hc:0 < P.cellsOf e) (hb:0 < P.bytesOf e) (he:vO P e f ok) :
    vO P t (fun l:List α=>[.aK (l.map f)]) (fun l=>l.length < 4611686018427387904∧∀ a∈l,ok a):=by
  intro H enc w base sp held fuel cs x h hw
  rcases DataW.trod_slice ht h with ⟨rfl,rfl⟩ | ⟨a,len,cap,elems,rest,n,_,rfl,rfl,hba,hl,hm,hlen,hel,_,_⟩
  · exact ⟨[],⟨by simp,by simp⟩,sw fun μ=>.fY none 0 (by simp)⟩
  obtain ⟨hw1,hw2⟩:=KT ht hw
  simp only[List.length_map] at hw1
  have hlt:len < 4611686018427387904:=by
    have h1:len * 1≤(elems.length+rest.length) * P.bytesOf e:=Nat.mul_le_mul (by omega) hb
    unfold reachBytes at hw1
    omega
  have each:∀ i,i < len→∃ y,ok y∧∃ ci,w.cells? base (a.add (i * P.cellsOf e)) (P.cellsOf e)=some ci∧uT w.heap ci (f y):=by
    intro i hi
    have h1:=hel i hi
    have h2:elems[i]?=some (elems[i]'(by omega)):=List.getElem?_eq_getElem (by omega)
    have hmem:elems[i]'(by omega)∈elems:=List.getElem_mem _
    rw[h2,Option.bind_eq_some_iff] at h1
    obtain ⟨ci,h3,h4⟩:=h1
    obtain ⟨y,h5,h6⟩:=he enc w base sp held n ci _ h4 (hw2 _ (List.mem_map.2 ⟨_,hmem,rfl⟩))
    exact ⟨y,h5,ci,h3,h6⟩
  obtain ⟨l,hll,hφ⟩:=Gi len each
  subst hll
  refine ⟨l,⟨hlt,fun y hy=>?_⟩,sw fun μ=>?_⟩
  · obtain ⟨i,hi,rfl⟩:=List.getElem_of_mem hy
    exact (hφ i hi).1
  by_cases h0:l=[]
  · subst h0
    exact .fY (some a) cap (by simp)
  have hpos:0 < l.length:=List.length_pos_iff.2 h0
  have hcell:∀ i j,i < l.length→j < P.cellsOf e→∃ c,cellAt w.heap a.block (a.off+i * P.cellsOf e+j)=some c∧a.block < w.heap.size∧(i=0→j=0→a.spot=none)∧∀ (hi:i < l.length),ay (fun b=>b < w.heap.size) μ w.heap ((f l[i]).getD j .any) c:=by
    intro i j hi hj
    obtain ⟨_,ci,h1,h2⟩:=hφ i hi
    obtain ⟨h3,h4⟩:=DD h1
    have h5:=h4 j hj
    have h6:=JS h5
    have hbk:((a.add (i * P.cellsOf e)).add j).block=a.block:=by simp only[Addr.add]; split <;> split <;> rfl
    have hof:((a.add (i * P.cellsOf e)).add j).off=a.off+i * P.cellsOf e+j:=by
      simp only[Addr.add]; split <;> split <;> simp_all
    refine ⟨ci.getD j undef,?_,by rw[← hbk]; exact h6.2,?_,fun _=>?_⟩
    · rw[← hof,← hbk,← kL]
      rw[← h5]
      congr 1
      generalize (a.add (i * P.cellsOf e)).add j=b at h6
      cases b
      simp at h6 ⊢
      exact h6.1.symm
    · rintro rfl rfl
      simp[Addr.add] at h6
      exact h6.1
    · exact h2.2 μ j (by rw[h2.1,h3]; exact hj)
  obtain ⟨_,_,hz,hs,_⟩:=hcell 0 0 hpos hc
  have ha:a=⟨a.block,a.off,none⟩:=by
    cases a; simp at hs ⊢; exact hs
  have hlf:∀ i,i < l.length→(f (l[i]?.getD (l[0]'hpos))).length=P.cellsOf e:=fun i hi=>by
    obtain ⟨_,ci,h1,h2⟩:=hφ i hi
    rw[List.getElem?_eq_getElem hi,Option.getD_some,h2.1,(DD h1).1]
  have hgd:∀ i (hi:i < l.length),(l.map f).getD i []=f l[i]:=fun i hi=>by simp[List.getD_eq_getElem?_getD,hi]
  have hcl:(l.map f).length=l.length:=by simp
  have:=ay.aK (Z:=fun b=>b < w.heap.size) (μ:=μ) (hp:=w.heap) (l.map f) a.block a.off (P.cellsOf e) cap (fun i j=>(cellAt w.heap a.block (a.off+i * P.cellsOf e+j)).getD undef) hz (by rw[hcl]; exact hl)
    (fun i hi=>by
      rw[hcl] at hi
      have:=hlf i hi
      rw[List.getElem?_eq_getElem hi,Option.getD_some] at this
      rw[hgd i hi]; exact this)
    (fun i j hi hj=>by
      rw[hcl] at hi
      obtain ⟨c,h1,_⟩:=hcell i j hi hj
      rw[h1]; rfl)
    (fun i j hi hj=>by
      rw[hcl] at hi
      obtain ⟨c,h1,_,_,h2⟩:=hcell i j hi hj
      rw[h1,hgd i hi]; exact h2 hi)
  rw[hcl,← ha] at this
  exact this
theorem uG {P:Program} {t:TypeId} {fs:Array Field} (ht:P.underlying t=some (.struct fs)) (hf:∀ (i:Nat) (f:Field),fs[i]?=some f→f.offset=i∧P.cellsOf f.type=1) (hn:P.cellsOf t=fs.size)
    {H:Type} {enc:TypeId × Value→H} {w:World} {base:Nat} {sp:Nat→Bool} {held:Bool} {fuel:Nat} {cs:List Value} {x:DataW H × List MemPlace} (h:DataW.trod enc P w base sp held fuel t cs=some x) (hw:Wt P t x.1) :
    cs.length=fs.size∧∀ (i:Nat) (f:Field),fs[i]?=some f→∀ {α:Type} {g:α→List V} {ok:α→Prop},vO P f.type g ok→∃ a,ok a∧uT w.heap [cs.getD i undef] (g a):=by
  obtain ⟨xs,n,rfl,rfl,hl,hlen,hx⟩:=DataW.trod_struct ht h
  refine ⟨by rw[hl,hn],fun i f hi α g ok hr=>?_⟩
  obtain ⟨h1,h2⟩:=hf i f hi
  have hi2:i < fs.size:=(Array.getElem?_eq_some_iff.1 hi).1
  have h3:=hx i f hi
  have h4:xs[i]?=some (xs[i]'(by omega)):=List.getElem?_eq_getElem (by omega)
  rw[h4,h1,h2] at h3
  have h5:(cs.drop i).take 1=[cs.getD i undef]:=by
    rw[List.getD_eq_getElem?_getD,List.getElem?_eq_getElem (by omega),List.drop_eq_getElem_cons (by omega)]
    rfl
  rw[h5] at h3
  exact hr enc w base sp held n _ _ h3 (Is ht hw hi (by simp[h4]))
theorem fQ {hp:Array Obj} {c:Value} {cs:List Value} {v:V} {vs:List V} (h:uT hp [c] [v]) (k:uT hp cs vs):uT hp (c :: cs) (v :: vs):=by
  refine ⟨by simp[k.1],fun μ i hi=>?_⟩
  cases i with
  | zero=>exact h.2 μ 0 (by simp)
  | succ i=>exact k.2 μ i (by simpa using hi)
theorem xV {hp:Array Obj} : uT hp [] []:=⟨rfl,fun μ i hi=>by simp at hi⟩
theorem MX {n:Int} (h:(Lit.int .i64 n).wf=true):bO n:=by
  simp only[Lit.wf,Bool.and_eq_true,decide_eq_true_eq] at h
  exact h
theorem mo:vO Tryz.prog 3 (fun n=>[gi n]) bO:=fun enc w base sp held fuel cs x h hw=>by
  obtain ⟨n,h1,h2⟩:=Nw Tryz.underlying3 enc w base sp held fuel cs x h hw
  exact ⟨n,MX h1,h2⟩
theorem MC:vO Tryz.prog 43 (fun l:List Int=>[encI l]) (fun l=>bo l∧∀ x∈l,bO x) :=
  sZ Tryz.underlying43 (of_decide_eq_true (by kernel_rfl)) (of_decide_eq_true (by kernel_rfl)) mo
theorem HF:vO Tryz.prog 23 (fun l:List ByteArray=>[encS l]) (fun l=>bo l∧∀ x∈l,True) :=
  sZ Tryz.underlying23 (of_decide_eq_true (by kernel_rfl)) (of_decide_eq_true (by kernel_rfl)) (BW Tryz.underlying9)
theorem Ot {cs:List Value} (h:cs.length=3):cs=[cs.getD 0 undef,cs.getD 1 undef,cs.getD 2 undef]:=by
  match cs,h with
  | [a,b,c],_=>rfl
theorem Pm {cs:List Value} (h:cs.length=4):cs=[cs.getD 0 undef,cs.getD 1 undef,cs.getD 2 undef,cs.getD 3 undef]:=by
  match cs,h with
  | [a,b,c,d],_=>rfl
theorem MO:vO Tryz.prog 129 cX (fun t=>bO t.level∧bO t.assoc):=fun enc w base sp held fuel cs x h hw=>by
  obtain ⟨hl,hf⟩:=uG Tryz.underlying129 (by
    intro i f hi
    match i,hi with
    | 0,hi=>simp at hi; subst hi; exact ⟨rfl,by kernel_rfl⟩
    | 1,hi=>simp at hi; subst hi; exact ⟨rfl,by kernel_rfl⟩
    | 2,hi=>simp at hi; subst hi; exact ⟨rfl,by kernel_rfl⟩
    | n+3,hi=>simp at hi) (by kernel_rfl) h hw
  obtain ⟨a,_,h1⟩:=hf 0 _ rfl (BW Tryz.underlying9)
  obtain ⟨b,h2,h3⟩:=hf 1 _ rfl mo
  obtain ⟨c,h4,h5⟩:=hf 2 _ rfl mo
  refine ⟨⟨a,b,c⟩,⟨h2,h4⟩,?_⟩
  rw[Ot hl]
  exact fQ h1 (fQ h3 (fQ h5 xV))
theorem MI:vO Tryz.prog 71 bm (fun r=>bO r.left∧bO r.prec∧bo r.right∧∀ x∈r.right,bO x):=fun enc w base sp held fuel cs x h hw=>by
  obtain ⟨hl,hf⟩:=uG Tryz.underlying71 (by
    intro i f hi
    match i,hi with
    | 0,hi=>simp at hi; subst hi; exact ⟨rfl,by kernel_rfl⟩
    | 1,hi=>simp at hi; subst hi; exact ⟨rfl,by kernel_rfl⟩
    | 2,hi=>simp at hi; subst hi; exact ⟨rfl,by kernel_rfl⟩
    | n+3,hi=>simp at hi) (by kernel_rfl) h hw
  obtain ⟨a,h0,h1⟩:=hf 0 _ rfl mo
  obtain ⟨b,h2,h3⟩:=hf 1 _ rfl MC
  obtain ⟨c,h4,h5⟩:=hf 2 _ rfl mo
  refine ⟨⟨a,b,c⟩,⟨h0,h4,h2.1,h2.2⟩,?_⟩
  rw[Ot hl]
  exact fQ h1 (fQ h3 (fQ h5 xV))
theorem MA:vO Tryz.prog 26 aw an.Ok:=fun enc w base sp held fuel cs x h hw=>by
  obtain ⟨hl,hf⟩:=uG Tryz.underlying26 (by
    intro i f hi
    match i,hi with
    | 0,hi=>simp at hi; subst hi; exact ⟨rfl,by kernel_rfl⟩
    | 1,hi=>simp at hi; subst hi; exact ⟨rfl,by kernel_rfl⟩
    | 2,hi=>simp at hi; subst hi; exact ⟨rfl,by kernel_rfl⟩
    | 3,hi=>simp at hi; subst hi; exact ⟨rfl,by kernel_rfl⟩
    | n+4,hi=>simp at hi) (by kernel_rfl) h hw
  obtain ⟨a,h0,h1⟩:=hf 0 _ rfl (sZ Tryz.underlying22 (of_decide_eq_true (by kernel_rfl)) (of_decide_eq_true (by kernel_rfl)) MO)
  obtain ⟨b,h2,h3⟩:=hf 1 _ rfl HF
  obtain ⟨c,h4,h5⟩:=hf 2 _ rfl (sZ Tryz.underlying24 (of_decide_eq_true (by kernel_rfl)) (of_decide_eq_true (by kernel_rfl)) MI)
  obtain ⟨d,h6,h7⟩:=hf 3 _ rfl mo
  refine ⟨⟨a,b,c,d⟩,⟨h0.1,h2.1,h4.1,h6,h0.2,h4.2⟩,?_⟩
  rw[Pm hl]
  exact fQ h1 (fQ h3 (fQ h5 (fQ h7 xV)))
end Gv
