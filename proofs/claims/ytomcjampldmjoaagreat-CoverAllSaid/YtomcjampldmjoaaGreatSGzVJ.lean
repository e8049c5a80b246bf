/-
  Part 10 of the proof: what the machine does and what the functions answer.
  Conditions: those that each lemma names.
-/
import Derived.Test.YtomcjampldmjoaaGreatSGzVI
set_option linter.unusedSimpArgs false
set_option linter.unusedVariables false
set_option maxRecDepth 100000
namespace Gv
open Go Go.Proofs
theorem bT.fY {P:Program} {f:FuncId} {h:aE} (h1:bT P f [.emp 1] h (.emp 1) h) (h2:bT P f [.emp 2] h (.emp 2) h) (h3:bT P f [.dD] h (.emp 2) h):bT P f [.aY []] h (.emp 0) h:=by
  refine ⟨Nat.le_refl _,fun Z μ F w xs hrel hr hfree=>?_⟩
  obtain ⟨hl,hv⟩:=hrel
  obtain ⟨x,rfl⟩:∃ x,xs=[x]:=by
    match xs,hl with
    | [x],_=>exact ⟨x,rfl⟩
  have h0:aB Z μ w.heap (.aY []) x:=hv 0 (by simp)
  have one:∀ v,aB Z μ w.heap v x→dZ Z μ w.heap [v] [x]:=fun v h=>⟨rfl,fun i hi=>by
    simp at hi; subst hi; exact h⟩
  have weak:∀ k,bT P f [if k=3 then .dD else .emp k] h (if k=3 then .emp 2 else .emp k) h→aB Z μ w.heap (if k=3 then .dD else .emp k) x→Calls P f [x].toArray w fun e w'=>∃ x Z' μ',e=.returned x∧aB Z' μ' w'.heap (.emp 0) x∧gf Z' μ' w'.heap (cat h F)∧Ext Z μ w h.length Z' μ' w'∧(∀ id,id < h.length∨h.length≤id→μ' id=μ id):=by
    intro k hk hx
    refine (hk.2 Z μ F w [x] (one _ hx) hr hfree).mono ?_
    rintro e w' ⟨y,Z',μ',rfl,hy,rest⟩
    refine ⟨y,Z',μ',rfl,?_,rest⟩
    have:∀ k',aB Z' μ' w'.heap (.emp k') y→aB Z' μ' w'.heap (.emp 0) y:=fun k' h=>by
      cases h with | emp _ a _ _=>exact .emp 0 a (by simp) (by simp)
    split at hy <;> exact this _ hy
  rcases E5 h0 with ⟨_,a,cap,rfl,hz⟩ | ⟨b,off,esz,cap,c,rfl,_,_,_⟩
  · cases a with
    | none =>
      have:=hz rfl
      subst this
      exact weak 1 (by simpa using h1) (.emp 1 none (by simp) (by simp))
    | some a =>
      cases cap with
      | zero=>exact weak 2 (by simpa using h2) (.emp 2 (some a) (by simp) (by simp))
      | succ c=>exact weak 3 (by simpa using h3) (.dD a (c+1))
  · cases cap with
    | zero=>exact weak 2 (by simpa using h2) (.emp 2 (some ⟨b,off,none⟩) (by simp) (by simp))
    | succ c=>exact weak 3 (by simpa using h3) (.dD ⟨b,off,none⟩ (c+1))
def xg (sz:Nat) (es:List (List V)) (H:View) (K:V→View→Prop):Prop :=
  (es=[]→∀ k,K (.emp k) H)∧(es≠[]→∀ n,H n=.dead→K (.sl n 0 es.length sz) (H.set n (.arr sz es)))
def cL:SF:=⟨.seq (al [((some 2),.op (.bc (.val (.emp 1))))]) <|
  .seq (.seq (al [ae 3 0,((some 4),.op (.nil true 0 (.tmp 3) (.val (.emp 1))))]) <|
  .cond (.tmp 4) (.seq (al [((some 2),.op (.bc (.val (.emp 1))))]) <|
  .ret) (.skip)) <|
  .seq (al [((some 5),.op (.bc (.val (.emp 2)))),ae 6 0,((some 7),.op (.app 1 16 (.tmp 5) (.tmp 6))),ae 2 7]) <|
  .ret,
  [.tmp 2],8⟩
theorem c5:aW Tryz.prog 80 []=some cL:=by kernel_rfl
def dz:SF:=⟨.seq (al [((some 2),.op (.bc (.val (.emp 1))))]) <|
  .seq (.seq (al [ae 3 0,((some 4),.op (.nil true 0 (.tmp 3) (.val (.emp 1))))]) <|
  .cond (.tmp 4) (.seq (al [((some 2),.op (.bc (.val (.emp 1))))]) <|
  .ret) (.skip)) <|
  .seq (al [((some 5),.op (.bc (.val (.emp 2)))),ae 6 0,((some 7),.op (.app 1 8 (.tmp 5) (.tmp 6))),ae 2 7]) <|
  .ret,
  [.tmp 2],8⟩
theorem dI:aW Tryz.prog 164 []=some dz:=by kernel_rfl
def cx:SF:=⟨.seq (al [((some 2),.op (.bc (.val (.emp 1))))]) <|
  .seq (.seq (al [ae 3 0,((some 4),.op (.nil true 0 (.tmp 3) (.val (.emp 1))))]) <|
  .cond (.tmp 4) (.seq (al [((some 2),.op (.bc (.val (.emp 1))))]) <|
  .ret) (.skip)) <|
  .seq (al [((some 5),.op (.bc (.val (.emp 2)))),ae 6 0,((some 7),.op (.app 3 32 (.tmp 5) (.tmp 6))),ae 2 7]) <|
  .ret,
  [.tmp 2],8⟩
theorem cG:aW Tryz.prog 162 []=some cx:=by kernel_rfl
theorem aD.tree {P:Program} {f:FuncId} {vs:List V} {t:V} (hv:∀ v∈vs,Tree v) (ht:Tree t) (h:∀ H,aA P f vs H fun r _=>r=t):aD P f vs t :=
  aD.of hv ((h _).mono fun r H' e h' _=>by rw[e]; exact .tree _ ht)
theorem sP {H:View} : cb H .dD=some ([],[]):=id rfl
theorem j8 {H:View} (sz bytes k:Nat) (K:V→View→Prop) (w:cF (H,K)):mQ sz bytes (.emp k) [] H K w=K (.emp k) H:=propext Iff.rfl
theorem IU (l:List ByteArray) (hl:l.length≤100000) (H:View) (K:V→View→Prop) (hk:xg 1 (l.map fun s=>[gs s]) H K):aA Tryz.prog 80 [encS l] H K:=by
  cases l with
  | nil =>
    have hp:∀ v t,Tree v→Tree t→(∀ H,aA Tryz.prog 80 [v] H fun r _=>r=t)→aD Tryz.prog 80 [v] t:=fun v t hv ht h=>aD.tree (by intro x hx; simp at hx; subst hx; exact hv) ht h
    have h1:=hp (.emp 1) (.emp 1) (.emp 1) (.emp 1) (fun H=>by
      refine aA.of mixed c5 ?_
      simp (disch:=omega) only [↓wr,↓reduceIte,wq,ai,aj,isNil,Nat.reduceLeDiff,reduceCtorEq,cL])
    have h2:=hp (.emp 2) (.emp 2) (.emp 2) (.emp 2) (fun H=>by
      refine aA.of mixed c5 ?_
      simp (disch:=omega) only [↓wr,↓reduceIte,wq,ai,aj,isNil,Nat.reduceEqDiff,Nat.reduceLeDiff,reduceCtorEq,cL,j8])
    have h3:=hp .dD (.emp 2) .dD (.emp 2) (fun H=>by
      refine aA.of mixed c5 ?_
      simp (disch:=omega) only [↓wr,↓reduceIte,wq,ai,aj,isNil,Nat.reduceEqDiff,Nat.reduceLeDiff,reduceCtorEq,cL,sP,j8])
    refine ⟨by kernel_rfl,?_⟩
    rintro h rfl
    exact ⟨.emp 0,h,bT.fY (bT.gv h1 h) (bT.gv h2 h) (bT.gv h3 h),.refl _,hk.1 rfl 0⟩
  | cons x r =>
    refine aA.of mixed c5 ?_
    simp only[List.length_cons] at hl
    simp (disch:=omega) only [↓wr,↓reduceIte,wq,ai,aj,isNil,Nat.reduceEqDiff,Nat.reduceLeDiff,reduceCtorEq,cL,encS]
    refine ⟨?_,?_,?_⟩
    · simp[List.all_map,aT]
    · unfold aI; simp; omega
    · intro n hn
      have:=hk.2 (by simp) n hn
      simp (disch:=omega) only [↓wr,↓reduceIte,wq,reduceCtorEq]
      simpa [ct] using this
theorem I5 (l:List Int) (hl:l.length≤100000) (H:View) (K:V→View→Prop) (hk:xg 1 (l.map fun s=>[gi s]) H K):aA Tryz.prog 164 [encI l] H K:=by
  cases l with
  | nil =>
    have hp:∀ v t,Tree v→Tree t→(∀ H,aA Tryz.prog 164 [v] H fun r _=>r=t)→aD Tryz.prog 164 [v] t:=fun v t hv ht h=>aD.tree (by intro x hx; simp at hx; subst hx; exact hv) ht h
    have h1:=hp (.emp 1) (.emp 1) (.emp 1) (.emp 1) (fun H=>by
      refine aA.of mixed dI ?_
      simp (disch:=omega) only [↓wr,↓reduceIte,wq,ai,aj,isNil,Nat.reduceLeDiff,reduceCtorEq,dz])
    have h2:=hp (.emp 2) (.emp 2) (.emp 2) (.emp 2) (fun H=>by
      refine aA.of mixed dI ?_
      simp (disch:=omega) only [↓wr,↓reduceIte,wq,ai,aj,isNil,Nat.reduceEqDiff,Nat.reduceLeDiff,reduceCtorEq,dz,j8])
    have h3:=hp .dD (.emp 2) .dD (.emp 2) (fun H=>by
      refine aA.of mixed dI ?_
      simp (disch:=omega) only [↓wr,↓reduceIte,wq,ai,aj,isNil,Nat.reduceEqDiff,Nat.reduceLeDiff,reduceCtorEq,dz,sP,j8])
    refine ⟨by kernel_rfl,?_⟩
    rintro h rfl
    exact ⟨.emp 0,h,bT.fY (bT.gv h1 h) (bT.gv h2 h) (bT.gv h3 h),.refl _,hk.1 rfl 0⟩
  | cons x r =>
    refine aA.of mixed dI ?_
    simp only[List.length_cons] at hl
    simp (disch:=omega) only [↓wr,↓reduceIte,wq,ai,aj,isNil,Nat.reduceEqDiff,Nat.reduceLeDiff,reduceCtorEq,dz,encI]
    refine ⟨?_,?_,?_⟩
    · simp[List.all_map,aT]
    · unfold aI; simp; omega
    · intro n hn
      have:=hk.2 (by simp) n hn
      simp (disch:=omega) only [↓wr,↓reduceIte,wq,reduceCtorEq]
      simpa [ct] using this
theorem I7 (l:List Term) (hl:l.length≤100000) (H:View) (K:V→View→Prop) (hk:xg 3 (l.map ct) H K):aA Tryz.prog 162 [dB l] H K:=by
  cases l with
  | nil =>
    have hp:∀ v t,Tree v→Tree t→(∀ H,aA Tryz.prog 162 [v] H fun r _=>r=t)→aD Tryz.prog 162 [v] t:=fun v t hv ht h=>aD.tree (by intro x hx; simp at hx; subst hx; exact hv) ht h
    have h1:=hp (.emp 1) (.emp 1) (.emp 1) (.emp 1) (fun H=>by
      refine aA.of mixed cG ?_
      simp (disch:=omega) only [↓wr,↓reduceIte,wq,ai,aj,isNil,Nat.reduceLeDiff,reduceCtorEq,cx])
    have h2:=hp (.emp 2) (.emp 2) (.emp 2) (.emp 2) (fun H=>by
      refine aA.of mixed cG ?_
      simp (disch:=omega) only [↓wr,↓reduceIte,wq,ai,aj,isNil,Nat.reduceEqDiff,Nat.reduceLeDiff,reduceCtorEq,cx,j8])
    have h3:=hp .dD (.emp 2) .dD (.emp 2) (fun H=>by
      refine aA.of mixed cG ?_
      simp (disch:=omega) only [↓wr,↓reduceIte,wq,ai,aj,isNil,Nat.reduceEqDiff,Nat.reduceLeDiff,reduceCtorEq,cx,sP,j8])
    refine ⟨by kernel_rfl,?_⟩
    rintro h rfl
    exact ⟨.emp 0,h,bT.fY (bT.gv h1 h) (bT.gv h2 h) (bT.gv h3 h),.refl _,hk.1 rfl 0⟩
  | cons x r =>
    refine aA.of mixed cG ?_
    simp only[List.length_cons] at hl
    simp (disch:=omega) only [↓wr,↓reduceIte,wq,ai,aj,isNil,Nat.reduceEqDiff,Nat.reduceLeDiff,reduceCtorEq,cx,dB,ct]
    refine ⟨?_,?_,?_⟩
    · simp[List.all_map,ct,aT]
    · unfold aI; simp; omega
    · intro n hn
      have:=hk.2 (by simp) n hn
      simp (disch:=omega) only [↓wr,↓reduceIte,wq,reduceCtorEq]
      simpa [ct] using this
theorem xg.own {sz:Nat} {es:List (List V)} {H:View} : xg sz es H fun r H'=>aX H' r sz es∧dw H H' r :=
  ⟨fun he k=>⟨by rw[he]; exact .nil,.emp⟩,fun _ n hn=>⟨.new,.new hn⟩⟩
theorem HE (l:List ByteArray) (hl:l.length≤100000) (H:View):aA Tryz.prog 80 [encS l] H fun r H'=>aX H' r 1 (l.map fun s=>[gs s])∧dw H H' r:=IU l hl H _ .own
theorem HL (l:List Int) (hl:l.length≤100000) (H:View):aA Tryz.prog 164 [encI l] H fun r H'=>aX H' r 1 (l.map fun s=>[gi s])∧dw H H' r:=I5 l hl H _ .own
theorem Jx (l:List Term) (hl:l.length≤100000) (H:View):aA Tryz.prog 162 [dB l] H fun r H'=>aX H' r 3 (l.map ct)∧dw H H' r:=I7 l hl H _ .own
def kz (g:an):List aQ→Int→Bool
  | [],next=>next == g.av.length
  | r :: l,next=>decide (0≤r.left) && decide (r.left≤next) && gm g r && kz g l (if r.left+1 > next then r.left+1 else next)
def qw (g:an):List ByteArray:=g.av ++ g.ax.map Term.name
def pr (g:an):Bool :=
  qx g.ax && (decide ((1:Int)≤g.av.length) && decide ((g.av.length:Int)≤16)) && (decide ((1:Int)≤g.rules.length) && decide ((g.rules.length:Int)≤40)) && decide (names (qw g)).Nodup && (decide (0≤g.start) && decide (g.start≤(g.av.length:Int) - 1)) &&
    !(g.av.any fun s=>!eS (ed s)) && kz g g.rules 0
theorem DM {l:List ByteArray} : ∀ e∈(l.map fun s=>[gs s]),∀ v∈e,Tree v:=by
  intro e he v hv
  obtain ⟨a,_,rfl⟩:=List.mem_map.1 he
  rw[List.mem_singleton] at hv
  subst hv
  exact .val _
set_option maxHeartbeats 4000000 in
theorem HC (g:an) (hg:g.Ok) (hs:g.av.length+g.ax.length≤1000) (H:View):aA Tryz.prog 45 [.agg (ar g)] H fun r _=>r=gb (pr g):=by
  refine aA.of mixed Bm ?_
  have hn:=hg.av
  have ht:=hg.ax
  have hr:=hg.rules
  unfold aM at hn ht hr
  simp (disch:=omega) only [↓wr,↓reduceIte,wq,ai,Nat.reduceEqDiff,Nat.reduceAdd,Nat.reduceLT,Nat.reduceLeDiff,x6,ar,encS]
  refine aF.iy ((HE g.av (by omega) H).mono ?_)
  rintro u H1 ⟨hu,hf⟩
  simp (disch:=omega) only [↓wr,↓reduceIte,wq,ak,Nat.reduceEqDiff,Nat.reduceAdd,Nat.reduceLT]
  refine bb.up g.ax.length (fun i T H=>T 1=.aS (ar g) 0∧(∃ u,T 3=u∧aX H u 1 ((g.av ++ (g.ax.take i).map Term.name).map fun s=>[gs s]))∧T 13=dB g.ax∧T 14=gi g.ax.length∧T 15=gi i) ?_ ?_
  · exact ⟨rfl,⟨u,rfl,by simpa using hu⟩,rfl,rfl,rfl⟩
  rintro i k T H' hk ⟨h1,⟨u,h3,hu⟩,h13,h14,h15⟩
  simp (disch:=omega) only [↓wr,↓reduceIte,wq,ah,vA,h14,h15,dB]
  refine aq.dec (fun hc=>?_) (fun hc=>?_)
  · have hg2:g.ax[i]?=some (g.ax[i]'(by omega)):=List.getElem?_eq_getElem (by omega)
    have htk:(g.ax.take (i+1)).map Term.name=(g.ax.take i).map Term.name ++ [(g.ax[i]'(by omega)).name]:=by
      rw[List.take_add_one,hg2,List.map_append]; rfl
    generalize g.ax[i]'(by omega)=t at hg2 htk
    simp (disch:=omega) only [↓wr,↓reduceIte,wq,aa,ag,Nat.reduceEqDiff,Nat.reduceAdd,Nat.reduceLT,Nat.reduceLeDiff,h3,h13,h15,dB,ct,List.getElem?_map,hg2]
    intro b hb
    try simp (disch:=omega) only [set_set]
    intro m hm
    have hmb:=(cg hm ca).1
    have hm:=(cg (cg hm ca).2 ca).2
    try simp (disch:=omega) only [↓wr,↓reduceIte,wq,Nat.reduceEqDiff,cp]
    have hl:((g.av ++ (g.ax.take i).map Term.name).map fun s=>[gs s]).length≤1000:=by simp; omega
    refine rT (((hu.fresh hb).other (hu.ne hb)).fresh (by simp[View.set,hm,hmb])) (by simp) (by simp[aT]) (by unfold aI; simp at hl ⊢; omega) (by unfold aI; simp at hl ⊢; omega) ?_
    intro u' H2 hu' _
    simp (disch:=omega) only [↓wr,↓reduceIte,wq,ah,Nat.reduceEqDiff,reduceCtorEq,h1,h15]
    refine aK hk (by omega) ⟨h1,⟨u',rfl,?_⟩,h13,h14,rfl⟩
    rw[htk]
    simpa using hu'
  · rw[List.take_of_length_le (by omega)] at hu
    have hal:H'=H':=rfl
    have hall:(qw g).length≤1000:=by simp[qw]; omega
    repeat' (first | (refine aq.dec (fun _=>?_) (fun _=>?_)) | (refine aq.eq (fun _=>?_) (fun _=>?_)) | (refine aq.ne (fun _=>?_) (fun _=>?_)) | (refine aq.split (fun _=>?_) (fun _=>?_)) | (refine aF.pure (Hx g.ax hg.ax) (by kernel_rfl) ?_) | (refine aF.pure (pY _ _ _) (by kernel_rfl) ?_) | (refine aF.Qc (Ld (qw g) hall) (by kernel_rfl) (.val _) ⟨di.own hu DM,trivial⟩ ?_) | (simp (disch:=omega) only [↓wr,↓reduceIte,wq,ah,ak,Nat.reduceEqDiff,Nat.reduceAdd,Nat.reduceLT,reduceCtorEq,h1,h3,ar,encS]))
    all_goals try (simp[pr, *]; done)
    rename_i e1 e2 e3 e4 e5
    refine aF.pure (ze g.av hg.av 85 [] (by simp) (fun s=>!eS (ed s)) (fun x _=>Gf x) (by kernel_rfl)) (by kernel_rfl) ?_
    repeat' (first | (refine aq.dec (fun _=>?_) (fun _=>?_)) | (refine aq.eq (fun _=>?_) (fun _=>?_)) | (refine aq.ne (fun _=>?_) (fun _=>?_)) | (refine aq.split (fun _=>?_) (fun _=>?_)) | (simp (disch:=omega) only [↓wr,↓reduceIte,wq,ak,Nat.reduceEqDiff,Nat.reduceAdd,Nat.reduceLT,reduceCtorEq,h1,ar,encS]))
    all_goals try (simp[pr, *]; done)
    rename_i e6
    have hle:g.rules.length≤40:=by simp at e3; omega
    have hpre:∀ b,kz g g.rules 0=b→gb b=gb (pr g):=fun b e=>by
      simp only[pr,e1,e2,e3,e4,e5,e6,e,decide_true,Bool.true_and,Bool.not_false]
    refine bb.up g.rules.length (fun i T _=>∃ w:Int,0≤w∧w≤i∧kz g (g.rules.drop i) w=kz g g.rules 0∧T 1=.aS (ar g) 0∧T 6=gi w∧T 62=.aY (g.rules.map aO)∧T 63=gi g.rules.length∧T 64=gi i) ?_ ?_
    · exact ⟨0,by omega,by omega,rfl,h1,rfl,rfl,rfl,rfl⟩
    rintro i k T H' hk ⟨w,hw1,hw2,hi,h1,h6,h62,h63,h64⟩
    simp (disch:=omega) only [↓wr,↓reduceIte,wq,ah,Nat.reduceEqDiff,vu,h63,h64,ar]
    refine aq.dec (fun hc=>?_) (fun hc=>?_)
    · have hg2:g.rules[i]?=some (g.rules[i]'(by omega)):=List.getElem?_eq_getElem (by omega)
      rw[dA (show i < g.rules.length by omega)] at hi
      have hmem:g.rules[i]'(by omega)∈g.rules:=List.getElem_mem _
      generalize g.rules[i]'(by omega)=t at hg2 hi hmem
      obtain ⟨⟨hl1,hl2⟩,hp,hr1,hr2⟩:=hg.bd t hmem
      simp only[kz] at hi
      simp (disch:=omega) only [↓wr,↓reduceIte,wq,aa,Nat.reduceEqDiff,Nat.reduceAdd,Nat.reduceLT,Nat.reduceLeDiff,h6,h62,h64,aO,encI,List.getElem?_map,hg2]
      intro b hb
      repeat' (first | (refine aq.dec (fun _=>?_) (fun _=>?_)) | (refine aq.eq (fun _=>?_) (fun _=>?_)) | (refine aq.ne (fun _=>?_) (fun _=>?_)) | (refine aq.split (fun _=>?_) (fun _=>?_)) | (refine aF.pure (pY _ _ _) (by kernel_rfl) ?_) | (refine aF.pure (Kz g t hg ⟨hr1,hr2⟩) (by kernel_rfl) ?_) | (simp (disch:=omega) only [↓wr,↓reduceIte,wq,ah,ak,Nat.reduceEqDiff,Nat.reduceAdd,Nat.reduceLT,Nat.reduceLeDiff,reduceCtorEq,h1,h6,h64,ar,encS,set_set]))
      · rename_i e7 e8
        have e7':0≤t.left∧t.left≤w:=by simpa using e7
        rw[e7,e8,Bool.true_and,Bool.true_and] at hi
        have hw:IntKind.wrap .i64 (t.left+1)=t.left+1:=wrap64 (by omega) (by omega)
        refine aK hk (by omega) ⟨_,by split <;> omega,by split <;> (push_cast; omega),hi,h1,?_,h62,h63,rfl⟩
        show gi (if IntKind.wrap .i64 (t.left+1) > w then IntKind.wrap .i64 (t.left+1) else w)=_
        rw[hw]
      · rename_i e7 e8
        rw[e8,Bool.and_false,Bool.false_and] at hi
        exact hpre _ hi.symm
      · rename_i e7
        rw[e7,Bool.false_and,Bool.false_and] at hi
        exact hpre _ hi.symm
    · rw[List.drop_eq_nil_of_le (by omega)] at hi
      simp only[kz] at hi
      simp (disch:=omega) only [↓wr,↓reduceIte,wq,ah,ak,Nat.reduceEqDiff,Nat.reduceAdd,Nat.reduceLT,reduceCtorEq,h1,h6,ar,encS]
      exact hpre _ hi.symm
theorem GS (g:an) (hg:g.Ok) (hs:g.av.length+g.ax.length≤1000):aD Tryz.prog 45 [.agg (ar g)] (gb (pr g)):=aD.val (eA g) (HC g hg hs)
theorem Ec (g:an):∀ (l:List aQ) (next:Int),kz g l next=fA g l (next - 1)
  | [],next=>by
    simp only[kz,fA]
    rw[Bool.eq_iff_iff]; simp
  | r :: l,next=>by
    simp only[kz,fA,Ec g l]
    have e1:(if r.left+1 > next then r.left+1 else next) - 1=if r.left > next - 1 then r.left else next - 1:=by
      split <;> split <;> omega
    have e2:next - 1+1=next:=by omega
    rw[e1,e2]
theorem wD (s:ByteArray):∀ (l:List ByteArray) (i:Int),0≤i→(mN s l i < 0∧s ∉ l)∨∃ k:Nat,mN s l i=i+k∧l[k]?=some s∧∀ j < k,l[j]?≠some s
  | [],i,h=>.inl ⟨by simp[mN],by simp⟩
  | x :: l,i,h=>by
    have hx:gA x s=true↔x=s:=by
      unfold gA
      rw[beq_iff_eq]
      constructor
      · intro e; cases x; cases s; simp at e; simp[e]
      · rintro rfl; rfl
    simp only[mN]
    by_cases e:x=s
    · rw[if_pos (hx.2 e)]
      exact .inr ⟨0,by simp,by simp[e],by simp⟩
    · rw[if_neg (fun h=>e (hx.1 h))]
      rcases wD s l (i+1) (by omega) with ⟨h1,h2⟩ | ⟨k,h1,h2,h3⟩
      · exact .inl ⟨h1,by simp[h2,Ne.symm e]⟩
      · refine .inr ⟨k+1,by rw[h1]; push_cast; omega,by simpa using h2,fun j hj=>?_⟩
        cases j with
        | zero=>simp[e]
        | succ j=>simpa using h3 j (by omega)
theorem sd (l:List ByteArray):(∀ (k:Nat) (s:ByteArray),l[k]?=some s→mN s l 0=k)↔l.Nodup:=by
  constructor
  · intro h
    rw[List.nodup_iff_pairwise_ne,List.pairwise_iff_getElem]
    intro i j hi hj hij e
    have h1:=h i l[i] (by simp[hi])
    have h2:=h j l[j] (by simp[hj])
    rw[e] at h1
    omega
  · intro hn k s hk
    rcases wD s l 0 (by omega) with ⟨_,h2⟩ | ⟨j,h1,h2,h3⟩
    · exact absurd (List.mem_of_getElem? hk) h2
    · have hj:j < l.length:=by
        rcases Nat.lt_or_ge j l.length with h | h
        · exact h
        · simp[List.getElem?_eq_none h] at h2
      have hk':k < l.length:=by
        rcases Nat.lt_or_ge k l.length with h | h
        · exact h
        · simp[List.getElem?_eq_none h] at hk
      have:j=k:=(List.getElem_inj hn).1 (by
        rw[List.getElem?_eq_getElem hj] at h2; rw[List.getElem?_eq_getElem hk'] at hk
        simp at h2 hk; rw[h2,hk])
      rw[h1,this]; simp
theorem bytes_inj {a b:ByteArray} : a.data.toList=b.data.toList↔a=b:=by
  constructor
  · intro h; cases a; cases b; simp at h; simp[h]
  · rintro rfl; rfl
theorem IS {l:List ByteArray} : (names l).Nodup↔l.Nodup:=by
  unfold names
  rw[List.nodup_iff_pairwise_ne,List.pairwise_map,List.nodup_iff_pairwise_ne]
  constructor
  · exact fun h=>h.imp fun h e=>h (bytes_inj.2 e)
  · exact fun h=>h.imp fun h e=>h (bytes_inj.1 e)
theorem po {α:Type} [BEq α] [LawfulBEq α]:∀ (l m:List α),l.Nodup→(∀ x∈l,x∈m)→l.length≤m.length
  | [],m,_,_=>by simp
  | x :: l,m,hn,hs=>by
    rw[List.nodup_cons] at hn
    have hx:x∈m:=hs x (by simp)
    have:=po l (m.erase x) hn.2 (fun y hy=>by
      have hne:y≠x:=by rintro rfl; exact hn.1 hy
      exact (List.mem_erase_of_ne hne).2 (hs y (by simp[hy])))
    rw[List.length_erase_of_mem hx] at this
    have:0 < m.length:=List.length_pos_of_mem hx
    simp only[List.length_cons]
    omega
def kH (n:Nat):List Int:=(List.range n).map fun (k:Nat)=>(k:Int)+1
theorem vd {n:Nat} {x:Int} : x∈kH n↔1≤x∧x≤n:=by
  simp only[kH,List.mem_map,List.mem_range]
  constructor
  · rintro ⟨k,hk,rfl⟩; omega
  · rintro ⟨h1,h2⟩; exact ⟨(x - 1).toNat,by omega,by omega⟩
theorem Ei (n:Nat):(kH n).Nodup:=by
  rw[kH,List.nodup_iff_pairwise_ne,List.pairwise_map]
  exact (List.nodup_range (n:=n)).imp fun h e=>h (by omega)
theorem NB {l:List Int} {n:Nat} (hn:l.Nodup) (hs:∀ x∈l,1≤x∧x≤n) (hl:l.length=n) {x:Int} (h1:1≤x) (h2:x≤n):x∈l:=by
  refine Classical.byContradiction fun hx=>?_
  have:=po (x :: l) (kH n) (List.nodup_cons.2 ⟨hx,hn⟩) (fun y hy=>by
    rw[vd]
    rcases List.mem_cons.1 hy with rfl | hy
    · exact ⟨h1,h2⟩
    · exact hs y hy)
  simp[kH] at this
  omega
theorem u7 (n:Int):∀ (l:List Term) (w:Int),w≠0→hU n l w=if (∀ t∈l,t.level=n→t.assoc=w) then some w else none
  | [],w,_=>by simp[hU]
  | t :: r,w,hw=>by
    simp only[hU]
    by_cases ht:t.level=n
    · rw[if_pos ht]
      by_cases ha:w=t.assoc
      · rw[if_neg (by simp[ha]),← ha,u7 n r w hw]
        congr 1
        simp[ht,ha]
      · rw[if_pos ⟨hw,ha⟩,if_neg (fun h=>ha (h t (by simp) ht).symm)]
    · rw[if_neg ht,u7 n r w hw]
      congr 1
      simp[ht]
theorem zO (n:Int):∀ (l:List Term),(∀ t∈l,t.level=n→t.assoc≠0)→(fy l n=true↔∃ a,(∃ t∈l,t.level=n)∧∀ t∈l,t.level=n→t.assoc=a)
  | [],_=>by simp[fy,hU]
  | t :: r,h=>by
    by_cases ht:t.level=n
    · have ha:=h t (by simp) ht
      have e:fy (t :: r) n=match (if (∀ u∈r,u.level=n→u.assoc=t.assoc) then some t.assoc else none) with | some w=>w != 0 | none=>false:=by
        simp only[fy,hU]
        rw[if_pos ht,if_neg (by simp),u7 n r _ ha]
        rfl
      rw[e]
      by_cases hr:∀ u∈r,u.level=n→u.assoc=t.assoc
      · rw[if_pos hr]
        simp only[bne_iff_ne,ne_eq,ha,not_false_eq_true,true_iff]
        refine ⟨t.assoc,⟨t,by simp,ht⟩,fun u hu hl=>?_⟩
        rcases List.mem_cons.1 hu with rfl | hu
        · rfl
        · exact hr u hu hl
      · rw[if_neg hr]
        simp only[Bool.false_eq_true,false_iff]
        rintro ⟨a,_,h2⟩
        exact hr fun u hu hl=>(h2 u (by simp[hu]) hl).trans (h2 t (by simp) ht).symm
    · have ih:=zO n r (fun u hu=>h u (by simp[hu]))
      have e:fy (t :: r) n=fy r n:=by
        simp only[fy,hU,if_neg ht]
      rw[e,ih]
      constructor
      · rintro ⟨a,⟨u,hu,hl⟩,h2⟩
        refine ⟨a,⟨u,by simp[hu],hl⟩,fun v hv hl=>?_⟩
        rcases List.mem_cons.1 hv with rfl | hv
        · exact absurd hl ht
        · exact h2 v hv hl
      · rintro ⟨a,⟨u,hu,hl⟩,h2⟩
        rcases List.mem_cons.1 hu with rfl | hu
        · exact absurd hl ht
        · exact ⟨a,⟨u,hu,hl⟩,fun v hv=>h2 v (by simp[hv])⟩
def tc (l:List Term):Prop:=∀ t∈l,∀ u∈l,t.level=u.level→t.level≠0→t.assoc=u.assoc
theorem DO {κ β:Type} [BEq κ] [LawfulBEq κ] {k:κ} {v:β} : ∀ {a:List (κ × β)},(a.map (·.1)).Nodup→((iV k v a).map (·.1)).Nodup∧∀ x,x∈(iV k v a).map (·.1)↔x=k∨x∈a.map (·.1)
  | [],_=>by simp[iV]
  | y :: a,h=>by
    simp only[List.map_cons,List.nodup_cons] at h
    obtain ⟨h1,h2⟩:=DO (k:=k) (v:=v) h.2
    simp only[iV]
    by_cases e:k=y.1
    · simp only[e,beq_self_eq_true,if_true,List.map_cons,List.nodup_cons]
      refine ⟨h,fun x=>by simp⟩
    · have:(k == y.1)=false:=by simp[e]
      rw[this]
      simp only[Bool.false_eq_true,if_false,List.map_cons,List.nodup_cons,List.mem_cons]
      refine ⟨⟨fun hm=>?_,h1⟩,fun x=>?_⟩
      · rcases (h2 _).1 hm with e' | hm
        · exact e e'.symm
        · exact h.1 hm
      · rw[h2]
        constructor
        · rintro (h | h | h) <;> simp[h]
        · rintro (h | h | h) <;> simp[h]
theorem w6:∀ (l:List Term) (a:List (Int × Int)) (top:Int),(∀ t∈l,t.level≠0→t.assoc≠0)→(∀ n v,dr a n=some v→v≠0)→(a.map (·.1)).Nodup →
    match kZ l a top with
    | some (a',top')=>tc l∧(∀ t∈l,∀ v,t.level≠0→dr a t.level=some v→t.assoc=v)∧(a'.map (·.1)).Nodup∧(∀ n,n∈a'.map (·.1)↔n∈a.map (·.1)∨(n≠0∧∃ t∈l,t.level=n)) ∧
        top≤top'∧(∀ t∈l,t.level≠0→t.level≤top')∧(top'=top∨∃ t∈l,t.level=top'∧t.level≠0)
    | none=>¬ (tc l∧∀ t∈l,∀ v,t.level≠0→dr a t.level=some v→t.assoc=v)
  | [],a,top,_,_,hn=>by
    simp only[kZ]
    exact ⟨fun t ht=>by simp at ht,fun t ht=>by simp at ht,hn,fun n=>by simp,by omega,fun t ht=>by simp at ht,by simp⟩
  | t :: r,a,top,h0,hv,hn=>by
    have h0r:∀ u∈r,u.level≠0→u.assoc≠0:=fun u hu=>h0 u (by simp[hu])
    simp only[kZ]
    by_cases ht:t.level=0
    · rw[if_pos ht]
      have ih:=w6 r a top h0r hv hn
      have one:tc (t :: r)↔tc r:=by
        constructor
        · exact fun h u hu w hw=>h u (by simp[hu]) w (by simp[hw])
        · intro h u hu w hw e hz
          rcases List.mem_cons.1 hu with rfl | hu
          · exact absurd ht hz
          · rcases List.mem_cons.1 hw with rfl | hw
            · exact absurd (e.trans ht) hz
            · exact h u hu w hw e hz
      have con:(∀ u∈t :: r,∀ v,u.level≠0→dr a u.level=some v→u.assoc=v)↔∀ u∈r,∀ v,u.level≠0→dr a u.level=some v→u.assoc=v:=by
        simp[ht]
      have mem:∀ n,(n≠0∧∃ u∈t :: r,u.level=n)↔(n≠0∧∃ u∈r,u.level=n):=fun n=>by
        constructor
        · rintro ⟨h1,u,hu,rfl⟩
          rcases List.mem_cons.1 hu with rfl | hu
          · exact absurd ht h1
          · exact ⟨h1,u,hu,rfl⟩
        · rintro ⟨h1,u,hu,rfl⟩; exact ⟨h1,u,by simp[hu],rfl⟩
      cases hs:kZ r a top with
      | none=>rw[hs] at ih; rw[one,con]; exact ih
      | some x =>
        obtain ⟨a',top'⟩:=x
        rw[hs] at ih
        obtain ⟨i1,i2,i3,i4,i5,i6,i7⟩:=ih
        refine ⟨one.2 i1,con.2 i2,i3,fun n=>by rw[i4,mem],i5,?_,?_⟩
        · intro u hu hz
          rcases List.mem_cons.1 hu with rfl | hu
          · exact absurd ht hz
          · exact i6 u hu hz
        · rcases i7 with h | ⟨u,hu,h⟩
          · exact .inl h
          · exact .inr ⟨u,by simp[hu],h⟩
    · rw[if_neg ht]
      have ha:=h0 t (by simp) ht
      by_cases hc:(dr a t.level).getD 0≠0∧(dr a t.level).getD 0≠t.assoc
      · rw[if_pos hc]
        simp only
        rintro ⟨_,h2⟩
        cases hp:dr a t.level with
        | none=>simp[hp] at hc
        | some v =>
          have:=h2 t (by simp) v ht hp
          simp[hp] at hc
          exact hc.2 this.symm
      · rw[if_neg hc]
        have hcon:∀ v,dr a t.level=some v→t.assoc=v:=fun v hp=>by
          have:=hv _ _ hp
          simp[hp] at hc
          exact (hc this).symm
        have hput:∀ n,dr (iV t.level t.assoc a) n=if n=t.level then some t.assoc else dr a n:=fun n=>by
          rw[DH]; simp
        have hk:=DO (k:=t.level) (v:=t.assoc) hn
        have ih:=w6 r (iV t.level t.assoc a) (if t.level > top then t.level else top) h0r (fun n v hp=>by
          rw[hput] at hp
          split at hp
          · simp at hp; rw[← hp]; exact ha
          · exact hv n v hp) hk.1
        have both:(tc (t :: r)∧∀ u∈t :: r,∀ v,u.level≠0→dr a u.level=some v→u.assoc=v)↔(tc r∧∀ u∈r,∀ v,u.level≠0→dr (iV t.level t.assoc a) u.level=some v→u.assoc=v):=by
          constructor
          · rintro ⟨h1,h2⟩
            refine ⟨fun u hu w hw=>h1 u (by simp[hu]) w (by simp[hw]),fun u hu v hz hp=>?_⟩
            rw[hput] at hp
            split at hp
            · rename_i e
              simp at hp; rw[← hp]
              exact h1 u (by simp[hu]) t (by simp) e hz
            · exact h2 u (by simp[hu]) v hz hp
          · rintro ⟨h1,h2⟩
            have h3:∀ u∈r,u.level=t.level→u.assoc=t.assoc:=fun u hu e=>h2 u hu t.assoc (by rw[e]; exact ht) (by rw[hput,if_pos e])
            refine ⟨fun u hu w hw e hz=>?_,fun u hu v hz hp=>?_⟩
            · rcases List.mem_cons.1 hu with e1 | hu2
              · rcases List.mem_cons.1 hw with e2 | hw2
                · rw[e1,e2]
                · rw[e1] at e ⊢
                  exact (h3 w hw2 e.symm).symm
              · rcases List.mem_cons.1 hw with e2 | hw2
                · rw[e2] at e ⊢
                  exact h3 u hu2 e
                · exact h1 u hu2 w hw2 e hz
            · rcases List.mem_cons.1 hu with rfl | hu
              · exact hcon v hp
              · by_cases e:u.level=t.level
                · rw[h3 u hu e]; exact hcon v (by rw[← e]; exact hp)
                · exact h2 u hu v hz (by rw[hput,if_neg e]; exact hp)
        have htop:top≤(if t.level > top then t.level else top)∧t.level≤(if t.level > top then t.level else top):=by split <;> omega
        cases hs:kZ r (iV t.level t.assoc a) (if t.level > top then t.level else top) with
        | none=>rw[hs] at ih; simp only; rw[both]; exact ih
        | some x =>
          obtain ⟨a',top'⟩:=x
          rw[hs] at ih
          obtain ⟨i1,i2,i3,i4,i5,i6,i7⟩:=ih
          obtain ⟨b1,b2⟩:=both.2 ⟨i1,i2⟩
          refine ⟨b1,b2,i3,fun n=>?_,by omega,?_,?_⟩
          · rw[i4,hk.2]
            constructor
            · rintro ((rfl | h) | ⟨h1,u,hu,h⟩)
              · exact .inr ⟨ht,t,by simp,rfl⟩
              · exact .inl h
              · exact .inr ⟨h1,u,by simp[hu],h⟩
            · rintro (h | ⟨h1,u,hu,h⟩)
              · exact .inl (.inr h)
              · rcases List.mem_cons.1 hu with rfl | hu
                · exact .inl (.inl h.symm)
                · exact .inr ⟨h1,u,hu,h⟩
          · intro u hu hz
            rcases List.mem_cons.1 hu with rfl | hu
            · omega
            · exact i6 u hu hz
          · rcases i7 with h | ⟨u,hu,h⟩
            · by_cases e:t.level > top
              · rw[if_pos e] at h; exact .inr ⟨t,by simp,h.symm,ht⟩
              · rw[if_neg e] at h; exact .inl h
            · exact .inr ⟨u,by simp[hu],h⟩
theorem Av (l:List Term) (h:∀ t∈l,jU t=true):qo l=true↔∀ t∈l,∀ n:Int,1≤n→n≤t.level→fy l n=true:=by
  have hb:∀ t∈l,0≤t.level∧(t.level≠0→t.assoc≠0):=fun t ht=>by
    have:=h t ht
    simp only[jU,Bool.and_eq_true,decide_eq_true_eq,beq_iff_eq] at this
    refine ⟨this.1.1.1.1.2,fun h1 h2=>?_⟩
    have e:=this.2
    simp[h1,h2] at e
  have hs:=w6 l [] 0 (fun t ht=>(hb t ht).2) (by simp[dr]) (by simp)
  have hL:∀ n:Int,1≤n→(fy l n=true↔∃ a,(∃ t∈l,t.level=n)∧∀ t∈l,t.level=n→t.assoc=a):=fun n hn=>zO n l (fun t ht e=>(hb t ht).2 (by omega))
  unfold qo
  cases hx:kZ l [] 0 with
  | none =>
    rw[hx] at hs
    simp only[Bool.false_eq_true,false_iff]
    intro hall
    refine hs ⟨fun t ht u hu e hz=>?_,fun t ht v _ hp=>by simp[dr] at hp⟩
    have h1:=hb t ht
    obtain ⟨a,_,h2⟩:=(hL t.level (by omega)).1 (hall t ht t.level (by omega) (by omega))
    exact (h2 t ht rfl).trans (h2 u hu e.symm).symm
  | some x =>
    obtain ⟨a,top⟩:=x
    rw[hx] at hs
    obtain ⟨i1,_,i3,i4,i5,i6,i7⟩:=hs
    simp only[beq_iff_eq]
    have hmem:∀ n,n∈a.map (·.1)↔n≠0∧∃ t∈l,t.level=n:=fun n=>by rw[i4]; simp
    have hin:∀ x∈a.map (·.1),1≤x∧x≤(top.toNat:Int):=fun x hx=>by
      obtain ⟨h1,t,ht,rfl⟩:=(hmem x).1 hx
      have:=(hb t ht).1
      have:=i6 t ht h1
      omega
    constructor
    · intro hlen t ht n hn1 hn2
      have htop:t.level≤top:=i6 t ht (by omega)
      have hm:=NB i3 hin (by simp; omega) hn1 (show n≤(top.toNat:Int) by omega)
      obtain ⟨hz,u,hu,rfl⟩:=(hmem n).1 hm
      exact (hL _ hn1).2 ⟨u.assoc,⟨u,hu,rfl⟩,fun w hw e=>i1 w hw u hu e (by omega)⟩
    · intro hall
      have h1:a.length≤top.toNat:=by
        have:=po _ (kH top.toNat) i3 (fun x hx=>vd.2 (hin x hx))
        simpa [kH] using this
      have h2:top.toNat≤a.length:=by
        rcases i7 with e | ⟨t,ht,e,hz⟩
        · subst e; simp
        · have:=po (kH top.toNat) (a.map (·.1)) (Ei _) (fun x hx=>by
            rw[vd] at hx
            have:=(hb t ht).1
            obtain ⟨_,⟨u,hu,hl⟩,_⟩:=(hL x hx.1).1 (hall t ht x hx.1 (by omega))
            exact (hmem x).2 ⟨by omega,u,hu,hl⟩)
          simpa [kH] using this
      omega
theorem zk (g:an):∀ (l:List Term) (i:Int),iF g l i=true↔∀ (k:Nat) (t:Term),l[k]?=some t→jo g (i+k) t=true
  | [],i=>by simp[iF]
  | t :: r,i=>by
    simp only[iF,Bool.and_eq_true,zk g r (i+1)]
    constructor
    · rintro ⟨h1,h2⟩ k u hk
      cases k with
      | zero=>simp at hk; subst hk; simpa using h1
      | succ k =>
        have:=h2 k u (by simpa using hk)
        rw[show i+((k+1:Nat):Int)=i+1+k by push_cast; omega]; exact this
    · intro h
      refine ⟨by simpa using h 0 t rfl,fun k u hk=>?_⟩
      have:=h (k+1) u (by simpa using hk)
      rw[show i+1+(k:Int)=i+((k+1:Nat):Int) by push_cast; omega]; exact this
theorem rM (g:an):∀ (l:List ByteArray) (i:Int),qh g l i=true↔∀ (k:Nat) (s:ByteArray),l[k]?=some s→ko g (i+k) s=true
  | [],i=>by simp[qh]
  | t :: r,i=>by
    simp only[qh,Bool.and_eq_true,rM g r (i+1)]
    constructor
    · rintro ⟨h1,h2⟩ k u hk
      cases k with
      | zero=>simp at hk; subst hk; simpa using h1
      | succ k =>
        have:=h2 k u (by simpa using hk)
        rw[show i+((k+1:Nat):Int)=i+1+k by push_cast; omega]; exact this
    · intro h
      refine ⟨by simpa using h 0 t rfl,fun k u hk=>?_⟩
      have:=h (k+1) u (by simpa using hk)
      rw[show i+1+(k:Int)=i+((k+1:Nat):Int) by push_cast; omega]; exact this
theorem BG (g:an) (s:ByteArray):kN g s < 0↔s ∉ g.ax.map Term.name:=by
  unfold kN
  rcases wD s (g.ax.map Term.name) 0 (by omega) with ⟨h1,h2⟩ | ⟨k,h1,h2,_⟩
  · exact ⟨fun _=>h2,fun _=>h1⟩
  · constructor
    · intro h; omega
    · intro h; exact absurd (List.mem_of_getElem? h2) h
theorem Cl (g:an) (t:Term):qj g t=true↔∀ n:Int,1≤n→n≤t.level→fy g.ax n=true:=by
  simp only[qj,List.all_eq_true,List.mem_range]
  constructor
  · intro h n h1 h2
    have:=h (n - 1).toNat (by omega)
    rwa [show (((n - 1).toNat:Nat):Int)+1=n by omega] at this
  · intro h k hk
    exact h _ (by omega) (by omega)
theorem G2 (g:an):pr g=bp g:=by
  rw[Bool.eq_iff_iff]
  simp only[pr,bp,iR,jD,qx,Bool.and_eq_true,decide_eq_true_eq,zk,rM,Ec,List.all_eq_true,Bool.not_eq_true',List.any_eq_false,IS,qw,List.nodup_append,Int.zero_add,Int.zero_sub]
  have hT:(∀ (k:Nat) (t:Term),g.ax[k]?=some t→jo g k t=true)↔(∀ t∈g.ax,jU t=true)∧(g.ax.map Term.name).Nodup∧(∀ t∈g.ax,qj g t=true):=by
    rw[← sd]
    constructor
    · intro h
      have h':∀ t∈g.ax,∃ k:Nat,g.ax[k]?=some t:=fun t ht=>List.getElem?_of_mem ht
      refine ⟨fun t ht=>?_,fun k s hk=>?_,fun t ht=>?_⟩
      · obtain ⟨k,hk⟩:=h' t ht
        have:=h k t hk
        simp only[jo,jU,Bool.and_eq_true,decide_eq_true_eq] at this ⊢
        simp[this]
      · rw[List.getElem?_map,Option.map_eq_some_iff] at hk
        obtain ⟨t,hk,rfl⟩:=hk
        have:=h k t hk
        simp only[jo,Bool.and_eq_true,beq_iff_eq] at this
        exact this.1.1.1.1.1.1.2
      · obtain ⟨k,hk⟩:=h' t ht
        have:=h k t hk
        simp only[jo,Bool.and_eq_true] at this
        exact this.2
    · rintro ⟨h1,h2,h3⟩ k t hk
      have hm:=List.mem_of_getElem? hk
      have a:=h1 t hm
      have b:=h2 k t.name (by rw[List.getElem?_map,hk]; rfl)
      have c:=h3 t hm
      simp only[jo,jU,kN,Bool.and_eq_true,decide_eq_true_eq] at a ⊢
      simp[a,b,c]
  have hN:(∀ (k:Nat) (s:ByteArray),g.av[k]?=some s→ko g k s=true)↔(∀ s∈g.av,eS (ed s)=true)∧g.av.Nodup∧(∀ s∈g.av,s ∉ g.ax.map Term.name):=by
    rw[← sd]
    constructor
    · intro h
      have h':∀ t∈g.av,∃ k:Nat,g.av[k]?=some t:=fun t ht=>List.getElem?_of_mem ht
      refine ⟨fun t ht=>?_,fun k s hk=>?_,fun t ht=>?_⟩
      · obtain ⟨k,hk⟩:=h' t ht
        have:=h k t hk
        simp only[ko,Bool.and_eq_true] at this
        exact this.1.1
      · have:=h k s hk
        simp only[ko,wk,Bool.and_eq_true,beq_iff_eq] at this
        exact this.1.2
      · obtain ⟨k,hk⟩:=h' t ht
        have:=h k t hk
        simp only[ko,Bool.and_eq_true,decide_eq_true_eq] at this
        exact (BG g t).1 this.2
    · rintro ⟨h1,h2,h3⟩ k s hk
      have hm:=List.mem_of_getElem? hk
      have a:=h1 s hm
      have b:=h2 k s hk
      have c:=(BG g s).2 (h3 s hm)
      simp[ko,wk,a,b,c]
  rw[hT,hN]
  constructor
  · rintro ⟨⟨⟨⟨⟨⟨⟨⟨t1,t2⟩,t3⟩,n1,n2⟩,r1,r2⟩,a1,a2,a3⟩,s1,s2⟩,n3⟩,ru⟩
    have hl:=(Av g.ax t1).1 t3
    exact ⟨⟨⟨⟨⟨⟨⟨t2,t1,a2,fun t ht=>(Cl g t).2 (hl t ht)⟩,⟨by omega,by omega⟩,fun s hs=>by simpa using n3 s hs,a1,fun s hs hm=>a3 s hs s hm rfl⟩,by omega⟩,by omega⟩,s1⟩,by omega⟩,ru⟩
  · rintro ⟨⟨⟨⟨⟨⟨⟨t2,t1,a2,t3⟩,⟨n1,n2⟩,n3,a1,a3⟩,r1⟩,r2⟩,s1⟩,s2⟩,ru⟩
    have hl:=(Av g.ax t1).2 (fun t ht=>(Cl g t).1 (t3 t ht))
    exact ⟨⟨⟨⟨⟨⟨⟨⟨t1,t2⟩,hl⟩,by omega,by omega⟩,by omega,by omega⟩,a1,a2,fun s hs u hu e=>a3 s hs (e ▸ hu)⟩,s1,by omega⟩,fun s hs=>by simp[n3 s hs]⟩,ru⟩
theorem lD (g:an) (hg:g.Ok) (hs:g.av.length+g.ax.length≤1000):aD Tryz.prog 45 [.agg (ar g)] (gb (bp g)):=by
  rw[← G2]; exact GS g hg hs
def DA (n:Nat) (r:aQ):Prop:=bW r.left∧0≤r.left∧r.left < n∧r.right.length≤6∧∀ s∈r.right,bW s∧(s < 0→-1 - s < n)
theorem an.iw.tB {g:an} (hg:g.Ok) (h:g.iw) {r:aQ} (hr:r∈g.rules):DA g.av.length r :=
  ⟨(hg.bd r hr).1,(h.left r hr).1,(h.left r hr).2,h.right r hr,fun s hs=>⟨(hg.bd r hr).2.2.2 s hs,fun hn=>h.neg hr hs hn⟩⟩
def rB:SF:=⟨.seq (al [aV 3 false]) <|
  .seq (.region false [⟨none,[ae 4 0,az 5 .lss 4 0,ae 6 5]⟩,⟨(some (6,true)),[ao 7 1,ae 8 0,((some 9),.op (.arith .sub (.val (.val (.int .i64 (-1)))) (.tmp 8))),aP 10 1 7 9,ao 11 10,bZ 12 11]⟩,⟨none,[bO 13 6 12,ae 3 13]⟩]) <|
  .ret,
  [.tmp 3],14⟩
theorem wa:aW Tryz.prog 207 []=some rB:=by kernel_rfl
def vp:SF:=⟨.seq (al [cM 2 0,cM 3 1,aV 4 false]) <|
  .seq (al [au 5 1 2,ao 6 5,((some 7),.op (.uI 207 [] [(.tmp 3)])),aN 8 46 [6,7],bZ 9 8,ae 4 9]) <|
  .ret,
  [.tmp 4],10⟩
theorem yX:aW Tryz.prog 163 [2,3]=some vp:=by kernel_rfl
def ni:SF:=⟨.seq (al [cM 2 0,((some 4),.op (.bc (.val (.emp 1))))]) <|
  .seq (.seq (al [aU 5 3 2,ae 6 1,aN 7 163 [5,6]]) <|
  .cond (.tmp 7) (.seq (al [au 8 0 2,ao 9 8,((some 10),.op (.bJ 1 1 [(.val (.int .i64 0))] [(0,(.tmp 9))])),ae 4 10]) <|
  .ret) (.skip)) <|
  .seq (al [((some 4),.op (.bc (.val (.emp 1))))]) <|
  .ret,
  [.tmp 4],11⟩
theorem sM:aW Tryz.prog 205 [2]=some ni:=by kernel_rfl
def mB:SC :=
  .seq (al [aR 24 .lss 23 22]) <|
  .seq (.cond (.tmp 24) (.skip) (.exit 0)) <|
  .seq (.block 1 (.seq (al [aP 25 1 21 23,ao 26 25,ae 7 26]) <|
  .seq (al [ae 27 7,az 28 .lss 27 0]) <|
  .cond (.tmp 28) (al [ae 29 5,ae 30 7,((some 31),.op (.arith .sub (.val (.val (.int .i64 (-1)))) (.tmp 30))),((some 32),.op (.bJ 1 1 [(.val (.int .i64 0))] [(0,(.tmp 31))])),((some 33),.op (.app 1 8 (.tmp 29) (.tmp 32))),ae 5 33]) (.skip))) <|
  al [az 34 .add 23 1,ae 23 34]
def pc:SF:=⟨.seq (al [cM 3 0,((some 5),.op (.bc (.val (.emp 1))))]) <|
  .seq (.seq (.region false [⟨none,[ae 8 1,au 9 0 3,ao 10 9,aP 11 1 8 10,ao 12 11,bZ 13 12,ae 14 13]⟩,⟨(some (14,false)),[aU 15 3 3,ao 16 2,aN 17 163 [15,16],bZ 18 17]⟩,⟨none,[bC 19 14 18]⟩]) <|
  .cond (.tmp 19) (.seq (al [((some 5),.op (.bc (.val (.emp 1))))]) <|
  .ret) (.skip)) <|
  .seq (.seq (al [au 20 1 3,ao 21 20,aL 22 21,aH 23 0]) <|
  .block 0 (.loop mB)) <|
  .seq (al [ae 35 5,ae 5 35]) <|
  .ret,
  [.tmp 5],36⟩
theorem s6:aW Tryz.prog 206 [3]=some pc:=by kernel_rfl
theorem Es (r:aQ) (is:List Bool):∀ v∈[V.agg (aO r),bw is],Tree v:=by
  intro v hv; simp at hv
  rcases hv with rfl | rfl
  · exact cE _ (fL r)
  · exact fQ is
def AI (is:List Bool) (s:Int):Bool:=decide (s < 0) && !is.getD (-1 - s).toNat false
theorem GJ (is:List Bool) (s:Int) (hs:bW s∧(s < 0→-1 - s < is.length)):aD Tryz.prog 207 [gi s,.aS [bw is] 0] (gb (AI is s)):=by
  refine aD.val ?_ fun H=>?_
  · intro v hv; simp at hv
    rcases hv with rfl | rfl
    · exact .val _
    · exact jL (by intro v hv; simp at hv; subst hv; exact fQ is)
  obtain ⟨⟨h1,h2⟩,h3⟩:=hs
  refine aA.of mixed wa ?_
  simp (disch:=omega) only [↓wr,↓reduceIte,wq,ai,ah,Nat.reduceAdd,Nat.reduceLeDiff,Int.reduceNeg,reduceCtorEq,rB,bw]
  refine aq.dec (fun h=>?_) (fun h=>?_)
  · have hb:is[(-1 - s).toNat]?=some (is[(-1 - s).toNat]'(by omega)):=List.getElem?_eq_getElem (by omega)
    have hbd:is.getD (-1 - s).toNat false=is[(-1 - s).toNat]'(by omega):=by simp[List.getD_eq_getElem?_getD,hb]
    generalize is[(-1 - s).toNat]'(by omega)=b at hb hbd
    simp (disch:=omega) only [↓wr,↓reduceIte,wq,ah,Nat.reduceEqDiff,Nat.reduceLT,Int.reduceNeg,reduceCtorEq,List.getElem?_map,hb]
    simp only[AI,hbd,h,decide_true,Bool.true_and]
  · simp (disch:=omega) only [↓wr,↓reduceIte,wq,Nat.reduceEqDiff,Int.reduceNeg,reduceCtorEq]
    simp[AI,h]
theorem GX {is:List Bool} {l:List Int} : (!l.any (AI is))=dt l is true:=by
  simp only[dt,List.not_any_eq_all_not]
  congr 1
  funext s
  simp only[AI]
  by_cases h:0≤s
  · simp[h,show ¬ s < 0 by omega]
  · simp[h,show s < 0 by omega]
theorem wu (r:aQ) (is:List Bool) (hr:aM r.right) (hs:∀ s∈r.right,bW s∧(s < 0→-1 - s < is.length)):aD Tryz.prog 163 [.agg (aO r),bw is] (gb (dt r.right is true)):=by
  rw[← GX]
  refine aD.val (Es r is) fun H=>?_
  refine aA.of mixed yX ?_
  simp (disch:=omega) only [↓wr,↓reduceIte,wq,ai,Nat.reduceEqDiff,Nat.reduceAdd,Nat.reduceLT,Nat.reduceLeDiff,vp,aO,bw,encI]
  refine aF.pure (qC r.right hr 207 [.aS [bw is] 0] (by
    intro v hv; simp at hv; subst hv
    exact jL (by intro v hv; simp at hv; subst hv; exact fQ is)) (AI is) (fun x hx=>GJ is x (hs x hx)) (by kernel_rfl)) (by kernel_rfl) ?_
  simp (disch:=omega) only [↓wr,↓reduceIte,wq,reduceCtorEq]
theorem ix {h:aE} {u:V} {l:List Int} (ho:aX h.view u 1 (l.map fun x=>[gi x])):c7 h u (encI l):=c7.JM (f:=Value.int .i64) ho
theorem A7 (r:aQ) (is:List Bool) (hr:DA is.length r):cd Tryz.prog 205 [.agg (aO r),bw is] (encI (if dt r.right is true=true then [r.left] else [])):=by
  obtain ⟨hl,_,_,hr6,hs⟩:=hr
  have hsh:aM r.right:=by unfold aM; omega
  refine cd.of (Es r is) ?_
  refine aA.of mixed sM ?_
  simp (disch:=omega) only [↓wr,↓reduceIte,wq,ai,Nat.reduceEqDiff,Nat.reduceAdd,Nat.reduceLeDiff,ni,aO,encI]
  refine aF.pure (wu r is hsh hs) (by kernel_rfl) ?_
  repeat' (first | (refine aq.dec (fun _=>?_) (fun _=>?_)) | (refine aq.eq (fun _=>?_) (fun _=>?_)) | (refine aq.ne (fun _=>?_) (fun _=>?_)) | (refine aq.split (fun _=>?_) (fun _=>?_)) | (simp (disch:=omega) only [↓wr,↓reduceIte,wq,ag,Nat.reduceEqDiff,Nat.reduceAdd,Nat.reduceLT,reduceCtorEq]))
  all_goals first
    | (intro n h' hh; rw[if_pos (by simp[*])]; exact ix (l:=[r.left]) (.inr ⟨n,rfl,by rw[hh]; simp[View.set]⟩))
    | (intro h' hh; rw[if_neg (by simp[*])]; exact .emp _)
def fb (l:List Int):List Int:=(l.filter fun s=>decide (s < 0)).map fun s=>-1 - s
theorem Jt (r:aQ) (is p:List Bool):∀ v∈[V.agg (aO r),bw is,.aS [bw p] 0],Tree v:=by
  intro v hv; simp at hv
  rcases hv with rfl | rfl | rfl
  · exact cE _ (fL r)
  · exact fQ is
  · exact jL (by intro v hv; simp at hv; subst hv; exact fQ p)
set_option maxHeartbeats 1000000 in
theorem CH (r:aQ) (is p:List Bool) (hr:DA is.length r) (hp:p.length=is.length) :
    cd Tryz.prog 206 [.agg (aO r),bw is,.aS [bw p] 0] (encI (if (is.getD r.left.toNat false && dt r.right p true)=true then fb r.right else [])):=by
  obtain ⟨hl,hl0,hl1,hr6,hs⟩:=hr
  have hsh:aM r.right:=by unfold aM; omega
  refine cd.of (Jt r is p) ?_
  refine aA.of mixed s6 ?_
  have hb:is[r.left.toNat]?=some (is[r.left.toNat]'(by omega)):=List.getElem?_eq_getElem (by omega)
  have hbd:is.getD r.left.toNat false=is[r.left.toNat]'(by omega):=by simp[List.getD_eq_getElem?_getD,hb]
  generalize is[r.left.toNat]'(by omega)=b at hb hbd
  rw[hbd]
  simp (disch:=omega) only [↓wr,↓reduceIte,wq,ai,Nat.reduceEqDiff,Nat.reduceAdd,Nat.reduceLT,Nat.reduceLeDiff,pc,aO,encI,bw,List.getElem?_map,hb]
  cases b with
  | false =>
    simp (disch:=omega) only [↓wr,↓reduceIte,wq,Nat.reduceEqDiff,reduceCtorEq]
    intro h' hh
    exact .emp _
  | true =>
    simp (disch:=omega) only [↓wr,↓reduceIte,wq,Nat.reduceEqDiff,Nat.reduceAdd,Nat.reduceLT,Nat.reduceLeDiff]
    refine aF.pure (wu r p hsh (fun s hs'=>⟨(hs s hs').1,fun h=>by rw[hp]; exact (hs s hs').2 h⟩)) (by kernel_rfl) ?_
    repeat' (first | (refine aq.dec (fun _=>?_) (fun _=>?_)) | (refine aq.eq (fun _=>?_) (fun _=>?_)) | (refine aq.ne (fun _=>?_) (fun _=>?_)) | (refine aq.split (fun _=>?_) (fun _=>?_)) | (simp (disch:=omega) only [↓wr,↓reduceIte,wq,ak,Nat.reduceEqDiff,Nat.reduceAdd,Nat.reduceLT,reduceCtorEq]))
    · rename_i ha
      rw[if_pos (by simp[ha])]
      refine bb.up r.right.length (fun i T H=>(∃ u,T 5=u∧aX H u 1 ((fb (r.right.take i)).map fun x=>[gi x]))∧T 21=encI r.right∧T 22=gi r.right.length∧T 23=gi i) ?_ ?_
      · exact ⟨⟨_,rfl,.nil⟩,rfl,rfl,rfl⟩
      rintro i k T H' hk ⟨⟨u,h5,hu⟩,h21,h22,h23⟩
      simp (disch:=omega) only [↓wr,↓reduceIte,wq,ah,Int.reduceNeg,reduceCtorEq,mB,h22,h23,encI]
      refine aq.dec (fun hc=>?_) (fun hc=>?_)
      · have hg:r.right[i]?=some (r.right[i]'(by omega)):=List.getElem?_eq_getElem (by omega)
        have hm:r.right[i]'(by omega)∈r.right:=List.getElem_mem _
        have htk:fb (r.right.take (i+1))=fb (r.right.take i) ++ fb [r.right[i]'(by omega)]:=by
          rw[List.take_add_one,hg,fb,List.filter_append,List.map_append]; rfl
        have hlen:(fb (r.right.take i)).length≤6:=by
          have h1:(fb (r.right.take i)).length≤(r.right.take i).length:=by simp only[fb,List.length_map]; exact List.length_filter_le _ _
          have h2:(r.right.take i).length≤i:=List.length_take_le _ _
          omega
        generalize r.right[i]'(by omega)=s at hg hm htk
        obtain ⟨⟨s1,s2⟩,s3⟩:=hs s hm
        simp (disch:=omega) only [↓wr,↓reduceIte,wq,ah,Nat.reduceEqDiff,Nat.reduceLT,Int.reduceNeg,h21,h23,encI,List.getElem?_map,hg]
        refine aq.dec (fun hd=>?_) (fun hd=>?_)
        · simp (disch:=omega) only [↓wr,↓reduceIte,wq,ah,ag,Nat.reduceEqDiff,Nat.reduceLT,Int.reduceNeg,h5]
          intro m hm
          try simp (disch:=omega) only [↓wr,↓reduceIte,wq,Nat.reduceEqDiff,Int.reduceNeg,cp]
          refine rT (hu.fresh hm) (by simp) (by simp[aT]) (by unfold aI; simp at hlen ⊢; omega) (by unfold aI; simp at hlen ⊢; omega) ?_
          intro u' H2 hu' _
          simp (disch:=omega) only [↓wr,↓reduceIte,wq,ah,Nat.reduceEqDiff,Int.reduceNeg,reduceCtorEq,h23]
          refine aK hk (by omega) ⟨⟨u',rfl,?_⟩,h21,h22,rfl⟩
          rw[htk]
          simpa [fb,hd] using hu'
        · simp (disch:=omega) only [↓wr,↓reduceIte,wq,ah,Nat.reduceEqDiff,reduceCtorEq,h5,h23]
          refine aK hk (by omega) ⟨⟨u,h5,?_⟩,h21,h22,rfl⟩
          rw[htk]
          simpa [fb,hd] using hu
      · rw[List.take_of_length_le (by omega)] at hu
        simp (disch:=omega) only [↓wr,↓reduceIte,wq,Nat.reduceEqDiff,reduceCtorEq,h5]
        intro h' hh
        exact ix (by rw[hh]; exact hu)
    · rename_i ha
      intro h' hh
      rw[if_neg (by simp[ha])]
      exact .emp _
def qb (is:List Bool) (l:List Int):List Bool:=l.foldl (fun is n=>is.set n.toNat true) is
def stepG (comes:aQ→List Bool→List Int) (is:List Bool) (r:aQ):List Bool:=qb is (comes r is)
def de (comes:aQ→List Bool→List Int) (rules:List aQ) (is:List Bool):List Bool:=rules.foldl (stepG comes) is
def fq (a b:List Bool):Prop:=a.length=b.length∧∀ i,a.getD i false=true→b.getD i false=true
theorem fq.refl (a:List Bool):fq a a:=⟨rfl,fun _ h=>h⟩
theorem fq.trans {a b c:List Bool} (h:fq a b) (k:fq b c):fq a c:=⟨h.1.trans k.1,fun i hi=>k.2 i (h.2 i hi)⟩
theorem fq.set (a:List Bool) (i:Nat):fq a (a.set i true):=by
  refine ⟨by simp,fun j h=>?_⟩
  simp only[List.getD_eq_getElem?_getD,List.getElem?_set] at h ⊢
  split
  · split
    · rfl
    · rename_i e h2; rw[← e,List.getElem?_eq_none (by omega)] at h; simp at h
  · exact h
theorem Ee:∀ (l:List Int) (is:List Bool),fq is (qb is l)
  | [],is=>.refl _
  | n :: l,is=>(fq.set is n.toNat).trans (Ee l _)
theorem sf (comes:aQ→List Bool→List Int):∀ (rules:List aQ) (is:List Bool),fq is (de comes rules is)
  | [],is=>.refl _
  | r :: rs,is=>(Ee _ _).trans (sf comes rs _)
def cr (a:List Bool):Nat:=a.countP fun x=>x
theorem qY (a:List Bool):cr a≤a.length:=List.countP_le_length
theorem fq.cr:∀ {a b:List Bool},fq a b→cr a≤cr b∧(cr a=cr b→a=b)
  | [],[],_=>⟨Nat.le_refl _,fun _=>rfl⟩
  | [],_ :: _,h=>by simp[fq] at h
  | _ :: _,[],h=>by simp[fq] at h
  | x :: a,y :: b,h=>by
    have hxy:x=true→y=true:=fun e=>by have:=h.2 0 (by simpa using e); simpa using this
    obtain ⟨h1,h2⟩:=fq.cr (a:=a) (b:=b) ⟨by simpa using h.1,fun i hi=>by have:=h.2 (i+1) (by simpa using hi); simpa using this⟩
    unfold Gv.cr at h1 h2 ⊢
    simp only[List.countP_cons]
    cases x with
    | true =>
      have:=hxy rfl; subst this
      simp only[if_true]
      exact ⟨by omega,fun e=>by rw[h2 (by omega)]⟩
    | false =>
      cases y with
      | false=>simp only[Bool.false_eq_true,if_false]; exact ⟨by omega,fun e=>by rw[h2 (by omega)]⟩
      | true=>simp only[Bool.false_eq_true,if_false,if_true]; exact ⟨by omega,fun e=>by omega⟩
def fF (comes:aQ→List Bool→List Int) (rules:List aQ):Nat→List Bool→List Bool
  | 0,is=>is
  | k+1,is=>if de comes rules is=is then is else fF comes rules k (de comes rules is)
theorem rC (comes:aQ→List Bool→List Int) (rules:List aQ):∀ (k:Nat) (is:List Bool),is.length≤cr is+k→de comes rules (fF comes rules k is)=fF comes rules k is∧fq is (fF comes rules k is)
  | 0,is,h=>by
    have h1:=sf comes rules is
    have h2:=qY (de comes rules is)
    have h3:=h1.cr
    rw[← h1.1] at h2
    have h4:=qY is
    exact ⟨(h3.2 (by omega)).symm,.refl _⟩
  | k+1,is,h=>by
    simp only[fF]
    by_cases e:de comes rules is=is
    · rw[if_pos e]; exact ⟨e,.refl _⟩
    · rw[if_neg e]
      have h1:=sf comes rules is
      have h3:=h1.cr
      have:cr is < cr (de comes rules is):=by
        rcases Nat.lt_or_ge (cr is) (cr (de comes rules is)) with h | h
        · exact h
        · exact absurd (h3.2 (by omega)).symm e
      obtain ⟨g1,g2⟩:=rC comes rules k (de comes rules is) (by rw[← h1.1]; omega)
      exact ⟨g1,h1.trans g2⟩
def vh:SC :=
  .seq (al [aR 26 .lss 25 24]) <|
  .seq (.cond (.tmp 26) (.skip) (.exit 4)) <|
  .seq (.block 5 (.seq (al [aP 27 1 23 25,ao 28 27,ae 11 28]) <|
  .seq (.region false [⟨none,[ae 29 7,ae 30 29]⟩,⟨(some (30,false)),[ae 31 1,ae 32 11,aP 33 1 31 32,ao 34 33,bZ 35 34]⟩,⟨none,[bC 36 30 35,ae 7 36]⟩]) <|
  al [ae 37 1,ae 38 11,aP 39 1 37 38,(none,.op (.store 1 (.tmp 39) (.val (.val (.bool true)))))])) <|
  al [az 40 .add 25 1,ae 25 40]
def vC:SC :=
  .seq (al [aR 17 .lss 16 15]) <|
  .seq (.cond (.tmp 17) (.skip) (.exit 2)) <|
  .seq (.block 3 (.seq (al [aP 18 3 14 16,aU 19 3 18,((some 9),.op (.alloc [(.val (.int .i64 0)),(.emp 1),(.val (.int .i64 0))])),(none,.op (.store 3 (.tmp 9) (.tmp 19)))]) <|
  .seq (al [ae 20 2,aU 21 3 9,ae 22 1,((some 23),.call (.tmp 20) [(.tmp 21),(.tmp 22)]),aL 24 23,aH 25 0]) <|
  .block 4 (.loop vh))) <|
  al [az 41 .add 16 1,ae 16 41]
def pH:SC :=
  .seq (.seq (al [ae 12 7]) <|
  .cond (.tmp 12) (.skip) (.exit 0)) <|
  .block 1 (.seq (al [aV 7 false]) <|
  .seq (al [au 13 2 3,ao 14 13,aL 15 14,aH 16 0]) <|
  .block 2 (.loop vC))
def ym:SF:=⟨.seq (al [cM 3 0,((some 6),.op (.bc (.val (.emp 1))))]) <|
  .seq (.seq (al [aV 7 true]) <|
  .block 0 (.loop pH)) <|
  .seq (al [ae 42 1,ae 6 42]) <|
  .ret,
  [.tmp 6],43⟩
theorem AT:aW Tryz.prog 204 [3]=some ym:=by kernel_rfl
theorem J7 {is:List Bool} {i:Nat} (h:is.getD i false=true):is.set i true=is:=by
  apply List.ext_getElem?
  intro j
  simp only[List.getD_eq_getElem?_getD] at h
  rw[List.getElem?_set]
  split
  · rename_i e; subst e
    split
    · rename_i hl; rw[List.getElem?_eq_getElem hl] at h ⊢; simp at h; simp[h]
    · rename_i hl; rw[List.getElem?_eq_none (by omega)] at h; simp at h
  · rfl
theorem FJ {comes:aQ→List Bool→List Int} {rules:List aQ} {k:Nat} {is:List Bool} (h:de comes rules is=is):fF comes rules k is=is:=by
  cases k with
  | zero=>rfl
  | succ k=>simp only[fF,h,if_true]
theorem F5 {comes:aQ→List Bool→List Int} {rules:List aQ} {k:Nat} {is:List Bool} (h:¬ de comes rules is=is) (hk:is.length≤cr is+k):∃ j,k=j+1∧fF comes rules k is=fF comes rules j (de comes rules is)∧(de comes rules is).length≤cr (de comes rules is)+j:=by
  have h1:=sf comes rules is
  have h3:=h1.cr
  have h5:=qY (de comes rules is)
  have:cr is < cr (de comes rules is):=by
    rcases Nat.lt_or_ge (cr is) (cr (de comes rules is)) with h | h
    · exact h
    · exact absurd (h3.2 (by omega)).symm (by assumption)
  have hl:=h1.1
  obtain ⟨j,rfl⟩:∃ j,k=j+1:=⟨k - 1,by omega⟩
  exact ⟨j,rfl,by simp only[fF]; rw[if_neg h],by omega⟩
theorem J3 {a is:List Bool} {i:Nat} {b:Bool} (hle:fq a is) (hi:i < is.length) (hb:b = !decide (is=a)):(b || !is.getD i false) = !decide (is.set i true=a):=by
  cases hx:is.getD i false with
  | true=>rw[J7 hx,hb]; simp
  | false =>
    have:¬ is.set i true=a:=fun e=>by
      have h1:(is.set i true).getD i false=true:=by simp[List.getD_eq_getElem?_getD,hi]
      rw[e] at h1
      have:=hle.2 i h1
      rw[hx] at this; simp at this
    simp[this]
set_option maxHeartbeats 8000000 in
theorem FG (g:an) (hr:g.rules.length≤40) (comes:aQ→List Bool→List Int) (f:FuncId) (capt capt':List V) (hok:cX Tryz.prog f=true) (N:Nat) (hN:N≤16)
    (hc:∀ r∈g.rules,∀ is:List Bool,is.length=N→cd Tryz.prog f (.agg (aO r) :: bw is :: capt') (encI (comes r is))∧(comes r is).length≤100∧∀ n∈comes r is,bW n∧0≤n∧n < N)
    (id:Nat) (is0:List Bool) (his:is0.length=N) (H:View) (hH:H id=.arr 1 (bB is0)) (hlent:∀ H':View,(∀ k,H k≠.dead→k≠id→H' k=H k)→oo H' capt capt') :
    aA Tryz.prog 204 [.agg (ar g),.sl id 0 N 1,.fn f [] capt] H fun r H'=>r=.sl id 0 N 1∧H' id=.arr 1 (bB (fF comes g.rules 16 is0))∧∀ k,H k≠.dead→k≠id→H' k=H k:=by
  refine aA.of mixed AT ?_
  simp (disch:=omega) only [↓wr,wq,ai,Nat.reduceAdd,Nat.reduceLeDiff,ym,ar,encS]
  refine bb.intro (fun k T H'=>∃ is:List Bool,is.length=N∧H' id=.arr 1 (bB is)∧(∀ k,H k≠.dead→k≠id→H' k=H k)∧T 1=.sl id 0 N 1∧T 2=.fn f [] capt∧T 3=.aS (ar g) 0 ∧
    ((T 7=gb true∧∃ j,k=j+1∧fF comes g.rules j is=fF comes g.rules 16 is0∧N≤cr is+j)∨(T 7=gb false∧is=fF comes g.rules 16 is0))) 17 ?_ ?_
  · exact ⟨is0,his,hH,fun _ _ _=>rfl,rfl,rfl,rfl,.inl ⟨rfl,16,rfl,rfl,by omega⟩⟩
  rintro k T H1 ⟨is,hlen,hid,hfr,t1,t2,t3,h7⟩
  rcases h7 with ⟨h7,j,rfl,hgr,hj⟩ | ⟨h7,hgr⟩
  · simp (disch:=omega) only [↓wr,↓reduceIte,wq,ak,Nat.reduceEqDiff,Nat.reduceAdd,Nat.reduceLT,reduceCtorEq,pH,t3,h7,ar,encS]
    refine bb.up g.rules.length (fun i T H'=>∃ nj:List Bool,nj.length=N∧fq is nj∧nj=(g.rules.take i).foldl (stepG comes) is∧H' id=.arr 1 (bB nj)∧(∀ k,H k≠.dead→k≠id→H' k=H k)∧T 1=.sl id 0 N 1∧T 2=.fn f [] capt∧T 3=.aS (ar g) 0 ∧
      T 7=gb (!decide (nj=is))∧T 14=.aY (g.rules.map aO)∧T 15=gi g.rules.length∧T 16=gi i) ?_ ?_
    · exact ⟨is,hlen,.refl _,rfl,hid,hfr,t1,t2,t3,by simp; rfl,rfl,rfl,rfl⟩
    clear t1 t2 t3 h7 hid hfr
    rintro i k T H1 hk ⟨nj,hlen2,hle2,hst,hid,hfr,t1,t2,t3,h7,h14,h15,h16⟩
    simp (disch:=omega) only [↓wr,↓reduceIte,wq,ah,vC,h15,h16,ar,encS]
    refine aq.dec (fun hcc=>?_) (fun hcc=>?_)
    · have hg2:g.rules[i]?=some (g.rules[i]'(by omega)):=List.getElem?_eq_getElem (by omega)
      have hmem:g.rules[i]'(by omega)∈g.rules:=List.getElem_mem _
      have htk:(g.rules.take (i+1)).foldl (stepG comes) is=stepG comes ((g.rules.take i).foldl (stepG comes) is) (g.rules[i]'(by omega)):=by
        rw[List.take_add_one,hg2,List.foldl_append]; rfl
      generalize g.rules[i]'(by omega)=r at hg2 hmem htk
      obtain ⟨hcp,hcl,hcn⟩:=hc r hmem nj hlen2
      simp (disch:=omega) only [↓wr,↓reduceIte,wq,aa,Nat.reduceEqDiff,Nat.reduceAdd,Nat.reduceLT,Nat.reduceLeDiff,t1,t2,h14,h16,aO,encI,List.getElem?_map,hg2]
      intro b hb
      have hbid:b≠id:=by rintro rfl; rw[hid] at hb; simp at hb
      try simp (disch:=omega) only [↓wr,↓reduceIte,wq,ai,ah,ak,aa,af,ag,aj,isNil,Nat.reduceEqDiff,Nat.reduceAdd,Nat.reduceLT,Nat.reduceLeDiff,Int.reduceNeg,Int.reduceToNat,reduceCtorEq,t1,t2,t3,h7,h14,h15,h16]
      refine aF.rE hcp hok ⟨di.tree (cE _ (fL r)),zA (by simp[View.set,hbid.symm,hid]) hlen2.symm,hlent _ (fun k hk hki=>?_)⟩ ?_
      · have hkb:k≠b:=by
          rintro rfl
          rw[hfr k hk hki] at hb
          exact hk hb
        simp[View.set,hkb,hfr k hk hki]
      generalize hl:comes r nj=l at hcl hcn
      simp (disch:=omega) only [↓wr,↓reduceIte,wq,ak,encI]
      refine bb.up l.length (fun q T H'=>∃ is3:List Bool,is3.length=N∧fq is is3∧is3=qb nj (l.take q)∧H' id=.arr 1 (bB is3)∧(∀ k,H k≠.dead→k≠id→H' k=H k)∧T 1=.sl id 0 N 1∧T 2=.fn f [] capt∧T 3=.aS (ar g) 0 ∧
        T 7=gb (!decide (is3=is))∧T 14=.aY (g.rules.map aO)∧T 15=gi g.rules.length∧T 16=gi i∧T 23=encI l∧T 24=gi l.length∧T 25=gi q) ?_ ?_
      · refine ⟨nj,hlen2,hle2,rfl,by simp[View.set,hbid.symm,hid],fun k hk hki=>?_,t1,t2,t3,h7,h14,h15,h16,rfl,rfl,rfl⟩
        have hkb:k≠b:=by
          rintro rfl
          rw[hfr k hk hki] at hb
          exact hk hb
        simp[View.set,hkb,hfr k hk hki]
      clear t1 t2 t3 h7 h14 h15 h16 hid hfr hb hbid
      rintro q k2 T H1 hk2 ⟨is3,hlen3,hle3,hst3,hid,hfr,t1,t2,t3,h7,h14,h15,h16,h23,h24,h25⟩
      simp (disch:=omega) only [↓wr,↓reduceIte,wq,ah,vh,h24,h25,encI]
      refine aq.dec (fun hqc=>?_) (fun hqc=>?_)
      · have hgq:l[q]?=some (l[q]'(by omega)):=List.getElem?_eq_getElem (by omega)
        have hmq:l[q]'(by omega)∈l:=List.getElem_mem _
        have htq:qb nj (l.take (q+1))=(qb nj (l.take q)).set (l[q]'(by omega)).toNat true:=by
          unfold qb; rw[List.take_add_one,hgq,List.foldl_append]; rfl
        generalize l[q]'(by omega)=n at hgq hmq htq
        obtain ⟨⟨n1,n2⟩,n3,n4⟩:=hcn n hmq
        have hbn:is3.getD n.toNat false=is3[n.toNat]'(by omega):=by simp[List.getD_eq_getElem?_getD,show n.toNat < is3.length by omega]
        have hnew:=J3 hle3 (show n.toNat < is3.length by omega) (b:=!decide (is3=is)) rfl
        rw[hbn] at hnew
        have hbg:=fN (show n.toNat < is3.length by omega)
        generalize is3[n.toNat]'(by omega)=x at hnew hbg hbn
        have fin:∀ (T2:Env),T2 7=gb (!decide (is3.set n.toNat true=is))→T2 1=.sl id 0 N 1→T2 2=.fn f [] capt→T2 3=.aS (ar g) 0→T2 14=.aY (g.rules.map aO)→T2 15=gi g.rules.length→T2 16=gi i→T2 23=encI l→T2 24=gi l.length→T2 25=gi ((q:Int)+1) →
            ∃ k',k' < k2∧Ck l.length k' (fun q T H'=>∃ is3:List Bool,is3.length=N∧fq is is3∧is3=qb nj (l.take q)∧H' id=.arr 1 (bB is3)∧(∀ k,H k≠.dead→k≠id→H' k=H k)∧T 1=.sl id 0 N 1∧T 2=.fn f [] capt∧T 3=.aS (ar g) 0 ∧
              T 7=gb (!decide (is3=is))∧T 14=.aY (g.rules.map aO)∧T 15=gi g.rules.length∧T 16=gi i∧T 23=encI l∧T 24=gi l.length∧T 25=gi q) T2 (H1.set id (.arr 1 (bB (is3.set n.toNat true)))):=by
          intro T2 a7 a1 a2 a3 a14 a15 a16 a23 a24 a25
          refine aK hk2 (by omega) ⟨is3.set n.toNat true,by simp[hlen3],hle3.trans (.set _ _),by rw[htq,← hst3],by simp[View.set],fun k hk hki=>by simp[View.set,hki,hfr k hk hki],a1,a2,a3,a7,a14,a15,a16,a23,a24,by rw[a25]; rfl⟩
        simp (disch:=omega) only [↓wr,↓reduceIte,wq,Nat.reduceEqDiff,Nat.reduceLT,h7,h23,h25,encI,List.getElem?_map,hgq]
        refine aq.dec (fun e=>?_) (fun e=>?_)
        · simp (disch:=omega) only [↓wr,↓reduceIte,wq,ah,aa,Nat.reduceEqDiff,Nat.reduceLT,Nat.reduceLeDiff,reduceCtorEq,t1,t2,t3,h16,h25,hid,hbg]
          refine ⟨by omega,by omega,?_⟩
          try simp (disch:=omega) only [↓wr,↓reduceIte,wq,ai,ah,ak,aa,af,ag,aj,isNil,Nat.reduceEqDiff,Nat.reduceAdd,Nat.reduceLT,Nat.reduceLeDiff,Int.reduceNeg,Int.reduceToNat,reduceCtorEq,t1,t2,t3,h7,h14,h15,h16,h23,h24,h25,encI,hid,hbg,List.length_map]
          refine ⟨by omega,by omega,?_⟩
          rw[dN]
          exact fin _ (by rw[← hnew]; simp[e]; rfl) t1 t2 t3 h14 h15 h16 h23 h24 rfl
        · simp (disch:=omega) only [↓wr,↓reduceIte,wq,ah,aa,Nat.reduceEqDiff,Nat.reduceLeDiff,reduceCtorEq,t1,t2,t3,h16,h25,hid,hbg]
          refine ⟨by omega,by omega,?_⟩
          rw[dN]
          exact fin _ (by rw[← hnew]; simp[e]; rfl) t1 t2 t3 h14 h15 h16 h23 h24 rfl
      · rw[List.take_of_length_le (by omega)] at hst3
        simp (disch:=omega) only [↓wr,↓reduceIte,wq,Nat.reduceEqDiff,reduceCtorEq,t1,t2,t3,h7,h16]
        refine aK hk (by omega) ⟨is3,hlen3,hle3,?_,hid,hfr,t1,t2,t3,h7,h14,h15,rfl⟩
        rw[htk,← hst,stepG,hl,← hst3]
    · rw[List.take_of_length_le (by omega)] at hst
      simp (disch:=omega) only [↓wr,↓reduceIte,wq,Nat.reduceEqDiff,reduceCtorEq,t1,t2,t3,h7]
      have hrd:nj=de comes g.rules is:=hst
      by_cases e:nj=is
      · refine ⟨0,by omega,nj,hlen2,hid,hfr,rfl,.inr ⟨by simp[e],?_⟩⟩
        rw[← hgr,e]
        exact (FJ (by rw[← hrd]; exact e)).symm
      · obtain ⟨j2,rfl,e2,e3⟩:=F5 (k:=j) (fun h=>e (hrd.trans h)) (by rw[hlen]; exact hj)
        refine ⟨j2+1,by omega,nj,hlen2,hid,hfr,rfl,.inl ⟨by simp[e],j2,rfl,?_,?_⟩⟩
        · rw[← hgr,e2,hrd]
        · rw[← hrd,hlen2] at e3; exact e3
  · simp (disch:=omega) only [↓wr,↓reduceIte,wq,Nat.reduceEqDiff,reduceCtorEq,pH,t1,h7,ar,encS]
    exact ⟨hgr ▸ hid,hfr⟩
theorem zf {α:Type} {f:α→α} {x:α} (h:f x=x):∀ n,iter f n x=x
  | 0=>rfl
  | n+1=>by rw[iter,h,zf h n]
theorem Da {α:Type} (f:α→α):∀ (a b:Nat) (x:α),iter f (a+b) x=iter f b (iter f a x)
  | 0,b,x=>by rw[Nat.zero_add]; rfl
  | a+1,b,x=>by rw[Nat.add_right_comm,iter,iter,Da f a b]
theorem zx (comes:aQ→List Bool→List Int) (rules:List aQ):∀ (k:Nat) (is:List Bool),fF comes rules k is=iter (de comes rules) k is
  | 0,is=>rfl
  | k+1,is=>by
    simp only[fF,iter]
    by_cases e:de comes rules is=is
    · rw[if_pos e,e,zf e]
    · rw[if_neg e,zx comes rules k]
theorem v8 (comes:aQ→List Bool→List Int) (rules:List aQ) (is:List Bool) (h:is.length≤16):fF comes rules 16 is=iter (de comes rules) is.length is:=by
  have h1:=(rC comes rules is.length is (by omega)).1
  rw[zx] at h1 ⊢
  obtain ⟨m,hm⟩:∃ m,16=is.length+m:=⟨16 - is.length,by omega⟩
  rw[hm,Da,zf h1]
def qD (t:Bool) (r:aQ) (is:List Bool):List Int:=if dt r.right is t=true then [r.left] else []
def qZ (p:List Bool) (r:aQ) (is:List Bool):List Int:=if (is.getD r.left.toNat false && dt r.right p true)=true then fb r.right else []
theorem Fa (g:an) (t:Bool):de (qD t) g.rules=iO g t:=by
  funext is
  unfold de iO
  congr 1
  funext is r
  unfold stepG qD dx
  split <;> rfl
theorem zI:∀ (l:List Int) (is:List Bool),qb is (fb l)=l.foldl mark is
  | [],is=>rfl
  | s :: l,is=>by
    have ih:=zI l
    unfold qb fb at ih ⊢
    rw[List.foldl_cons,← ih]
    unfold mark
    by_cases h:s < 0
    · rw[if_pos h,List.filter_cons_of_pos (by simpa using h)]; rfl
    · rw[if_neg h,List.filter_cons_of_neg (by simpa using h)]
theorem FC (g:an) (p:List Bool):de (qZ p) g.rules=mq g p:=by
  funext is
  unfold de mq
  congr 1
  funext is r
  unfold stepG qZ eE
  split
  · exact zI _ _
  · rfl
theorem II {g:an} (h:bp g=true) (t:Bool):fF (qD t) g.rules 16 (bV g)=aJ g t:=by
  have hf:=aZ h
  have hl:(bV g).length=g.av.length:=by simp[bV]
  have:=hf.av
  rw[v8 _ _ _ (by rw[hl]; exact hf.av),Fa,hl,aJ,if_pos h]
theorem Jh {g:an} (h:bp g=true):fF (qZ (aJ g true)) g.rules 16 ((bV g).set g.start.toNat true)=bu g:=by
  have hf:=aZ h
  have hl:((bV g).set g.start.toNat true).length=g.av.length:=by simp[bV]
  rw[v8 _ _ _ (by rw[hl]; exact hf.av),FC,hl,bu,if_pos h]
def pM:SF:=⟨.seq (al [cM 1 0,((some 2),.op (.bc (.val (.emp 1))))]) <|
  .seq (.seq (al [aU 3 4 1,aN 4 45 [3],bZ 5 4]) <|
  .cond (.tmp 5) (.seq (al [((some 2),.op (.bc (.val (.emp 1))))]) <|
  .ret) (.skip)) <|
  .seq (al [aU 6 4 1,au 7 1 1,ao 8 7,aL 9 8,((some 10),.op (.make 1 1 [(.val (.bool false))] (.tmp 9) (.tmp 9))),cT 11 204 [(.tmp 6),(.tmp 10),(.val (.fn 205 [] []))],ae 2 11]) <|
  .ret,
  [.tmp 2],12⟩
theorem uM:aW Tryz.prog 160 [1]=some pM:=by kernel_rfl
def qy:SF:=⟨.seq (al [cM 1 0,((some 2),.op (.bc (.val (.emp 1))))]) <|
  .seq (.seq (al [aU 5 4 1,aN 6 45 [5],bZ 7 6]) <|
  .cond (.tmp 7) (.seq (al [((some 2),.op (.bc (.val (.emp 1))))]) <|
  .ret) (.skip)) <|
  .seq (al [aU 8 4 1,aN 9 160 [8],((some 3),.op (.alloc [(.emp 1)])),(none,.op (.store 1 (.tmp 3) (.tmp 9)))]) <|
  .seq (al [au 10 1 1,ao 11 10,aL 12 11,((some 13),.op (.make 1 1 [(.val (.bool false))] (.tmp 12) (.tmp 12))),ae 4 13]) <|
  .seq (al [ae 14 4,au 15 3 1,ao 16 15,aP 17 1 14 16,(none,.op (.store 1 (.tmp 17) (.val (.val (.bool true)))))]) <|
  .seq (al [aU 18 4 1,ae 19 4,((some 20),.op (.uI 206 [] [(.tmp 3)])),aN 21 204 [18,19,20],ae 2 21]) <|
  .ret,
  [.tmp 2],22⟩
theorem vF:aW Tryz.prog 161 [1]=some qy:=by kernel_rfl
structure an.Small (g:an):Prop where
  names:g.av.length+g.ax.length≤1000
theorem BB {h':aE} {id n:Nat} {is:List Bool} (hv:h'.view id=.arr 1 (bB is)) (hn:n=is.length):c7 h' (.sl id 0 n 1) (bw is):=by
  subst hn; exact jB hv
set_option maxHeartbeats 2000000 in
theorem tJ (g:an) (hg:g.Ok) (hs:g.Small):cd Tryz.prog 160 [.agg (ar g)] (bw (aJ g true)):=by
  refine cd.of (eA g) ?_
  refine aA.of mixed uM ?_
  have hn:=hg.av
  unfold aM at hn
  simp (disch:=omega) only [↓wr,↓reduceIte,wq,ai,Nat.reduceEqDiff,Nat.reduceAdd,Nat.reduceLeDiff,pM,ar,encS]
  refine aF.pure (lD g hg hs.names) (by kernel_rfl) ?_
  repeat' (first | (refine aq.dec (fun _=>?_) (fun _=>?_)) | (refine aq.eq (fun _=>?_) (fun _=>?_)) | (refine aq.ne (fun _=>?_) (fun _=>?_)) | (refine aq.split (fun _=>?_) (fun _=>?_)) | (simp (disch:=omega) only [↓wr,↓reduceIte,wq,ak,Nat.reduceEqDiff,Nat.reduceAdd,Nat.reduceLT,Nat.reduceLeDiff,reduceCtorEq]))
  · rename_i hr
    have hf:=aZ hr
    have h1:=hf.p8
    have h2:=hf.av
    try simp (disch:=omega) only [↓wr,↓reduceIte,wq,ai,ah,ak,aa,af,ag,aj,isNil,Nat.reduceEqDiff,Nat.reduceAdd,Nat.reduceLT,Nat.reduceLeDiff,Int.reduceNeg,Int.reduceToNat,reduceCtorEq,ar,encS]
    refine ⟨⟨by omega,by unfold aI; omega,by unfold aI; omega⟩,fun h=>by omega,?_⟩
    intro _ n
    try simp (disch:=omega) only [↓wr,↓reduceIte,wq,ai,ah,ak,aa,af,ag,aj,isNil,Nat.reduceEqDiff,Nat.reduceAdd,Nat.reduceLT,Nat.reduceLeDiff,Int.reduceNeg,Int.reduceToNat,reduceCtorEq,ar,encS]
    refine aF.iy ((FG g hf.rules (qD true) 205 [] [] (by kernel_rfl) g.av.length h2 (fun r hr' is his=>⟨A7 r is (by rw[his]; exact hf.tB hg hr'),?_,?_⟩) n (bV g) (by simp[bV]) _ (by simp[View.set,bV]) (fun H' _=>trivial)).mono ?_)
    · unfold qD; split <;> simp
    · intro m hm
      unfold qD at hm
      split at hm
      · simp only[List.mem_singleton] at hm; subst hm
        exact ⟨(hg.bd r hr').1,hf.left r hr'⟩
      · simp at hm
    · rintro r H' ⟨rfl,hid,_⟩
      simp (disch:=omega) only [↓wr,↓reduceIte,wq,reduceCtorEq]
      intro h' hh
      rw[II hr] at hid
      exact BB (by rw[hh]; exact hid) (iN hr _).symm
  · rename_i hr
    intro h' hh
    simp only[aJ,hr]
    exact .emp _
theorem ou {g:an} (hr:bp g=true):(bu g).length=g.av.length:=by
  rw[bu,if_pos hr,yE (f:=mq g (aJ g true)) (fun is=>yK (fun is x=>Jg _ is x) g.rules is)]
  simp[bV]
set_option maxHeartbeats 2000000 in
theorem CI (g:an) (hg:g.Ok) (hs:g.Small):cd Tryz.prog 161 [.agg (ar g)] (bw (bu g)):=by
  refine cd.of (eA g) ?_
  refine aA.of mixed vF ?_
  have hn:=hg.av
  unfold aM at hn
  simp (disch:=omega) only [↓wr,↓reduceIte,wq,ai,Nat.reduceEqDiff,Nat.reduceAdd,Nat.reduceLeDiff,qy,ar,encS]
  refine aF.pure (lD g hg hs.names) (by kernel_rfl) ?_
  repeat' (first | (refine aq.dec (fun _=>?_) (fun _=>?_)) | (refine aq.eq (fun _=>?_) (fun _=>?_)) | (refine aq.ne (fun _=>?_) (fun _=>?_)) | (refine aq.split (fun _=>?_) (fun _=>?_)) | (simp (disch:=omega) only [↓wr,↓reduceIte,wq,Nat.reduceEqDiff,Nat.reduceAdd,Nat.reduceLeDiff,reduceCtorEq]))
  · rename_i hr
    have hf:=aZ hr
    have h1:=hf.p8
    have h2:=hf.av
    have h3:=hf.dW
    have h4:=hf.start
    have hpl:=iN hr true
    try simp (disch:=omega) only [↓wr,↓reduceIte,wq,ai,ah,ak,aa,af,ag,aj,isNil,Nat.reduceEqDiff,Nat.reduceAdd,Nat.reduceLT,Nat.reduceLeDiff,Int.reduceNeg,Int.reduceToNat,reduceCtorEq,ar,encS]
    refine aF.pure (tJ g hg hs).pure (by kernel_rfl) ?_
    simp (disch:=omega) only [↓wr,↓reduceIte,wq,ak,aa,Nat.reduceEqDiff,Nat.reduceAdd,Nat.reduceLT,Nat.reduceLeDiff,bw]
    intro q
    try simp (disch:=omega) only [↓wr,↓reduceIte,wq,ai,ah,ak,aa,af,ag,aj,isNil,Nat.reduceEqDiff,Nat.reduceAdd,Nat.reduceLT,Nat.reduceLeDiff,Int.reduceNeg,Int.reduceToNat,reduceCtorEq,ar,encS,set_set]
    refine ⟨⟨by omega,by unfold aI; omega,by unfold aI; omega⟩,fun h=>by omega,?_⟩
    intro _ n hn'
    have hnq:=(cg hn' ca).1
    try simp (disch:=omega) only [↓wr,↓reduceIte,wq,ai,ah,ak,aa,af,ag,aj,isNil,Nat.reduceEqDiff,Nat.reduceAdd,Nat.reduceLT,Nat.reduceLeDiff,Int.reduceNeg,Int.reduceToNat,reduceCtorEq,ar,encS,set_set]
    have hbg:=fN (is:=bV g) (show g.start.toNat < (bV g).length by simp[bV]; omega)
    refine ⟨by omega,by simp; omega,?_⟩
    refine aF.iy ((FG g hf.rules (qZ (aJ g true)) 206 [.ptr q 0 0] [.aS [bw (aJ g true)] 0] (by kernel_rfl) g.av.length h2 (fun r hr' is his=>⟨CH r is (aJ g true) (by rw[his]; exact hf.tB hg hr') (by rw[his,hpl]),?_,?_⟩) n ((bV g).set g.start.toNat true) (by simp[bV]) _ ?_ (fun H' hfr=>⟨di.box (z:=1) ?_ ?_,trivial⟩)).mono ?_)
    · have h6:=hf.right r hr'
      unfold qZ
      split
      · have:(fb r.right).length≤r.right.length:=by simp only[fb,List.length_map]; exact List.length_filter_le _ _
        omega
      · simp
    · intro m hm
      unfold qZ at hm
      split at hm
      · simp only[fb,List.mem_map,List.mem_filter,decide_eq_true_eq] at hm
        obtain ⟨s,⟨hs',hneg⟩,rfl⟩:=hm
        have a:=hf.neg hr' hs' hneg
        have b:=((hg.bd r hr').2.2.2 s hs').1
        exact ⟨⟨by omega,by omega⟩,by omega,a⟩
      · simp at hm
    · simp only[View.set,if_true]
      congr 1
      rw[← dN]
      unfold bV at hbg ⊢
      rw[vY,hbg]
      rfl
    · rw[hfr q (by simp[View.set,Ne.symm hnq]) (Ne.symm hnq)]
      simp[View.set,Ne.symm hnq]
      rfl
    · intro v hv; simp at hv; subst hv; exact fQ _
    · rintro r H' ⟨rfl,hid,_⟩
      simp (disch:=omega) only [↓wr,↓reduceIte,wq,reduceCtorEq]
      intro h' hh
      rw[Jh hr] at hid
      exact BB (by rw[hh]; exact hid) (by rw[ou hr])
  · rename_i hr
    intro h' hh
    simp only[bu,hr]
    exact .emp _
def bD (p q:List Bool) (r:aQ):Bool:=q.getD r.left.toNat false && dt r.right p true
def cq (p q:List Bool):List aQ→Int→List Int
  | [],_=>[]
  | r :: l,i=>if bD p q r=true then i :: cq p q l (i+1) else cq p q l (i+1)
def dd (acc:List Int) (r:aQ):List Int:=if r.left∈acc then acc else acc ++ [r.left]
def bL (p q:List Bool) (l:List aQ):List Int:=(l.filter (bD p q)).foldl dd []
def bh (o:List Int) (x:Int):Int:=cK (fun y=>y == x) o 0
def bf (f:Int→Int) (r:aQ):aQ:=⟨f r.left,r.right.map fun s=>if s < 0 then -1 - f (-1 - s) else s,r.prec⟩
def iX (g:an) (f:Int→Int) (p q:List Bool):an :=
  ⟨g.ax,(bL p q g.rules).map fun x=>g.av.getD x.toNat ⟨#[]⟩,(g.rules.filter (bD p q)).map (bf f),f g.start⟩
def q6:an:=⟨[],[],[],0⟩
instance:DecidableEq Term:=fun a b=>decidable_of_iff (a.name=b.name∧a.level=b.level∧a.assoc=b.assoc) (by cases a; cases b; simp)
instance:DecidableEq aQ:=fun a b=>decidable_of_iff (a.left=b.left∧a.prec=b.prec∧a.right=b.right) (by cases a; cases b; simp[and_comm])
instance:DecidableEq an:=fun a b=>decidable_of_iff (a.ax=b.ax∧a.av=b.av∧a.rules=b.rules∧a.start=b.start) (by cases a; cases b; simp)
def eP (g:an):an × List Int × Int :=
  if bp g=true then
    if (aJ g true).getD g.start.toNat false=true then (iX g (bh (bL (aJ g true) (bu g) g.rules)) (aJ g true) (bu g),cq (aJ g true) (bu g) g.rules 0,0)
    else (q6,[],9)
  else (q6,[],1)
theorem mC {g:an} (hr:bp g=true):eP g=if (aJ g true).getD g.start.toNat false=true then (iX g (bh (bL (aJ g true) (bu g) g.rules)) (aJ g true) (bu g),cq (aJ g true) (bu g) g.rules 0,0) else (q6,[],9):=by
  rw[eP,if_pos hr]
theorem jS (p q:List Bool):∀ (a b:List aQ) (i:Int),cq p q (a ++ b) i=cq p q a i ++ cq p q b (i+a.length)
  | [],b,i=>by simp[cq]
  | r :: a,b,i=>by
    simp only[List.cons_append,cq,jS p q a b (i+1),List.length_cons]
    have:i+1+(a.length:Int)=i+((a.length+1:Nat):Int):=by push_cast; omega
    rw[this]
    split <;> simp
theorem ju (p q:List Bool):∀ (a:List aQ) (i:Int),(cq p q a i).length=(a.filter (bD p q)).length
  | [],i=>rfl
  | r :: a,i=>by
    simp only[cq,List.filter_cons]
    split <;> simp[ju p q a]
theorem r5 (p q:List Bool):∀ (a:List aQ) (i:Int) (k:Nat),k < (cq p q a i).length→∃ m:Nat,(cq p q a i)[k]?=some (i+m)∧a[m]?=(a.filter (bD p q))[k]?∧m < a.length
  | [],i,k,h=>by simp[cq] at h
  | r :: a,i,k,h=>by
    simp only[cq,List.filter_cons] at h ⊢
    by_cases hr:bD p q r=true
    · rw[if_pos hr] at h ⊢
      rw[if_pos hr]
      cases k with
      | zero=>exact ⟨0,by simp,by simp,by simp⟩
      | succ k =>
        obtain ⟨m,h1,h2,h3⟩:=r5 p q a (i+1) k (by simpa using h)
        exact ⟨m+1,by rw[List.getElem?_cons_succ,h1]; congr 1; push_cast; omega,by simpa using h2,by simpa using h3⟩
    · rw[if_neg hr] at h ⊢
      rw[if_neg hr]
      obtain ⟨m,h1,h2,h3⟩:=r5 p q a (i+1) k h
      exact ⟨m+1,by rw[h1]; congr 1; push_cast; omega,by simpa using h2,by simpa using h3⟩
theorem rH (p q:List Bool) (l:List aQ) (r:aQ):bL p q (l ++ [r])=if bD p q r=true then dd (bL p q l) r else bL p q l:=by
  unfold bL
  rw[List.filter_append]
  by_cases h:bD p q r=true
  · rw[if_pos h,List.filter_cons_of_pos h,List.foldl_append]; rfl
  · rw[if_neg h,List.filter_cons_of_neg h]; simp
theorem zN {acc:List Int} {r:aQ} (h:acc.Nodup):(dd acc r).Nodup:=by
  unfold dd
  split
  · exact h
  · rename_i hn
    rw[List.nodup_append]
    exact ⟨h,by simp,fun a ha b hb e=>hn (by simp at hb; rw[← hb,← e]; exact ha)⟩
theorem q7 {o:List Int} {x:Int} : bh o x < 0↔x ∉ o:=by
  have:=nS (fun y=>y == x) o 0 (by omega)
  unfold bh
  rw[← Int.not_le]
  constructor
  · intro h hx
    have e:(o.any fun y=>y == x)=true:=List.any_eq_true.2 ⟨x,hx,by simp⟩
    rw[e] at this; exact h (by simpa using this)
  · intro h hx
    have e:(o.any fun y=>y == x)=true:=by rw[← this]; simpa using hx
    obtain ⟨y,hy,e⟩:=List.any_eq_true.1 e
    simp at e; subst e; exact h hy
theorem sm {α:Type} (p:α→Bool):∀ (a b:List α) (i:Int),0≤i→cK p (a ++ b) i=if 0≤cK p a i then cK p a i else cK p b (i+a.length)
  | [],b,i,_=>by simp[cK]
  | x :: a,b,i,h=>by
    by_cases hp:p x=true
    · simp[cK,hp,h]
    · simp only[List.cons_append,cK,if_neg hp]
      rw[sm p a b (i+1) (by omega)]
      have:i+1+(a.length:Int)=i+(((x :: a).length:Nat):Int):=by simp; omega
      rw[this]
theorem Ho {o:List Int} {x y:Int} (hx:x ∉ o):bh (o ++ [x]) y=if y=x then (o.length:Int) else bh o y:=by
  unfold bh
  rw[sm _ _ _ _ (by omega)]
  by_cases e:y=x
  · subst e
    rw[if_neg (by have:=q7.2 hx; unfold bh at this; omega),if_pos rfl]
    simp[cK]
  · rw[if_neg e]
    split
    · rfl
    · rename_i h
      have:bh o y < 0:=by unfold bh; omega
      have h2:cK (fun z=>z == y) [x] (0+(o.length:Int)) = -1:=by simp[cK,Ne.symm e]
      rw[h2]
      have:∀ (l:List Int) (i:Int),¬ 0≤cK (fun z=>z == y) l i→0≤i→cK (fun z=>z == y) l i = -1:=by
        intro l
        induction l with
        | nil=>intro i _ _; rfl
        | cons z l ih =>
          intro i h1 h2
          simp only[cK] at h1 ⊢
          split
          · rename_i hz; rw[if_pos hz] at h1; omega
          · rename_i hz; rw[if_neg hz] at h1; exact ih _ h1 (by omega)
      exact (this o 0 h (by omega)).symm
theorem jT {o:List Int} {x:Int} (h:x∈o):0≤bh o x∧bh o x < o.length:=by
  have h0:¬ bh o x < 0:=fun e=>q7.1 e h
  refine ⟨by omega,?_⟩
  unfold bh
  have:∀ (l:List Int) (i:Int),cK (fun z=>z == x) l i < i+l.length∨cK (fun z=>z == x) l i = -1:=by
    intro l
    induction l with
    | nil=>intro i; right; rfl
    | cons z l ih =>
      intro i
      simp only[cK]
      split
      · left; simp; omega
      · rcases ih (i+1) with h | h
        · left; simp at h ⊢; omega
        · right; exact h
  rcases this o 0 with h1 | h1
  · simpa using h1
  · unfold bh at h0; omega
theorem AJ (o:List Int) (x:Int) : -1≤bh o x∧bh o x≤o.length:=by
  by_cases h:x∈o
  · have:=jT h; omega
  · have h1:=q7.2 h
    have h2:∀ (l:List Int) (i:Int),0≤i→-1≤cK (fun z=>z == x) l i:=by
      intro l
      induction l with
      | nil=>intro i _; simp[cK]
      | cons z l ih =>
        intro i hi
        simp only[cK]
        split
        · omega
        · exact ih _ (by omega)
    have:=h2 o 0 (by omega)
    unfold bh at h1 ⊢
    omega
def iC:List Int→Int→List (Int × Int)
  | [],_=>[]
  | x :: l,i=>(x,i) :: iC l (i+1)
theorem rW (x:Int):∀ (o:List Int) (i:Int),dr (iC o i) x=if x∈o then some (cK (fun y=>y == x) o i) else none
  | [],i=>by simp[iC,dr]
  | y :: o,i=>by
    have ih:=rW x o (i+1)
    unfold dr at ih ⊢
    simp only[iC,List.find?_cons,cK]
    by_cases e:x=y
    · subst e; simp
    · have e2:¬ ((y == x)=true):=by simp[Ne.symm e]
      rw[show (x == y)=false by simp[e],if_neg e2]
      simp only
      rw[ih]
      simp[e]
theorem BZ {x v:Int} : ∀ {o:List Int} {i:Int},x ∉ o→iV x v (iC o i)=iC o i ++ [(x,v)]
  | [],i,_=>rfl
  | y :: o,i,h=>by
    simp only[List.mem_cons,not_or] at h
    simp only[iC,iV,show (x == y)=false by simp[h.1],Bool.false_eq_true,if_false,BZ h.2,List.cons_append]
theorem zJ {x:Int} : ∀ {o:List Int} {i:Int},iC (o ++ [x]) i=iC o i ++ [(x,i+o.length)]
  | [],i=>by simp[iC]
  | y :: o,i=>by
    simp only[List.cons_append,iC,zJ (o:=o),List.length_cons]
    congr 4
    push_cast; omega
def dg (o:List Int) (x:Int):Int:=(dr (iC o 0) x).getD 0
theorem xH {o:List Int} {x:Int} (h:x∈o):dg o x=bh o x:=by
  simp[dg,rW,h,bh]
theorem MM (o:List Int) (x:Int):0≤dg o x∧dg o x≤o.length:=by
  by_cases h:x∈o
  · rw[xH h]; have:=jT h; omega
  · simp[dg,rW,h]
theorem Io {g:an} {p q:List Bool} (hst:g.start∈bL p q g.rules) (hin:∀ r∈g.rules.filter (bD p q),r.left∈bL p q g.rules∧∀ s∈r.right,s < 0→-1 - s∈bL p q g.rules) :
    iX g (dg (bL p q g.rules)) p q=iX g (bh (bL p q g.rules)) p q:=by
  unfold iX
  congr 1
  · apply List.map_congr_left
    intro r hr
    obtain ⟨h1,h2⟩:=hin r hr
    unfold bf
    congr 1
    · exact xH h1
    · apply List.map_congr_left
      intro s hs
      split
      · rename_i h; rw[xH (h2 s hs h)]
      · rfl
  · exact xH hst
theorem tF:∀ (l:List aQ) (acc:List Int) (x:Int),x∈l.foldl dd acc↔x∈acc∨∃ r∈l,r.left=x
  | [],acc,x=>by simp
  | r :: l,acc,x=>by
    rw[List.foldl_cons,tF l]
    have:x∈dd acc r↔x∈acc∨r.left=x:=by
      unfold dd
      split
      · rename_i h
        constructor
        · exact .inl
        · rintro (h' | rfl)
          · exact h'
          · exact h
      · simp[eq_comm]
    rw[this]
    simp only[List.mem_cons,exists_eq_or_imp]
    constructor
    · rintro ((h | h) | h)
      · exact .inl h
      · exact .inr (.inl h)
      · exact .inr (.inr h)
    · rintro (h | h | h)
      · exact .inl (.inl h)
      · exact .inl (.inr h)
      · exact .inr h
theorem q8 {p q:List Bool} {l:List aQ} {x:Int} : x∈bL p q l↔∃ r∈l,bD p q r=true∧r.left=x:=by
  unfold bL
  rw[tF]
  simp[List.mem_filter,and_assoc]
end Gv
