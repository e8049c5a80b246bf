/-
  Part 10 of the proof: what the machine does and what the functions answer.
  Conditions: those that each lemma names.
-/
import Derived.ProofKit
import Derived.SizedLaws
import Derived.Test.YtgniimkconobpaaGreatSGzOI
set_option linter.unusedSimpArgs false
set_option linter.unusedVariables false
set_option linter.unusedSimpArgs false
set_option maxRecDepth 100000
namespace Gv
open Go Go.Proofs
theorem bL.eC {P:Program} {f:FuncId} {h:aE} (h1:bL P f [.emp 1] h (.emp 1) h) (h2:bL P f [.emp 2] h (.emp 2) h) (h3:bL P f [.dq] h (.emp 2) h):bL P f [.aY []] h (.emp 0) h:=by
  refine ⟨Nat.le_refl _,fun Z μ F w xs hrel hr hfree=>?_⟩
  obtain ⟨hl,hv⟩:=hrel
  obtain ⟨x,rfl⟩:∃ x,xs=[x]:=by
    match xs,hl with
    | [x],_=>exact ⟨x,rfl⟩
  have h0:ay Z μ w.heap (.aY []) x:=hv 0 (by simp)
  have one:∀ v,ay Z μ w.heap v x→dx Z μ w.heap [v] [x]:=fun v h=>⟨rfl,fun i hi=>by
    simp at hi; subst hi; exact h⟩
  have weak:∀ k,bL P f [if k=3 then .dq else .emp k] h (if k=3 then .emp 2 else .emp k) h→ay Z μ w.heap (if k=3 then .dq else .emp k) x→Calls P f [x].toArray w fun e w'=>∃ x Z' μ',e=.returned x∧ay Z' μ' w'.heap (.emp 0) x∧eD Z' μ' w'.heap (cat h F)∧Ext Z μ w h.length Z' μ' w'∧(∀ id,id < h.length∨h.length≤id→μ' id=μ id):=by
    intro k hk hx
    refine (hk.2 Z μ F w [x] (one _ hx) hr hfree).mono ?_
    rintro e w' ⟨y,Z',μ',rfl,hy,rest⟩
    refine ⟨y,Z',μ',rfl,?_,rest⟩
    have:∀ k',ay Z' μ' w'.heap (.emp k') y→ay Z' μ' w'.heap (.emp 0) y:=fun k' h=>by
      cases h with | emp _ a _ _=>exact .emp 0 a (by simp) (by simp)
    split at hy <;> exact this _ hy
  rcases B7 h0 with ⟨_,a,cap,rfl,hz⟩ | ⟨b,off,esz,cap,c,rfl,_,_,_⟩
  · cases a with
    | none =>
      have:=hz rfl
      subst this
      exact weak 1 (by simpa using h1) (.emp 1 none (by simp) (by simp))
    | some a =>
      cases cap with
      | zero=>exact weak 2 (by simpa using h2) (.emp 2 (some a) (by simp) (by simp))
      | succ c=>exact weak 3 (by simpa using h3) (.dq a (c+1))
  · cases cap with
    | zero=>exact weak 2 (by simpa using h2) (.emp 2 (some ⟨b,off,none⟩) (by simp) (by simp))
    | succ c=>exact weak 3 (by simpa using h3) (.dq ⟨b,off,none⟩ (c+1))
def wM (sz:Nat) (es:List (List V)) (H:View) (K:V→View→Prop):Prop :=
  (es=[]→∀ k,K (.emp k) H)∧(es≠[]→∀ n,H n=.dead→K (.sl n 0 es.length sz) (H.set n (.arr sz es)))
def bO:SF:=⟨.seq (al [((some 2),.op (.bg (.val (.emp 1))))]) <|
  .seq (.seq (al [aa 3 0,((some 4),.op (.nil true 0 (.tmp 3) (.val (.emp 1))))]) <|
  .cond (.tmp 4) (.seq (al [((some 2),.op (.bg (.val (.emp 1))))]) <|
  .ret) (.skip)) <|
  .seq (al [((some 5),.op (.bg (.val (.emp 2)))),aa 6 0,((some 7),.op (.app 1 16 (.tmp 5) (.tmp 6))),aa 2 7]) <|
  .ret,
  [.tmp 2],8⟩
theorem cb:aR Tryz.prog 59 []=some bO:=by kernel_rfl
def bZ:SF:=⟨.seq (al [((some 2),.op (.bg (.val (.emp 1))))]) <|
  .seq (.seq (al [aa 3 0,((some 4),.op (.nil true 0 (.tmp 3) (.val (.emp 1))))]) <|
  .cond (.tmp 4) (.seq (al [((some 2),.op (.bg (.val (.emp 1))))]) <|
  .ret) (.skip)) <|
  .seq (al [((some 5),.op (.bg (.val (.emp 2)))),aa 6 0,((some 7),.op (.app 1 8 (.tmp 5) (.tmp 6))),aa 2 7]) <|
  .ret,
  [.tmp 2],8⟩
theorem cd:aR Tryz.prog 76 []=some bZ:=by kernel_rfl
theorem aC.tree {P:Program} {f:FuncId} {vs:List V} {t:V} (hv:∀ v∈vs,Tree v) (ht:Tree t) (h:∀ H,aB P f vs H fun r _=>r=t):aC P f vs t :=
  aC.of hv ((h _).mono fun r H' e h' _=>by rw[e]; exact .tree _ ht)
theorem uF {H:View} : bD H .dq=some ([],[]):=id rfl
theorem m4 {H:View} (sz bytes k:Nat) (K:V→View→Prop) (w:bP (H,K)):nj sz bytes (.emp k) [] H K w=K (.emp k) H:=propext Iff.rfl
theorem Fw (l:List ByteArray) (hl:l.length≤100000) (H:View) (K:V→View→Prop) (hk:wM 1 (l.map fun s=>[gs s]) H K):aB Tryz.prog 59 [encS l] H K:=by
  cases l with
  | nil =>
    have hp:∀ v t,Tree v→Tree t→(∀ H,aB Tryz.prog 59 [v] H fun r _=>r=t)→aC Tryz.prog 59 [v] t:=fun v t hv ht h=>aC.tree (by intro x hx; simp at hx; subst hx; exact hv) ht h
    have h1:=hp (.emp 1) (.emp 1) (.emp 1) (.emp 1) (fun H=>by
      refine aB.of mixed cb ?_
      simp (disch:=omega) only [↓wr,↓reduceIte,wq,ai,ah,ak,ae,af,ag,aj,isNil,Nat.reduceEqDiff,Nat.reduceAdd,Nat.reduceLT,Nat.reduceLeDiff,Int.reduceNeg,Int.reduceToNat,reduceCtorEq,bO])
    have h2:=hp (.emp 2) (.emp 2) (.emp 2) (.emp 2) (fun H=>by
      refine aB.of mixed cb ?_
      simp (disch:=omega) only [↓wr,↓reduceIte,wq,ai,ah,ak,ae,af,ag,aj,isNil,Nat.reduceEqDiff,Nat.reduceAdd,Nat.reduceLT,Nat.reduceLeDiff,Int.reduceNeg,Int.reduceToNat,reduceCtorEq,bO,m4,List.isEmpty_nil])
    have h3:=hp .dq (.emp 2) .dq (.emp 2) (fun H=>by
      refine aB.of mixed cb ?_
      simp (disch:=omega) only [↓wr,↓reduceIte,wq,ai,ah,ak,ae,af,ag,aj,isNil,Nat.reduceEqDiff,Nat.reduceAdd,Nat.reduceLT,Nat.reduceLeDiff,Int.reduceNeg,Int.reduceToNat,reduceCtorEq,bO,uF,m4,List.isEmpty_nil])
    refine ⟨by kernel_rfl,?_⟩
    rintro h rfl
    exact ⟨.emp 0,h,bL.eC (bL.gZ h1 h) (bL.gZ h2 h) (bL.gZ h3 h),.refl _,hk.1 rfl 0⟩
  | cons x r =>
    refine aB.of mixed cb ?_
    simp only[List.length_cons] at hl
    simp (disch:=omega) only [↓wr,↓reduceIte,wq,ai,ah,ak,ae,af,ag,aj,isNil,Nat.reduceEqDiff,Nat.reduceAdd,Nat.reduceLT,Nat.reduceLeDiff,Int.reduceNeg,Int.reduceToNat,reduceCtorEq,bO,encS]
    refine ⟨?_,?_,?_⟩
    · simp[List.all_map,encS,aN]
    · unfold aM; simp; omega
    · intro n hn
      have:=hk.2 (by simp) n hn
      simp (disch:=omega) only [↓wr,↓reduceIte,wq,ai,ah,ak,ae,af,ag,aj,isNil,Nat.reduceEqDiff,Nat.reduceAdd,Nat.reduceLT,Nat.reduceLeDiff,Int.reduceNeg,Int.reduceToNat,reduceCtorEq]
      simpa [cZ] using this
theorem EU (l:List Int) (hl:l.length≤100000) (H:View) (K:V→View→Prop) (hk:wM 1 (l.map fun s=>[gi s]) H K):aB Tryz.prog 76 [encI l] H K:=by
  cases l with
  | nil =>
    have hp:∀ v t,Tree v→Tree t→(∀ H,aB Tryz.prog 76 [v] H fun r _=>r=t)→aC Tryz.prog 76 [v] t:=fun v t hv ht h=>aC.tree (by intro x hx; simp at hx; subst hx; exact hv) ht h
    have h1:=hp (.emp 1) (.emp 1) (.emp 1) (.emp 1) (fun H=>by
      refine aB.of mixed cd ?_
      simp (disch:=omega) only [↓wr,↓reduceIte,wq,ai,ah,ak,ae,af,ag,aj,isNil,Nat.reduceEqDiff,Nat.reduceAdd,Nat.reduceLT,Nat.reduceLeDiff,Int.reduceNeg,Int.reduceToNat,reduceCtorEq,bZ])
    have h2:=hp (.emp 2) (.emp 2) (.emp 2) (.emp 2) (fun H=>by
      refine aB.of mixed cd ?_
      simp (disch:=omega) only [↓wr,↓reduceIte,wq,ai,ah,ak,ae,af,ag,aj,isNil,Nat.reduceEqDiff,Nat.reduceAdd,Nat.reduceLT,Nat.reduceLeDiff,Int.reduceNeg,Int.reduceToNat,reduceCtorEq,bZ,m4,List.isEmpty_nil])
    have h3:=hp .dq (.emp 2) .dq (.emp 2) (fun H=>by
      refine aB.of mixed cd ?_
      simp (disch:=omega) only [↓wr,↓reduceIte,wq,ai,ah,ak,ae,af,ag,aj,isNil,Nat.reduceEqDiff,Nat.reduceAdd,Nat.reduceLT,Nat.reduceLeDiff,Int.reduceNeg,Int.reduceToNat,reduceCtorEq,bZ,uF,m4,List.isEmpty_nil])
    refine ⟨by kernel_rfl,?_⟩
    rintro h rfl
    exact ⟨.emp 0,h,bL.eC (bL.gZ h1 h) (bL.gZ h2 h) (bL.gZ h3 h),.refl _,hk.1 rfl 0⟩
  | cons x r =>
    refine aB.of mixed cd ?_
    simp only[List.length_cons] at hl
    simp (disch:=omega) only [↓wr,↓reduceIte,wq,ai,ah,ak,ae,af,ag,aj,isNil,Nat.reduceEqDiff,Nat.reduceAdd,Nat.reduceLT,Nat.reduceLeDiff,Int.reduceNeg,Int.reduceToNat,reduceCtorEq,bZ,encI]
    refine ⟨?_,?_,?_⟩
    · simp[List.all_map,encI,aN]
    · unfold aM; simp; omega
    · intro n hn
      have:=hk.2 (by simp) n hn
      simp (disch:=omega) only [↓wr,↓reduceIte,wq,ai,ah,ak,ae,af,ag,aj,isNil,Nat.reduceEqDiff,Nat.reduceAdd,Nat.reduceLT,Nat.reduceLeDiff,Int.reduceNeg,Int.reduceToNat,reduceCtorEq]
      simpa [cZ] using this
theorem wM.own {sz:Nat} {es:List (List V)} {H:View} : wM sz es H fun r H'=>aV H' r sz es∧c6 H H' r :=
  ⟨fun he k=>⟨by rw[he]; exact .nil,.emp⟩,fun _ n hn=>⟨.new,.new hn⟩⟩
theorem FR (l:List ByteArray) (hl:l.length≤100000) (H:View):aB Tryz.prog 59 [encS l] H fun r H'=>aV H' r 1 (l.map fun s=>[gs s])∧c6 H H' r:=Fw l hl H _ .own
theorem Eh (l:List Int) (hl:l.length≤100000) (H:View):aB Tryz.prog 76 [encI l] H fun r H'=>aV H' r 1 (l.map fun s=>[gi s])∧c6 H H' r:=EU l hl H _ .own
end Gv
set_option linter.unusedSimpArgs false
set_option maxRecDepth 100000
namespace Gv
open Go Go.Proofs
def ix (g:au):List aZ→Int→Bool
  | [],next=>next == g.aD.length
  | r :: l,next=>decide (0≤r.left) && decide (r.left≤next) && ey g r && ix g l (if r.left+1 > next then r.left+1 else next)
def nD (g:au):List ByteArray:=g.aD ++ g.aw.map Term.name
def lS (g:au):Bool :=
  nI g.aw && (decide ((1:Int)≤g.aD.length) && decide ((g.aD.length:Int)≤16)) && (decide ((1:Int)≤g.rules.length) && decide ((g.rules.length:Int)≤40)) && decide (names (nD g)).Nodup && (decide (0≤g.start) && decide (g.start≤(g.aD.length:Int) - 1)) &&
    !(g.aD.any fun s=>!dE (df s)) && ix g g.rules 0
theorem A1 {l:List ByteArray} : ∀ e∈(l.map fun s=>[gs s]),∀ v∈e,Tree v:=by
  intro e he v hv
  obtain ⟨a,_,rfl⟩:=List.mem_map.1 he
  rw[List.mem_singleton] at hv
  subst hv
  exact .val _
set_option maxHeartbeats 4000000 in
theorem Ei (g:au) (hg:g.Ok) (hs:g.aD.length+g.aw.length≤1000) (H:View):aB Tryz.prog 38 [.agg (ar g)] H fun r _=>r=gb (lS g):=by
  refine aB.of mixed xi ?_
  have hn:=hg.aD
  have ht:=hg.aw
  have hr:=hg.rules
  unfold aL at hn ht hr
  simp (disch:=omega) only [↓wr,↓reduceIte,wq,ai,ah,ak,ae,af,ag,aj,isNil,Nat.reduceEqDiff,Nat.reduceAdd,Nat.reduceLT,Nat.reduceLeDiff,Int.reduceNeg,Int.reduceToNat,reduceCtorEq,tZ,ar,encS]
  refine az.dg ((FR g.aD (by omega) H).mono ?_)
  rintro u H1 ⟨hu,hf⟩
  simp (disch:=omega) only [↓wr,↓reduceIte,wq,ai,ah,ak,ae,af,ag,aj,isNil,Nat.reduceEqDiff,Nat.reduceAdd,Nat.reduceLT,Nat.reduceLeDiff,Int.reduceNeg,Int.reduceToNat,reduceCtorEq,ar,encS]
  refine bo.up g.aw.length (fun i T H=>T 1=.aJ (ar g) 0∧(∃ u,T 3=u∧aV H u 1 ((g.aD ++ (g.aw.take i).map Term.name).map fun s=>[gs s]))∧T 13=de g.aw∧T 14=gi g.aw.length∧T 15=gi i) ?_ ?_
  · exact ⟨rfl,⟨u,rfl,by simpa using hu⟩,rfl,rfl,rfl⟩
  rintro i k T H' hk ⟨h1,⟨u,h3,hu⟩,h13,h14,h15⟩
  simp (disch:=omega) only [↓wr,↓reduceIte,wq,ai,ah,ak,ae,af,ag,aj,isNil,Nat.reduceEqDiff,Nat.reduceAdd,Nat.reduceLT,Nat.reduceLeDiff,Int.reduceNeg,Int.reduceToNat,reduceCtorEq,rT,h1,h13,h14,h15,de]
  refine an.dec (fun hc=>?_) (fun hc=>?_)
  · have hg2:g.aw[i]?=some (g.aw[i]'(by omega)):=List.getElem?_eq_getElem (by omega)
    have htk:(g.aw.take (i+1)).map Term.name=(g.aw.take i).map Term.name ++ [(g.aw[i]'(by omega)).name]:=by
      rw[List.take_add_one,hg2,List.map_append]; rfl
    generalize g.aw[i]'(by omega)=t at hg2 htk
    simp (disch:=omega) only [↓wr,↓reduceIte,wq,ai,ah,ak,ae,af,ag,aj,isNil,Nat.reduceEqDiff,Nat.reduceAdd,Nat.reduceLT,Nat.reduceLeDiff,Int.reduceNeg,Int.reduceToNat,reduceCtorEq,h1,h3,h13,h14,h15,de,cZ,List.getElem?_map,hg2]
    intro b hb
    try simp (disch:=omega) only [↓wr,↓reduceIte,wq,ai,ah,ak,ae,af,ag,aj,isNil,Nat.reduceEqDiff,Nat.reduceAdd,Nat.reduceLT,Nat.reduceLeDiff,Int.reduceNeg,Int.reduceToNat,reduceCtorEq,h1,h3,h13,h14,h15,set_set]
    intro m hm
    have hmb:=(gS hm iO).1
    have hm:=(gS (gS hm iO).2 iO).2
    try simp (disch:=omega) only [↓wr,↓reduceIte,wq,ai,ah,ak,ae,af,ag,aj,isNil,Nat.reduceEqDiff,Nat.reduceAdd,Nat.reduceLT,Nat.reduceLeDiff,Int.reduceNeg,Int.reduceToNat,reduceCtorEq,h1,h3,h13,h14,h15,dG]
    have hl:((g.aD ++ (g.aw.take i).map Term.name).map fun s=>[gs s]).length≤1000:=by simp; omega
    refine ot (((hu.fresh hb).other (hu.ne hb)).fresh (by simp[View.set,hm,hmb])) (by simp) (by simp[aN]) (by unfold aM; simp at hl ⊢; omega) (by unfold aM; simp at hl ⊢; omega) ?_
    intro u' H2 hu' _
    simp (disch:=omega) only [↓wr,↓reduceIte,wq,ai,ah,ak,ae,af,ag,aj,isNil,Nat.reduceEqDiff,Nat.reduceAdd,Nat.reduceLT,Nat.reduceLeDiff,Int.reduceNeg,Int.reduceToNat,reduceCtorEq,h1,h3,h13,h14,h15]
    refine bb hk (by omega) ⟨h1,⟨u',rfl,?_⟩,h13,h14,rfl⟩
    rw[htk]
    simpa using hu'
  · rw[List.take_of_length_le (by omega)] at hu
    have hal:H'=H':=rfl
    have hall:(nD g).length≤1000:=by simp[nD]; omega
    repeat' (first | (refine an.dec (fun _=>?_) (fun _=>?_)) | (refine an.eq (fun _=>?_) (fun _=>?_)) | (refine an.ne (fun _=>?_) (fun _=>?_)) | (refine an.split (fun _=>?_) (fun _=>?_)) | (refine az.pure (EO g.aw hg.aw) (by kernel_rfl) ?_) | (refine az.pure (mX _ _ _) (by kernel_rfl) ?_) | (refine az.vr (Gs (nD g) hall) (by kernel_rfl) (.val _) ⟨cO.own hu A1,trivial⟩ ?_) | (simp (disch:=omega) only [↓wr,↓reduceIte,wq,ai,ah,ak,ae,af,ag,aj,isNil,Nat.reduceEqDiff,Nat.reduceAdd,Nat.reduceLT,Nat.reduceLeDiff,Int.reduceNeg,Int.reduceToNat,reduceCtorEq,h1,h3,h13,h14,h15,ar,encS]))
    all_goals try (simp[lS, *]; done)
    rename_i e1 e2 e3 e4 e5
    refine az.pure (vw g.aD hg.aD 64 [] (by simp) (fun s=>!dE (df s)) (fun x _=>D1 x) (by kernel_rfl)) (by kernel_rfl) ?_
    repeat' (first | (refine an.dec (fun _=>?_) (fun _=>?_)) | (refine an.eq (fun _=>?_) (fun _=>?_)) | (refine an.ne (fun _=>?_) (fun _=>?_)) | (refine an.split (fun _=>?_) (fun _=>?_)) | (simp (disch:=omega) only [↓wr,↓reduceIte,wq,ai,ah,ak,ae,af,ag,aj,isNil,Nat.reduceEqDiff,Nat.reduceAdd,Nat.reduceLT,Nat.reduceLeDiff,Int.reduceNeg,Int.reduceToNat,reduceCtorEq,h1,h3,h13,h14,h15,ar,encS]))
    all_goals try (simp[lS, *]; done)
    rename_i e6
    have hle:g.rules.length≤40:=by simp at e3; omega
    have hpre:∀ b,ix g g.rules 0=b→gb b=gb (lS g):=fun b e=>by
      simp only[lS,e1,e2,e3,e4,e5,e6,e,decide_true,Bool.true_and,Bool.not_false]
    refine bo.up g.rules.length (fun i T _=>∃ w:Int,0≤w∧w≤i∧ix g (g.rules.drop i) w=ix g g.rules 0∧T 1=.aJ (ar g) 0∧T 6=gi w∧T 62=.aY (g.rules.map bj)∧T 63=gi g.rules.length∧T 64=gi i) ?_ ?_
    · exact ⟨0,by omega,by omega,rfl,h1,rfl,rfl,rfl,rfl⟩
    rintro i k T H' hk ⟨w,hw1,hw2,hi,h1,h6,h62,h63,h64⟩
    simp (disch:=omega) only [↓wr,↓reduceIte,wq,ai,ah,ak,ae,af,ag,aj,isNil,Nat.reduceEqDiff,Nat.reduceAdd,Nat.reduceLT,Nat.reduceLeDiff,Int.reduceNeg,Int.reduceToNat,reduceCtorEq,r5,h1,h6,h62,h63,h64,ar]
    refine an.dec (fun hc=>?_) (fun hc=>?_)
    · have hg2:g.rules[i]?=some (g.rules[i]'(by omega)):=List.getElem?_eq_getElem (by omega)
      rw[eE (show i < g.rules.length by omega)] at hi
      have hmem:g.rules[i]'(by omega)∈g.rules:=List.getElem_mem _
      generalize g.rules[i]'(by omega)=t at hg2 hi hmem
      obtain ⟨⟨hl1,hl2⟩,hp,hr1,hr2⟩:=hg.bq t hmem
      simp only[ix] at hi
      simp (disch:=omega) only [↓wr,↓reduceIte,wq,ai,ah,ak,ae,af,ag,aj,isNil,Nat.reduceEqDiff,Nat.reduceAdd,Nat.reduceLT,Nat.reduceLeDiff,Int.reduceNeg,Int.reduceToNat,reduceCtorEq,h1,h6,h62,h63,h64,bj,encI,List.getElem?_map,hg2]
      intro b hb
      repeat' (first | (refine an.dec (fun _=>?_) (fun _=>?_)) | (refine an.eq (fun _=>?_) (fun _=>?_)) | (refine an.ne (fun _=>?_) (fun _=>?_)) | (refine an.split (fun _=>?_) (fun _=>?_)) | (refine az.pure (mX _ _ _) (by kernel_rfl) ?_) | (refine az.pure (Hb g t hg ⟨hr1,hr2⟩) (by kernel_rfl) ?_) | (simp (disch:=omega) only [↓wr,↓reduceIte,wq,ai,ah,ak,ae,af,ag,aj,isNil,Nat.reduceEqDiff,Nat.reduceAdd,Nat.reduceLT,Nat.reduceLeDiff,Int.reduceNeg,Int.reduceToNat,reduceCtorEq,h1,h6,h62,h63,h64,ar,bj,encI,encS,set_set]))
      · rename_i e7 e8
        have e7':0≤t.left∧t.left≤w:=by simpa using e7
        rw[e7,e8,Bool.true_and,Bool.true_and] at hi
        have hw:IntKind.wrap .i64 (t.left+1)=t.left+1:=wrap64 (by omega) (by omega)
        refine bb hk (by omega) ⟨_,by split <;> omega,by split <;> (push_cast; omega),hi,h1,?_,h62,h63,rfl⟩
        show gi (if IntKind.wrap .i64 (t.left+1) > w then IntKind.wrap .i64 (t.left+1) else w)=_
        rw[hw]
      · rename_i e7 e8
        rw[e8,Bool.and_false,Bool.false_and] at hi
        exact hpre _ hi.symm
      · rename_i e7
        rw[e7,Bool.false_and,Bool.false_and] at hi
        exact hpre _ hi.symm
    · rw[List.drop_eq_nil_of_le (by omega)] at hi
      simp only[ix] at hi
      simp (disch:=omega) only [↓wr,↓reduceIte,wq,ai,ah,ak,ae,af,ag,aj,isNil,Nat.reduceEqDiff,Nat.reduceAdd,Nat.reduceLT,Nat.reduceLeDiff,Int.reduceNeg,Int.reduceToNat,reduceCtorEq,h1,h6,h62,h63,h64,ar,encS]
      exact hpre _ hi.symm
theorem DG (g:au) (hg:g.Ok) (hs:g.aD.length+g.aw.length≤1000):aC Tryz.prog 38 [.agg (ar g)] (gb (lS g)):=aC.val (k7 g) (Ei g hg hs)
theorem Aq (g:au):∀ (l:List aZ) (next:Int),ix g l next=dW g l (next - 1)
  | [],next=>by
    simp only[ix,dW]
    rw[Bool.eq_iff_iff]; simp
  | r :: l,next=>by
    simp only[ix,dW,Aq g l]
    have e1:(if r.left+1 > next then r.left+1 else next) - 1=if r.left > next - 1 then r.left else next - 1:=by
      split <;> split <;> omega
    have e2:next - 1+1=next:=by omega
    rw[e1,e2]
theorem tz (s:ByteArray):∀ (l:List ByteArray) (i:Int),0≤i→(jQ s l i < 0∧s ∉ l)∨∃ k:Nat,jQ s l i=i+k∧l[k]?=some s∧∀ j < k,l[j]?≠some s
  | [],i,h=>.inl ⟨by simp[jQ],by simp⟩
  | x :: l,i,h=>by
    have hx:fo x s=true↔x=s:=by
      unfold fo
      rw[beq_iff_eq]
      constructor
      · intro e; cases x; cases s; simp at e; simp[e]
      · rintro rfl; rfl
    simp only[jQ]
    by_cases e:x=s
    · rw[if_pos (hx.2 e)]
      exact .inr ⟨0,by simp,by simp[e],by simp⟩
    · rw[if_neg (fun h=>e (hx.1 h))]
      rcases tz s l (i+1) (by omega) with ⟨h1,h2⟩ | ⟨k,h1,h2,h3⟩
      · exact .inl ⟨h1,by simp[h2,Ne.symm e]⟩
      · refine .inr ⟨k+1,by rw[h1]; push_cast; omega,by simpa using h2,fun j hj=>?_⟩
        cases j with
        | zero=>simp[e]
        | succ j=>simpa using h3 j (by omega)
theorem ov (l:List ByteArray):(∀ (k:Nat) (s:ByteArray),l[k]?=some s→jQ s l 0=k)↔l.Nodup:=by
  constructor
  · intro h
    rw[List.nodup_iff_pairwise_ne,List.pairwise_iff_getElem]
    intro i j hi hj hij e
    have h1:=h i l[i] (by simp[hi])
    have h2:=h j l[j] (by simp[hj])
    rw[e] at h1
    omega
  · intro hn k s hk
    rcases tz s l 0 (by omega) with ⟨_,h2⟩ | ⟨j,h1,h2,h3⟩
    · exact absurd (List.mem_of_getElem? hk) h2
    · have hj:j < l.length:=by
        rcases Nat.lt_or_ge j l.length with h | h
        · exact h
        · simp[List.getElem?_eq_none h] at h2
      have hk':k < l.length:=by
        rcases Nat.lt_or_ge k l.length with h | h
        · exact h
        · simp[List.getElem?_eq_none h] at hk
      have:j=k:=(List.getElem_inj hn).1 (by
        rw[List.getElem?_eq_getElem hj] at h2; rw[List.getElem?_eq_getElem hk'] at hk
        simp at h2 hk; rw[h2,hk])
      rw[h1,this]; simp
theorem bytes_inj {a b:ByteArray} : a.data.toList=b.data.toList↔a=b:=by
  constructor
  · intro h; cases a; cases b; simp at h; simp[h]
  · rintro rfl; rfl
theorem Ga {l:List ByteArray} : (names l).Nodup↔l.Nodup:=by
  unfold names
  rw[List.nodup_iff_pairwise_ne,List.pairwise_map,List.nodup_iff_pairwise_ne]
  constructor
  · exact fun h=>h.imp fun h e=>h (bytes_inj.2 e)
  · exact fun h=>h.imp fun h e=>h (bytes_inj.1 e)
end Gv
set_option linter.unusedSimpArgs false
namespace Gv
open Go Go.Proofs
theorem lX {α:Type} [BEq α] [LawfulBEq α]:∀ (l m:List α),l.Nodup→(∀ x∈l,x∈m)→l.length≤m.length
  | [],m,_,_=>by simp
  | x :: l,m,hn,hs=>by
    rw[List.nodup_cons] at hn
    have hx:x∈m:=hs x (by simp)
    have:=lX l (m.erase x) hn.2 (fun y hy=>by
      have hne:y≠x:=by rintro rfl; exact hn.1 hy
      exact (List.mem_erase_of_ne hne).2 (hs y (by simp[hy])))
    rw[List.length_erase_of_mem hx] at this
    have:0 < m.length:=List.length_pos_of_mem hx
    simp only[List.length_cons]
    omega
def iq (n:Nat):List Int:=(List.range n).map fun (k:Nat)=>(k:Int)+1
theorem rh {n:Nat} {x:Int} : x∈iq n↔1≤x∧x≤n:=by
  simp only[iq,List.mem_map,List.mem_range]
  constructor
  · rintro ⟨k,hk,rfl⟩; omega
  · rintro ⟨h1,h2⟩; exact ⟨(x - 1).toNat,by omega,by omega⟩
theorem zC (n:Nat):(iq n).Nodup:=by
  rw[iq,List.nodup_iff_pairwise_ne,List.pairwise_map]
  exact (List.nodup_range (n:=n)).imp fun h e=>h (by omega)
theorem HP {l:List Int} {n:Nat} (hn:l.Nodup) (hs:∀ x∈l,1≤x∧x≤n) (hl:l.length=n) {x:Int} (h1:1≤x) (h2:x≤n):x∈l:=by
  refine Classical.byContradiction fun hx=>?_
  have:=lX (x :: l) (iq n) (List.nodup_cons.2 ⟨hx,hn⟩) (fun y hy=>by
    rw[rh]
    rcases List.mem_cons.1 hy with rfl | hy
    · exact ⟨h1,h2⟩
    · exact hs y hy)
  simp[iq] at this
  omega
theorem qW (n:Int):∀ (l:List Term) (w:Int),w≠0→eZ n l w=if (∀ t∈l,t.level=n→t.assoc=w) then some w else none
  | [],w,_=>by simp[eZ]
  | t :: r,w,hw=>by
    simp only[eZ]
    by_cases ht:t.level=n
    · rw[if_pos ht]
      by_cases ha:w=t.assoc
      · rw[if_neg (by simp[ha]),← ha,qW n r w hw]
        congr 1
        simp[ht,ha]
      · rw[if_pos ⟨hw,ha⟩,if_neg (fun h=>ha (h t (by simp) ht).symm)]
    · rw[if_neg ht,qW n r w hw]
      congr 1
      simp[ht]
theorem wg (n:Int):∀ (l:List Term),(∀ t∈l,t.level=n→t.assoc≠0)→(dV l n=true↔∃ a,(∃ t∈l,t.level=n)∧∀ t∈l,t.level=n→t.assoc=a)
  | [],_=>by simp[dV,eZ]
  | t :: r,h=>by
    by_cases ht:t.level=n
    · have ha:=h t (by simp) ht
      have e:dV (t :: r) n=match (if (∀ u∈r,u.level=n→u.assoc=t.assoc) then some t.assoc else none) with | some w=>w != 0 | none=>false:=by
        simp only[dV,eZ]
        rw[if_pos ht,if_neg (by simp),qW n r _ ha]
        rfl
      rw[e]
      by_cases hr:∀ u∈r,u.level=n→u.assoc=t.assoc
      · rw[if_pos hr]
        simp only[bne_iff_ne,ne_eq,ha,not_false_eq_true,true_iff]
        refine ⟨t.assoc,⟨t,by simp,ht⟩,fun u hu hl=>?_⟩
        rcases List.mem_cons.1 hu with rfl | hu
        · rfl
        · exact hr u hu hl
      · rw[if_neg hr]
        simp only[Bool.false_eq_true,false_iff]
        rintro ⟨a,_,h2⟩
        exact hr fun u hu hl=>(h2 u (by simp[hu]) hl).trans (h2 t (by simp) ht).symm
    · have ih:=wg n r (fun u hu=>h u (by simp[hu]))
      have e:dV (t :: r) n=dV r n:=by
        simp only[dV,eZ,if_neg ht]
      rw[e,ih]
      constructor
      · rintro ⟨a,⟨u,hu,hl⟩,h2⟩
        refine ⟨a,⟨u,by simp[hu],hl⟩,fun v hv hl=>?_⟩
        rcases List.mem_cons.1 hv with rfl | hv
        · exact absurd hl ht
        · exact h2 v hv hl
      · rintro ⟨a,⟨u,hu,hl⟩,h2⟩
        rcases List.mem_cons.1 hu with rfl | hu
        · exact absurd hl ht
        · exact ⟨a,⟨u,hu,hl⟩,fun v hv=>h2 v (by simp[hv])⟩
def p7 (l:List Term):Prop:=∀ t∈l,∀ u∈l,t.level=u.level→t.level≠0→t.assoc=u.assoc
theorem z6 {κ β:Type} [BEq κ] [LawfulBEq κ] {k:κ} {v:β} : ∀ {a:List (κ × β)},(a.map (·.1)).Nodup→((ia k v a).map (·.1)).Nodup∧∀ x,x∈(ia k v a).map (·.1)↔x=k∨x∈a.map (·.1)
  | [],_=>by simp[ia]
  | y :: a,h=>by
    simp only[List.map_cons,List.nodup_cons] at h
    obtain ⟨h1,h2⟩:=z6 (k:=k) (v:=v) h.2
    simp only[ia]
    by_cases e:k=y.1
    · simp only[e,beq_self_eq_true,if_true,List.map_cons,List.nodup_cons]
      refine ⟨h,fun x=>by simp[e]⟩
    · have:(k == y.1)=false:=by simp[e]
      rw[this]
      simp only[Bool.false_eq_true,if_false,List.map_cons,List.nodup_cons,List.mem_cons]
      refine ⟨⟨fun hm=>?_,h1⟩,fun x=>?_⟩
      · rcases (h2 _).1 hm with e' | hm
        · exact e e'.symm
        · exact h.1 hm
      · rw[h2]
        constructor
        · rintro (h | h | h) <;> simp[h]
        · rintro (h | h | h) <;> simp[h]
theorem tJ:∀ (l:List Term) (a:List (Int × Int)) (top:Int),(∀ t∈l,t.level≠0→t.assoc≠0)→(∀ n v,c9 a n=some v→v≠0)→(a.map (·.1)).Nodup →
    match iY l a top with
    | some (a',top')=>p7 l∧(∀ t∈l,∀ v,t.level≠0→c9 a t.level=some v→t.assoc=v)∧(a'.map (·.1)).Nodup∧(∀ n,n∈a'.map (·.1)↔n∈a.map (·.1)∨(n≠0∧∃ t∈l,t.level=n)) ∧
        top≤top'∧(∀ t∈l,t.level≠0→t.level≤top')∧(top'=top∨∃ t∈l,t.level=top'∧t.level≠0)
    | none=>¬ (p7 l∧∀ t∈l,∀ v,t.level≠0→c9 a t.level=some v→t.assoc=v)
  | [],a,top,_,_,hn=>by
    simp only[iY]
    exact ⟨fun t ht=>by simp at ht,fun t ht=>by simp at ht,hn,fun n=>by simp,by omega,fun t ht=>by simp at ht,by simp⟩
  | t :: r,a,top,h0,hv,hn=>by
    have h0r:∀ u∈r,u.level≠0→u.assoc≠0:=fun u hu=>h0 u (by simp[hu])
    simp only[iY]
    by_cases ht:t.level=0
    · rw[if_pos ht]
      have ih:=tJ r a top h0r hv hn
      have one:p7 (t :: r)↔p7 r:=by
        constructor
        · exact fun h u hu w hw=>h u (by simp[hu]) w (by simp[hw])
        · intro h u hu w hw e hz
          rcases List.mem_cons.1 hu with rfl | hu
          · exact absurd ht hz
          · rcases List.mem_cons.1 hw with rfl | hw
            · exact absurd (e.trans ht) hz
            · exact h u hu w hw e hz
      have con:(∀ u∈t :: r,∀ v,u.level≠0→c9 a u.level=some v→u.assoc=v)↔∀ u∈r,∀ v,u.level≠0→c9 a u.level=some v→u.assoc=v:=by
        simp[ht]
      have mem:∀ n,(n≠0∧∃ u∈t :: r,u.level=n)↔(n≠0∧∃ u∈r,u.level=n):=fun n=>by
        constructor
        · rintro ⟨h1,u,hu,rfl⟩
          rcases List.mem_cons.1 hu with rfl | hu
          · exact absurd ht h1
          · exact ⟨h1,u,hu,rfl⟩
        · rintro ⟨h1,u,hu,rfl⟩; exact ⟨h1,u,by simp[hu],rfl⟩
      cases hs:iY r a top with
      | none=>rw[hs] at ih; rw[one,con]; exact ih
      | some x =>
        obtain ⟨a',top'⟩:=x
        rw[hs] at ih
        obtain ⟨i1,i2,i3,i4,i5,i6,i7⟩:=ih
        refine ⟨one.2 i1,con.2 i2,i3,fun n=>by rw[i4,mem],i5,?_,?_⟩
        · intro u hu hz
          rcases List.mem_cons.1 hu with rfl | hu
          · exact absurd ht hz
          · exact i6 u hu hz
        · rcases i7 with h | ⟨u,hu,h⟩
          · exact .inl h
          · exact .inr ⟨u,by simp[hu],h⟩
    · rw[if_neg ht]
      have ha:=h0 t (by simp) ht
      by_cases hc:(c9 a t.level).getD 0≠0∧(c9 a t.level).getD 0≠t.assoc
      · rw[if_pos hc]
        simp only
        rintro ⟨_,h2⟩
        cases hp:c9 a t.level with
        | none=>simp[hp] at hc
        | some v =>
          have:=h2 t (by simp) v ht hp
          simp[hp] at hc
          exact hc.2 this.symm
      · rw[if_neg hc]
        have hcon:∀ v,c9 a t.level=some v→t.assoc=v:=fun v hp=>by
          have:=hv _ _ hp
          simp[hp] at hc
          exact (hc this).symm
        have hput:∀ n,c9 (ia t.level t.assoc a) n=if n=t.level then some t.assoc else c9 a n:=fun n=>by
          rw[zy]; simp
        have hk:=z6 (k:=t.level) (v:=t.assoc) hn
        have ih:=tJ r (ia t.level t.assoc a) (if t.level > top then t.level else top) h0r (fun n v hp=>by
          rw[hput] at hp
          split at hp
          · simp at hp; rw[← hp]; exact ha
          · exact hv n v hp) hk.1
        have both:(p7 (t :: r)∧∀ u∈t :: r,∀ v,u.level≠0→c9 a u.level=some v→u.assoc=v)↔(p7 r∧∀ u∈r,∀ v,u.level≠0→c9 (ia t.level t.assoc a) u.level=some v→u.assoc=v):=by
          constructor
          · rintro ⟨h1,h2⟩
            refine ⟨fun u hu w hw=>h1 u (by simp[hu]) w (by simp[hw]),fun u hu v hz hp=>?_⟩
            rw[hput] at hp
            split at hp
            · rename_i e
              simp at hp; rw[← hp]
              exact h1 u (by simp[hu]) t (by simp) e hz
            · exact h2 u (by simp[hu]) v hz hp
          · rintro ⟨h1,h2⟩
            have h3:∀ u∈r,u.level=t.level→u.assoc=t.assoc:=fun u hu e=>h2 u hu t.assoc (by rw[e]; exact ht) (by rw[hput,if_pos e])
            refine ⟨fun u hu w hw e hz=>?_,fun u hu v hz hp=>?_⟩
            · rcases List.mem_cons.1 hu with e1 | hu2
              · rcases List.mem_cons.1 hw with e2 | hw2
                · rw[e1,e2]
                · rw[e1] at e ⊢
                  exact (h3 w hw2 e.symm).symm
              · rcases List.mem_cons.1 hw with e2 | hw2
                · rw[e2] at e ⊢
                  exact h3 u hu2 e
                · exact h1 u hu2 w hw2 e hz
            · rcases List.mem_cons.1 hu with rfl | hu
              · exact hcon v hp
              · by_cases e:u.level=t.level
                · rw[h3 u hu e]; exact hcon v (by rw[← e]; exact hp)
                · exact h2 u hu v hz (by rw[hput,if_neg e]; exact hp)
        have htop:top≤(if t.level > top then t.level else top)∧t.level≤(if t.level > top then t.level else top):=by split <;> omega
        cases hs:iY r (ia t.level t.assoc a) (if t.level > top then t.level else top) with
        | none=>rw[hs] at ih; simp only; rw[both]; exact ih
        | some x =>
          obtain ⟨a',top'⟩:=x
          rw[hs] at ih
          obtain ⟨i1,i2,i3,i4,i5,i6,i7⟩:=ih
          obtain ⟨b1,b2⟩:=both.2 ⟨i1,i2⟩
          refine ⟨b1,b2,i3,fun n=>?_,by omega,?_,?_⟩
          · rw[i4,hk.2]
            constructor
            · rintro ((rfl | h) | ⟨h1,u,hu,h⟩)
              · exact .inr ⟨ht,t,by simp,rfl⟩
              · exact .inl h
              · exact .inr ⟨h1,u,by simp[hu],h⟩
            · rintro (h | ⟨h1,u,hu,h⟩)
              · exact .inl (.inr h)
              · rcases List.mem_cons.1 hu with rfl | hu
                · exact .inl (.inl h.symm)
                · exact .inr ⟨h1,u,hu,h⟩
          · intro u hu hz
            rcases List.mem_cons.1 hu with rfl | hu
            · omega
            · exact i6 u hu hz
          · rcases i7 with h | ⟨u,hu,h⟩
            · by_cases e:t.level > top
              · rw[if_pos e] at h; exact .inr ⟨t,by simp,h.symm,ht⟩
              · rw[if_neg e] at h; exact .inl h
            · exact .inr ⟨u,by simp[hu],h⟩
theorem vS (l:List Term) (h:∀ t∈l,gR t=true):nr l=true↔∀ t∈l,∀ n:Int,1≤n→n≤t.level→dV l n=true:=by
  have hb:∀ t∈l,0≤t.level∧(t.level≠0→t.assoc≠0):=fun t ht=>by
    have:=h t ht
    simp only[gR,Bool.and_eq_true,decide_eq_true_eq,beq_iff_eq] at this
    refine ⟨this.1.1.1.1.2,fun h1 h2=>?_⟩
    have e:=this.2
    simp[h1,h2] at e
  have hs:=tJ l [] 0 (fun t ht=>(hb t ht).2) (by simp[c9]) (by simp)
  have hL:∀ n:Int,1≤n→(dV l n=true↔∃ a,(∃ t∈l,t.level=n)∧∀ t∈l,t.level=n→t.assoc=a):=fun n hn=>wg n l (fun t ht e=>(hb t ht).2 (by omega))
  unfold nr
  cases hx:iY l [] 0 with
  | none =>
    rw[hx] at hs
    simp only[Bool.false_eq_true,false_iff]
    intro hall
    refine hs ⟨fun t ht u hu e hz=>?_,fun t ht v _ hp=>by simp[c9] at hp⟩
    have h1:=hb t ht
    obtain ⟨a,_,h2⟩:=(hL t.level (by omega)).1 (hall t ht t.level (by omega) (by omega))
    exact (h2 t ht rfl).trans (h2 u hu e.symm).symm
  | some x =>
    obtain ⟨a,top⟩:=x
    rw[hx] at hs
    obtain ⟨i1,_,i3,i4,i5,i6,i7⟩:=hs
    simp only[beq_iff_eq]
    have hmem:∀ n,n∈a.map (·.1)↔n≠0∧∃ t∈l,t.level=n:=fun n=>by rw[i4]; simp
    have hin:∀ x∈a.map (·.1),1≤x∧x≤(top.toNat:Int):=fun x hx=>by
      obtain ⟨h1,t,ht,rfl⟩:=(hmem x).1 hx
      have:=(hb t ht).1
      have:=i6 t ht h1
      omega
    constructor
    · intro hlen t ht n hn1 hn2
      have htop:t.level≤top:=i6 t ht (by omega)
      have hm:=HP i3 hin (by simp; omega) hn1 (show n≤(top.toNat:Int) by omega)
      obtain ⟨hz,u,hu,rfl⟩:=(hmem n).1 hm
      exact (hL _ hn1).2 ⟨u.assoc,⟨u,hu,rfl⟩,fun w hw e=>i1 w hw u hu e (by omega)⟩
    · intro hall
      have h1:a.length≤top.toNat:=by
        have:=lX _ (iq top.toNat) i3 (fun x hx=>rh.2 (hin x hx))
        simpa [iq] using this
      have h2:top.toNat≤a.length:=by
        rcases i7 with e | ⟨t,ht,e,hz⟩
        · subst e; simp
        · have:=lX (iq top.toNat) (a.map (·.1)) (zC _) (fun x hx=>by
            rw[rh] at hx
            have:=(hb t ht).1
            obtain ⟨_,⟨u,hu,hl⟩,_⟩:=(hL x hx.1).1 (hall t ht x hx.1 (by omega))
            exact (hmem x).2 ⟨by omega,u,hu,hl⟩)
          simpa [iq] using this
      omega
end Gv
set_option linter.unusedSimpArgs false
namespace Gv
open Go Go.Proofs
theorem wu (g:au):∀ (l:List Term) (i:Int),fw g l i=true↔∀ (k:Nat) (t:Term),l[k]?=some t→fP g (i+k) t=true
  | [],i=>by simp[fw]
  | t :: r,i=>by
    simp only[fw,Bool.and_eq_true,wu g r (i+1)]
    constructor
    · rintro ⟨h1,h2⟩ k u hk
      cases k with
      | zero=>simp at hk; subst hk; simpa using h1
      | succ k =>
        have:=h2 k u (by simpa using hk)
        rw[show i+((k+1:Nat):Int)=i+1+k by push_cast; omega]; exact this
    · intro h
      refine ⟨by simpa using h 0 t rfl,fun k u hk=>?_⟩
      have:=h (k+1) u (by simpa using hk)
      rw[show i+1+(k:Int)=i+((k+1:Nat):Int) by push_cast; omega]; exact this
theorem oJ (g:au):∀ (l:List ByteArray) (i:Int),m9 g l i=true↔∀ (k:Nat) (s:ByteArray),l[k]?=some s→ic g (i+k) s=true
  | [],i=>by simp[m9]
  | t :: r,i=>by
    simp only[m9,Bool.and_eq_true,oJ g r (i+1)]
    constructor
    · rintro ⟨h1,h2⟩ k u hk
      cases k with
      | zero=>simp at hk; subst hk; simpa using h1
      | succ k =>
        have:=h2 k u (by simpa using hk)
        rw[show i+((k+1:Nat):Int)=i+1+k by push_cast; omega]; exact this
    · intro h
      refine ⟨by simpa using h 0 t rfl,fun k u hk=>?_⟩
      have:=h (k+1) u (by simpa using hk)
      rw[show i+1+(k:Int)=i+((k+1:Nat):Int) by push_cast; omega]; exact this
theorem yu (g:au) (s:ByteArray):iI g s < 0↔s ∉ g.aw.map Term.name:=by
  unfold iI
  rcases tz s (g.aw.map Term.name) 0 (by omega) with ⟨h1,h2⟩ | ⟨k,h1,h2,_⟩
  · exact ⟨fun _=>h2,fun _=>h1⟩
  · constructor
    · intro h; omega
    · intro h; exact absurd (List.mem_of_getElem? h2) h
theorem x3 (g:au) (t:Term):m0 g t=true↔∀ n:Int,1≤n→n≤t.level→dV g.aw n=true:=by
  simp only[m0,List.all_eq_true,List.mem_range]
  constructor
  · intro h n h1 h2
    have:=h (n - 1).toNat (by omega)
    rwa [show (((n - 1).toNat:Nat):Int)+1=n by omega] at this
  · intro h k hk
    exact h _ (by omega) (by omega)
theorem D3 (g:au):lS g=aT g:=by
  rw[Bool.eq_iff_iff]
  simp only[lS,aT,fG,gg,nI,Bool.and_eq_true,decide_eq_true_eq,wu,oJ,Aq,List.all_eq_true,Bool.not_eq_true',List.any_eq_false,Bool.not_eq_true,Ga,nD,List.nodup_append,Int.zero_add,Int.zero_sub,Bool.not_not]
  have hT:(∀ (k:Nat) (t:Term),g.aw[k]?=some t→fP g k t=true)↔(∀ t∈g.aw,gR t=true)∧(g.aw.map Term.name).Nodup∧(∀ t∈g.aw,m0 g t=true):=by
    rw[← ov]
    constructor
    · intro h
      have h':∀ t∈g.aw,∃ k:Nat,g.aw[k]?=some t:=fun t ht=>List.getElem?_of_mem ht
      refine ⟨fun t ht=>?_,fun k s hk=>?_,fun t ht=>?_⟩
      · obtain ⟨k,hk⟩:=h' t ht
        have:=h k t hk
        simp only[fP,gR,Bool.and_eq_true,decide_eq_true_eq] at this ⊢
        simp[this]
      · rw[List.getElem?_map,Option.map_eq_some_iff] at hk
        obtain ⟨t,hk,rfl⟩:=hk
        have:=h k t hk
        simp only[fP,Bool.and_eq_true,beq_iff_eq] at this
        exact this.1.1.1.1.1.1.2
      · obtain ⟨k,hk⟩:=h' t ht
        have:=h k t hk
        simp only[fP,Bool.and_eq_true] at this
        exact this.2
    · rintro ⟨h1,h2,h3⟩ k t hk
      have hm:=List.mem_of_getElem? hk
      have a:=h1 t hm
      have b:=h2 k t.name (by rw[List.getElem?_map,hk]; rfl)
      have c:=h3 t hm
      simp only[fP,gR,iI,Bool.and_eq_true,decide_eq_true_eq] at a ⊢
      simp[a,b,c]
  have hN:(∀ (k:Nat) (s:ByteArray),g.aD[k]?=some s→ic g k s=true)↔(∀ s∈g.aD,dE (df s)=true)∧g.aD.Nodup∧(∀ s∈g.aD,s ∉ g.aw.map Term.name):=by
    rw[← ov]
    constructor
    · intro h
      have h':∀ t∈g.aD,∃ k:Nat,g.aD[k]?=some t:=fun t ht=>List.getElem?_of_mem ht
      refine ⟨fun t ht=>?_,fun k s hk=>?_,fun t ht=>?_⟩
      · obtain ⟨k,hk⟩:=h' t ht
        have:=h k t hk
        simp only[ic,Bool.and_eq_true] at this
        exact this.1.1
      · have:=h k s hk
        simp only[ic,ta,Bool.and_eq_true,beq_iff_eq] at this
        exact this.1.2
      · obtain ⟨k,hk⟩:=h' t ht
        have:=h k t hk
        simp only[ic,Bool.and_eq_true,decide_eq_true_eq] at this
        exact (yu g t).1 this.2
    · rintro ⟨h1,h2,h3⟩ k s hk
      have hm:=List.mem_of_getElem? hk
      have a:=h1 s hm
      have b:=h2 k s hk
      have c:=(yu g s).2 (h3 s hm)
      simp[ic,ta,a,b,c]
  rw[hT,hN]
  constructor
  · rintro ⟨⟨⟨⟨⟨⟨⟨⟨t1,t2⟩,t3⟩,n1,n2⟩,r1,r2⟩,a1,a2,a3⟩,s1,s2⟩,n3⟩,ru⟩
    have hl:=(vS g.aw t1).1 t3
    exact ⟨⟨⟨⟨⟨⟨⟨t2,t1,a2,fun t ht=>(x3 g t).2 (hl t ht)⟩,⟨by omega,by omega⟩,fun s hs=>by simpa using n3 s hs,a1,fun s hs hm=>a3 s hs s hm rfl⟩,by omega⟩,by omega⟩,s1⟩,by omega⟩,ru⟩
  · rintro ⟨⟨⟨⟨⟨⟨⟨t2,t1,a2,t3⟩,⟨n1,n2⟩,n3,a1,a3⟩,r1⟩,r2⟩,s1⟩,s2⟩,ru⟩
    have hl:=(vS g.aw t1).2 (fun t ht=>(x3 g t).1 (t3 t ht))
    exact ⟨⟨⟨⟨⟨⟨⟨⟨t1,t2⟩,hl⟩,by omega,by omega⟩,by omega,by omega⟩,a1,a2,fun s hs u hu e=>a3 s hs (e ▸ hu)⟩,s1,by omega⟩,fun s hs=>by simp[n3 s hs]⟩,ru⟩
theorem sH (g:au) (hg:g.Ok) (hs:g.aD.length+g.aw.length≤1000):aC Tryz.prog 38 [.agg (ar g)] (gb (aT g)):=by
  rw[← D3]; exact DG g hg hs
end Gv
set_option linter.unusedSimpArgs false
set_option maxRecDepth 100000
namespace Gv
open Go Go.Proofs
def Ge (n:Nat) (r:aZ):Prop:=bJ r.left∧0≤r.left∧r.left < n∧r.right.length≤6∧∀ s∈r.right,bJ s∧(s < 0→-1 - s < n)
theorem au.nB.II {g:au} (hg:g.Ok) (h:g.nB) {r:aZ} (hr:r∈g.rules):Ge g.aD.length r :=
  ⟨(hg.bq r hr).1,(h.left r hr).1,(h.left r hr).2,h.right r hr,fun s hs=>⟨(hg.bq r hr).2.2.2 s hs,fun hn=>h.neg hr hs hn⟩⟩
def rW:SF:=⟨.seq (al [aP 2 false]) <|
  .seq (al [aa 3 0,ax 4 .geq 3 0,aa 2 4]) <|
  .ret,
  [.tmp 2],5⟩
theorem u9:aR Tryz.prog 141 []=some rW:=by kernel_rfl
def uj:SF:=⟨.seq (al [b7 1 0,aP 2 false]) <|
  .seq (al [aq 3 1 1,ao 4 3,bT 5 39 [(.tmp 4),(.val (.fn 141 [] []))],bQ 6 5,aa 2 6]) <|
  .ret,
  [.tmp 2],7⟩
theorem xg:aR Tryz.prog 99 [1]=some uj:=by kernel_rfl
def oI:SF:=⟨.seq (al [aP 3 false]) <|
  .seq (.region false [⟨none,[aa 4 0,ax 5 .lss 4 0,aa 6 5]⟩,⟨(some (6,true)),[ao 7 1,aa 8 0,((some 9),.op (.arith .sub (.val (.val (.int .i64 (-1)))) (.tmp 8))),aX 10 1 7 9,ao 11 10,bQ 12 11]⟩,⟨none,[bk 13 6 12,aa 3 13]⟩]) <|
  .ret,
  [.tmp 3],14⟩
theorem sD:aR Tryz.prog 119 []=some oI:=by kernel_rfl
def si:SF:=⟨.seq (al [b7 2 0,b7 3 1,aP 4 false]) <|
  .seq (al [aq 5 1 2,ao 6 5,((some 7),.op (.q9 119 [] [(.tmp 3)])),aF 8 39 [6,7],bQ 9 8,aa 4 9]) <|
  .ret,
  [.tmp 4],10⟩
theorem uQ:aR Tryz.prog 75 [2,3]=some si:=by kernel_rfl
def mS:SF:=⟨.seq (al [b7 2 0,((some 4),.op (.bg (.val (.emp 1))))]) <|
  .seq (.seq (.region false [⟨none,[aO 5 3 2,aF 6 99 [5],aa 7 6]⟩,⟨(some (7,true)),[aO 8 3 2,aa 9 1,aF 10 75 [8,9]]⟩,⟨none,[bk 11 7 10]⟩]) <|
  .cond (.tmp 11) (.seq (al [aq 12 0 2,ao 13 12,((some 14),.op (.bu 1 1 [(.val (.int .i64 0))] [(0,(.tmp 13))])),aa 4 14]) <|
  .ret) (.skip)) <|
  .seq (al [((some 4),.op (.bg (.val (.emp 1))))]) <|
  .ret,
  [.tmp 4],15⟩
theorem q7:aR Tryz.prog 98 [2]=some mS:=by kernel_rfl
theorem Ej (r:aZ):∀ v∈[V.agg (bj r)],Tree v:=by intro v hv; simp at hv; subst hv; exact bF _ (gn r)
theorem Ai (r:aZ) (is:List Bool):∀ v∈[V.agg (bj r),cE is],Tree v:=by
  intro v hv; simp at hv
  rcases hv with rfl | rfl
  · exact bF _ (gn r)
  · exact oK is
theorem Hd (x:Int):aC Tryz.prog 141 [gi x] (gb (decide (0≤x))):=by
  refine aC.val (tt (l:=[.int .i64 x])) fun H=>?_
  refine aB.of mixed u9 ?_
  simp (disch:=omega) only [↓wr,↓reduceIte,wq,ai,ah,ak,ae,af,ag,aj,isNil,Nat.reduceEqDiff,Nat.reduceAdd,Nat.reduceLT,Nat.reduceLeDiff,Int.reduceNeg,Int.reduceToNat,reduceCtorEq,rW]
theorem H8 (r:aZ) (hr:aL r.right):aC Tryz.prog 99 [.agg (bj r)] (gb (!r.right.any fun s=>decide (0≤s))):=by
  refine aC.val (Ej r) fun H=>?_
  refine aB.of mixed xg ?_
  simp (disch:=omega) only [↓wr,↓reduceIte,wq,ai,ah,ak,ae,af,ag,aj,isNil,Nat.reduceEqDiff,Nat.reduceAdd,Nat.reduceLT,Nat.reduceLeDiff,Int.reduceNeg,Int.reduceToNat,reduceCtorEq,uj,bj,encI]
  refine az.pure (fj r.right hr 141 [] (by simp) (fun s=>decide (0≤s)) (fun x _=>Hd x) (by kernel_rfl)) (by kernel_rfl) ?_
  simp (disch:=omega) only [↓wr,↓reduceIte,wq,ai,ah,ak,ae,af,ag,aj,isNil,Nat.reduceEqDiff,Nat.reduceAdd,Nat.reduceLT,Nat.reduceLeDiff,Int.reduceNeg,Int.reduceToNat,reduceCtorEq]
def xy (is:List Bool) (s:Int):Bool:=decide (s < 0) && !is.getD (-1 - s).toNat false
theorem DM (is:List Bool) (s:Int) (hs:bJ s∧(s < 0→-1 - s < is.length)):aC Tryz.prog 119 [gi s,.aJ [cE is] 0] (gb (xy is s)):=by
  refine aC.val ?_ fun H=>?_
  · intro v hv; simp at hv
    rcases hv with rfl | rfl
    · exact .val _
    · exact ff (by intro v hv; simp at hv; subst hv; exact oK is)
  obtain ⟨⟨h1,h2⟩,h3⟩:=hs
  refine aB.of mixed sD ?_
  simp (disch:=omega) only [↓wr,↓reduceIte,wq,ai,ah,ak,ae,af,ag,aj,isNil,Nat.reduceEqDiff,Nat.reduceAdd,Nat.reduceLT,Nat.reduceLeDiff,Int.reduceNeg,Int.reduceToNat,reduceCtorEq,oI,cE]
  refine an.dec (fun h=>?_) (fun h=>?_)
  · have hb:is[(-1 - s).toNat]?=some (is[(-1 - s).toNat]'(by omega)):=List.getElem?_eq_getElem (by omega)
    have hbd:is.getD (-1 - s).toNat false=is[(-1 - s).toNat]'(by omega):=by simp[List.getD_eq_getElem?_getD,hb]
    generalize is[(-1 - s).toNat]'(by omega)=b at hb hbd
    simp (disch:=omega) only [↓wr,↓reduceIte,wq,ai,ah,ak,ae,af,ag,aj,isNil,Nat.reduceEqDiff,Nat.reduceAdd,Nat.reduceLT,Nat.reduceLeDiff,Int.reduceNeg,Int.reduceToNat,reduceCtorEq,List.getElem?_map,hb]
    simp only[xy,hbd,h,decide_true,Bool.true_and]
  · simp (disch:=omega) only [↓wr,↓reduceIte,wq,ai,ah,ak,ae,af,ag,aj,isNil,Nat.reduceEqDiff,Nat.reduceAdd,Nat.reduceLT,Nat.reduceLeDiff,Int.reduceNeg,Int.reduceToNat,reduceCtorEq]
    simp[xy,h]
theorem Dh {is:List Bool} {l:List Int} : (!l.any (xy is))=da l is true:=by
  simp only[da,List.not_any_eq_all_not]
  congr 1
  funext s
  simp only[xy]
  by_cases h:0≤s
  · simp[h,show ¬ s < 0 by omega]
  · simp[h,show s < 0 by omega]
theorem Fb (r:aZ) (is:List Bool) (hr:aL r.right) (hs:∀ s∈r.right,bJ s∧(s < 0→-1 - s < is.length)):aC Tryz.prog 75 [.agg (bj r),cE is] (gb (da r.right is true)):=by
  rw[← Dh]
  refine aC.val (Ai r is) fun H=>?_
  refine aB.of mixed uQ ?_
  simp (disch:=omega) only [↓wr,↓reduceIte,wq,ai,ah,ak,ae,af,ag,aj,isNil,Nat.reduceEqDiff,Nat.reduceAdd,Nat.reduceLT,Nat.reduceLeDiff,Int.reduceNeg,Int.reduceToNat,reduceCtorEq,si,bj,cE,encI]
  refine az.pure (fj r.right hr 119 [.aJ [cE is] 0] (by
    intro v hv; simp at hv; subst hv
    exact ff (by intro v hv; simp at hv; subst hv; exact oK is)) (xy is) (fun x hx=>DM is x (hs x hx)) (by kernel_rfl)) (by kernel_rfl) ?_
  simp (disch:=omega) only [↓wr,↓reduceIte,wq,ai,ah,ak,ae,af,ag,aj,isNil,Nat.reduceEqDiff,Nat.reduceAdd,Nat.reduceLT,Nat.reduceLeDiff,Int.reduceNeg,Int.reduceToNat,reduceCtorEq]
theorem Bm {is:List Bool} {l:List Int} : ((!l.any fun s=>decide (0≤s)) && da l is true)=da l is false:=by
  induction l with
  | nil=>rfl
  | cons s l ih =>
    simp only[da,List.all_cons,List.any_cons] at ih ⊢
    rw[← ih]
    by_cases h:0≤s
    · simp[h]
    · simp only[h,decide_false,Bool.false_or,if_false]
      cases (l.any fun s=>decide (0≤s)) <;> simp
theorem zn {h:aE} {u:V} {l:List Int} (ho:aV h.view u 1 (l.map fun x=>[gi x])):dA h u (encI l):=dA.GW (f:=Value.int .i64) ho
theorem Bc (r:aZ) (is:List Bool) (hr:Ge is.length r):cG Tryz.prog 98 [.agg (bj r),cE is] (encI (if da r.right is false=true then [r.left] else [])):=by
  obtain ⟨hl,_,_,hr6,hs⟩:=hr
  have hsh:aL r.right:=by unfold aL; omega
  refine cG.of (Ai r is) ?_
  refine aB.of mixed q7 ?_
  rw[← Bm]
  simp (disch:=omega) only [↓wr,↓reduceIte,wq,ai,ah,ak,ae,af,ag,aj,isNil,Nat.reduceEqDiff,Nat.reduceAdd,Nat.reduceLT,Nat.reduceLeDiff,Int.reduceNeg,Int.reduceToNat,reduceCtorEq,mS,bj,encI]
  refine az.pure (H8 r hsh) (by kernel_rfl) ?_
  repeat' (first | (refine an.dec (fun _=>?_) (fun _=>?_)) | (refine an.eq (fun _=>?_) (fun _=>?_)) | (refine an.ne (fun _=>?_) (fun _=>?_)) | (refine an.split (fun _=>?_) (fun _=>?_)) | (refine az.pure (Fb r is hsh hs) (by kernel_rfl) ?_) | (simp (disch:=omega) only [↓wr,↓reduceIte,wq,ai,ah,ak,ae,af,ag,aj,isNil,Nat.reduceEqDiff,Nat.reduceAdd,Nat.reduceLT,Nat.reduceLeDiff,Int.reduceNeg,Int.reduceToNat,reduceCtorEq,bj,encI]))
  all_goals first
    | (intro n h' hh; rw[if_pos (by simp[*])]; exact zn (l:=[r.left]) (.inr ⟨n,rfl,by rw[hh]; simp[View.set]⟩))
    | (intro h' hh; rw[if_neg (by simp[*])]; exact .emp _)
def Aa (l:List Int):List Int:=(l.filter fun s=>decide (s < 0)).map fun s=>-1 - s
end Gv
set_option linter.unusedSimpArgs false
set_option maxRecDepth 100000
namespace Gv
open Go Go.Proofs
def mV (is:List Bool) (l:List Int):List Bool:=l.foldl (fun is n=>is.set n.toNat true) is
def stepG (comes:aZ→List Bool→List Int) (is:List Bool) (r:aZ):List Bool:=mV is (comes r is)
def cr (comes:aZ→List Bool→List Int) (rules:List aZ) (is:List Bool):List Bool:=rules.foldl (stepG comes) is
def dT (a b:List Bool):Prop:=a.length=b.length∧∀ i,a.getD i false=true→b.getD i false=true
theorem dT.refl (a:List Bool):dT a a:=⟨rfl,fun _ h=>h⟩
theorem dT.trans {a b c:List Bool} (h:dT a b) (k:dT b c):dT a c:=⟨h.1.trans k.1,fun i hi=>k.2 i (h.2 i hi)⟩
theorem dT.set (a:List Bool) (i:Nat):dT a (a.set i true):=by
  refine ⟨by simp,fun j h=>?_⟩
  simp only[List.getD_eq_getElem?_getD,List.getElem?_set] at h ⊢
  split
  · split
    · rfl
    · rename_i e h2; rw[← e,List.getElem?_eq_none (by omega)] at h; simp at h
  · exact h
theorem zP:∀ (l:List Int) (is:List Bool),dT is (mV is l)
  | [],is=>.refl _
  | n :: l,is=>(dT.set is n.toNat).trans (zP l _)
theorem oH (comes:aZ→List Bool→List Int):∀ (rules:List aZ) (is:List Bool),dT is (cr comes rules is)
  | [],is=>.refl _
  | r :: rs,is=>(zP _ _).trans (oH comes rs _)
def bS (a:List Bool):Nat:=a.countP fun x=>x
theorem q6 (a:List Bool):bS a≤a.length:=List.countP_le_length
theorem dT.bS:∀ {a b:List Bool},dT a b→bS a≤bS b∧(bS a=bS b→a=b)
  | [],[],_=>⟨Nat.le_refl _,fun _=>rfl⟩
  | [],_ :: _,h=>by simp[dT] at h
  | _ :: _,[],h=>by simp[dT] at h
  | x :: a,y :: b,h=>by
    have hxy:x=true→y=true:=fun e=>by have:=h.2 0 (by simpa using e); simpa using this
    obtain ⟨h1,h2⟩:=dT.bS (a:=a) (b:=b) ⟨by simpa using h.1,fun i hi=>by have:=h.2 (i+1) (by simpa using hi); simpa using this⟩
    unfold Gv.bS at h1 h2 ⊢
    simp only[List.countP_cons]
    cases x with
    | true =>
      have:=hxy rfl; subst this
      simp only[if_true]
      exact ⟨by omega,fun e=>by rw[h2 (by omega)]⟩
    | false =>
      cases y with
      | false=>simp only[Bool.false_eq_true,if_false]; exact ⟨by omega,fun e=>by rw[h2 (by omega)]⟩
      | true=>simp only[Bool.false_eq_true,if_false,if_true]; exact ⟨by omega,fun e=>by omega⟩
def dX (comes:aZ→List Bool→List Int) (rules:List aZ):Nat→List Bool→List Bool
  | 0,is=>is
  | k+1,is=>if cr comes rules is=is then is else dX comes rules k (cr comes rules is)
theorem oz (comes:aZ→List Bool→List Int) (rules:List aZ):∀ (k:Nat) (is:List Bool),is.length≤bS is+k→cr comes rules (dX comes rules k is)=dX comes rules k is∧dT is (dX comes rules k is)
  | 0,is,h=>by
    have h1:=oH comes rules is
    have h2:=q6 (cr comes rules is)
    have h3:=h1.bS
    rw[← h1.1] at h2
    have h4:=q6 is
    exact ⟨(h3.2 (by omega)).symm,.refl _⟩
  | k+1,is,h=>by
    simp only[dX]
    by_cases e:cr comes rules is=is
    · rw[if_pos e]; exact ⟨e,.refl _⟩
    · rw[if_neg e]
      have h1:=oH comes rules is
      have h3:=h1.bS
      have:bS is < bS (cr comes rules is):=by
        rcases Nat.lt_or_ge (bS is) (bS (cr comes rules is)) with h | h
        · exact h
        · exact absurd (h3.2 (by omega)).symm e
      obtain ⟨g1,g2⟩:=oz comes rules k (cr comes rules is) (by rw[← h1.1]; omega)
      exact ⟨g1,h1.trans g2⟩
def rV:SC :=
  .seq (al [aK 26 .lss 25 24]) <|
  .seq (.cond (.tmp 26) (.skip) (.exit 4)) <|
  .seq (.block 5 (.seq (al [aX 27 1 23 25,ao 28 27,aa 11 28]) <|
  .seq (.region false [⟨none,[aa 29 7,aa 30 29]⟩,⟨(some (30,false)),[aa 31 1,aa 32 11,aX 33 1 31 32,ao 34 33,bQ 35 34]⟩,⟨none,[bf 36 30 35,aa 7 36]⟩]) <|
  al [aa 37 1,aa 38 11,aX 39 1 37 38,(none,.op (.store 1 (.tmp 39) (.val (.val (.bool true)))))])) <|
  al [ax 40 .add 25 1,aa 25 40]
def rU:SC :=
  .seq (al [aK 17 .lss 16 15]) <|
  .seq (.cond (.tmp 17) (.skip) (.exit 2)) <|
  .seq (.block 3 (.seq (al [aX 18 3 14 16,aO 19 3 18,((some 9),.op (.alloc [(.val (.int .i64 0)),(.emp 1),(.val (.int .i64 0))])),(none,.op (.store 3 (.tmp 9) (.tmp 19)))]) <|
  .seq (al [aa 20 2,aO 21 3 9,aa 22 1,((some 23),.call (.tmp 20) [(.tmp 21),(.tmp 22)]),aI 24 23,aG 25 0]) <|
  .block 4 (.loop rV))) <|
  al [ax 41 .add 16 1,aa 16 41]
def mB:SC :=
  .seq (.seq (al [aa 12 7]) <|
  .cond (.tmp 12) (.skip) (.exit 0)) <|
  .block 1 (.seq (al [aP 7 false]) <|
  .seq (al [aq 13 2 3,ao 14 13,aI 15 14,aG 16 0]) <|
  .block 2 (.loop rU))
def ug:SF:=⟨.seq (al [b7 3 0,((some 6),.op (.bg (.val (.emp 1))))]) <|
  .seq (.seq (al [aP 7 true]) <|
  .block 0 (.loop mB)) <|
  .seq (al [aa 42 1,aa 6 42]) <|
  .ret,
  [.tmp 6],43⟩
theorem xk:aR Tryz.prog 97 [3]=some ug:=by kernel_rfl
theorem GR {is:List Bool} {i:Nat} (h:is.getD i false=true):is.set i true=is:=by
  apply List.ext_getElem?
  intro j
  simp only[List.getD_eq_getElem?_getD] at h
  rw[List.getElem?_set]
  split
  · rename_i e; subst e
    split
    · rename_i hl; rw[List.getElem?_eq_getElem hl] at h ⊢; simp at h; simp[h]
    · rename_i hl; rw[List.getElem?_eq_none (by omega)] at h; simp at h
  · rfl
theorem D0 {comes:aZ→List Bool→List Int} {rules:List aZ} {k:Nat} {is:List Bool} (h:cr comes rules is=is):dX comes rules k is=is:=by
  cases k with
  | zero=>rfl
  | succ k=>simp only[dX,h,if_true]
theorem DI {comes:aZ→List Bool→List Int} {rules:List aZ} {k:Nat} {is:List Bool} (h:¬ cr comes rules is=is) (hk:is.length≤bS is+k):∃ j,k=j+1∧dX comes rules k is=dX comes rules j (cr comes rules is)∧(cr comes rules is).length≤bS (cr comes rules is)+j:=by
  have h1:=oH comes rules is
  have h3:=h1.bS
  have h5:=q6 (cr comes rules is)
  have:bS is < bS (cr comes rules is):=by
    rcases Nat.lt_or_ge (bS is) (bS (cr comes rules is)) with h | h
    · exact h
    · exact absurd (h3.2 (by omega)).symm (by assumption)
  have hl:=h1.1
  obtain ⟨j,rfl⟩:∃ j,k=j+1:=⟨k - 1,by omega⟩
  exact ⟨j,rfl,by simp only[dX]; rw[if_neg h],by omega⟩
theorem Gj {a is:List Bool} {i:Nat} {b:Bool} (hle:dT a is) (hi:i < is.length) (hb:b = !decide (is=a)):(b || !is.getD i false) = !decide (is.set i true=a):=by
  cases hx:is.getD i false with
  | true=>rw[GR hx,hb]; simp
  | false =>
    have:¬ is.set i true=a:=fun e=>by
      have h1:(is.set i true).getD i false=true:=by simp[List.getD_eq_getElem?_getD,hi]
      rw[e] at h1
      have:=hle.2 i h1
      rw[hx] at this; simp at this
    simp[this]
set_option maxHeartbeats 8000000 in
theorem Iw (g:au) (hr:g.rules.length≤40) (comes:aZ→List Bool→List Int) (f:FuncId) (capt capt':List V) (hok:bY Tryz.prog f=true) (N:Nat) (hN:N≤16)
    (hc:∀ r∈g.rules,∀ is:List Bool,is.length=N→cG Tryz.prog f (.agg (bj r) :: cE is :: capt') (encI (comes r is))∧(comes r is).length≤100∧∀ n∈comes r is,bJ n∧0≤n∧n < N)
    (id:Nat) (is0:List Bool) (his:is0.length=N) (H:View) (hH:H id=.arr 1 (bw is0)) (hlent:∀ H':View,(∀ k,H k≠.dead→k≠id→H' k=H k)→lk H' capt capt') :
    aB Tryz.prog 97 [.agg (ar g),.sl id 0 N 1,.fn f [] capt] H fun r H'=>r=.sl id 0 N 1∧H' id=.arr 1 (bw (dX comes g.rules 16 is0))∧∀ k,H k≠.dead→k≠id→H' k=H k:=by
  refine aB.of mixed xk ?_
  simp (disch:=omega) only [↓wr,↓reduceIte,wq,ai,ah,ak,ae,af,ag,aj,isNil,Nat.reduceEqDiff,Nat.reduceAdd,Nat.reduceLT,Nat.reduceLeDiff,Int.reduceNeg,Int.reduceToNat,reduceCtorEq,ug,ar,encS]
  refine bo.intro (fun k T H'=>∃ is:List Bool,is.length=N∧H' id=.arr 1 (bw is)∧(∀ k,H k≠.dead→k≠id→H' k=H k)∧T 1=.sl id 0 N 1∧T 2=.fn f [] capt∧T 3=.aJ (ar g) 0 ∧
    ((T 7=gb true∧∃ j,k=j+1∧dX comes g.rules j is=dX comes g.rules 16 is0∧N≤bS is+j)∨(T 7=gb false∧is=dX comes g.rules 16 is0))) 17 ?_ ?_
  · exact ⟨is0,his,hH,fun _ _ _=>rfl,rfl,rfl,rfl,.inl ⟨rfl,16,rfl,rfl,by omega⟩⟩
  rintro k T H1 ⟨is,hlen,hid,hfr,t1,t2,t3,h7⟩
  rcases h7 with ⟨h7,j,rfl,hgr,hj⟩ | ⟨h7,hgr⟩
  · simp (disch:=omega) only [↓wr,↓reduceIte,wq,ai,ah,ak,ae,af,ag,aj,isNil,Nat.reduceEqDiff,Nat.reduceAdd,Nat.reduceLT,Nat.reduceLeDiff,Int.reduceNeg,Int.reduceToNat,reduceCtorEq,mB,t1,t2,t3,h7,ar,encS]
    refine bo.up g.rules.length (fun i T H'=>∃ is2:List Bool,is2.length=N∧dT is is2∧is2=(g.rules.take i).foldl (stepG comes) is∧H' id=.arr 1 (bw is2)∧(∀ k,H k≠.dead→k≠id→H' k=H k)∧T 1=.sl id 0 N 1∧T 2=.fn f [] capt∧T 3=.aJ (ar g) 0 ∧
      T 7=gb (!decide (is2=is))∧T 14=.aY (g.rules.map bj)∧T 15=gi g.rules.length∧T 16=gi i) ?_ ?_
    · exact ⟨is,hlen,.refl _,rfl,hid,hfr,t1,t2,t3,by simp; rfl,rfl,rfl,rfl⟩
    clear t1 t2 t3 h7 hid hfr
    rintro i k T H1 hk ⟨is2,hlen2,hle2,hst,hid,hfr,t1,t2,t3,h7,h14,h15,h16⟩
    simp (disch:=omega) only [↓wr,↓reduceIte,wq,ai,ah,ak,ae,af,ag,aj,isNil,Nat.reduceEqDiff,Nat.reduceAdd,Nat.reduceLT,Nat.reduceLeDiff,Int.reduceNeg,Int.reduceToNat,reduceCtorEq,rU,t1,t2,t3,h7,h14,h15,h16,ar,encS]
    refine an.dec (fun hcc=>?_) (fun hcc=>?_)
    · have hg2:g.rules[i]?=some (g.rules[i]'(by omega)):=List.getElem?_eq_getElem (by omega)
      have hmem:g.rules[i]'(by omega)∈g.rules:=List.getElem_mem _
      have htk:(g.rules.take (i+1)).foldl (stepG comes) is=stepG comes ((g.rules.take i).foldl (stepG comes) is) (g.rules[i]'(by omega)):=by
        rw[List.take_add_one,hg2,List.foldl_append]; rfl
      generalize g.rules[i]'(by omega)=r at hg2 hmem htk
      obtain ⟨hcp,hcl,hcn⟩:=hc r hmem is2 hlen2
      simp (disch:=omega) only [↓wr,↓reduceIte,wq,ai,ah,ak,ae,af,ag,aj,isNil,Nat.reduceEqDiff,Nat.reduceAdd,Nat.reduceLT,Nat.reduceLeDiff,Int.reduceNeg,Int.reduceToNat,reduceCtorEq,t1,t2,t3,h7,h14,h15,h16,bj,encI,List.getElem?_map,hg2]
      intro b hb
      have hbid:b≠id:=by rintro rfl; rw[hid] at hb; simp at hb
      try simp (disch:=omega) only [↓wr,↓reduceIte,wq,ai,ah,ak,ae,af,ag,aj,isNil,Nat.reduceEqDiff,Nat.reduceAdd,Nat.reduceLT,Nat.reduceLeDiff,Int.reduceNeg,Int.reduceToNat,reduceCtorEq,t1,t2,t3,h7,h14,h15,h16]
      refine az.rj hcp hok ⟨cO.tree (bF _ (gn r)),DB (by simp[View.set,hbid.symm,hid]) hlen2.symm,hlent _ (fun k hk hki=>?_)⟩ ?_
      · have hkb:k≠b:=by
          rintro rfl
          rw[hfr k hk hki] at hb
          exact hk hb
        simp[View.set,hkb,hfr k hk hki]
      generalize hl:comes r is2=l at hcl hcn
      simp (disch:=omega) only [↓wr,↓reduceIte,wq,ai,ah,ak,ae,af,ag,aj,isNil,Nat.reduceEqDiff,Nat.reduceAdd,Nat.reduceLT,Nat.reduceLeDiff,Int.reduceNeg,Int.reduceToNat,reduceCtorEq,t1,t2,t3,h7,h14,h15,h16,encI]
      refine bo.up l.length (fun q T H'=>∃ is3:List Bool,is3.length=N∧dT is is3∧is3=mV is2 (l.take q)∧H' id=.arr 1 (bw is3)∧(∀ k,H k≠.dead→k≠id→H' k=H k)∧T 1=.sl id 0 N 1∧T 2=.fn f [] capt∧T 3=.aJ (ar g) 0 ∧
        T 7=gb (!decide (is3=is))∧T 14=.aY (g.rules.map bj)∧T 15=gi g.rules.length∧T 16=gi i∧T 23=encI l∧T 24=gi l.length∧T 25=gi q) ?_ ?_
      · refine ⟨is2,hlen2,hle2,rfl,by simp[View.set,hbid.symm,hid],fun k hk hki=>?_,t1,t2,t3,h7,h14,h15,h16,rfl,rfl,rfl⟩
        have hkb:k≠b:=by
          rintro rfl
          rw[hfr k hk hki] at hb
          exact hk hb
        simp[View.set,hkb,hfr k hk hki]
      clear t1 t2 t3 h7 h14 h15 h16 hid hfr hb hbid
      rintro q k2 T H1 hk2 ⟨is3,hlen3,hle3,hst3,hid,hfr,t1,t2,t3,h7,h14,h15,h16,h23,h24,h25⟩
      simp (disch:=omega) only [↓wr,↓reduceIte,wq,ai,ah,ak,ae,af,ag,aj,isNil,Nat.reduceEqDiff,Nat.reduceAdd,Nat.reduceLT,Nat.reduceLeDiff,Int.reduceNeg,Int.reduceToNat,reduceCtorEq,rV,t1,t2,t3,h7,h14,h15,h16,h23,h24,h25,encI]
      refine an.dec (fun hqc=>?_) (fun hqc=>?_)
      · have hgq:l[q]?=some (l[q]'(by omega)):=List.getElem?_eq_getElem (by omega)
        have hmq:l[q]'(by omega)∈l:=List.getElem_mem _
        have htq:mV is2 (l.take (q+1))=(mV is2 (l.take q)).set (l[q]'(by omega)).toNat true:=by
          unfold mV; rw[List.take_add_one,hgq,List.foldl_append]; rfl
        generalize l[q]'(by omega)=n at hgq hmq htq
        obtain ⟨⟨n1,n2⟩,n3,n4⟩:=hcn n hmq
        have hbn:is3.getD n.toNat false=is3[n.toNat]'(by omega):=by simp[List.getD_eq_getElem?_getD,show n.toNat < is3.length by omega]
        have hnew:=Gj hle3 (show n.toNat < is3.length by omega) (b:=!decide (is3=is)) rfl
        rw[hbn] at hnew
        have hbg:=ET (show n.toNat < is3.length by omega)
        generalize is3[n.toNat]'(by omega)=x at hnew hbg hbn
        have fin:∀ (T2:Env),T2 7=gb (!decide (is3.set n.toNat true=is))→T2 1=.sl id 0 N 1→T2 2=.fn f [] capt→T2 3=.aJ (ar g) 0→T2 14=.aY (g.rules.map bj)→T2 15=gi g.rules.length→T2 16=gi i→T2 23=encI l→T2 24=gi l.length→T2 25=gi ((q:Int)+1) →
            ∃ k',k' < k2∧BM l.length k' (fun q T H'=>∃ is3:List Bool,is3.length=N∧dT is is3∧is3=mV is2 (l.take q)∧H' id=.arr 1 (bw is3)∧(∀ k,H k≠.dead→k≠id→H' k=H k)∧T 1=.sl id 0 N 1∧T 2=.fn f [] capt∧T 3=.aJ (ar g) 0 ∧
              T 7=gb (!decide (is3=is))∧T 14=.aY (g.rules.map bj)∧T 15=gi g.rules.length∧T 16=gi i∧T 23=encI l∧T 24=gi l.length∧T 25=gi q) T2 (H1.set id (.arr 1 (bw (is3.set n.toNat true)))):=by
          intro T2 a7 a1 a2 a3 a14 a15 a16 a23 a24 a25
          refine bb hk2 (by omega) ⟨is3.set n.toNat true,by simp[hlen3],hle3.trans (.set _ _),by rw[htq,← hst3],by simp[View.set],fun k hk hki=>by simp[View.set,hki,hfr k hk hki],a1,a2,a3,a7,a14,a15,a16,a23,a24,by rw[a25]; rfl⟩
        simp (disch:=omega) only [↓wr,↓reduceIte,wq,ai,ah,ak,ae,af,ag,aj,isNil,Nat.reduceEqDiff,Nat.reduceAdd,Nat.reduceLT,Nat.reduceLeDiff,Int.reduceNeg,Int.reduceToNat,reduceCtorEq,t1,t2,t3,h7,h14,h15,h16,h23,h24,h25,encI,List.getElem?_map,hgq]
        refine an.dec (fun e=>?_) (fun e=>?_)
        · simp (disch:=omega) only [↓wr,↓reduceIte,wq,ai,ah,ak,ae,af,ag,aj,isNil,Nat.reduceEqDiff,Nat.reduceAdd,Nat.reduceLT,Nat.reduceLeDiff,Int.reduceNeg,Int.reduceToNat,reduceCtorEq,t1,t2,t3,h7,h14,h15,h16,h23,h24,h25,encI,hid,hbg,List.length_map]
          refine ⟨by omega,by omega,?_⟩
          try simp (disch:=omega) only [↓wr,↓reduceIte,wq,ai,ah,ak,ae,af,ag,aj,isNil,Nat.reduceEqDiff,Nat.reduceAdd,Nat.reduceLT,Nat.reduceLeDiff,Int.reduceNeg,Int.reduceToNat,reduceCtorEq,t1,t2,t3,h7,h14,h15,h16,h23,h24,h25,encI,hid,hbg,List.length_map]
          refine ⟨by omega,by omega,?_⟩
          rw[jg]
          exact fin _ (by rw[← hnew]; simp[e]; rfl) t1 t2 t3 h14 h15 h16 h23 h24 rfl
        · simp (disch:=omega) only [↓wr,↓reduceIte,wq,ai,ah,ak,ae,af,ag,aj,isNil,Nat.reduceEqDiff,Nat.reduceAdd,Nat.reduceLT,Nat.reduceLeDiff,Int.reduceNeg,Int.reduceToNat,reduceCtorEq,t1,t2,t3,h7,h14,h15,h16,h23,h24,h25,encI,hid,hbg,List.length_map]
          refine ⟨by omega,by omega,?_⟩
          rw[jg]
          exact fin _ (by rw[← hnew]; simp[e]; rfl) t1 t2 t3 h14 h15 h16 h23 h24 rfl
      · rw[List.take_of_length_le (by omega)] at hst3
        simp (disch:=omega) only [↓wr,↓reduceIte,wq,ai,ah,ak,ae,af,ag,aj,isNil,Nat.reduceEqDiff,Nat.reduceAdd,Nat.reduceLT,Nat.reduceLeDiff,Int.reduceNeg,Int.reduceToNat,reduceCtorEq,t1,t2,t3,h7,h14,h15,h16,h23,h24,h25]
        refine bb hk (by omega) ⟨is3,hlen3,hle3,?_,hid,hfr,t1,t2,t3,h7,h14,h15,rfl⟩
        rw[htk,← hst,stepG,hl,← hst3]
    · rw[List.take_of_length_le (by omega)] at hst
      simp (disch:=omega) only [↓wr,↓reduceIte,wq,ai,ah,ak,ae,af,ag,aj,isNil,Nat.reduceEqDiff,Nat.reduceAdd,Nat.reduceLT,Nat.reduceLeDiff,Int.reduceNeg,Int.reduceToNat,reduceCtorEq,t1,t2,t3,h7,h14,h15,h16]
      have hrd:is2=cr comes g.rules is:=hst
      by_cases e:is2=is
      · refine ⟨0,by omega,is2,hlen2,hid,hfr,rfl,.inr ⟨by simp[e],?_⟩⟩
        rw[← hgr,e]
        exact (D0 (by rw[← hrd]; exact e)).symm
      · obtain ⟨j2,rfl,e2,e3⟩:=DI (k:=j) (fun h=>e (hrd.trans h)) (by rw[hlen]; exact hj)
        refine ⟨j2+1,by omega,is2,hlen2,hid,hfr,rfl,.inl ⟨by simp[e],j2,rfl,?_,?_⟩⟩
        · rw[← hgr,e2,hrd]
        · rw[← hrd,hlen2] at e3; exact e3
  · simp (disch:=omega) only [↓wr,↓reduceIte,wq,ai,ah,ak,ae,af,ag,aj,isNil,Nat.reduceEqDiff,Nat.reduceAdd,Nat.reduceLT,Nat.reduceLeDiff,Int.reduceNeg,Int.reduceToNat,reduceCtorEq,mB,t1,t2,t3,h7,ar,encS]
    exact ⟨hgr ▸ hid,hfr⟩
end Gv
set_option linter.unusedSimpArgs false
set_option maxRecDepth 100000
namespace Gv
open Go Go.Proofs
theorem vl {α:Type} {f:α→α} {x:α} (h:f x=x):∀ n,iter f n x=x
  | 0=>rfl
  | n+1=>by rw[iter,h,vl h n]
theorem AA {α:Type} (f:α→α):∀ (a b:Nat) (x:α),iter f (a+b) x=iter f b (iter f a x)
  | 0,b,x=>by rw[Nat.zero_add]; rfl
  | a+1,b,x=>by rw[Nat.add_right_comm,iter,iter,AA f a b]
theorem wX (comes:aZ→List Bool→List Int) (rules:List aZ):∀ (k:Nat) (is:List Bool),dX comes rules k is=iter (cr comes rules) k is
  | 0,is=>rfl
  | k+1,is=>by
    simp only[dX,iter]
    by_cases e:cr comes rules is=is
    · rw[if_pos e,e,vl e]
    · rw[if_neg e,wX comes rules k]
theorem tj (comes:aZ→List Bool→List Int) (rules:List aZ) (is:List Bool) (h:is.length≤16):dX comes rules 16 is=iter (cr comes rules) is.length is:=by
  have h1:=(oz comes rules is.length is (by omega)).1
  rw[wX] at h1 ⊢
  obtain ⟨m,hm⟩:∃ m,16=is.length+m:=⟨16 - is.length,by omega⟩
  rw[hm,AA,vl h1]
def nP (t:Bool) (r:aZ) (is:List Bool):List Int:=if da r.right is t=true then [r.left] else []
def wJ (p:List Bool) (r:aZ) (is:List Bool):List Int:=if (is.getD r.left.toNat false && da r.right p true)=true then Aa r.right else []
theorem Cm (g:au) (t:Bool):cr (nP t) g.rules=jo g t:=by
  funext is
  unfold cr jo
  congr 1
  funext is r
  unfold stepG nP cT
  split <;> rfl
theorem vU:∀ (l:List Int) (is:List Bool),mV is (Aa l)=l.foldl mark is
  | [],is=>rfl
  | s :: l,is=>by
    have ih:=vU l
    unfold mV Aa at ih ⊢
    rw[List.foldl_cons,← ih]
    unfold mark
    by_cases h:s < 0
    · rw[if_pos h,List.filter_cons_of_pos (by simpa using h)]; rfl
    · rw[if_neg h,List.filter_cons_of_neg (by simpa using h)]
theorem CZ (g:au) (p:List Bool):cr (wJ p) g.rules=qc g p:=by
  funext is
  unfold cr qc
  congr 1
  funext is r
  unfold stepG wJ fQ
  split
  · exact vU _ _
  · rfl
theorem Fg {g:au} (h:aT g=true) (t:Bool):dX (nP t) g.rules 16 (cX g)=aH g t:=by
  have hf:=bt h
  have hl:(cX g).length=g.aD.length:=by simp[cX]
  have:=hf.aD
  rw[tj _ _ _ (by rw[hl]; exact hf.aD),Cm,hl,aH,if_pos h]
theorem IX {g:au} (h:aT g=true):dX (wJ (aH g true)) g.rules 16 ((cX g).set g.start.toNat true)=bR g:=by
  have hf:=bt h
  have hl:((cX g).set g.start.toNat true).length=g.aD.length:=by simp[cX]
  rw[tj _ _ _ (by rw[hl]; exact hf.aD),CZ,hl,bR,if_pos h]
def oD:SF:=⟨.seq (al [b7 1 0,((some 2),.op (.bg (.val (.emp 1))))]) <|
  .seq (.seq (al [aO 3 4 1,aF 4 38 [3],bQ 5 4]) <|
  .cond (.tmp 5) (.seq (al [((some 2),.op (.bg (.val (.emp 1))))]) <|
  .ret) (.skip)) <|
  .seq (al [aO 6 4 1,aq 7 1 1,ao 8 7,aI 9 8,((some 10),.op (.make 1 1 [(.val (.bool false))] (.tmp 9) (.tmp 9))),bT 11 97 [(.tmp 6),(.tmp 10),(.val (.fn 98 [] []))],aa 2 11]) <|
  .ret,
  [.tmp 2],12⟩
theorem tn:aR Tryz.prog 54 [1]=some oD:=by kernel_rfl
structure au.Small (g:au):Prop where
  names:g.aD.length+g.aw.length≤1000
theorem Fe {h':aE} {id n:Nat} {is:List Bool} (hv:h'.view id=.arr 1 (bw is)) (hn:n=is.length):dA h' (.sl id 0 n 1) (cE is):=by
  subst hn; exact oo hv
set_option maxHeartbeats 2000000 in
theorem zK (g:au) (hg:g.Ok) (hs:g.Small):cG Tryz.prog 54 [.agg (ar g)] (cE (aH g false)):=by
  refine cG.of (k7 g) ?_
  refine aB.of mixed tn ?_
  have hn:=hg.aD
  unfold aL at hn
  simp (disch:=omega) only [↓wr,↓reduceIte,wq,ai,ah,ak,ae,af,ag,aj,isNil,Nat.reduceEqDiff,Nat.reduceAdd,Nat.reduceLT,Nat.reduceLeDiff,Int.reduceNeg,Int.reduceToNat,reduceCtorEq,oD,ar,encS]
  refine az.pure (sH g hg hs.names) (by kernel_rfl) ?_
  repeat' (first | (refine an.dec (fun _=>?_) (fun _=>?_)) | (refine an.eq (fun _=>?_) (fun _=>?_)) | (refine an.ne (fun _=>?_) (fun _=>?_)) | (refine an.split (fun _=>?_) (fun _=>?_)) | (simp (disch:=omega) only [↓wr,↓reduceIte,wq,ai,ah,ak,ae,af,ag,aj,isNil,Nat.reduceEqDiff,Nat.reduceAdd,Nat.reduceLT,Nat.reduceLeDiff,Int.reduceNeg,Int.reduceToNat,reduceCtorEq,ar,encS]))
  · rename_i hr
    have hf:=bt hr
    have h1:=hf.HG
    have h2:=hf.aD
    try simp (disch:=omega) only [↓wr,↓reduceIte,wq,ai,ah,ak,ae,af,ag,aj,isNil,Nat.reduceEqDiff,Nat.reduceAdd,Nat.reduceLT,Nat.reduceLeDiff,Int.reduceNeg,Int.reduceToNat,reduceCtorEq,ar,encS]
    refine ⟨⟨by omega,by unfold aM; omega,by unfold aM; omega⟩,fun h=>by omega,?_⟩
    intro _ n
    try simp (disch:=omega) only [↓wr,↓reduceIte,wq,ai,ah,ak,ae,af,ag,aj,isNil,Nat.reduceEqDiff,Nat.reduceAdd,Nat.reduceLT,Nat.reduceLeDiff,Int.reduceNeg,Int.reduceToNat,reduceCtorEq,ar,encS]
    refine az.dg ((Iw g hf.rules (nP false) 98 [] [] (by kernel_rfl) g.aD.length h2 (fun r hr' is his=>⟨Bc r is (by rw[his]; exact hf.II hg hr'),?_,?_⟩) n (cX g) (by simp[cX]) _ (by simp[View.set,cX]) (fun H' _=>trivial)).mono ?_)
    · unfold nP; split <;> simp
    · intro m hm
      unfold nP at hm
      split at hm
      · simp only[List.mem_singleton] at hm; subst hm
        exact ⟨(hg.bq r hr').1,hf.left r hr'⟩
      · simp at hm
    · rintro r H' ⟨rfl,hid,_⟩
      simp (disch:=omega) only [↓wr,↓reduceIte,wq,ai,ah,ak,ae,af,ag,aj,isNil,Nat.reduceEqDiff,Nat.reduceAdd,Nat.reduceLT,Nat.reduceLeDiff,Int.reduceNeg,Int.reduceToNat,reduceCtorEq]
      intro h' hh
      rw[Fg hr] at hid
      exact Fe (by rw[hh]; exact hid) (pA hr _).symm
  · rename_i hr
    intro h' hh
    simp only[aH,hr]
    exact .emp _
theorem BD {g:au} (hr:aT g=true):(bR g).length=g.aD.length:=by
  rw[bR,if_pos hr,vx (f:=qc g (aH g true)) (fun is=>uI (fun is x=>FM _ is x) g.rules is)]
  simp[cX]
end Gv
set_option linter.unusedSimpArgs false
namespace Gv
open Go Go.Proofs
def cJ (p q:List Bool) (r:aZ):Bool:=q.getD r.left.toNat false && da r.right p true
def rP (p q:List Bool):List aZ→Int→List Int
  | [],_=>[]
  | r :: l,i=>if cJ p q r=true then i :: rP p q l (i+1) else rP p q l (i+1)
def eA (acc:List Int) (r:aZ):List Int:=if r.left∈acc then acc else acc ++ [r.left]
def kK (p q:List Bool) (l:List aZ):List Int:=(l.filter (cJ p q)).foldl eA []
def bA (o:List Int) (x:Int):Int:=dh (fun y=>y == x) o 0
def cg (f:Int→Int) (r:aZ):aZ:=⟨f r.left,r.right.map fun s=>if s < 0 then -1 - f (-1 - s) else s,r.prec⟩
def rn (g:au) (f:Int→Int) (p q:List Bool):au :=
  ⟨g.aw,(kK p q g.rules).map fun x=>g.aD.getD x.toNat ⟨#[]⟩,(g.rules.filter (cJ p q)).map (cg f),f g.start⟩
def Jc:au:=⟨[],[],[],0⟩
instance:DecidableEq Term:=fun a b=>decidable_of_iff (a.name=b.name∧a.level=b.level∧a.assoc=b.assoc) (by cases a; cases b; simp)
instance:DecidableEq aZ:=fun a b=>decidable_of_iff (a.left=b.left∧a.prec=b.prec∧a.right=b.right) (by cases a; cases b; simp[and_comm])
instance:DecidableEq au:=fun a b=>decidable_of_iff (a.aw=b.aw∧a.aD=b.aD∧a.rules=b.rules∧a.start=b.start) (by cases a; cases b; simp)
def vp (g:au):au × List Int × Int :=
  if aT g=true then
    if (aH g true).getD g.start.toNat false=true then (rn g (bA (kK (aH g true) (bR g) g.rules)) (aH g true) (bR g),rP (aH g true) (bR g) g.rules 0,0)
    else (Jc,[],9)
  else (Jc,[],1)
theorem z8 {g:au} (hr:aT g=true):vp g=if (aH g true).getD g.start.toNat false=true then (rn g (bA (kK (aH g true) (bR g) g.rules)) (aH g true) (bR g),rP (aH g true) (bR g) g.rules 0,0) else (Jc,[],9):=by
  rw[vp,if_pos hr]
theorem A0 {o:List Int} {x:Int} : bA o x < 0↔x ∉ o:=by
  have:=rO (fun y=>y == x) o 0 (by omega)
  unfold bA
  rw[← Int.not_le]
  constructor
  · intro h hx
    have e:(o.any fun y=>y == x)=true:=List.any_eq_true.2 ⟨x,hx,by simp⟩
    rw[e] at this; exact h (by simpa using this)
  · intro h hx
    have e:(o.any fun y=>y == x)=true:=by rw[← this]; simpa using hx
    obtain ⟨y,hy,e⟩:=List.any_eq_true.1 e
    simp at e; subst e; exact h hy
theorem uE {α:Type} (p:α→Bool):∀ (a b:List α) (i:Int),0≤i→dh p (a ++ b) i=if 0≤dh p a i then dh p a i else dh p b (i+a.length)
  | [],b,i,_=>by simp[dh]
  | x :: a,b,i,h=>by
    by_cases hp:p x=true
    · simp[dh,hp,h]
    · simp only[List.cons_append,dh,if_neg hp]
      rw[uE p a b (i+1) (by omega)]
      have:i+1+(a.length:Int)=i+(((x :: a).length:Nat):Int):=by simp; omega
      rw[this]
theorem jj {o:List Int} {x:Int} (h:x∈o):0≤bA o x∧bA o x < o.length:=by
  have h0:¬ bA o x < 0:=fun e=>A0.1 e h
  refine ⟨by omega,?_⟩
  unfold bA
  have:∀ (l:List Int) (i:Int),dh (fun z=>z == x) l i < i+l.length∨dh (fun z=>z == x) l i = -1:=by
    intro l
    induction l with
    | nil=>intro i; right; rfl
    | cons z l ih =>
      intro i
      simp only[dh]
      split
      · left; simp; omega
      · rcases ih (i+1) with h | h
        · left; simp at h ⊢; omega
        · right; exact h
  rcases this o 0 with h1 | h1
  · simpa using h1
  · unfold bA at h0; omega
theorem B0 (o:List Int) (x:Int) : -1≤bA o x∧bA o x≤o.length:=by
  by_cases h:x∈o
  · have:=jj h; omega
  · have h1:=A0.2 h
    have h2:∀ (l:List Int) (i:Int),0≤i→-1≤dh (fun z=>z == x) l i:=by
      intro l
      induction l with
      | nil=>intro i _; simp[dh]
      | cons z l ih =>
        intro i hi
        simp only[dh]
        split
        · omega
        · exact ih _ (by omega)
    have:=h2 o 0 (by omega)
    unfold bA at h1 ⊢
    omega
end Gv
set_option linter.unusedSimpArgs false
set_option maxRecDepth 100000
namespace Gv
open Go Go.Proofs
abbrev ch (l:List Int):List (List V):=l.map fun x=>[gi x]
abbrev vO (l:List ByteArray):List (List V):=l.map fun s=>[gs s]
abbrev wD:=List (V × aZ)
def gC (b:wD):List (List V):=b.map fun x=>[gi x.2.left,x.1,gi x.2.prec]
def qo (b:wD):List fS:=b.map fun x=>(x.1,1,ch x.2.right)
theorem FE {h:aE} {u:V} {b:wD} (ho:aV h.view u 3 (gC b)) (hb:∀ x∈qo b,aV h.view x.1 x.2.1 x.2.2):dA h u (.aY ((b.map (·.2)).map bj)):=by
  refine dA.own ho (by simp[gC]) (fun i hi=>?_) (fun i j hi hj=>?_)
  all_goals
    simp only[gC,List.length_map] at hi
    have e1:(gC b).getD i []=[gi b[i].2.left,b[i].1,gi b[i].2.prec]:=by simp[gC,List.getD_eq_getElem?_getD,hi]
    have e2:((b.map (·.2)).map bj).getD i []=bj b[i].2:=by simp[List.getD_eq_getElem?_getD,hi]
  · rw[e1,e2]; rfl
  · rw[e1,e2]
    rw[e2] at hj
    have hm:b[i]∈b:=List.getElem_mem _
    have ho:=hb (b[i].1,1,ch b[i].2.right) (List.mem_map.2 ⟨_,hm,rfl⟩)
    match j,hj with
    | 0,_=>exact .val _
    | 1,_=>exact zn ho
    | 2,_=>exact .val _
    | n+3,hj=>exact absurd hj (by simp only[bj,List.length_cons,List.length_nil]; omega)
theorem Gt {h:aE} {u:V} {l:List ByteArray} (ho:aV h.view u 1 (vO l)):dA h u (encS l):=dA.GW (f:=Value.string) ho
theorem F5 {h:aE} {u:V} {l:List Term} (ho:aV h.view u 3 (l.map cZ)):dA h u (de l):=by
  refine dA.own ho rfl (fun _ _=>rfl) (fun i j hi hj=>?_)
  simp only[List.length_map] at hi
  have e1:(l.map cZ).getD i []=cZ l[i]:=by simp[List.getD_eq_getElem?_getD,hi]
  rw[e1] at hj ⊢
  match j,hj with
  | 0,_=>exact .val _
  | 1,_=>exact .val _
  | 2,_=>exact .val _
  | n+3,hj=>exact absurd hj (by simp only[cZ,List.length_cons,List.length_nil]; omega)
end Gv
set_option linter.unusedSimpArgs false
set_option maxRecDepth 100000
namespace Gv
open Go Go.Proofs
theorem View.IW {H:View} {id:Nat} {o:br} (h:H id=o):H.set id o=H:=by
  funext m
  simp only[View.set]
  split
  · rename_i e; subst e; exact h.symm
  · rfl
theorem uh {P:Program} {T:Env} {H:View} {K:V→View→Prop} {w:bP (T,H,K)} {t e ty:TypeId} {x:Operand} {id off len esz z:Nat} {es:List (List V)} (hu:P.underlying t=some (.slice e)) (he:P.underlying e=some (.int .u8))
    (hx:ev T x=.sl id off len esz) (hl:len≠0) (hH:H id=.arr z es) (hk:K (.sl id off len esz) H):mW P (.convert t t x) ty T H K w:=by
  intro n _
  have hb:gE P t t=true:=by simp[gE,hu]
  refine ⟨.sl id off len esz,.dw id (.arr z es),[id],?_,?_⟩
  · simp only[sI,bz,oper]
    rw[if_pos hb,hx]
    simp[iU,hu,he,hH,hl]
  · show K _ (H.set id (.arr z es))
    rw[View.IW hH]; exact hk
theorem wm {H:View} {n:Nat} (l:List Int) (h:H n=.arr 1 (l.map fun x=>[gy x])):cO H (.sl n 0 l.length 1) (tc l) :=
  cO.own (.inr ⟨n,by simp,h⟩) fun e he v hv=>by
    obtain ⟨x,_,rfl⟩:=List.mem_map.1 he
    simp at hv; subst hv; exact .val _
theorem lh {g:au} (e:gq g=false):g.Small:=by
  simp only[gq,Bool.or_eq_false_iff,decide_eq_false_iff_not] at e
  exact ⟨by omega⟩
theorem ra (g:au):aC Tryz.prog 13 [.agg (ar g)] (gb (gq g)):=aC.val (k7 g) fun H=>(Gx g H).mono fun _ _ h=>h.1
theorem yf {a b:V} (ha:Tree a) (hb:Tree b):Tree (.bp [a,b]):=.bp _ fun i hi=>by
  match i,hi with
  | 0,_=>exact ha
  | 1,_=>exact hb
  | n+2,h=>exact absurd h (by simp)
theorem q4 {H:View} {id n:Nat} {l:List Int} (hv:H id=.arr 1 (ch l)) (hn:n=l.length):cO H (.sl id 0 n 1) (encI l):=by
  subst hn
  exact cO.own (sz:=1) (.inr ⟨id,by simp,hv⟩) fun e he v hv=>by
    obtain ⟨x,_,rfl⟩:=List.mem_map.1 he
    simp at hv; subst hv; exact .val _
theorem aV.elems {H:View} {u:V} {sz:Nat} {es:List (List V)} (h:aV H u sz es):∃ rd,bD H u=some (es,rd):=by
  rcases h with ⟨rfl,k,rfl⟩ | ⟨n,rfl,hn⟩
  · exact ⟨[],rfl⟩
  · cases es with
    | nil=>exact ⟨[],rfl⟩
    | cons e r =>
      refine ⟨[n],?_⟩
      rw[List.length_cons,rz _ n 0 r.length sz sz _ hn (by simp),List.drop_zero,List.take_of_length_le (by simp)]
theorem c6.step {H H' H1:View} {u u1:V} (h:c6 H H' u) (l:Left H' H1 u u1):c6 H H1 u1:=fun id hid=>by
  have h1:=h id hid
  have h2:=l id (by rw[h1.1]; exact hid) h1.2
  exact ⟨h2.1.trans h1.1,h2.2⟩
theorem c6.put {H H':View} {u:V} {n:Nat} {o:br} (h:c6 H H' u) (hn:H' n=.dead):c6 H (H'.set n o) u:=fun id hid=>by
  have h1:=h id hid
  have e:id≠n:=by rintro rfl; rw[h1.1] at hn; exact hid hn
  exact ⟨by simp[View.set,e,h1.1],h1.2⟩
theorem c6.call {H H' H2:View} {u r:V} (h:c6 H H' u) (k:c6 H' H2 r):c6 H H2 u:=fun id hid=>by
  have h1:=h id hid
  have h2:=k id (by rw[h1.1]; exact hid)
  exact ⟨h2.1.trans h1.1,h1.2⟩
theorem az.Ep {P:Program} {q:Bool} {f:FuncId} {H:View} {vs:List V} {K:V→View→Prop} {v:bP (H,K)} {t:V} (Φ:View→Prop) (hc:aC P f vs t) (hok:bY P f=true) (hΦ:Φ H) (hk:∀ H,Φ H→K t H):az P q f vs H K v :=
  az.pure hc hok (hk H hΦ)
end Gv
set_option linter.unusedSimpArgs false
namespace Gv
open Go
theorem er {P:Program} {t:TypeId} {d:TypeDesc} (hu:P.underlying t=some d) (hd:d=.string∨∃ k,d=.int k) (cs:Array Value) (off:Nat) {v:Value} (hv:cs[off]?=some v):aW P (part t cs off)=some v:=by
  have h0:aW P (isAgg t)=some false:=by
    rcases hd with rfl | ⟨k,rfl⟩
    all_goals simp only[isAgg,aQ,cq hu,Option.bind_some]; rfl
  simp only[part,aQ,h0,Option.bind_some,Bool.false_eq_true,if_false,hv]
  rfl
inductive dS (P:Program) (d:Nat) (xs ys:Array Value):List Field→Bool→Prop
  | nil:dS P d xs ys [] true
  | str (f:Field) (l:List Field) (c:Bool) (a b:ByteArray):(f.name≠ "_")→P.underlying f.type=some .string→xs[f.offset]?=some (.string a)→ys[f.offset]?=some (.string b)→dS P d xs ys l c→dS P d xs ys (f :: l) (a == b && c)
  | int (f:Field) (l:List Field) (c:Bool) (k:IntKind) (a b:Int):(f.name≠ "_")→P.underlying f.type=some (.int k)→xs[f.offset]?=some (.int k a)→ys[f.offset]?=some (.int k b)→dS P d xs ys l c→dS P d xs ys (f :: l) (a == b && c)
theorem dS.forIn {P:Program} {d e:Nat} {xs ys:Array Value} {l:List Field} {c:Bool} (h:dS P d xs ys l c) (hd:e=d+1) :
    aW P (forIn l ((none:Option Bool),()) fun f _ =>
        if f.name≠ "_" then do
          let a ← part f.type xs f.offset
          let b ← part f.type ys f.offset
          let e ← Op.equalIn e f.type a b
          if (!e)=true then pure (ForInStep.done (some false,())) else pure (ForInStep.yield (none,()))
        else pure (ForInStep.yield (none,())))=some (if c=true then (none,()) else (some false,())):=by
  subst hd
  induction h with
  | nil=>rfl
  | str f l c a b hn hu hx hy _ ih =>
    have he:aW P (Op.equalIn (d+1) f.type (.string a) (.string b))=some (a == b):=by
      simp only[Op.equalIn,aQ,cq hu,Option.bind_some]; rfl
    rw[List.forIn_cons,aQ,if_pos hn,aQ,er hu (.inl rfl) xs _ hx,Option.bind_some,aQ,er hu (.inl rfl) ys _ hy,Option.bind_some,aQ,he,Option.bind_some]
    cases a == b with
    | false=>rfl
    | true=>exact ih
  | int f l c k a b hn hu hx hy _ ih =>
    have he:aW P (Op.equalIn (d+1) f.type (.int k a) (.int k b))=some (a == b):=by
      simp only[Op.equalIn,aQ,cq hu,Option.bind_some]; rfl
    rw[List.forIn_cons,aQ,if_pos hn,aQ,er hu (.inr ⟨k,rfl⟩) xs _ hx,Option.bind_some,aQ,er hu (.inr ⟨k,rfl⟩) ys _ hy,Option.bind_some,aQ,he,Option.bind_some]
    cases a == b with
    | false=>rfl
    | true=>exact ih
theorem nE {P:Program} {t:TypeId} {fs:Array Field} {xs ys:Array Value} {c:Bool} (hu:P.underlying t=some (.struct fs)) (hs:P.stoodInHeld t=false) (h:dS P 9998 xs ys fs.toList c) :
    aW P (Op.equal t (.agg xs) (.agg ys))=some c:=by
  rw[gJ]
  rw[Op.equalIn,aQ,cq hu,Option.bind_some]
  have hst:(aW P program)=some P:=rfl
  rw[aQ,hst,Option.bind_some,hs]
  simp only[← Array.forIn_toList,Bool.false_eq_true,if_false]
  rw[aQ,h.forIn (e:=9999) rfl,Option.bind_some]
  cases c <;> rfl
theorem xn {P:Program} {o:Oper} {T:Env} {op:BinOp} {t u:TypeId} {x y:Operand} {fs:Array Field} {xs ys:Array Value} {c r:Bool} (ho:o.op=.binOp op t x y u) (hu:P.underlying t=some (.struct fs)) (hs:P.stoodInHeld t=false) (hg:P.eqGuardType P.depth t=false)
    (hx:bN (ev T x)=some (.agg xs)) (hy:bN (ev T y)=some (.agg ys)) (h:dS P 9998 xs ys fs.toList c) (hr:(op=.eql∧r=c)∨(op=.neq∧r = !c)) :
    cm P o T=some (.val (.bool r),.none,[]):=by
  have he:=nE hu hs h
  have hst:(aW P program)=some P:=rfl
  unfold cm
  simp only[ho,Op.operands,hx,hy]
  rcases hr with ⟨rfl,rfl⟩ | ⟨rfl,rfl⟩
  · simp[execOp,ho,hx,hy,eqGuard,binOp,eN,aQ,hst,hg,he,plain]
    try simp[aW,pure,plain]
  · simp[execOp,ho,hx,hy,eqGuard,binOp,eN,aQ,hst,hg,he,plain]
    try simp[aW,pure,plain,bne]
theorem Bo {P:Program} {T:Env} {H:View} {K:V→View→Prop} {w:bP (T,H,K)} {op:BinOp} {t u ty:TypeId} {x y:Operand} {fs:Array Field} {xs ys:Array Value} {c r:Bool} (hu:P.underlying t=some (.struct fs)) (hs:P.stoodInHeld t=false) (hg:P.eqGuardType P.depth t=false)
    (hx:bN (ev T x)=some (.agg xs)) (hy:bN (ev T y)=some (.agg ys)) (h:dS P 9998 xs ys fs.toList c) (hr:(op=.eql∧r=c)∨(op=.neq∧r = !c)) (hk:K (.val (.bool r)) H):mW P (.binOp op t x y u) ty T H K w:=by
  intro n _
  refine ⟨.val (.bool r),.none,[],?_,hk⟩
  have hn:eY P t=none:=by simp[eY,hu]
  simp only[sI,bz,oper,hn]
  simp only[Option.isSome_none,Bool.false_eq_true,if_false]
  exact xn rfl hu hs hg hx hy h hr
end Gv
set_option linter.unusedSimpArgs false
namespace Gv
open Go
def th (hp:Array Obj) (cs:List Value) (vs:List V):Prop :=
  vs.length=cs.length∧∀ μ i,i < vs.length→ay (fun b=>b < hp.size) μ hp (vs.getD i .any) (cs.getD i undef)
def Wt {H:Type} (P:Program) (t:TypeId) (d:DataW H):Prop:=∀ n∈d.weights P t,n≤reachBytes
def rZ (P:Program) (t:TypeId) {α:Type} (f:α→List V) (ok:α→Prop):Prop :=
  ∀ {H:Type} (enc:TypeId × Value→H) (w:World) (base:Nat) (sp:Nat→Bool) (held:Bool) (fuel:Nat) (cs:List Value) (x:DataW H × List MemPlace),
    DataW.trod enc P w base sp held fuel t cs=some x→Wt P t x.1→∃ a,ok a∧th w.heap cs (f a)
theorem rC {hp:Array Obj} {c:Value} {v:V} (h:∀ μ,ay (fun b=>b < hp.size) μ hp v c):th hp [c] [v]:=by
  refine ⟨rfl,fun μ i hi=>?_⟩
  match i,hi with
  | 0,_=>exact h μ
theorem I7 {P:Program} {t:TypeId} {k:IntKind} (ht:P.underlying t=some (.int k)):rZ P t (fun n=>[.val (.int k n)]) (fun n=>(Lit.int k n).wf=true):=by
  intro H enc w base sp held fuel cs x h _
  obtain ⟨n,rfl,_,hw⟩:=DataW.trod_int ht h
  exact ⟨n,hw,rC fun μ=>.val _ rfl⟩
theorem xQ {P:Program} {t:TypeId} (ht:P.underlying t=some .string):rZ P t (fun s=>[.val (.string s)]) (fun _=>True):=by
  intro H enc w base sp held fuel cs x h _
  obtain ⟨s,rfl,_,_⟩:=DataW.trod_string ht h
  exact ⟨s,trivial,rC fun μ=>.val _ rfl⟩
theorem Ax {w:World} {base:Nat} {a:Addr} {n:Nat} {cs:List Value} (h:w.cells? base a n=some cs):cs.length=n∧∀ i,i < n→w.cell? (a.add i)=some (cs.getD i undef):=by
  obtain ⟨_,h2,h3⟩:=World.cells?_some h
  refine ⟨h2,fun i hi=>?_⟩
  rw[h3 i hi,List.getD_eq_getElem?_getD,List.getElem?_eq_getElem (by omega)]
  rfl
theorem FH {w:World} {a:Addr} {v:Value} (h:w.cell? a=some v):a.spot=none∧a.block < w.heap.size:=by
  unfold World.cell? at h
  split at h
  · rename_i c _ _ hb
    split at h
    · simp at h
    · rename_i hs
      exact ⟨by simpa using hs,(Array.getElem?_eq_some_iff.1 hb).1⟩
  · simp at h
theorem FT {H:Type} {P:Program} {e:TypeId} : ∀ {l:List (DataW H)},(∀ n∈DataW.weightsAll P e l,n≤reachBytes)→∀ d∈l,Wt P e d
  | [],_,d,hd=>by simp at hd
  | x :: l,h,d,hd=>by
    simp only[DataW.weightsAll,List.mem_append] at h
    rcases List.mem_cons.1 hd with rfl | hd
    · exact fun n hn=>h n (.inl hn)
    · exact FT (fun n hn=>h n (.inr hn)) d hd
theorem GN {H:Type} {P:Program} {t e:TypeId} {elems spare:List (DataW H)} (ht:P.underlying t=some (.slice e)) (h:Wt P t (.slice elems spare)) :
    (elems.length+spare.length) * P.bytesOf e≤reachBytes∧∀ d∈elems,Wt P e d:=by
  unfold Wt at h
  unfold DataW.weights at h
  rw[ht] at h
  simp only[List.mem_cons,List.mem_append] at h
  exact ⟨h _ (.inl rfl),FT fun n hn=>h n (.inr (.inl hn))⟩
theorem Ex {H:Type} {P:Program} {t:TypeId} {fs:Array Field} {parts:List (DataW H)} (ht:P.underlying t=some (.struct fs)) (h:Wt P t (.agg parts)) {j:Nat} {f:Field} {d:DataW H} (hf:fs[j]?=some f) (hd:parts[j]?=some d):Wt P f.type d:=by
  intro n hn
  refine h n ?_
  unfold DataW.weights
  rw[ht]
  exact DataW.weights_mem_each (j:=j) (t:=f.type) (by simp[hf]) hd n hn
theorem BJ {α:Type} {φ:Nat→α→Prop} : ∀ (n:Nat),(∀ i,i < n→∃ a,φ i a)→∃ l:List α,l.length=n∧∀ i (hi:i < l.length),φ i l[i]
  | 0,_=>⟨[],rfl,fun i hi=>by simp at hi⟩
  | n+1,h=>by
    obtain ⟨l,hl,hφ⟩:=BJ n fun i hi=>h i (by omega)
    obtain ⟨a,ha⟩:=h n (by omega)
    refine ⟨l ++ [a],by simp[hl],fun i hi=>?_⟩
    by_cases e:i < l.length
    · rw[List.getElem_append_left e]; exact hφ i e
    · have:i=n:=by simp at hi; omega
      subst this
      rw[List.getElem_append_right (by omega)]
      simp only[hl,Nat.sub_self,List.getElem_cons_zero]; exact ha
theorem qL {P:Program} {t e:TypeId} {α:Type} {f:α→List V} {ok:α→Prop} (ht:P.underlying t=some (.slice e)) (hc:0 < P.cellsOf e) (hb:0 < P.bytesOf e) (he:rZ P e f ok) :
    rZ P t (fun l:List α=>[.aY (l.map f)]) (fun l=>l.length < 4611686018427387904∧∀ a∈l,ok a):=by
  intro H enc w base sp held fuel cs x h hw
  rcases DataW.trod_slice ht h with ⟨rfl,rfl⟩ | ⟨a,len,cap,elems,rest,n,_,rfl,rfl,hba,hl,hm,hlen,hel,_,_⟩
  · exact ⟨[],⟨by simp,by simp⟩,rC fun μ=>.eC none 0 (by simp)⟩
  obtain ⟨hw1,hw2⟩:=GN ht hw
  simp only[List.length_map] at hw1
  have hlt:len < 4611686018427387904:=by
    have h1:len * 1≤(elems.length+rest.length) * P.bytesOf e:=Nat.mul_le_mul (by omega) hb
    unfold reachBytes at hw1
    omega
  have each:∀ i,i < len→∃ y,ok y∧∃ ci,w.cells? base (a.add (i * P.cellsOf e)) (P.cellsOf e)=some ci∧th w.heap ci (f y):=by
    intro i hi
    have h1:=hel i hi
    have h2:elems[i]?=some (elems[i]'(by omega)):=List.getElem?_eq_getElem (by omega)
    have hmem:elems[i]'(by omega)∈elems:=List.getElem_mem _
    rw[h2,Option.bind_eq_some_iff] at h1
    obtain ⟨ci,h3,h4⟩:=h1
    obtain ⟨y,h5,h6⟩:=he enc w base sp held n ci _ h4 (hw2 _ (List.mem_map.2 ⟨_,hmem,rfl⟩))
    exact ⟨y,h5,ci,h3,h6⟩
  obtain ⟨l,hll,hφ⟩:=BJ len each
  subst hll
  refine ⟨l,⟨hlt,fun y hy=>?_⟩,rC fun μ=>?_⟩
  · obtain ⟨i,hi,rfl⟩:=List.getElem_of_mem hy
    exact (hφ i hi).1
  by_cases h0:l=[]
  · subst h0
    exact .eC (some a) cap (by simp)
  have hpos:0 < l.length:=List.length_pos_iff.2 h0
  have hcell:∀ i j,i < l.length→j < P.cellsOf e→∃ c,cellAt w.heap a.block (a.off+i * P.cellsOf e+j)=some c∧a.block < w.heap.size∧(i=0→j=0→a.spot=none)∧∀ (hi:i < l.length),ay (fun b=>b < w.heap.size) μ w.heap ((f l[i]).getD j .any) c:=by
    intro i j hi hj
    obtain ⟨_,ci,h1,h2⟩:=hφ i hi
    obtain ⟨h3,h4⟩:=Ax h1
    have h5:=h4 j hj
    have h6:=FH h5
    have hbk:((a.add (i * P.cellsOf e)).add j).block=a.block:=by simp only[Addr.add]; split <;> split <;> rfl
    have hof:((a.add (i * P.cellsOf e)).add j).off=a.off+i * P.cellsOf e+j:=by
      simp only[Addr.add]; split <;> split <;> simp_all
    refine ⟨ci.getD j undef,?_,by rw[← hbk]; exact h6.2,?_,fun _=>?_⟩
    · rw[← hof,← hbk,← nz]
      rw[← h5]
      congr 1
      generalize (a.add (i * P.cellsOf e)).add j=b at h6
      cases b
      simp at h6 ⊢
      exact h6.1.symm
    · rintro rfl rfl
      simp[Addr.add] at h6
      exact h6.1
    · exact h2.2 μ j (by rw[h2.1,h3]; exact hj)
  obtain ⟨_,_,hz,hs,_⟩:=hcell 0 0 hpos hc
  have ha:a=⟨a.block,a.off,none⟩:=by
    cases a; simp at hs ⊢; exact hs
  have hlf:∀ i,i < l.length→(f (l[i]?.getD (l[0]'hpos))).length=P.cellsOf e:=fun i hi=>by
    obtain ⟨_,ci,h1,h2⟩:=hφ i hi
    rw[List.getElem?_eq_getElem hi,Option.getD_some,h2.1,(Ax h1).1]
  have hgd:∀ i (hi:i < l.length),(l.map f).getD i []=f l[i]:=fun i hi=>by simp[List.getD_eq_getElem?_getD,hi]
  have hcl:(l.map f).length=l.length:=by simp
  have:=ay.aY (Z:=fun b=>b < w.heap.size) (μ:=μ) (hp:=w.heap) (l.map f) a.block a.off (P.cellsOf e) cap (fun i j=>(cellAt w.heap a.block (a.off+i * P.cellsOf e+j)).getD undef) hz (by rw[hcl]; exact hl)
    (fun i hi=>by
      rw[hcl] at hi
      have:=hlf i hi
      rw[List.getElem?_eq_getElem hi,Option.getD_some] at this
      rw[hgd i hi]; exact this)
    (fun i j hi hj=>by
      rw[hcl] at hi
      obtain ⟨c,h1,_⟩:=hcell i j hi hj
      rw[h1]; rfl)
    (fun i j hi hj=>by
      rw[hcl] at hi
      obtain ⟨c,h1,_,_,h2⟩:=hcell i j hi hj
      rw[h1,hgd i hi]; exact h2 hi)
  rw[hcl,← ha] at this
  exact this
theorem oM {P:Program} {t:TypeId} {fs:Array Field} (ht:P.underlying t=some (.struct fs)) (hf:∀ (i:Nat) (f:Field),fs[i]?=some f→f.offset=i∧P.cellsOf f.type=1) (hn:P.cellsOf t=fs.size)
    {H:Type} {enc:TypeId × Value→H} {w:World} {base:Nat} {sp:Nat→Bool} {held:Bool} {fuel:Nat} {cs:List Value} {x:DataW H × List MemPlace} (h:DataW.trod enc P w base sp held fuel t cs=some x) (hw:Wt P t x.1) :
    cs.length=fs.size∧∀ (i:Nat) (f:Field),fs[i]?=some f→∀ {α:Type} {g:α→List V} {ok:α→Prop},rZ P f.type g ok→∃ a,ok a∧th w.heap [cs.getD i undef] (g a):=by
  obtain ⟨xs,n,rfl,rfl,hl,hlen,hx⟩:=DataW.trod_struct ht h
  refine ⟨by rw[hl,hn],fun i f hi α g ok hr=>?_⟩
  obtain ⟨h1,h2⟩:=hf i f hi
  have hi2:i < fs.size:=(Array.getElem?_eq_some_iff.1 hi).1
  have h3:=hx i f hi
  have h4:xs[i]?=some (xs[i]'(by omega)):=List.getElem?_eq_getElem (by omega)
  rw[h4,h1,h2] at h3
  have h5:(cs.drop i).take 1=[cs.getD i undef]:=by
    rw[List.getD_eq_getElem?_getD,List.getElem?_eq_getElem (by omega),List.drop_eq_getElem_cons (by omega)]
    rfl
  rw[h5] at h3
  exact hr enc w base sp held n _ _ h3 (Ex ht hw hi (by simp[h4]))
theorem dt {hp:Array Obj} {c:Value} {cs:List Value} {v:V} {vs:List V} (h:th hp [c] [v]) (k:th hp cs vs):th hp (c :: cs) (v :: vs):=by
  refine ⟨by simp[k.1],fun μ i hi=>?_⟩
  cases i with
  | zero=>exact h.2 μ 0 (by simp)
  | succ i=>exact k.2 μ i (by simpa using hi)
theorem qH {hp:Array Obj} : th hp [] []:=⟨rfl,fun μ i hi=>by simp at hi⟩
end Gv
set_option linter.unusedSimpArgs false
set_option maxRecDepth 100000
namespace Gv
open Go Go.Proofs
theorem Io {n:Int} (h:(Lit.int .i64 n).wf=true):bJ n:=by
  simp only[Lit.wf,Bool.and_eq_true,decide_eq_true_eq] at h
  exact h
theorem gu:rZ Tryz.prog 3 (fun n=>[gi n]) bJ:=fun enc w base sp held fuel cs x h hw=>by
  obtain ⟨n,h1,h2⟩:=I7 Tryz.underlying3 enc w base sp held fuel cs x h hw
  exact ⟨n,Io h1,h2⟩
theorem CK:rZ Tryz.prog 27 (fun l:List Int=>[encI l]) (fun l=>aL l∧∀ x∈l,bJ x) :=
  qL Tryz.underlying27 (of_decide_eq_true (by kernel_rfl)) (of_decide_eq_true (by kernel_rfl)) gu
theorem Dy:rZ Tryz.prog 23 (fun l:List ByteArray=>[encS l]) (fun l=>aL l∧∀ x∈l,True) :=
  qL Tryz.underlying23 (of_decide_eq_true (by kernel_rfl)) (of_decide_eq_true (by kernel_rfl)) (xQ Tryz.underlying9)
theorem JI {cs:List Value} (h:cs.length=3):cs=[cs.getD 0 undef,cs.getD 1 undef,cs.getD 2 undef]:=by
  match cs,h with
  | [a,b,c],_=>rfl
theorem J8 {cs:List Value} (h:cs.length=4):cs=[cs.getD 0 undef,cs.getD 1 undef,cs.getD 2 undef,cs.getD 3 undef]:=by
  match cs,h with
  | [a,b,c,d],_=>rfl
theorem Ip:rZ Tryz.prog 81 cZ (fun t=>bJ t.level∧bJ t.assoc):=fun enc w base sp held fuel cs x h hw=>by
  obtain ⟨hl,hf⟩:=oM Tryz.underlying81 (by
    intro i f hi
    match i,hi with
    | 0,hi=>simp at hi; subst hi; exact ⟨rfl,by kernel_rfl⟩
    | 1,hi=>simp at hi; subst hi; exact ⟨rfl,by kernel_rfl⟩
    | 2,hi=>simp at hi; subst hi; exact ⟨rfl,by kernel_rfl⟩
    | n+3,hi=>simp at hi) (by kernel_rfl) h hw
  obtain ⟨a,_,h1⟩:=hf 0 _ rfl (xQ Tryz.underlying9)
  obtain ⟨b,h2,h3⟩:=hf 1 _ rfl gu
  obtain ⟨c,h4,h5⟩:=hf 2 _ rfl gu
  refine ⟨⟨a,b,c⟩,⟨h2,h4⟩,?_⟩
  rw[JI hl]
  exact dt h1 (dt h3 (dt h5 qH))
theorem HM:rZ Tryz.prog 59 bj (fun r=>bJ r.left∧bJ r.prec∧aL r.right∧∀ x∈r.right,bJ x):=fun enc w base sp held fuel cs x h hw=>by
  obtain ⟨hl,hf⟩:=oM Tryz.underlying59 (by
    intro i f hi
    match i,hi with
    | 0,hi=>simp at hi; subst hi; exact ⟨rfl,by kernel_rfl⟩
    | 1,hi=>simp at hi; subst hi; exact ⟨rfl,by kernel_rfl⟩
    | 2,hi=>simp at hi; subst hi; exact ⟨rfl,by kernel_rfl⟩
    | n+3,hi=>simp at hi) (by kernel_rfl) h hw
  obtain ⟨a,h0,h1⟩:=hf 0 _ rfl gu
  obtain ⟨b,h2,h3⟩:=hf 1 _ rfl CK
  obtain ⟨c,h4,h5⟩:=hf 2 _ rfl gu
  refine ⟨⟨a,b,c⟩,⟨h0,h4,h2.1,h2.2⟩,?_⟩
  rw[JI hl]
  exact dt h1 (dt h3 (dt h5 qH))
theorem tT:rZ Tryz.prog 26 ar au.Ok:=fun enc w base sp held fuel cs x h hw=>by
  obtain ⟨hl,hf⟩:=oM Tryz.underlying26 (by
    intro i f hi
    match i,hi with
    | 0,hi=>simp at hi; subst hi; exact ⟨rfl,by kernel_rfl⟩
    | 1,hi=>simp at hi; subst hi; exact ⟨rfl,by kernel_rfl⟩
    | 2,hi=>simp at hi; subst hi; exact ⟨rfl,by kernel_rfl⟩
    | 3,hi=>simp at hi; subst hi; exact ⟨rfl,by kernel_rfl⟩
    | n+4,hi=>simp at hi) (by kernel_rfl) h hw
  obtain ⟨a,h0,h1⟩:=hf 0 _ rfl (qL Tryz.underlying22 (of_decide_eq_true (by kernel_rfl)) (of_decide_eq_true (by kernel_rfl)) Ip)
  obtain ⟨b,h2,h3⟩:=hf 1 _ rfl Dy
  obtain ⟨c,h4,h5⟩:=hf 2 _ rfl (qL Tryz.underlying24 (of_decide_eq_true (by kernel_rfl)) (of_decide_eq_true (by kernel_rfl)) HM)
  obtain ⟨d,h6,h7⟩:=hf 3 _ rfl gu
  refine ⟨⟨a,b,c,d⟩,⟨h0.1,h2.1,h4.1,h6,h0.2,h4.2⟩,?_⟩
  rw[J8 hl]
  exact dt h1 (dt h3 (dt h5 (dt h7 qH)))
end Gv
set_option linter.unusedSimpArgs false
set_option maxRecDepth 100000
namespace Gv
open Go Go.Proofs
end Gv
set_option linter.unusedSimpArgs false
namespace Gv
open Go Go.Proofs
theorem Cw {l:List Int} {a b:List Bool} {t:Bool} (h:dT a b) (k:da l a t=true):da l b t=true:=by
  simp only[da,List.all_eq_true] at k ⊢
  intro s hs
  have:=k s hs
  by_cases h0:0≤s
  · rw[if_pos h0] at this ⊢; exact this
  · rw[if_neg h0] at this ⊢; exact h.2 _ this
theorem dT.Gq {a b:List Bool} (h:dT a b) (k:dT b a):a=b:=by
  have h1:=h.bS
  have h2:=k.bS
  exact h1.2 (by omega)
def mE (g:au) (t:Bool) (is:List Bool):Prop:=∀ i,is.getD i false=true→∃ r∈g.rules,r.left.toNat=i∧da r.right is t=true
theorem mE.step {g:au} {t:Bool} {is:List Bool} {r:aZ} (h:mE g t is) (hr:r∈g.rules):mE g t (cT t is r):=by
  have hle:dT is (cT t is r):=by
    unfold cT
    split
    · exact .set _ _
    · exact .refl _
  intro i hi
  by_cases e:is.getD i false=true
  · obtain ⟨r',h1,h2,h3⟩:=h i e
    exact ⟨r',h1,h2,Cw hle h3⟩
  · unfold cT at hi
    by_cases ha:da r.right is t=true
    · rw[if_pos ha] at hi
      have:r.left.toNat=i:=by
        refine Classical.byContradiction fun hne=>e ?_
        simp only[List.getD_eq_getElem?_getD,List.getElem?_set,if_neg hne] at hi ⊢
        exact hi
      exact ⟨r,hr,this,Cw hle ha⟩
    · rw[if_neg ha] at hi; exact absurd hi e
theorem mE.fold {g:au} {t:Bool} : ∀ (l:List aZ) (is:List Bool),(∀ r∈l,r∈g.rules)→mE g t is→mE g t (l.foldl (cT t) is)
  | [],is,_,h=>h
  | r :: l,is,hl,h=>mE.fold l _ (fun x hx=>hl x (by simp[hx])) (h.step (hl r (by simp)))
theorem mE.iter {g:au} {t:Bool} : ∀ (n:Nat) (is:List Bool),mE g t is→mE g t (iter (jo g t) n is)
  | 0,_,h=>h
  | n+1,is,h=>mE.iter n _ (mE.fold g.rules is (fun _ h=>h) h)
theorem BP (is:List Bool) (s:Int):dT is (mark is s):=by
  unfold mark
  split
  · exact .set _ _
  · exact .refl _
theorem uP:∀ (l:List Int) (is:List Bool),dT is (l.foldl mark is)
  | [],is=>.refl _
  | s :: l,is=>(BP is s).trans (uP l _)
theorem AU (p is:List Bool) (r:aZ):dT is (fQ p is r):=by
  unfold fQ
  split
  · exact uP _ _
  · exact .refl _
theorem zT (p:List Bool):∀ (l:List aZ) (is:List Bool),dT is (l.foldl (fQ p) is)
  | [],is=>.refl _
  | r :: l,is=>(AU p is r).trans (zT p l _)
theorem x5 {p:List Bool} : ∀ {l:List aZ} {is:List Bool},l.foldl (fQ p) is=is→∀ r∈l,fQ p is r=is
  | [],_,_,_,h=>by simp at h
  | r :: l,is,h,x,hx=>by
    rw[List.foldl_cons] at h
    have h1:=zT p l (fQ p is r)
    rw[h] at h1
    have h2:=(h1.Gq (AU p is r))
    rcases List.mem_cons.1 hx with rfl | hx
    · exact h2
    · rw[h2] at h; exact x5 h x hx
theorem xU:∀ {l:List Int} {is:List Bool},l.foldl mark is=is→∀ s∈l,mark is s=is
  | [],_,_,_,h=>by simp at h
  | r :: l,is,h,x,hx=>by
    rw[List.foldl_cons] at h
    have h1:=uP l (mark is r)
    rw[h] at h1
    have h2:=(h1.Gq (BP is r))
    rcases List.mem_cons.1 hx with rfl | hx
    · exact h2
    · rw[h2] at h; exact xU h x hx
theorem yd {g:au} (hr:aT g=true):qc g (aH g true) (bR g)=bR g∧dT ((cX g).set g.start.toNat true) (bR g):=by
  have hf:=bt hr
  have h:=oz (wJ (aH g true)) g.rules 16 ((cX g).set g.start.toNat true) (by have:=hf.aD; simp[cX]; omega)
  rw[CZ,IX hr] at h
  exact h
theorem BI {g:au} (hr:aT g=true):(bR g).getD g.start.toNat false=true:=by
  have hf:=bt hr
  refine (yd hr).2.2 _ ?_
  have h3:=hf.qw
  have h4:=hf.start
  simp only[List.getD_eq_getElem?_getD]
  rw[List.getElem?_set_self (by simp[cX]; omega)]
  rfl
theorem DQ {g:au} (hr:aT g=true) {r:aZ} (hm:r∈g.rules) (hk:cJ (aH g true) (bR g) r=true) {s:Int} (hs:s∈r.right) (hn:s < 0):(bR g).getD (-1 - s).toNat false=true:=by
  have hf:=bt hr
  have h1:=x5 (yd hr).1 r hm
  unfold fQ at h1
  rw[cJ] at hk
  rw[if_pos hk] at h1
  have h2:=xU h1 s hs
  unfold mark at h2
  rw[if_pos hn] at h2
  rw[← h2]
  have hl:=BD hr
  have:=hf.neg hm hs hn
  simp only[List.getD_eq_getElem?_getD]
  rw[List.getElem?_set_self (by omega)]
  rfl
end Gv
set_option linter.unusedSimpArgs false
namespace Gv
open Go Go.Proofs
theorem Bk {x:Int} : ∀ (o:List Int) (i:Int),x∈o→∃ k:Nat,dh (fun y=>y == x) o i=i+k∧o[k]?=some x
  | [],_,h=>by simp at h
  | y :: o,i,h=>by
    by_cases e:y=x
    · exact ⟨0,by simp[dh,e],by simp[e]⟩
    · have hx:x∈o:=by
        rcases List.mem_cons.1 h with rfl | h
        · exact absurd rfl e
        · exact h
      obtain ⟨k,h1,h2⟩:=Bk o (i+1) hx
      exact ⟨k+1,by simp only[dh]; rw[if_neg (by simp[e]),h1]; push_cast; omega,by simpa using h2⟩
theorem uR {o:List Int} {x:Int} (h:x∈o):o[(bA o x).toNat]?=some x:=by
  obtain ⟨k,h1,h2⟩:=Bk o 0 h
  have:bA o x=k:=by unfold bA; omega
  rw[this]; simpa using h2
theorem tW {o:List Int} (hn:o.Nodup) {k:Nat} {x:Int} (h:o[k]?=some x):bA o x=k:=by
  have hx:=List.mem_of_getElem? h
  have h1:=uR hx
  have h2:=jj hx
  obtain ⟨hk,h3⟩:=List.getElem?_eq_some_iff.1 h
  obtain ⟨hk2,h4⟩:=List.getElem?_eq_some_iff.1 h1
  have:=(List.getElem_inj hn).1 (h4.trans h3.symm)
  omega
theorem Gr (acc:List Int) (r:aZ):∃ m,eA acc r=acc ++ m:=by
  unfold eA
  split
  · exact ⟨[],by simp⟩
  · exact ⟨_,rfl⟩
theorem pS:∀ (l:List aZ) (acc:List Int),∃ m,l.foldl eA acc=acc ++ m
  | [],acc=>⟨[],by simp⟩
  | r :: l,acc=>by
    obtain ⟨m,hm⟩:=Gr acc r
    obtain ⟨k,hk⟩:=pS l (eA acc r)
    exact ⟨m ++ k,by rw[List.foldl_cons,hk,hm,List.append_assoc]⟩
theorem G6 {a b:List Int} {x:Int} (h:x∈a):bA (a ++ b) x=bA a x:=by
  unfold bA
  rw[uE _ _ _ _ (by omega)]
  have:=jj h
  unfold bA at this
  rw[if_pos this.1]
theorem qI {r:au} {o:List Int} (ho:o.Nodup) (hr:r.aD.length=o.length):∀ (l:List aZ) (acc:List Int),o=l.foldl eA acc→(∀ x∈l,ey r (cg (bA o) x)=true)→dW r (l.map (cg (bA o))) ((acc.length:Int) - 1)=true
  | [],acc,h,_=>by
    simp only[List.foldl_nil] at h
    simp[dW,hr,h]
  | x :: l,acc,h,hb=>by
    simp only[List.map_cons,dW,Bool.and_eq_true,decide_eq_true_eq]
    rw[List.foldl_cons] at h
    have h1:(cg (bA o) x).left=bA o x.left:=rfl
    obtain ⟨m,hm⟩:=pS l (eA acc x)
    rw[← h] at hm
    by_cases hx:x.left∈acc
    · have e:eA acc x=acc:=by unfold eA; rw[if_pos hx]
      rw[e] at hm h
      have h2:=jj hx
      have h3:bA o x.left=bA acc x.left:=by rw[hm]; exact G6 hx
      rw[h1,h3,if_neg (by omega)]
      exact ⟨⟨⟨h2.1,by omega⟩,hb x (by simp)⟩,qI ho hr l acc h fun y hy=>hb y (by simp[hy])⟩
    · have e:eA acc x=acc ++ [x.left]:=by unfold eA; rw[if_neg hx]
      rw[e] at hm h
      have h3:bA o x.left=acc.length:=tW ho (by rw[hm]; simp)
      rw[h1,h3,if_pos (by omega)]
      refine ⟨⟨⟨by omega,by omega⟩,hb x (by simp)⟩,?_⟩
      have:=qI ho hr l (acc ++ [x.left]) h fun y hy=>hb y (by simp[hy])
      rw[List.length_append] at this
      simpa using this
theorem uf {g r:au} (h:r.aw=g.aw):∀ (l:List Term) (i:Int),fw r l i=fw g l i
  | [],_=>rfl
  | t :: l,i=>by
    simp only[fw,uf h l]
    congr 1
    simp only[fP,iI,m0,h]
theorem sf {o:List Int} {n:Nat} (h:o.Nodup) (hb:∀ x∈o,0≤x∧x < n):o.length≤n:=by
  have:=lX o ((List.range n).map fun (k:Nat)=>(k:Int)) h fun x hx=>by
    have:=hb x hx
    exact List.mem_map.2 ⟨x.toNat,List.mem_range.2 (by omega),by omega⟩
  simpa using this
structure c8 (g:au) (p q:List Bool) (o:List Int) (r:au):Prop where
  right:aT g=true
  pe:p=aH g true
  qe:q=bR g
  oe:o=kK p q g.rules
  re:r=rn g (bA o) p q
  nodup:o.Nodup
  inside:∀ x∈o,0≤x∧x < g.aD.length
  kept:∀ R∈g.rules,cJ p q R=true→R.left∈o∧∀ s∈R.right,s < 0→-1 - s∈o
  from_:∀ x∈o,∃ R∈g.rules,cJ p q R=true∧R.left=x
  start:g.start∈o
section
variable {g r:au} {p q:List Bool} {o:List Int}
theorem c8.rules (h:c8 g p q o r):r.rules=(g.rules.filter (cJ p q)).map (cg (bA o)):=by rw[h.re]; rfl
theorem c8.aD (h:c8 g p q o r):r.aD=o.map fun x=>g.aD.getD x.toNat ⟨#[]⟩:=by rw[h.re,h.oe]; rfl
theorem c8.aw (h:c8 g p q o r):r.aw=g.aw:=by rw[h.re]; rfl
theorem c8.AJ (h:c8 g p q o r):r.start=bA o g.start:=by rw[h.re]; rfl
theorem c8.len (h:c8 g p q o r):r.aD.length=o.length:=by rw[h.aD]; simp
theorem c8.js (h:c8 g p q o r):aT r=true:=by
  have hf:=bt h.right
  have hR:=h.right
  simp only[aT,fG,gg,Bool.and_eq_true,decide_eq_true_eq] at hR ⊢
  obtain ⟨⟨⟨⟨⟨⟨⟨a1,a2⟩,⟨a3,a4⟩,a5⟩,a6⟩,a7⟩,a8⟩,a9⟩,a10⟩:=hR
  have hst:=jj h.start
  have hol:o.length≤g.aD.length:=sf h.nodup h.inside
  have hgn:g.aD.Nodup∧∀ s∈g.aD,dE (df s)=true∧iI g s < 0:=by
    rw[oJ] at a5
    refine ⟨(ov g.aD).1 fun k s hk=>?_,fun s hs=>?_⟩
    · have:=a5 k s hk
      simp only[ic,ta,Bool.and_eq_true,beq_iff_eq] at this
      have:=this.1.2
      omega
    · obtain ⟨k,hk⟩:=List.getElem?_of_mem hs
      have:=a5 k s hk
      simp only[ic,Bool.and_eq_true,decide_eq_true_eq] at this
      exact ⟨this.1.1,this.2⟩
  have hget:∀ x∈o,∃ (hx:x.toNat < g.aD.length),g.aD.getD x.toNat ⟨#[]⟩=g.aD[x.toNat]:=fun x hx=>by
    have:=h.inside x hx
    exact ⟨by omega,by simp[List.getD_eq_getElem?_getD,List.getElem?_eq_getElem (show x.toNat < g.aD.length by omega)]⟩
  have hrn:r.aD.Nodup:=by
    rw[h.aD,List.nodup_iff_pairwise_ne,List.pairwise_map]
    refine (List.Pairwise.and_mem.1 h.nodup).imp ?_
    rintro x y ⟨hx,hy,hne⟩ e
    obtain ⟨h1,h2⟩:=hget x hx
    obtain ⟨h3,h4⟩:=hget y hy
    rw[h2,h4] at e
    have h5:=(List.getElem_inj hgn.1).1 e
    have h6:=h.inside x hx
    have h7:=h.inside y hy
    exact hne (by omega)
  have hrules:(g.rules.filter (cJ p q)).length≤g.rules.length:=List.length_filter_le _ _
  obtain ⟨R0,hR0,hk0,_⟩:=h.from_ _ h.start
  have hpos:0 < (g.rules.filter (cJ p q)).length:=List.length_pos_of_mem (List.mem_filter.2 ⟨hR0,hk0⟩)
  have hrl:r.rules.length=(g.rules.filter (cJ p q)).length:=by rw[h.rules]; simp
  refine ⟨⟨⟨⟨⟨⟨⟨by rw[h.aw]; exact a1,?_⟩,⟨by rw[h.len]; omega,by rw[h.len]; omega⟩,?_⟩,by omega⟩,by omega⟩,by rw[h.AJ]; omega⟩,by rw[h.AJ,h.len]; omega⟩,?_⟩
  · rw[h.aw,uf h.aw]; exact a2
  · rw[oJ]
    intro k s hk
    have hm:=List.mem_of_getElem? hk
    have hidx:=(ov r.aD).2 hrn k s hk
    rw[h.aD,List.mem_map] at hm
    obtain ⟨x,hx,rfl⟩:=hm
    obtain ⟨h1,h2⟩:=hget x hx
    obtain ⟨h3,h4⟩:=hgn.2 _ (h2 ▸ List.getElem_mem h1:g.aD.getD x.toNat ⟨#[]⟩∈g.aD)
    simp only[ic,ta,Bool.and_eq_true,beq_iff_eq,decide_eq_true_eq]
    refine ⟨⟨h3,by rw[hidx]; omega⟩,?_⟩
    simp only[iI,h.aw] at h4 ⊢
    exact h4
  · rw[h.rules]
    have:=qI (r:=r) h.nodup h.len (g.rules.filter (cJ p q)) [] (by rw[h.oe]; rfl) (fun x hx=>?_)
    · simpa using this
    obtain ⟨hm,hk⟩:=List.mem_filter.1 hx
    obtain ⟨_,hin⟩:=h.kept x hm hk
    have hb:=(s8 _ _ a10).2 x hm
    have hb:=hb.2.2
    simp only[ey,Bool.and_eq_true,decide_eq_true_eq,List.all_eq_true] at hb ⊢
    obtain ⟨⟨⟨b1,b2⟩,b3⟩,b4⟩:=hb
    refine ⟨⟨⟨by simpa [cg] using b1,b2⟩,by rw[h.aw]; exact b3⟩,fun s hs=>?_⟩
    simp only[cg,List.mem_map] at hs
    obtain ⟨s0,hs0,rfl⟩:=hs
    have b5:=b4 s0 hs0
    by_cases hn:s0 < 0
    · rw[if_pos hn]
      have hl:=jj (hin s0 hs0 hn)
      simp only[iX,kS,Bool.and_eq_true]
      rw[if_neg (by omega),decide_eq_false (p:=0≤-1 - bA o (-1 - s0)) (by omega)]
      simp only[h.len,decide_eq_true_eq,Bool.false_and,Bool.not_false,and_true]
      omega
    · rw[if_neg hn]
      simp only[iX,kS,h.aw] at b5 ⊢
      rw[if_pos (by omega)] at b5 ⊢
      exact b5
end
end Gv
