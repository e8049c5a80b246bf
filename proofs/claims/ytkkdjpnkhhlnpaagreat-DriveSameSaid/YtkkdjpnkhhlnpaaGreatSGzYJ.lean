/-
  Part 10 of the proof: what the machine does and what the functions answer.
  Conditions: those that each lemma names.
-/
import Derived.ProofKit
import Derived.SizedLaws
import Derived.Test.YtkkdjpnkhhlnpaaGreatSGzYI
set_option linter.unusedSimpArgs false
set_option linter.unusedVariables false
set_option maxRecDepth 100000
namespace Gv
open Go Go.Proofs
def ln (g:ay):List cR→Int→Bool
  | [],next=>next == g.aA.length
  | r :: l,next=>decide (0≤r.left) && decide (r.left≤next) && iv g r && ln g l (if r.left+1 > next then r.left+1 else next)
def sC (g:ay):List ByteArray:=g.aA ++ g.ax.map Term.name
def qh (g:ay):Bool :=
  sQ g.ax && (decide ((1:Int)≤g.aA.length) && decide ((g.aA.length:Int)≤16)) && (decide ((1:Int)≤g.rules.length) && decide ((g.rules.length:Int)≤40)) && decide (names (sC g)).Nodup && (decide (0≤g.start) && decide (g.start≤(g.aA.length:Int) - 1)) &&
    !(g.aA.any fun s=>!gg (eS s)) && ln g g.rules 0
theorem HK {l:List ByteArray} : ∀ e∈(l.map fun s=>[gs s]),∀ v∈e,Tree v:=by
  intro e he v hv
  obtain ⟨a,_,rfl⟩:=List.mem_map.1 he
  rw[List.mem_singleton] at hv
  subst hv
  exact .val _
set_option maxHeartbeats 4000000 in
theorem LP (g:ay) (hg:g.Ok) (hs:g.aA.length+g.ax.length≤1000) (H:View):aC Tryz.prog 64 [.agg (aw g)] H fun r _=>r=gb (qh g):=by
  refine aC.of mixed CM ?_
  have hn:=hg.aA
  have ht:=hg.ax
  have hr:=hg.rules
  unfold aL at hn ht hr
  simp (disch:=omega) only [↓wr,↓reduceIte,wq,ah,Nat.reduceEqDiff,Nat.reduceAdd,Nat.reduceLT,Nat.reduceLeDiff,Ad,aw,encS]
  refine aE.ff ((Na g.aA (by omega) H).mono ?_)
  rintro u H1 ⟨hu,hf⟩
  simp (disch:=omega) only [↓wr,↓reduceIte,wq,aj,Nat.reduceEqDiff,Nat.reduceAdd,Nat.reduceLT]
  refine ba.up g.ax.length (fun i T H=>T 1=.aT (aw g) 0∧(∃ u,T 3=u∧bc H u 1 ((g.aA ++ (g.ax.take i).map Term.name).map fun s=>[gs s]))∧T 13=eJ g.ax∧T 14=gi g.ax.length∧T 15=gi i) ?_ ?_
  · exact ⟨rfl,⟨u,rfl,by simpa using hu⟩,rfl,rfl,rfl⟩
  rintro i k T H' hk ⟨h1,⟨u,h3,hu⟩,h13,h14,h15⟩
  simp (disch:=omega) only [↓wr,↓reduceIte,wq,ag,xE,h14,h15,eJ]
  refine av.dec (fun hc=>?_) (fun hc=>?_)
  · have hg2:g.ax[i]?=some (g.ax[i]'(by omega)):=List.getElem?_eq_getElem (by omega)
    have htk:(g.ax.take (i+1)).map Term.name=(g.ax.take i).map Term.name ++ [(g.ax[i]'(by omega)).name]:=by
      rw[List.take_add_one,hg2,List.map_append]; rfl
    generalize g.ax[i]'(by omega)=t at hg2 htk
    simp (disch:=omega) only [↓wr,↓reduceIte,wq,ab,af,Nat.reduceEqDiff,Nat.reduceAdd,Nat.reduceLT,Nat.reduceLeDiff,h3,h13,h15,eJ,dP,List.getElem?_map,hg2]
    intro b hb
    try simp (disch:=omega) only [set_set]
    intro m hm
    have hmb:=(dz hm cT).1
    have hm:=(dz (dz hm cT).2 cT).2
    try simp (disch:=omega) only [↓wr,↓reduceIte,wq,Nat.reduceEqDiff,bp]
    have hl:((g.aA ++ (g.ax.take i).map Term.name).map fun s=>[gs s]).length≤1000:=by simp; omega
    refine yq (((hu.fresh hb).other (hu.ne hb)).fresh (by simp[View.set,hm,hmb])) (by simp) (by simp[aU]) (by unfold aJ; simp at hl ⊢; omega) (by unfold aJ; simp at hl ⊢; omega) ?_
    intro u' H2 hu' _
    simp (disch:=omega) only [↓wr,↓reduceIte,wq,ag,Nat.reduceEqDiff,reduceCtorEq,h1,h15]
    refine aV hk (by omega) ⟨h1,⟨u',rfl,?_⟩,h13,h14,rfl⟩
    rw[htk]
    simpa using hu'
  · rw[List.take_of_length_le (by omega)] at hu
    have hal:H'=H':=rfl
    have hall:(sC g).length≤1000:=by simp[sC]; omega
    repeat' (first | (refine av.dec (fun _=>?_) (fun _=>?_)) | (refine av.eq (fun _=>?_) (fun _=>?_)) | (refine av.ne (fun _=>?_) (fun _=>?_)) | (refine av.split (fun _=>?_) (fun _=>?_)) | (refine aE.pure (MF g.ax hg.ax) (by kernel_rfl) ?_) | (refine aE.pure (rG _ _ _) (by kernel_rfl) ?_) | (refine aE.A9 (N6 (sC g) hall) (by kernel_rfl) (.val _) ⟨eL.own hu HK,trivial⟩ ?_) | (simp (disch:=omega) only [↓wr,↓reduceIte,wq,ag,aj,Nat.reduceEqDiff,Nat.reduceAdd,Nat.reduceLT,reduceCtorEq,h1,h3,aw,encS]))
    all_goals try (simp[qh, *]; done)
    rename_i e1 e2 e3 e4 e5
    refine aE.pure (AL g.aA hg.aA 112 [] (by simp) (fun s=>!gg (eS s)) (fun x _=>K6 x) (by kernel_rfl)) (by kernel_rfl) ?_
    repeat' (first | (refine av.dec (fun _=>?_) (fun _=>?_)) | (refine av.eq (fun _=>?_) (fun _=>?_)) | (refine av.ne (fun _=>?_) (fun _=>?_)) | (refine av.split (fun _=>?_) (fun _=>?_)) | (simp (disch:=omega) only [↓wr,↓reduceIte,wq,aj,Nat.reduceEqDiff,Nat.reduceAdd,Nat.reduceLT,reduceCtorEq,h1,aw,encS]))
    all_goals try (simp[qh, *]; done)
    rename_i e6
    have hle:g.rules.length≤40:=by simp at e3; omega
    have hpre:∀ b,ln g g.rules 0=b→gb b=gb (qh g):=fun b e=>by
      simp only[qh,e1,e2,e3,e4,e5,e6,e,decide_true,Bool.true_and,Bool.not_false]
    refine ba.up g.rules.length (fun i T _=>∃ w:Int,0≤w∧w≤i∧ln g (g.rules.drop i) w=ln g g.rules 0∧T 1=.aT (aw g) 0∧T 6=gi w∧T 62=.aX (g.rules.map bP)∧T 63=gi g.rules.length∧T 64=gi i) ?_ ?_
    · exact ⟨0,by omega,by omega,rfl,h1,rfl,rfl,rfl,rfl⟩
    rintro i k T H' hk ⟨w,hw1,hw2,hi,h1,h6,h62,h63,h64⟩
    simp (disch:=omega) only [↓wr,↓reduceIte,wq,ag,Nat.reduceEqDiff,xK,h63,h64,aw]
    refine av.dec (fun hc=>?_) (fun hc=>?_)
    · have hg2:g.rules[i]?=some (g.rules[i]'(by omega)):=List.getElem?_eq_getElem (by omega)
      rw[dJ (show i < g.rules.length by omega)] at hi
      have hmem:g.rules[i]'(by omega)∈g.rules:=List.getElem_mem _
      generalize g.rules[i]'(by omega)=t at hg2 hi hmem
      obtain ⟨⟨hl1,hl2⟩,hp,hr1,hr2⟩:=hg.aP t hmem
      simp only[ln] at hi
      simp (disch:=omega) only [↓wr,↓reduceIte,wq,ab,Nat.reduceEqDiff,Nat.reduceAdd,Nat.reduceLT,Nat.reduceLeDiff,h6,h62,h64,bP,encI,List.getElem?_map,hg2]
      intro b hb
      repeat' (first | (refine av.dec (fun _=>?_) (fun _=>?_)) | (refine av.eq (fun _=>?_) (fun _=>?_)) | (refine av.ne (fun _=>?_) (fun _=>?_)) | (refine av.split (fun _=>?_) (fun _=>?_)) | (refine aE.pure (rG _ _ _) (by kernel_rfl) ?_) | (refine aE.pure (Oq g t hg ⟨hr1,hr2⟩) (by kernel_rfl) ?_) | (simp (disch:=omega) only [↓wr,↓reduceIte,wq,ag,aj,Nat.reduceEqDiff,Nat.reduceAdd,Nat.reduceLT,Nat.reduceLeDiff,reduceCtorEq,h1,h6,h64,aw,encS,set_set]))
      · rename_i e7 e8
        have e7':0≤t.left∧t.left≤w:=by simpa using e7
        rw[e7,e8,Bool.true_and,Bool.true_and] at hi
        have hw:IntKind.wrap .i64 (t.left+1)=t.left+1:=wrap64 (by omega) (by omega)
        refine aV hk (by omega) ⟨_,by split <;> omega,by split <;> (push_cast; omega),hi,h1,?_,h62,h63,rfl⟩
        show gi (if IntKind.wrap .i64 (t.left+1) > w then IntKind.wrap .i64 (t.left+1) else w)=_
        rw[hw]
      · rename_i e7 e8
        rw[e8,Bool.and_false,Bool.false_and] at hi
        exact hpre _ hi.symm
      · rename_i e7
        rw[e7,Bool.false_and,Bool.false_and] at hi
        exact hpre _ hi.symm
    · rw[List.drop_eq_nil_of_le (by omega)] at hi
      simp only[ln] at hi
      simp (disch:=omega) only [↓wr,↓reduceIte,wq,ag,aj,Nat.reduceEqDiff,Nat.reduceAdd,Nat.reduceLT,reduceCtorEq,h1,h6,aw,encS]
      exact hpre _ hi.symm
theorem KF (g:ay) (hg:g.Ok) (hs:g.aA.length+g.ax.length≤1000):aD Tryz.prog 64 [.agg (aw g)] (gb (qh g)):=aD.val (fY g) (LP g hg hs)
theorem FD (g:ay):∀ (l:List cR) (next:Int),ln g l next=iO g l (next - 1)
  | [],next=>by
    simp only[ln,iO]
    rw[Bool.eq_iff_iff]; simp
  | r :: l,next=>by
    simp only[ln,iO,FD g l]
    have e1:(if r.left+1 > next then r.left+1 else next) - 1=if r.left > next - 1 then r.left else next - 1:=by
      split <;> split <;> omega
    have e2:next - 1+1=next:=by omega
    rw[e1,e2]
theorem yR (s:ByteArray):∀ (l:List ByteArray) (i:Int),0≤i→(nF s l i < 0∧s ∉ l)∨∃ k:Nat,nF s l i=i+k∧l[k]?=some s∧∀ j < k,l[j]?≠some s
  | [],i,h=>.inl ⟨by simp[nF],by simp⟩
  | x :: l,i,h=>by
    have hx:hU x s=true↔x=s:=by
      unfold hU
      rw[beq_iff_eq]
      constructor
      · intro e; cases x; cases s; simp at e; simp[e]
      · rintro rfl; rfl
    simp only[nF]
    by_cases e:x=s
    · rw[if_pos (hx.2 e)]
      exact .inr ⟨0,by simp,by simp[e],by simp⟩
    · rw[if_neg (fun h=>e (hx.1 h))]
      rcases yR s l (i+1) (by omega) with ⟨h1,h2⟩ | ⟨k,h1,h2,h3⟩
      · exact .inl ⟨h1,by simp[h2,Ne.symm e]⟩
      · refine .inr ⟨k+1,by rw[h1]; push_cast; omega,by simpa using h2,fun j hj=>?_⟩
        cases j with
        | zero=>simp[e]
        | succ j=>simpa using h3 j (by omega)
theorem Ej (l:List ByteArray):(∀ (k:Nat) (s:ByteArray),l[k]?=some s→nF s l 0=k)↔l.Nodup:=by
  constructor
  · intro h
    rw[List.nodup_iff_pairwise_ne,List.pairwise_iff_getElem]
    intro i j hi hj hij e
    have h1:=h i l[i] (by simp[hi])
    have h2:=h j l[j] (by simp[hj])
    rw[e] at h1
    omega
  · intro hn k s hk
    rcases yR s l 0 (by omega) with ⟨_,h2⟩ | ⟨j,h1,h2,h3⟩
    · exact absurd (List.mem_of_getElem? hk) h2
    · have hj:j < l.length:=by
        rcases Nat.lt_or_ge j l.length with h | h
        · exact h
        · simp[List.getElem?_eq_none h] at h2
      have hk':k < l.length:=by
        rcases Nat.lt_or_ge k l.length with h | h
        · exact h
        · simp[List.getElem?_eq_none h] at hk
      have:j=k:=(List.getElem_inj hn).1 (by
        rw[List.getElem?_eq_getElem hj] at h2; rw[List.getElem?_eq_getElem hk'] at hk
        simp at h2 hk; rw[h2,hk])
      rw[h1,this]; simp
theorem bytes_inj {a b:ByteArray} : a.data.toList=b.data.toList↔a=b:=by
  constructor
  · intro h; cases a; cases b; simp at h; simp[h]
  · rintro rfl; rfl
theorem M9 {l:List ByteArray} : (names l).Nodup↔l.Nodup:=by
  unfold names
  rw[List.nodup_iff_pairwise_ne,List.pairwise_map,List.nodup_iff_pairwise_ne]
  constructor
  · exact fun h=>h.imp fun h e=>h (bytes_inj.2 e)
  · exact fun h=>h.imp fun h e=>h (bytes_inj.1 e)
theorem tn {α:Type} [BEq α] [LawfulBEq α]:∀ (l m:List α),l.Nodup→(∀ x∈l,x∈m)→l.length≤m.length
  | [],m,_,_=>by simp
  | x :: l,m,hn,hs=>by
    rw[List.nodup_cons] at hn
    have hx:x∈m:=hs x (by simp)
    have:=tn l (m.erase x) hn.2 (fun y hy=>by
      have hne:y≠x:=by rintro rfl; exact hn.1 hy
      exact (List.mem_erase_of_ne hne).2 (hs y (by simp[hy])))
    rw[List.length_erase_of_mem hx] at this
    have:0 < m.length:=List.length_pos_of_mem hx
    simp only[List.length_cons]
    omega
def lp (n:Nat):List Int:=(List.range n).map fun (k:Nat)=>(k:Int)+1
theorem wE {n:Nat} {x:Int} : x∈lp n↔1≤x∧x≤n:=by
  simp only[lp,List.mem_map,List.mem_range]
  constructor
  · rintro ⟨k,hk,rfl⟩; omega
  · rintro ⟨h1,h2⟩; exact ⟨(x - 1).toNat,by omega,by omega⟩
theorem Ft (n:Nat):(lp n).Nodup:=by
  rw[lp,List.nodup_iff_pairwise_ne,List.pairwise_map]
  exact (List.nodup_range (n:=n)).imp fun h e=>h (by omega)
theorem P2 {l:List Int} {n:Nat} (hn:l.Nodup) (hs:∀ x∈l,1≤x∧x≤n) (hl:l.length=n) {x:Int} (h1:1≤x) (h2:x≤n):x∈l:=by
  refine Classical.byContradiction fun hx=>?_
  have:=tn (x :: l) (lp n) (List.nodup_cons.2 ⟨hx,hn⟩) (fun y hy=>by
    rw[wE]
    rcases List.mem_cons.1 hy with rfl | hy
    · exact ⟨h1,h2⟩
    · exact hs y hy)
  simp[lp] at this
  omega
theorem wK (n:Int):∀ (l:List Term) (w:Int),w≠0→iL n l w=if (∀ t∈l,t.level=n→t.assoc=w) then some w else none
  | [],w,_=>by simp[iL]
  | t :: r,w,hw=>by
    simp only[iL]
    by_cases ht:t.level=n
    · rw[if_pos ht]
      by_cases ha:w=t.assoc
      · rw[if_neg (by simp[ha]),← ha,wK n r w hw]
        congr 1
        simp[ht,ha]
      · rw[if_pos ⟨hw,ha⟩,if_neg (fun h=>ha (h t (by simp) ht).symm)]
    · rw[if_neg ht,wK n r w hw]
      congr 1
      simp[ht]
theorem Ci (n:Int):∀ (l:List Term),(∀ t∈l,t.level=n→t.assoc≠0)→(gu l n=true↔∃ a,(∃ t∈l,t.level=n)∧∀ t∈l,t.level=n→t.assoc=a)
  | [],_=>by simp[gu,iL]
  | t :: r,h=>by
    by_cases ht:t.level=n
    · have ha:=h t (by simp) ht
      have e:gu (t :: r) n=match (if (∀ u∈r,u.level=n→u.assoc=t.assoc) then some t.assoc else none) with | some w=>w != 0 | none=>false:=by
        simp only[gu,iL]
        rw[if_pos ht,if_neg (by simp),wK n r _ ha]
        rfl
      rw[e]
      by_cases hr:∀ u∈r,u.level=n→u.assoc=t.assoc
      · rw[if_pos hr]
        simp only[bne_iff_ne,ne_eq,ha,not_false_eq_true,true_iff]
        refine ⟨t.assoc,⟨t,by simp,ht⟩,fun u hu hl=>?_⟩
        rcases List.mem_cons.1 hu with rfl | hu
        · rfl
        · exact hr u hu hl
      · rw[if_neg hr]
        simp only[Bool.false_eq_true,false_iff]
        rintro ⟨a,_,h2⟩
        exact hr fun u hu hl=>(h2 u (by simp[hu]) hl).trans (h2 t (by simp) ht).symm
    · have ih:=Ci n r (fun u hu=>h u (by simp[hu]))
      have e:gu (t :: r) n=gu r n:=by
        simp only[gu,iL,if_neg ht]
      rw[e,ih]
      constructor
      · rintro ⟨a,⟨u,hu,hl⟩,h2⟩
        refine ⟨a,⟨u,by simp[hu],hl⟩,fun v hv hl=>?_⟩
        rcases List.mem_cons.1 hv with rfl | hv
        · exact absurd hl ht
        · exact h2 v hv hl
      · rintro ⟨a,⟨u,hu,hl⟩,h2⟩
        rcases List.mem_cons.1 hu with rfl | hu
        · exact absurd hl ht
        · exact ⟨a,⟨u,hu,hl⟩,fun v hv=>h2 v (by simp[hv])⟩
def vN (l:List Term):Prop:=∀ t∈l,∀ u∈l,t.level=u.level→t.level≠0→t.assoc=u.assoc
theorem Gs {κ β:Type} [BEq κ] [LawfulBEq κ] {k:κ} {v:β} : ∀ {a:List (κ × β)},(a.map (·.1)).Nodup→((ll k v a).map (·.1)).Nodup∧∀ x,x∈(ll k v a).map (·.1)↔x=k∨x∈a.map (·.1)
  | [],_=>by simp[ll]
  | y :: a,h=>by
    simp only[List.map_cons,List.nodup_cons] at h
    obtain ⟨h1,h2⟩:=Gs (k:=k) (v:=v) h.2
    simp only[ll]
    by_cases e:k=y.1
    · simp only[e,beq_self_eq_true,if_true,List.map_cons,List.nodup_cons]
      refine ⟨h,fun x=>by simp⟩
    · have:(k == y.1)=false:=by simp[e]
      rw[this]
      simp only[Bool.false_eq_true,if_false,List.map_cons,List.nodup_cons,List.mem_cons]
      refine ⟨⟨fun hm=>?_,h1⟩,fun x=>?_⟩
      · rcases (h2 _).1 hm with e' | hm
        · exact e e'.symm
        · exact h.1 hm
      · rw[h2]
        constructor
        · rintro (h | h | h) <;> simp[h]
        · rintro (h | h | h) <;> simp[h]
theorem yJ:∀ (l:List Term) (a:List (Int × Int)) (top:Int),(∀ t∈l,t.level≠0→t.assoc≠0)→(∀ n v,ew a n=some v→v≠0)→(a.map (·.1)).Nodup →
    match lZ l a top with
    | some (a',top')=>vN l∧(∀ t∈l,∀ v,t.level≠0→ew a t.level=some v→t.assoc=v)∧(a'.map (·.1)).Nodup∧(∀ n,n∈a'.map (·.1)↔n∈a.map (·.1)∨(n≠0∧∃ t∈l,t.level=n)) ∧
        top≤top'∧(∀ t∈l,t.level≠0→t.level≤top')∧(top'=top∨∃ t∈l,t.level=top'∧t.level≠0)
    | none=>¬ (vN l∧∀ t∈l,∀ v,t.level≠0→ew a t.level=some v→t.assoc=v)
  | [],a,top,_,_,hn=>by
    simp only[lZ]
    exact ⟨fun t ht=>by simp at ht,fun t ht=>by simp at ht,hn,fun n=>by simp,by omega,fun t ht=>by simp at ht,by simp⟩
  | t :: r,a,top,h0,hv,hn=>by
    have h0r:∀ u∈r,u.level≠0→u.assoc≠0:=fun u hu=>h0 u (by simp[hu])
    simp only[lZ]
    by_cases ht:t.level=0
    · rw[if_pos ht]
      have ih:=yJ r a top h0r hv hn
      have one:vN (t :: r)↔vN r:=by
        constructor
        · exact fun h u hu w hw=>h u (by simp[hu]) w (by simp[hw])
        · intro h u hu w hw e hz
          rcases List.mem_cons.1 hu with rfl | hu
          · exact absurd ht hz
          · rcases List.mem_cons.1 hw with rfl | hw
            · exact absurd (e.trans ht) hz
            · exact h u hu w hw e hz
      have Rn:(∀ u∈t :: r,∀ v,u.level≠0→ew a u.level=some v→u.assoc=v)↔∀ u∈r,∀ v,u.level≠0→ew a u.level=some v→u.assoc=v:=by
        simp[ht]
      have mem:∀ n,(n≠0∧∃ u∈t :: r,u.level=n)↔(n≠0∧∃ u∈r,u.level=n):=fun n=>by
        constructor
        · rintro ⟨h1,u,hu,rfl⟩
          rcases List.mem_cons.1 hu with rfl | hu
          · exact absurd ht h1
          · exact ⟨h1,u,hu,rfl⟩
        · rintro ⟨h1,u,hu,rfl⟩; exact ⟨h1,u,by simp[hu],rfl⟩
      cases hs:lZ r a top with
      | none=>rw[hs] at ih; rw[one,Rn]; exact ih
      | some x =>
        obtain ⟨a',top'⟩:=x
        rw[hs] at ih
        obtain ⟨i1,i2,i3,i4,i5,i6,i7⟩:=ih
        refine ⟨one.2 i1,Rn.2 i2,i3,fun n=>by rw[i4,mem],i5,?_,?_⟩
        · intro u hu hz
          rcases List.mem_cons.1 hu with rfl | hu
          · exact absurd ht hz
          · exact i6 u hu hz
        · rcases i7 with h | ⟨u,hu,h⟩
          · exact .inl h
          · exact .inr ⟨u,by simp[hu],h⟩
    · rw[if_neg ht]
      have ha:=h0 t (by simp) ht
      by_cases hc:(ew a t.level).getD 0≠0∧(ew a t.level).getD 0≠t.assoc
      · rw[if_pos hc]
        simp only
        rintro ⟨_,h2⟩
        cases hp:ew a t.level with
        | none=>simp[hp] at hc
        | some v =>
          have:=h2 t (by simp) v ht hp
          simp[hp] at hc
          exact hc.2 this.symm
      · rw[if_neg hc]
        have hcon:∀ v,ew a t.level=some v→t.assoc=v:=fun v hp=>by
          have:=hv _ _ hp
          simp[hp] at hc
          exact (hc this).symm
        have hput:∀ n,ew (ll t.level t.assoc a) n=if n=t.level then some t.assoc else ew a n:=fun n=>by
          rw[FM]; simp
        have hk:=Gs (k:=t.level) (v:=t.assoc) hn
        have ih:=yJ r (ll t.level t.assoc a) (if t.level > top then t.level else top) h0r (fun n v hp=>by
          rw[hput] at hp
          split at hp
          · simp at hp; rw[← hp]; exact ha
          · exact hv n v hp) hk.1
        have both:(vN (t :: r)∧∀ u∈t :: r,∀ v,u.level≠0→ew a u.level=some v→u.assoc=v)↔(vN r∧∀ u∈r,∀ v,u.level≠0→ew (ll t.level t.assoc a) u.level=some v→u.assoc=v):=by
          constructor
          · rintro ⟨h1,h2⟩
            refine ⟨fun u hu w hw=>h1 u (by simp[hu]) w (by simp[hw]),fun u hu v hz hp=>?_⟩
            rw[hput] at hp
            split at hp
            · rename_i e
              simp at hp; rw[← hp]
              exact h1 u (by simp[hu]) t (by simp) e hz
            · exact h2 u (by simp[hu]) v hz hp
          · rintro ⟨h1,h2⟩
            have h3:∀ u∈r,u.level=t.level→u.assoc=t.assoc:=fun u hu e=>h2 u hu t.assoc (by rw[e]; exact ht) (by rw[hput,if_pos e])
            refine ⟨fun u hu w hw e hz=>?_,fun u hu v hz hp=>?_⟩
            · rcases List.mem_cons.1 hu with e1 | hu2
              · rcases List.mem_cons.1 hw with e2 | hw2
                · rw[e1,e2]
                · rw[e1] at e ⊢
                  exact (h3 w hw2 e.symm).symm
              · rcases List.mem_cons.1 hw with e2 | hw2
                · rw[e2] at e ⊢
                  exact h3 u hu2 e
                · exact h1 u hu2 w hw2 e hz
            · rcases List.mem_cons.1 hu with rfl | hu
              · exact hcon v hp
              · by_cases e:u.level=t.level
                · rw[h3 u hu e]; exact hcon v (by rw[← e]; exact hp)
                · exact h2 u hu v hz (by rw[hput,if_neg e]; exact hp)
        have htop:top≤(if t.level > top then t.level else top)∧t.level≤(if t.level > top then t.level else top):=by split <;> omega
        cases hs:lZ r (ll t.level t.assoc a) (if t.level > top then t.level else top) with
        | none=>rw[hs] at ih; simp only; rw[both]; exact ih
        | some x =>
          obtain ⟨a',top'⟩:=x
          rw[hs] at ih
          obtain ⟨i1,i2,i3,i4,i5,i6,i7⟩:=ih
          obtain ⟨b1,b2⟩:=both.2 ⟨i1,i2⟩
          refine ⟨b1,b2,i3,fun n=>?_,by omega,?_,?_⟩
          · rw[i4,hk.2]
            constructor
            · rintro ((rfl | h) | ⟨h1,u,hu,h⟩)
              · exact .inr ⟨ht,t,by simp,rfl⟩
              · exact .inl h
              · exact .inr ⟨h1,u,by simp[hu],h⟩
            · rintro (h | ⟨h1,u,hu,h⟩)
              · exact .inl (.inr h)
              · rcases List.mem_cons.1 hu with rfl | hu
                · exact .inl (.inl h.symm)
                · exact .inr ⟨h1,u,hu,h⟩
          · intro u hu hz
            rcases List.mem_cons.1 hu with rfl | hu
            · omega
            · exact i6 u hu hz
          · rcases i7 with h | ⟨u,hu,h⟩
            · by_cases e:t.level > top
              · rw[if_pos e] at h; exact .inr ⟨t,by simp,h.symm,ht⟩
              · rw[if_neg e] at h; exact .inl h
            · exact .inr ⟨u,by simp[hu],h⟩
theorem BQ (l:List Term) (h:∀ t∈l,kx t=true):se l=true↔∀ t∈l,∀ n:Int,1≤n→n≤t.level→gu l n=true:=by
  have hb:∀ t∈l,0≤t.level∧(t.level≠0→t.assoc≠0):=fun t ht=>by
    have:=h t ht
    simp only[kx,Bool.and_eq_true,decide_eq_true_eq,beq_iff_eq] at this
    refine ⟨this.1.1.1.1.2,fun h1 h2=>?_⟩
    have e:=this.2
    simp[h1,h2] at e
  have hs:=yJ l [] 0 (fun t ht=>(hb t ht).2) (by simp[ew]) (by simp)
  have hL:∀ n:Int,1≤n→(gu l n=true↔∃ a,(∃ t∈l,t.level=n)∧∀ t∈l,t.level=n→t.assoc=a):=fun n hn=>Ci n l (fun t ht e=>(hb t ht).2 (by omega))
  unfold se
  cases hx:lZ l [] 0 with
  | none =>
    rw[hx] at hs
    simp only[Bool.false_eq_true,false_iff]
    intro hall
    refine hs ⟨fun t ht u hu e hz=>?_,fun t ht v _ hp=>by simp[ew] at hp⟩
    have h1:=hb t ht
    obtain ⟨a,_,h2⟩:=(hL t.level (by omega)).1 (hall t ht t.level (by omega) (by omega))
    exact (h2 t ht rfl).trans (h2 u hu e.symm).symm
  | some x =>
    obtain ⟨a,top⟩:=x
    rw[hx] at hs
    obtain ⟨i1,_,i3,i4,i5,i6,i7⟩:=hs
    simp only[beq_iff_eq]
    have hmem:∀ n,n∈a.map (·.1)↔n≠0∧∃ t∈l,t.level=n:=fun n=>by rw[i4]; simp
    have hin:∀ x∈a.map (·.1),1≤x∧x≤(top.toNat:Int):=fun x hx=>by
      obtain ⟨h1,t,ht,rfl⟩:=(hmem x).1 hx
      have:=(hb t ht).1
      have:=i6 t ht h1
      omega
    constructor
    · intro hlen t ht n hn1 hn2
      have htop:t.level≤top:=i6 t ht (by omega)
      have hm:=P2 i3 hin (by simp; omega) hn1 (show n≤(top.toNat:Int) by omega)
      obtain ⟨hz,u,hu,rfl⟩:=(hmem n).1 hm
      exact (hL _ hn1).2 ⟨u.assoc,⟨u,hu,rfl⟩,fun w hw e=>i1 w hw u hu e (by omega)⟩
    · intro hall
      have h1:a.length≤top.toNat:=by
        have:=tn _ (lp top.toNat) i3 (fun x hx=>wE.2 (hin x hx))
        simpa [lp] using this
      have h2:top.toNat≤a.length:=by
        rcases i7 with e | ⟨t,ht,e,hz⟩
        · subst e; simp
        · have:=tn (lp top.toNat) (a.map (·.1)) (Ft _) (fun x hx=>by
            rw[wE] at hx
            have:=(hb t ht).1
            obtain ⟨_,⟨u,hu,hl⟩,_⟩:=(hL x hx.1).1 (hall t ht x hx.1 (by omega))
            exact (hmem x).2 ⟨by omega,u,hu,hl⟩)
          simpa [lp] using this
      omega
theorem Be (g:ay):∀ (l:List Term) (i:Int),mX g l i=true↔∀ (k:Nat) (t:Term),l[k]?=some t→kF g (i+k) t=true
  | [],i=>by simp[mX]
  | t :: r,i=>by
    simp only[mX,Bool.and_eq_true,Be g r (i+1)]
    constructor
    · rintro ⟨h1,h2⟩ k u hk
      cases k with
      | zero=>simp at hk; subst hk; simpa using h1
      | succ k =>
        have:=h2 k u (by simpa using hk)
        rw[show i+((k+1:Nat):Int)=i+1+k by push_cast; omega]; exact this
    · intro h
      refine ⟨by simpa using h 0 t rfl,fun k u hk=>?_⟩
      have:=h (k+1) u (by simpa using hk)
      rw[show i+1+(k:Int)=i+((k+1:Nat):Int) by push_cast; omega]; exact this
theorem EB (g:ay):∀ (l:List ByteArray) (i:Int),rH g l i=true↔∀ (k:Nat) (s:ByteArray),l[k]?=some s→pt g (i+k) s=true
  | [],i=>by simp[rH]
  | t :: r,i=>by
    simp only[rH,Bool.and_eq_true,EB g r (i+1)]
    constructor
    · rintro ⟨h1,h2⟩ k u hk
      cases k with
      | zero=>simp at hk; subst hk; simpa using h1
      | succ k =>
        have:=h2 k u (by simpa using hk)
        rw[show i+((k+1:Nat):Int)=i+1+k by push_cast; omega]; exact this
    · intro h
      refine ⟨by simpa using h 0 t rfl,fun k u hk=>?_⟩
      have:=h (k+1) u (by simpa using hk)
      rw[show i+1+(k:Int)=i+((k+1:Nat):Int) by push_cast; omega]; exact this
theorem EV (g:ay) (s:ByteArray):rN g s < 0↔s ∉ g.ax.map Term.name:=by
  unfold rN
  rcases yR s (g.ax.map Term.name) 0 (by omega) with ⟨h1,h2⟩ | ⟨k,h1,h2,_⟩
  · exact ⟨fun _=>h2,fun _=>h1⟩
  · constructor
    · intro h; omega
    · intro h; exact absurd (List.mem_of_getElem? h2) h
theorem Dy (g:ay) (t:Term):tJ g t=true↔∀ n:Int,1≤n→n≤t.level→gu g.ax n=true:=by
  simp only[tJ,List.all_eq_true,List.mem_range]
  constructor
  · intro h n h1 h2
    have:=h (n - 1).toNat (by omega)
    rwa [show (((n - 1).toNat:Nat):Int)+1=n by omega] at this
  · intro h k hk
    exact h _ (by omega) (by omega)
theorem J8 (g:ay):qh g=bS g:=by
  rw[Bool.eq_iff_iff]
  simp only[qh,bS,kG,lv,sQ,Bool.and_eq_true,decide_eq_true_eq,Be,EB,FD,List.all_eq_true,Bool.not_eq_true',List.any_eq_false,M9,sC,List.nodup_append,Int.zero_add,Int.zero_sub]
  have hT:(∀ (k:Nat) (t:Term),g.ax[k]?=some t→kF g k t=true)↔(∀ t∈g.ax,kx t=true)∧(g.ax.map Term.name).Nodup∧(∀ t∈g.ax,tJ g t=true):=by
    rw[← Ej]
    constructor
    · intro h
      have h':∀ t∈g.ax,∃ k:Nat,g.ax[k]?=some t:=fun t ht=>List.getElem?_of_mem ht
      refine ⟨fun t ht=>?_,fun k s hk=>?_,fun t ht=>?_⟩
      · obtain ⟨k,hk⟩:=h' t ht
        have:=h k t hk
        simp only[kF,kx,Bool.and_eq_true,decide_eq_true_eq] at this ⊢
        simp[this]
      · rw[List.getElem?_map,Option.map_eq_some_iff] at hk
        obtain ⟨t,hk,rfl⟩:=hk
        have:=h k t hk
        simp only[kF,Bool.and_eq_true,beq_iff_eq] at this
        exact this.1.1.1.1.1.1.2
      · obtain ⟨k,hk⟩:=h' t ht
        have:=h k t hk
        simp only[kF,Bool.and_eq_true] at this
        exact this.2
    · rintro ⟨h1,h2,h3⟩ k t hk
      have hm:=List.mem_of_getElem? hk
      have a:=h1 t hm
      have b:=h2 k t.name (by rw[List.getElem?_map,hk]; rfl)
      have c:=h3 t hm
      simp only[kF,kx,rN,Bool.and_eq_true,decide_eq_true_eq] at a ⊢
      simp[a,b,c]
  have hN:(∀ (k:Nat) (s:ByteArray),g.aA[k]?=some s→pt g k s=true)↔(∀ s∈g.aA,gg (eS s)=true)∧g.aA.Nodup∧(∀ s∈g.aA,s ∉ g.ax.map Term.name):=by
    rw[← Ej]
    constructor
    · intro h
      have h':∀ t∈g.aA,∃ k:Nat,g.aA[k]?=some t:=fun t ht=>List.getElem?_of_mem ht
      refine ⟨fun t ht=>?_,fun k s hk=>?_,fun t ht=>?_⟩
      · obtain ⟨k,hk⟩:=h' t ht
        have:=h k t hk
        simp only[pt,Bool.and_eq_true] at this
        exact this.1.1
      · have:=h k s hk
        simp only[pt,CX,Bool.and_eq_true,beq_iff_eq] at this
        exact this.1.2
      · obtain ⟨k,hk⟩:=h' t ht
        have:=h k t hk
        simp only[pt,Bool.and_eq_true,decide_eq_true_eq] at this
        exact (EV g t).1 this.2
    · rintro ⟨h1,h2,h3⟩ k s hk
      have hm:=List.mem_of_getElem? hk
      have a:=h1 s hm
      have b:=h2 k s hk
      have c:=(EV g s).2 (h3 s hm)
      simp[pt,CX,a,b,c]
  rw[hT,hN]
  constructor
  · rintro ⟨⟨⟨⟨⟨⟨⟨⟨t1,t2⟩,t3⟩,n1,n2⟩,r1,r2⟩,a1,a2,a3⟩,s1,s2⟩,n3⟩,ru⟩
    have hl:=(BQ g.ax t1).1 t3
    exact ⟨⟨⟨⟨⟨⟨⟨t2,t1,a2,fun t ht=>(Dy g t).2 (hl t ht)⟩,⟨by omega,by omega⟩,fun s hs=>by simpa using n3 s hs,a1,fun s hs hm=>a3 s hs s hm rfl⟩,by omega⟩,by omega⟩,s1⟩,by omega⟩,ru⟩
  · rintro ⟨⟨⟨⟨⟨⟨⟨t2,t1,a2,t3⟩,⟨n1,n2⟩,n3,a1,a3⟩,r1⟩,r2⟩,s1⟩,s2⟩,ru⟩
    have hl:=(BQ g.ax t1).2 (fun t ht=>(Dy g t).1 (t3 t ht))
    exact ⟨⟨⟨⟨⟨⟨⟨⟨t1,t2⟩,hl⟩,by omega,by omega⟩,by omega,by omega⟩,a1,a2,fun s hs u hu e=>a3 s hs (e ▸ hu)⟩,s1,by omega⟩,fun s hs=>by simp[n3 s hs]⟩,ru⟩
theorem D4 (g:ay) (hg:g.Ok) (hs:g.aA.length+g.ax.length≤1000):aD Tryz.prog 64 [.agg (aw g)] (gb (bS g)):=by
  rw[← J8]; exact KF g hg hs
def Rw (n:Nat) (r:cR):Prop:=bJ r.left∧0≤r.left∧r.left < n∧r.right.length≤6∧∀ s∈r.right,bJ s∧(s < 0→-1 - s < n)
theorem ay.dU.M8 {g:ay} (hg:g.Ok) (h:g.dU) {r:cR} (hr:r∈g.rules):Rw g.aA.length r :=
  ⟨(hg.aP r hr).1,(h.left r hr).1,(h.left r hr).2,h.right r hr,fun s hs=>⟨(hg.aP r hr).2.2.2 s hs,fun hn=>h.neg hr hs hn⟩⟩
theorem sG {h:aH} {u:V} {l:List Int} (ho:bc h.view u 1 (l.map fun x=>[gi x])):bZ h u (encI l):=bZ.KL (f:=Value.int .i64) ho
structure ay.Small (g:ay):Prop where
  names:g.aA.length+g.ax.length≤1000
theorem Ij {g:ay} (hr:bS g=true):(fv g).length=g.aA.length:=by
  rw[fv,if_pos hr,AG (f:=yw g (bm g true)) (fun is=>AI (fun is x=>LQ _ is x) g.rules is)]
  simp[gJ]
def fQ (p q:List Bool) (r:cR):Bool:=q.getD r.left.toNat false && nz r.right p true
def dY (p q:List Bool):List cR→Int→List Int
  | [],_=>[]
  | r :: l,i=>if fQ p q r=true then i :: dY p q l (i+1) else dY p q l (i+1)
def wm (acc:List Int) (r:cR):List Int:=if r.left∈acc then acc else acc ++ [r.left]
def eW (p q:List Bool) (l:List cR):List Int:=(l.filter (fQ p q)).foldl wm []
def cJ (o:List Int) (x:Int):Int:=cE (fun y=>y == x) o 0
def eZ (f:Int→Int) (r:cR):cR:=⟨f r.left,r.right.map fun s=>if s < 0 then -1 - f (-1 - s) else s,r.prec⟩
def Oi (g:ay) (f:Int→Int) (p q:List Bool):ay :=
  ⟨g.ax,(eW p q g.rules).map fun x=>g.aA.getD x.toNat ⟨#[]⟩,(g.rules.filter (fQ p q)).map (eZ f),f g.start⟩
def PQ:ay:=⟨[],[],[],0⟩
instance:DecidableEq Term:=fun a b=>decidable_of_iff (a.name=b.name∧a.level=b.level∧a.assoc=b.assoc) (by cases a; cases b; simp)
instance:DecidableEq cR:=fun a b=>decidable_of_iff (a.left=b.left∧a.prec=b.prec∧a.right=b.right) (by cases a; cases b; simp[and_comm])
instance:DecidableEq ay:=fun a b=>decidable_of_iff (a.ax=b.ax∧a.aA=b.aA∧a.rules=b.rules∧a.start=b.start) (by cases a; cases b; simp)
def ko (g:ay):ay × List Int × Int :=
  if bS g=true then
    if (bm g true).getD g.start.toNat false=true then (Oi g (cJ (eW (bm g true) (fv g) g.rules)) (bm g true) (fv g),dY (bm g true) (fv g) g.rules 0,0)
    else (PQ,[],9)
  else (PQ,[],1)
theorem Hu {g:ay} (hr:bS g=true):ko g=if (bm g true).getD g.start.toNat false=true then (Oi g (cJ (eW (bm g true) (fv g) g.rules)) (bm g true) (fv g),dY (bm g true) (fv g) g.rules 0,0) else (PQ,[],9):=by
  rw[ko,if_pos hr]
theorem sJ (p q:List Bool):∀ (a b:List cR) (i:Int),dY p q (a ++ b) i=dY p q a i ++ dY p q b (i+a.length)
  | [],b,i=>by simp[dY]
  | r :: a,b,i=>by
    simp only[List.cons_append,dY,sJ p q a b (i+1),List.length_cons]
    have:i+1+(a.length:Int)=i+((a.length+1:Nat):Int):=by push_cast; omega
    rw[this]
    split <;> simp
theorem tA (p q:List Bool):∀ (a:List cR) (i:Int),(dY p q a i).length=(a.filter (fQ p q)).length
  | [],i=>rfl
  | r :: a,i=>by
    simp only[dY,List.filter_cons]
    split <;> simp[tA p q a]
theorem yO (p q:List Bool):∀ (a:List cR) (i:Int) (k:Nat),k < (dY p q a i).length→∃ m:Nat,(dY p q a i)[k]?=some (i+m)∧a[m]?=(a.filter (fQ p q))[k]?∧m < a.length
  | [],i,k,h=>by simp[dY] at h
  | r :: a,i,k,h=>by
    simp only[dY,List.filter_cons] at h ⊢
    by_cases hr:fQ p q r=true
    · rw[if_pos hr] at h ⊢
      rw[if_pos hr]
      cases k with
      | zero=>exact ⟨0,by simp,by simp,by simp⟩
      | succ k =>
        obtain ⟨m,h1,h2,h3⟩:=yO p q a (i+1) k (by simpa using h)
        exact ⟨m+1,by rw[List.getElem?_cons_succ,h1]; congr 1; push_cast; omega,by simpa using h2,by simpa using h3⟩
    · rw[if_neg hr] at h ⊢
      rw[if_neg hr]
      obtain ⟨m,h1,h2,h3⟩:=yO p q a (i+1) k h
      exact ⟨m+1,by rw[h1]; congr 1; push_cast; omega,by simpa using h2,by simpa using h3⟩
theorem Ed (p q:List Bool) (l:List cR) (r:cR):eW p q (l ++ [r])=if fQ p q r=true then wm (eW p q l) r else eW p q l:=by
  unfold eW
  rw[List.filter_append]
  by_cases h:fQ p q r=true
  · rw[if_pos h,List.filter_cons_of_pos h,List.foldl_append]; rfl
  · rw[if_neg h,List.filter_cons_of_neg h]; simp
theorem Kp {acc:List Int} {r:cR} (h:acc.Nodup):(wm acc r).Nodup:=by
  unfold wm
  split
  · exact h
  · rename_i hn
    rw[List.nodup_append]
    exact ⟨h,by simp,fun a ha b hb e=>hn (by simp at hb; rw[← hb,← e]; exact ha)⟩
theorem sB {o:List Int} {x:Int} : cJ o x < 0↔x ∉ o:=by
  have:=kh (fun y=>y == x) o 0 (by omega)
  unfold cJ
  rw[← Int.not_le]
  constructor
  · intro h hx
    have e:(o.any fun y=>y == x)=true:=List.any_eq_true.2 ⟨x,hx,by simp⟩
    rw[e] at this; exact h (by simpa using this)
  · intro h hx
    have e:(o.any fun y=>y == x)=true:=by rw[← this]; simpa using hx
    obtain ⟨y,hy,e⟩:=List.any_eq_true.1 e
    simp at e; subst e; exact h hy
theorem Ab {α:Type} (p:α→Bool):∀ (a b:List α) (i:Int),0≤i→cE p (a ++ b) i=if 0≤cE p a i then cE p a i else cE p b (i+a.length)
  | [],b,i,_=>by simp[cE]
  | x :: a,b,i,h=>by
    by_cases hp:p x=true
    · simp[cE,hp,h]
    · simp only[List.cons_append,cE,if_neg hp]
      rw[Ab p a b (i+1) (by omega)]
      have:i+1+(a.length:Int)=i+(((x :: a).length:Nat):Int):=by simp; omega
      rw[this]
theorem NK {o:List Int} {x y:Int} (hx:x ∉ o):cJ (o ++ [x]) y=if y=x then (o.length:Int) else cJ o y:=by
  unfold cJ
  rw[Ab _ _ _ _ (by omega)]
  by_cases e:y=x
  · subst e
    rw[if_neg (by have:=sB.2 hx; unfold cJ at this; omega),if_pos rfl]
    simp[cE]
  · rw[if_neg e]
    split
    · rfl
    · rename_i h
      have:cJ o y < 0:=by unfold cJ; omega
      have h2:cE (fun z=>z == y) [x] (0+(o.length:Int)) = -1:=by simp[cE,Ne.symm e]
      rw[h2]
      have:∀ (l:List Int) (i:Int),¬ 0≤cE (fun z=>z == y) l i→0≤i→cE (fun z=>z == y) l i = -1:=by
        intro l
        induction l with
        | nil=>intro i _ _; rfl
        | cons z l ih =>
          intro i h1 h2
          simp only[cE] at h1 ⊢
          split
          · rename_i hz; rw[if_pos hz] at h1; omega
          · rename_i hz; rw[if_neg hz] at h1; exact ih _ h1 (by omega)
      exact (this o 0 h (by omega)).symm
theorem Qz {o:List Int} {x:Int} (h:x∈o):0≤cJ o x∧cJ o x < o.length:=by
  have h0:¬ cJ o x < 0:=fun e=>sB.1 e h
  refine ⟨by omega,?_⟩
  unfold cJ
  have:∀ (l:List Int) (i:Int),cE (fun z=>z == x) l i < i+l.length∨cE (fun z=>z == x) l i = -1:=by
    intro l
    induction l with
    | nil=>intro i; right; rfl
    | cons z l ih =>
      intro i
      simp only[cE]
      split
      · left; simp; omega
      · rcases ih (i+1) with h | h
        · left; simp at h ⊢; omega
        · right; exact h
  rcases this o 0 with h1 | h1
  · simpa using h1
  · unfold cJ at h0; omega
theorem P4 (o:List Int) (x:Int) : -1≤cJ o x∧cJ o x≤o.length:=by
  by_cases h:x∈o
  · have:=Qz h; omega
  · have h1:=sB.2 h
    have h2:∀ (l:List Int) (i:Int),0≤i→-1≤cE (fun z=>z == x) l i:=by
      intro l
      induction l with
      | nil=>intro i _; simp[cE]
      | cons z l ih =>
        intro i hi
        simp only[cE]
        split
        · omega
        · exact ih _ (by omega)
    have:=h2 o 0 (by omega)
    unfold cJ at h1 ⊢
    omega
def lI:SC :=
  .seq (.seq (ak [aa 42 9,aa 43 8,aM 44 43,aR 45 .lss 42 44]) <|
  .cond (.tmp 45) (.skip) (.exit 0)) <|
  .seq (.block 1 (ak [aa 48 8,aa 49 9,aS 50 1 48 49,(none,.op (.store 1 (.tmp 50) (.val (.val (.int .i64 (-1))))))])) <|
  ak [aa 46 9,az 47 .add 46 1,aa 9 47]
def lH:SC :=
  .seq (.seq (ak [aa 51 11,au 52 2 1,ao 53 52,aM 54 53,aR 55 .lss 51 54]) <|
  .cond (.tmp 55) (.skip) (.exit 2)) <|
  .seq (.block 3 (.seq (ak [au 58 2 1,ao 59 58,aa 60 11,aS 61 3 59 60,aO 62 3 61,((some 12),.op (.alloc [(.val (.int .i64 0)),(.emp 1),(.val (.int .i64 0))])),(none,.op (.store 3 (.tmp 12) (.tmp 62)))]) <|
  .seq (.seq (.region false [⟨none,[aa 63 6,au 64 0 12,ao 65 64,aS 66 1 63 65,ao 67 66,bX 68 67,aa 69 68]⟩,⟨(some (69,false)),[au 70 1 12,ao 71 70,aa 72 5,cZ 73 128 [(.tmp 71),(.tmp 72),(.val (.val (.bool true)))],bX 74 73]⟩,⟨none,[bB 75 69 74]⟩]) <|
  .cond (.tmp 75) (.exit 3) (.skip)) <|
  .seq (ak [aa 76 10,aa 77 11,((some 78),.op (.bh 1 1 [(.val (.int .i64 0))] [(0,(.tmp 77))])),((some 79),.op (.app 1 8 (.tmp 76) (.tmp 78))),aa 10 79]) <|
  .seq (ak [aa 80 8,au 81 0 12,ao 82 81,aS 83 1 80 82,ao 84 83,az 85 .lss 84 0]) <|
  .cond (.tmp 85) (.seq (ak [aa 86 8,au 87 0 12,ao 88 87,au 89 1 7,ao 90 89,aM 91 90,aS 92 1 86 88,(none,.op (.store 1 (.tmp 92) (.tmp 91)))]) <|
  .region false [⟨none,[au 93 1 7,ao 94 93,au 95 1 1,ao 96 95,au 97 0 12,ao 98 97,aS 99 1 96 98,ao 100 99,((some 101),.op (.bh 1 1 [(.val (.string ⟨#[]⟩))] [(0,(.tmp 100))])),((some 102),.op (.app 1 16 (.tmp 94) (.tmp 101))),au 103 1 7,(none,.op (.store 1 (.tmp 103) (.tmp 102)))]⟩]) (.skip))) <|
  ak [aa 56 11,az 57 .add 56 1,aa 11 57]
def ly:SC :=
  .seq (.seq (ak [aa 126 16,au 127 1 14,ao 128 127,aM 129 128,aR 130 .lss 126 129]) <|
  .cond (.tmp 130) (.skip) (.exit 6)) <|
  .seq (.block 7 (.seq (ak [au 133 1 14,ao 134 133,aa 135 16,aS 136 1 134 135,ao 137 136,aa 17 137]) <|
  .seq (.seq (ak [aa 138 17,az 139 .lss 138 0]) <|
  .cond (.tmp 139) (ak [aa 140 8,aa 141 17,((some 142),.op (.arith .sub (.val (.val (.int .i64 (-1)))) (.tmp 141))),aS 143 1 140 142,ao 144 143,((some 145),.op (.arith .sub (.val (.val (.int .i64 (-1)))) (.tmp 144))),aa 17 145]) (.skip)) <|
  ak [au 146 1 15,ao 147 146,aa 148 17,((some 149),.op (.bh 1 1 [(.val (.int .i64 0))] [(0,(.tmp 148))])),((some 150),.op (.app 1 8 (.tmp 147) (.tmp 149))),au 151 1 15,(none,.op (.store 1 (.tmp 151) (.tmp 150)))])) <|
  ak [aa 131 16,az 132 .add 131 1,aa 16 132]
def lJ:SC :=
  .seq (.seq (ak [aa 104 13,aa 105 10,aM 106 105,aR 107 .lss 104 106]) <|
  .cond (.tmp 107) (.skip) (.exit 4)) <|
  .seq (.block 5 (.seq (ak [au 110 2 1,ao 111 110,aa 112 10,aa 113 13,aS 114 1 112 113,ao 115 114,aS 116 3 111 115,aO 117 3 116,((some 14),.op (.alloc [(.val (.int .i64 0)),(.emp 1),(.val (.int .i64 0))])),(none,.op (.store 3 (.tmp 14) (.tmp 117)))]) <|
  .seq (ak [aa 118 8,au 119 0 14,ao 120 119,aS 121 1 118 120,ao 122 121,au 123 2 14,ao 124 123,((some 125),.op (.build [(.val (.int .i64 0)),(.emp 1),(.val (.int .i64 0))] [(0,1,(.tmp 122)),(2,1,(.tmp 124))])),((some 15),.op (.alloc [(.val (.int .i64 0)),(.emp 1),(.val (.int .i64 0))])),(none,.op (.store 3 (.tmp 15) (.tmp 125)))]) <|
  .seq (.seq (ak [aI 16 0]) <|
  .block 6 (.loop ly)) <|
  ak [au 152 2 7,ao 153 152,aO 154 3 15,((some 155),.op (.bh 1 3 [(.val (.int .i64 0)),(.emp 1),(.val (.int .i64 0))] [(0,(.tmp 154))])),((some 156),.op (.app 3 40 (.tmp 153) (.tmp 155))),au 157 2 7,(none,.op (.store 1 (.tmp 157) (.tmp 156)))])) <|
  ak [aa 108 13,az 109 .add 108 1,aa 13 109]
def nL:SF:=⟨.seq (ak [bW 1 0,((some 2),.op (.alloc [(.emp 1),(.emp 1),(.emp 1),(.val (.int .i64 0))])),((some 3),.op (.bo (.val (.emp 1)))),aI 4 0]) <|
  .seq (.seq (ak [aO 18 4 1,aQ 19 66 [18],bX 20 19]) <|
  .cond (.tmp 20) (.seq (ak [((some 21),.op (.build [(.emp 1),(.emp 1),(.emp 1),(.val (.int .i64 0))] [])),(none,.op (.store 4 (.tmp 2) (.tmp 21))),((some 3),.op (.bo (.val (.emp 1)))),aI 4 1]) <|
  .ret) (.skip)) <|
  .seq (.region true [⟨none,[aO 22 4 1,aQ 23 126 [22],aO 24 4 1,aQ 25 127 [24],aa 5 23,aa 6 25]⟩]) <|
  .seq (.seq (ak [aa 26 5,au 27 3 1,ao 28 27,aS 29 1 26 28,ao 30 29,bX 31 30]) <|
  .cond (.tmp 31) (.seq (ak [((some 32),.op (.build [(.emp 1),(.emp 1),(.emp 1),(.val (.int .i64 0))] [])),(none,.op (.store 4 (.tmp 2) (.tmp 32))),((some 3),.op (.bo (.val (.emp 1)))),aI 4 9]) <|
  .ret) (.skip)) <|
  .seq (ak [((some 33),.op (.bo (.val (.emp 2)))),au 34 0 1,ao 35 34,((some 36),.op (.app 3 32 (.tmp 33) (.tmp 35))),((some 37),.op (.build [(.emp 1),(.emp 1),(.emp 1),(.val (.int .i64 0))] [(0,1,(.tmp 36))])),((some 7),.op (.alloc [(.emp 1),(.emp 1),(.emp 1),(.val (.int .i64 0))])),(none,.op (.store 4 (.tmp 7) (.tmp 37)))]) <|
  .seq (ak [au 38 1 1,ao 39 38,aM 40 39,((some 41),.op (.make 1 8 [(.val (.int .i64 0))] (.tmp 40) (.tmp 40))),aa 8 41]) <|
  .seq (.seq (ak [aI 9 0]) <|
  .block 0 (.loop lI)) <|
  .seq (ak [((some 10),.op (.bo (.val (.emp 1))))]) <|
  .seq (.seq (ak [aI 11 0]) <|
  .block 2 (.loop lH)) <|
  .seq (.seq (ak [aI 13 0]) <|
  .block 4 (.loop lJ)) <|
  .seq (ak [aa 158 8,au 159 3 1,ao 160 159,aS 161 1 158 160,ao 162 161,au 163 3 7,(none,.op (.store 1 (.tmp 163) (.tmp 162)))]) <|
  .seq (ak [aO 164 4 7,aa 165 10,(none,.op (.store 4 (.tmp 2) (.tmp 164))),aa 3 165,aI 4 0]) <|
  .ret,
  [.cell 2 (some 4),.tmp 3,.tmp 4],166⟩
theorem s6:aY Tryz.prog 82 [1]=some nL:=by kernel_rfl
abbrev bA (l:List Int):List (List V):=l.map fun x=>[gi x]
abbrev tH (l:List ByteArray):List (List V):=l.map fun s=>[gs s]
theorem oU {l:List Int} {i:Nat} (h:i < l.length):(bA l).getD i []=[gi l[i]]:=by simp[List.getD_eq_getElem?_getD,h]
theorem ints_set (l:List Int) (i:Nat) (x:Int):(bA l).set i [gi x]=bA (l.set i x):=by simp[List.map_set]
theorem QE {l:List Int} (h:0 < l.length):bA l≠[]:=by intro e; rw[List.map_eq_nil_iff] at e; rw[e] at h; simp at h
theorem xF {α:Type} {x:α} : ∀ {l:List α} {i:Nat},i < l.length→(l.set i x).take (i+1)=l.take i ++ [x]
  | y :: l,0,_=>by simp
  | y :: l,i+1,h=>by
    have:=xF (x:=x) (l:=l) (i:=i) (by simpa using h)
    simp only[List.set_cons_succ,List.take_succ_cons,this,List.cons_append]
def ez (n:Nat) (o:List Int):List Int:=(List.range n).map fun (x:Nat)=>cJ o (x:Int)
theorem P5 (n:Nat):ez n []=List.replicate n (-1):=by
  apply List.ext_getElem
  · simp[ez]
  · intro i h1 h2
    simp[ez,cJ,cE]
theorem zC {n:Nat} {o:List Int} {x:Int} (h0:0≤x) (h1:x < n):(ez n o)[x.toNat]'(by simp[ez]; omega)=cJ o x:=by
  simp[ez,show ((x.toNat:Nat):Int)=x by omega]
theorem QF {n:Nat} {o:List Int} {x:Int} (h0:0≤x) (h1:x < n) (hx:x ∉ o):(ez n o).set x.toNat o.length=ez n (o ++ [x]):=by
  apply List.ext_getElem
  · simp[ez]
  · intro i h2 h3
    rw[List.getElem_set]
    simp only[ez,List.getElem_map,List.getElem_range]
    rw[NK hx]
    by_cases e:x.toNat=i
    · rw[if_pos e,if_pos (by omega)]
    · rw[if_neg e,if_neg (by omega)]
abbrev Cj:=List (V × cR)
def kf (b:Cj):List (List V):=b.map fun x=>[gi x.2.left,x.1,gi x.2.prec]
def vT (b:Cj):List ep:=b.map fun x=>(x.1,1,bA x.2.right)
theorem MD {h:aH} {u:V} {b:Cj} (ho:bc h.view u 3 (kf b)) (hb:∀ x∈vT b,bc h.view x.1 x.2.1 x.2.2):bZ h u (.aX ((b.map (·.2)).map bP)):=by
  refine bZ.own ho (by simp[kf]) (fun i hi=>?_) (fun i j hi hj=>?_)
  all_goals
    simp only[kf,List.length_map] at hi
    have e1:(kf b).getD i []=[gi b[i].2.left,b[i].1,gi b[i].2.prec]:=by simp[kf,List.getD_eq_getElem?_getD,hi]
    have e2:((b.map (·.2)).map bP).getD i []=bP b[i].2:=by simp[List.getD_eq_getElem?_getD,hi]
  · rw[e1,e2]; rfl
  · rw[e1,e2]
    rw[e2] at hj
    have hm:b[i]∈b:=List.getElem_mem _
    have ho:=hb (b[i].1,1,bA b[i].2.right) (List.mem_map.2 ⟨_,hm,rfl⟩)
    match j,hj with
    | 0,_=>exact .val _
    | 1,_=>exact sG ho
    | 2,_=>exact .val _
    | n+3,hj=>exact absurd hj (by simp only[bP,List.length_cons,List.length_nil]; omega)
theorem O5 {h:aH} {u:V} {l:List ByteArray} (ho:bc h.view u 1 (tH l)):bZ h u (encS l):=bZ.KL (f:=Value.string) ho
theorem M4 {h:aH} {u:V} {l:List Term} (ho:bc h.view u 3 (l.map dP)):bZ h u (eJ l):=by
  refine bZ.own ho rfl (fun _ _=>rfl) (fun i j hi hj=>?_)
  simp only[List.length_map] at hi
  have e1:(l.map dP).getD i []=dP l[i]:=by simp[List.getD_eq_getElem?_getD,hi]
  rw[e1] at hj ⊢
  match j,hj with
  | 0,_=>exact .val _
  | 1,_=>exact .val _
  | 2,_=>exact .val _
  | n+3,hj=>exact absurd hj (by simp only[dP,List.length_cons,List.length_nil]; omega)
def Fq (x:ay × List Int × Int):V:=.bf [.agg (aw x.1),encI x.2.1,gi x.2.2]
theorem GI {h:aH} {e:Int} {k1 k2 k3 k4:Nat} : bZ h (.bf [.agg [.emp k1,.emp k2,.emp k3,gi 0],.emp k4,gi e]) (Fq (PQ,[],e)):=by
  refine .bf _ _ rfl fun i hi=>?_
  match i,hi with
  | 0,_ =>
    refine .agg _ _ rfl fun j hj=>?_
    match j,hj with
    | 0,_=>exact .emp _
    | 1,_=>exact .emp _
    | 2,_=>exact .emp _
    | 3,_=>exact .val _
    | n+4,hj=>exact absurd hj (by simp only[List.length_cons,List.length_nil]; omega)
  | 1,_=>exact .emp _
  | 2,_=>exact .val _
  | n+3,hi=>exact absurd hi (by simp only[List.length_cons,List.length_nil]; omega)
def Rg (g:ay) (p q:List Bool) (b2 b7 b8:Nat) (u0:V) (i:Nat) (T:Env) (H:View):Prop :=
  (∃ u1 u3:V,T 10=u3∧(∀ x∈eW p q (g.rules.take i),0≤x∧x < g.aA.length)∧(eW p q (g.rules.take i)).Nodup∧(eW p q (g.rules.take i)).length≤i ∧
    bK H [(.sl b7 0 1 4,4,[[u0,u1,.emp 1,gi 0]]),(.sl b8 0 g.aA.length 1,1,bA (ez g.aA.length (eW p q (g.rules.take i)))),(u3,1,bA (dY p q (g.rules.take i) 0)),
      (u1,1,tH ((eW p q (g.rules.take i)).map fun x=>g.aA.getD x.toNat ⟨#[]⟩)),(u0,3,g.ax.map dP),(.sl b2 0 1 4,4,[[.emp 1,.emp 1,.emp 1,gi 0]])]) ∧
  T 1=.aT (aw g) 0∧T 2=.ptr b2 0 0∧T 5=dI p∧T 6=dI q∧T 7=.ptr b7 0 0∧T 8=.sl b8 0 g.aA.length 1∧T 11=gi i
def SJ (g:ay) (p q:List Bool) (b2 b7 b8:Nat) (u0 u1 u3:V) (o kl:List Int) (i:Nat) (T:Env) (H:View):Prop :=
  (∃ (u2:V) (bs:Cj),bs.map (·.2)=((g.rules.filter (fQ p q)).take i).map (eZ (cJ o)) ∧
    bK H ((.sl b7 0 1 4,4,[[u0,u1,u2,gi 0]]) :: (.sl b8 0 g.aA.length 1,1,bA (ez g.aA.length o)) :: (u3,1,bA kl) ::
      (u1,1,tH (o.map fun x=>g.aA.getD x.toNat ⟨#[]⟩)) :: (u0,3,g.ax.map dP) :: (u2,3,kf bs) :: (.sl b2 0 1 4,4,[[.emp 1,.emp 1,.emp 1,gi 0]]) :: vT bs)) ∧
  T 1=.aT (aw g) 0∧T 2=.ptr b2 0 0∧T 7=.ptr b7 0 0∧T 8=.sl b8 0 g.aA.length 1∧T 10=u3∧T 13=gi i
def Sq (g:ay) (b2 b7 b8 b14 b15:Nat) (u3:V) (o:List Int) (r:cR) (L:List ep) (i k:Nat) (T:Env) (H:View):Prop :=
  (∃ v:V,bK H ((.sl b15 0 1 3,3,[[gi (cJ o r.left),v,gi r.prec]]) :: (v,1,bA ((eZ (cJ o) r).right.take k)) :: (.sl b14 0 1 3,3,[bP r]) :: L)) ∧
  T 1=.aT (aw g) 0∧T 2=.ptr b2 0 0∧T 7=.ptr b7 0 0∧T 8=.sl b8 0 g.aA.length 1∧T 10=u3∧T 13=gi i∧T 14=.ptr b14 0 0∧T 15=.ptr b15 0 0∧T 16=gi k
theorem Qq {h:aH} {u0 u1 u2 u3:V} {x:ay × List Int × Int} {b:Cj} (h0:bc h.view u0 3 (x.1.ax.map dP)) (h1:bc h.view u1 1 (tH x.1.aA)) (h2:bc h.view u2 3 (kf b)) (hb:∀ y∈vT b,bc h.view y.1 y.2.1 y.2.2)
    (hr:b.map (·.2)=x.1.rules) (h3:bc h.view u3 1 (bA x.2.1)):bZ h (.bf [.agg [u0,u1,u2,gi x.1.start],u3,gi x.2.2]) (Fq x):=by
  refine .bf _ _ rfl fun i hi=>?_
  match i,hi with
  | 0,_ =>
    refine .agg _ _ rfl fun j hj=>?_
    match j,hj with
    | 0,_=>exact M4 h0
    | 1,_=>exact O5 h1
    | 2,_=>have:=MD h2 hb; rw[hr] at this; exact this
    | 3,_=>exact .val _
    | n+4,hj=>exact absurd hj (by simp only[List.length_cons,List.length_nil]; omega)
  | 1,_=>exact sG h3
  | 2,_=>exact .val _
  | n+3,hi=>exact absurd hi (by simp only[List.length_cons,List.length_nil]; omega)
set_option maxHeartbeats 8000000 in
theorem HX (g:ay) (hg:g.Ok):cH Tryz.prog 82 [.agg (aw g)] (Fq (ko g)):=by
  refine cH.of (fY g) ?_
  refine aC.of mixed s6 ?_
  simp (disch:=omega) only [↓wr,↓reduceIte,wq,ah,Nat.reduceEqDiff,Nat.reduceAdd,Nat.reduceLeDiff,nL,aw,encS]
  intro b2
  try simp (disch:=omega) only [↓wr,↓reduceIte,wq,ah,ag,aj,ab,ae,af,ai,isNil,Nat.reduceEqDiff,Nat.reduceAdd,Nat.reduceLT,Nat.reduceLeDiff,Int.reduceNeg,Int.reduceToNat,reduceCtorEq,aw,encS]
  refine aE.pure (iW g hg) (by kernel_rfl) ?_
  repeat' (first | (refine av.dec (fun _=>?_) (fun _=>?_)) | (refine av.eq (fun _=>?_) (fun _=>?_)) | (refine av.ne (fun _=>?_) (fun _=>?_)) | (refine av.split (fun _=>?_) (fun _=>?_)) | (simp (disch:=omega) only [↓wr,↓reduceIte,wq,ab,ae,Nat.reduceEqDiff,Nat.reduceAdd,Nat.reduceLT,Nat.reduceLeDiff,reduceCtorEq,set_set]))
  · rename_i hr
    refine aE.pure (tB g hg) (by kernel_rfl) ?_
    simp (disch:=omega) only [↓wr,↓reduceIte,wq,Nat.reduceEqDiff,Nat.reduceAdd,Nat.reduceLeDiff]
    refine aE.pure (CL g hg).pure (by kernel_rfl) ?_
    have hf:=cn hr
    have h3:=hf.F9
    have h4:=hf.start
    have hpl:=pB hr true
    have hql:=Ij hr
    have hred:=Hu hr
    generalize bm g true=p at hpl hred
    generalize fv g=q at hql hred
    have hps:p[g.start.toNat]?=some (p[g.start.toNat]'(by omega)):=List.getElem?_eq_getElem (by omega)
    have hpd:p.getD g.start.toNat false=p[g.start.toNat]'(by omega):=by simp[List.getD_eq_getElem?_getD,hps]
    generalize p[g.start.toNat]'(by omega)=s at hps hpd
    rw[hpd] at hred
    simp (disch:=omega) only [↓wr,↓reduceIte,wq,Nat.reduceEqDiff,Nat.reduceAdd,Nat.reduceLT,dI,List.getElem?_map,hps]
    cases s with
    | false =>
      rw[if_neg (by simp)] at hred
      simp (disch:=omega) only [↓wr,↓reduceIte,wq,ab,ae,Nat.reduceEqDiff,Nat.reduceAdd,Nat.reduceLT,Nat.reduceLeDiff,reduceCtorEq,set_set]
      rintro h' hh
      rw[hred]
      exact GI
    | true =>
      rw[if_pos rfl] at hred
      simp (disch:=omega) only [↓wr,↓reduceIte,wq,Nat.reduceEqDiff,Nat.reduceAdd,Nat.reduceLT]
      have hN:=hf.aA
      have hN1:=hf.Fe
      have hT:=hf.ax
      have hR:=hf.rules
      refine bQ (L:=[(.sl b2 0 1 4,4,[[.emp 1,.emp 1,.emp 1,gi 0]])]) (bK.emp (bK.nil.new rfl 4 _)) (by simp[dP,aU]) (by unfold aJ; simp; omega) (by unfold aJ; simp; omega) ?_
      intro u0 H1 ho1 _
      have c0:=ho1.head.cells
      have k0:=ho1.head.fA
      simp (disch:=omega) only [↓wr,↓reduceIte,wq,aj,ab,ae,Nat.reduceEqDiff,Nat.reduceAdd,Nat.reduceLT,Nat.reduceLeDiff,c0,k0]
      intro b7 hb7
      have ho2:=ho1.new hb7 4 [[u0,.emp 1,.emp 1,gi 0]]
      try simp (disch:=omega) only [↓wr,↓reduceIte,wq,ah,ag,aj,ab,ae,af,ai,isNil,Nat.reduceEqDiff,Nat.reduceAdd,Nat.reduceLT,Nat.reduceLeDiff,Int.reduceNeg,Int.reduceToNat,reduceCtorEq,aw,encS,c0,k0,set_set]
      refine ⟨⟨by omega,by unfold aJ; omega,by unfold aJ; omega⟩,fun h=>by omega,?_⟩
      intro _ b8 hb8
      have hb87:=(dz hb8 cT).1
      have ho3:=ho2.new (n:=b8) (by simp only[View.set,if_neg hb87]; exact (dz (dz hb8 cT).2 cT).2) 1 (bA (List.replicate g.aA.length 0))
      try simp (disch:=omega) only [↓wr,↓reduceIte,wq,ah,ag,aj,ab,ae,af,ai,isNil,Nat.reduceEqDiff,Nat.reduceAdd,Nat.reduceLT,Nat.reduceLeDiff,Int.reduceNeg,Int.reduceToNat,reduceCtorEq,aw,encS,c0,k0,set_set]
      refine ba.up g.aA.length (fun i T H=>(∃ l:List Int,l.length=g.aA.length∧l.take i=List.replicate i (-1) ∧
        bK H [(.sl b8 0 g.aA.length 1,1,bA l),(.sl b7 0 1 4,4,[[u0,.emp 1,.emp 1,gi 0]]),(u0,3,g.ax.map dP),(.sl b2 0 1 4,4,[[.emp 1,.emp 1,.emp 1,gi 0]])]) ∧
        T 1=.aT (aw g) 0∧T 2=.ptr b2 0 0∧T 5=dI p∧T 6=dI q∧T 7=.ptr b7 0 0∧T 8=.sl b8 0 g.aA.length 1∧T 9=gi i) ?_ ?_
      · exact ⟨⟨List.replicate g.aA.length 0,by simp,by simp,by simpa [set_set] using ho3⟩,rfl,rfl,rfl,rfl,rfl,rfl,rfl⟩
      rintro i k T H2 hk ⟨⟨l,hl1,hl2,ho⟩,t1,t2,t5,t6,t7,t8,t9⟩
      simp (disch:=omega) only [↓wr,↓reduceIte,wq,ag,aj,Nat.reduceEqDiff,Int.reduceNeg,lI,t8,t9]
      refine av.dec (fun hc=>?_) (fun hc=>?_)
      · have hne:bA l≠[]:=by intro e; rw[List.map_eq_nil_iff] at e; rw[e] at hl1; simp at hl1; omega
        have hb:=(ho.obj hne).1
        have hbg:=oU (show i < l.length by omega)
        simp (disch:=omega) only [↓wr,↓reduceIte,wq,ag,ab,Nat.reduceEqDiff,Nat.reduceLeDiff,Int.reduceNeg,reduceCtorEq,t2,t8,t9,hb,hbg]
        refine ⟨by omega,by omega,?_⟩
        refine aV hk (by omega) ⟨⟨l.set i (-1),by simp[hl1],?_,?_⟩,t1,t2,t5,t6,t7,t8,rfl⟩
        · rw[xF (by omega),hl2,List.replicate_succ']
        · rw[ints_set]
          exact ho.put (by simp) (by simp[hl1])
      · rw[List.take_of_length_le (by omega)] at hl2
        rw[hl2] at ho
        have ei:i=g.aA.length:=by omega
        subst ei
        simp (disch:=omega) only [↓wr,↓reduceIte,wq,Nat.reduceEqDiff,reduceCtorEq,t2]
        have name_in:∀ o:List Int,(o.map fun x=>g.aA.getD x.toNat ⟨#[]⟩).length=o.length:=fun o=>by simp
        refine ba.up g.rules.length (Rg g p q b2 b7 b8 u0) ?_ ?_
        · refine ⟨⟨.emp 1,.emp 1,rfl,by simp[eW],by simp[eW],by simp[eW],?_⟩,t1,t2,t5,t6,t7,t8,rfl⟩
          have h4:=((((ho.emp (k:=1) (sz:=1)).emp (k:=1) (sz:=1)).at 3 (by simp)).perm (CR.symm.cons _))
          have e0:eW p q (g.rules.take 0)=[]:=rfl
          rw[e0,P5]
          exact h4
        clear ho t1 t2 t5 t6 t7 t8 t9 hl1 hl2
        rintro i k T H2 hk ⟨⟨u1,u3,t10,hin,hnd,holen,ho⟩,t1,t2,t5,t6,t7,t8,t11⟩
        simp (disch:=omega) only [↓wr,↓reduceIte,wq,ag,aj,Nat.reduceEqDiff,Nat.reduceAdd,Nat.reduceLT,lH,t1,t11,aw]
        refine av.dec (fun hc=>?_) (fun hc=>?_)
        · have hg2:g.rules[i]?=some (g.rules[i]'(by omega)):=List.getElem?_eq_getElem (by omega)
          have hmem:g.rules[i]'(by omega)∈g.rules:=List.getElem_mem _
          have htk:g.rules.take (i+1)=g.rules.take i ++ [g.rules[i]'(by omega)]:=by rw[List.take_add_one,hg2]; rfl
          generalize g.rules[i]'(by omega)=r at hg2 hmem htk
          obtain ⟨hl1,hl2,hl3,hr6,hsy⟩:=hf.M8 hg hmem
          have hqs:q[r.left.toNat]?=some (q[r.left.toNat]'(by omega)):=List.getElem?_eq_getElem (by omega)
          have hqd:q.getD r.left.toNat false=q[r.left.toNat]'(by omega):=by simp[List.getD_eq_getElem?_getD,hqs]
          generalize q[r.left.toNat]'(by omega)=qs at hqs hqd
          simp (disch:=omega) only [↓wr,↓reduceIte,wq,ab,Nat.reduceEqDiff,Nat.reduceAdd,Nat.reduceLT,Nat.reduceLeDiff,t1,t6,t11,aw,bP,List.getElem?_map,hg2]
          intro b12 hb12
          have hoA:=ho.new hb12 3 [bP r]
          try simp (disch:=omega) only [↓wr,↓reduceIte,wq,Nat.reduceLT,encI,dI,List.getElem?_map,hqs]
          have hskip:∀ (T2:Env) (H':View),fQ p q r=false→H'=H2.set b12 (.arr 3 [bP r])→T2 10=u3→T2 1=.aT (aw g) 0→T2 2=.ptr b2 0 0→T2 5=dI p→T2 6=dI q→T2 7=.ptr b7 0 0→T2 8=.sl b8 0 g.aA.length 1→T2 11=gi ((i:Int)+1) →
              ∃ k',k' < k∧Ez g.rules.length k' (Rg g p q b2 b7 b8 u0) T2 H':=by
            intro T2 H' hkr hH' a10 a1 a2 a5 a6 a7 a8 a11
            have e1:eW p q (g.rules.take (i+1))=eW p q (g.rules.take i):=by rw[htk,Ed,if_neg (by simp[hkr])]
            have e2:dY p q (g.rules.take (i+1)) 0=dY p q (g.rules.take i) 0:=by rw[htk,sJ]; simp[dY,hkr]
            refine aV hk (by omega) ⟨⟨u1,u3,a10,by rw[e1]; exact hin,by rw[e1]; exact hnd,by rw[e1]; omega,by rw[e1,e2,hH']; exact hoA.tail⟩,a1,a2,a5,a6,a7,a8,by rw[a11]; rfl⟩
          cases qs with
          | false =>
            simp (disch:=omega) only [↓wr,↓reduceIte,wq,ag,Nat.reduceEqDiff,Nat.reduceAdd,reduceCtorEq,t2,t11]
            refine hskip _ _ (by rw[fQ,hqd]; rfl) ?_ ?_ ?_ ?_ ?_ ?_ ?_ ?_ ?_
            all_goals first | exact t10 | exact t1 | exact t2 | exact t5 | exact t6 | exact t7 | exact t8 | rfl | (rw[set_set]; rfl)
          | true =>
            simp (disch:=omega) only [↓wr,↓reduceIte,wq,Nat.reduceEqDiff,Nat.reduceAdd,Nat.reduceLT,t5,dI]
            refine aE.pure (G5 r.right p true (hg.aP r hmem).2.2.1 (fun s hs=>⟨(hsy s hs).1,fun h=>by rw[hpl]; exact (hsy s hs).2 h⟩)) (by kernel_rfl) ?_
            simp (disch:=omega) only [↓wr,↓reduceIte,wq,Nat.reduceEqDiff]
            refine av.split (fun hal=>?_) (fun hal=>?_)
            · simp (disch:=omega) only [↓wr,↓reduceIte,wq,af,Nat.reduceEqDiff,Nat.reduceAdd,Nat.reduceLT,t10,t11]
              have hkr:fQ p q r=true:=by rw[fQ,hqd,hal]; rfl
              intro m hm
              try simp (disch:=omega) only [↓wr,↓reduceIte,wq,Nat.reduceEqDiff,bp]
              have hm12:=(dz hm cT).1
              have hm:=(dz (dz hm cT).2 cT).2
              have hoB:=(hoA.fresh (n:=m) (o:=.arr 1 [[gi i]]) (by simp only[View.set,if_neg hm12]; exact hm)).at 3 (by simp)
              have hkl:(dY p q (g.rules.take i) 0).length≤40:=by
                rw[tA]
                have h1:=List.length_filter_le (fQ p q) (g.rules.take i)
                have h2:(g.rules.take i).length≤i:=List.length_take_le _ _
                have:=hf.rules
                omega
              refine bQ (by rw[set_set]; exact hoB) (by simp[aU]) (by unfold aJ; simp at hkl ⊢; omega) (by unfold aJ; simp at hkl ⊢; omega) ?_
              intro u3' H3 ho3 _
              have f12:=((ho3.at 1 (by simp)).obj (by simp)).1
              have f7:=((ho3.at 2 (by simp)).obj (by simp)).1
              have f8:=((ho3.at 3 (by simp)).obj (QE (by simp[ez]; omega))).1
              have hu1:dq u1=some (tH ((eW p q (g.rules.take i)).map fun x=>g.aA.getD x.toNat ⟨#[]⟩)).length:=(ho3.at 4 (by simp)).head.len
              have hbg:=oU (l:=ez g.aA.length (eW p q (g.rules.take i))) (i:=r.left.toNat) (by simp[ez]; omega)
              rw[zC hl2 hl3] at hbg
              simp only[bP,encI] at f12
              simp (disch:=omega) only [↓wr,↓reduceIte,wq,ag,Nat.reduceEqDiff,Nat.reduceAdd,Nat.reduceLT,t8,f12,f8,hbg]
              refine ⟨by omega,by simp[ez]; omega,?_⟩
              have e2:dY p q (g.rules.take (i+1)) 0=dY p q (g.rules.take i) 0 ++ [(i:Int)]:=by
                rw[htk,sJ]; simp[dY,hkr,show i≤g.rules.length by omega]
              have e1:eW p q (g.rules.take (i+1))=wm (eW p q (g.rules.take i)) r:=by rw[htk,Ed,if_pos hkr]
              generalize eW p q (g.rules.take i)=o at *
              generalize dY p q (g.rules.take i) 0=kl at *
              refine av.dec (fun hlt=>?_) (fun hlt=>?_)
              · have hx:r.left ∉ o:=sB.1 hlt
                have e1':wm o r=o ++ [r.left]:=by rw[wm,if_neg hx]
                have hne78:b7≠b8:=ho3.PF 2 3 rfl rfl (by omega)
                have hne12:b12≠b8:=ho3.PF 1 3 rfl rfl (by omega)
                have hgn:g.aA[r.left.toNat]?=some (g.aA[r.left.toNat]'(by omega)):=List.getElem?_eq_getElem (by omega)
                have hgnd:g.aA.getD r.left.toNat ⟨#[]⟩=g.aA[r.left.toNat]'(by omega):=by simp[List.getD_eq_getElem?_getD,hgn]
                generalize g.aA[r.left.toNat]'(by omega)=nm at hgn hgnd
                simp (disch:=omega) only [↓wr,↓reduceIte,wq,aj,ab,Nat.reduceEqDiff,Nat.reduceAdd,Nat.reduceLT,Nat.reduceLeDiff,t7,t8,f12,f7,f8,hbg,hu1]
                try refine ⟨by omega,by simp[ez]; omega,?_⟩
                try simp (disch:=omega) only [↓wr,↓reduceIte,wq,af,Nat.reduceEqDiff,Nat.reduceAdd,Nat.reduceLT,t1,f12,hne78,hne12,aw,encS,List.getElem?_map,hgn]
                intro m2 hm2
                have hm28:=(dz hm2 cT).1
                have hm2:=(dz hm2 cT).2
                have hes:(bA (ez g.aA.length o)).set r.left.toNat [gi o.length]=bA (ez g.aA.length (o ++ [r.left])):=by rw[ints_set,QF hl2 hl3 hx]
                have ho4:=(ho3.at 3 (by simp)).put (es':=(bA (ez g.aA.length o)).set r.left.toNat [gi o.length]) (by simp) (by simp[ez])
                have ho5:=(ho4.fresh (n:=m2) (o:=.arr 1 [[gs nm]]) (by simp only[View.set,if_neg hm28]; exact hm2)).at 4 (by simp)
                have hN16:o.length≤40:=by omega
                try simp (disch:=omega) only [↓wr,↓reduceIte,wq,Nat.reduceEqDiff,bp]
                refine bQ ho5 (by simp[aU]) (by unfold aJ; simp; omega) (by unfold aJ; simp; omega) ?_
                intro u1' H5 ho6 _
                have c1:=ho6.head.cells
                have k1:=ho6.head.fA
                have f7':=((ho6.at 4 (by simp)).obj (by simp)).1
                simp (disch:=omega) only [↓wr,↓reduceIte,wq,ag,ab,Nat.reduceEqDiff,Nat.reduceAdd,Nat.reduceLT,Nat.reduceLeDiff,reduceCtorEq,t2,t7,t11,f7',c1,k1]
                have ho7:=(ho6.at 4 (by simp)).put (es':=[[u0,u1',.emp 1,gi 0]]) rfl rfl
                have ho8:=(((ho7.at 4 (by simp)).tail).perm (CR.cons _))
                refine aV hk (by omega) ⟨⟨u1',u3',rfl,?_,?_,?_,?_⟩,t1,t2,t5,t6,t7,t8,rfl⟩
                · rw[e1,e1']; intro x hx'; rcases List.mem_append.1 hx' with h | h
                  · exact hin x h
                  · simp at h; subst h; exact ⟨hl2,hl3⟩
                · rw[e1]; exact Kp hnd
                · rw[e1,e1']; simp; omega
                · rw[e1,e1',e2]
                  have:=ho8
                  rw[hes] at this
                  simp only[List.map_append,List.map_cons,List.map_nil,hgnd]
                  exact this
              · have hx:r.left∈o:=by
                  refine Classical.byContradiction fun h=>?_
                  have:=sB.2 h
                  omega
                have e1':wm o r=o:=by rw[wm,if_pos hx]
                simp (disch:=omega) only [↓wr,↓reduceIte,wq,ag,Nat.reduceEqDiff,reduceCtorEq,t2,t11]
                have ho4:=(((ho3.at 1 (by simp)).tail).perm CR)
                refine aV hk (by omega) ⟨⟨u1,u3',rfl,?_,?_,?_,?_⟩,t1,t2,t5,t6,t7,t8,rfl⟩
                · rw[e1,e1']; exact hin
                · rw[e1,e1']; exact hnd
                · rw[e1,e1']; omega
                · rw[e1,e1',e2]
                  simp only[List.map_append,List.map_cons,List.map_nil]
                  exact ho4
            · simp (disch:=omega) only [↓wr,↓reduceIte,wq,ag,Nat.reduceEqDiff,Nat.reduceAdd,reduceCtorEq,t2,t11]
              refine hskip _ _ (by rw[fQ,hqd,hal]; rfl) ?_ ?_ ?_ ?_ ?_ ?_ ?_ ?_ ?_
              all_goals first | exact t10 | exact t1 | exact t2 | exact t5 | exact t6 | exact t7 | exact t8 | rfl | (rw[set_set]; rfl)
        · rw[List.take_of_length_le (by omega)] at ho hin hnd holen
          have hkl40:(dY p q g.rules 0).length≤40:=by
            rw[tA]; have h1:=List.length_filter_le (fQ p q) g.rules; omega
          have hkg:=yO p q g.rules 0
          have hkln:=tA p q g.rules 0
          have hstin:g.start.toNat < (ez g.aA.length (eW p q g.rules)).length:=by simp[ez]; omega
          have hstb:=oU hstin
          rw[zC h3 h4] at hstb
          have hrg:Oi g (cJ (eW p q g.rules)) p q=⟨g.ax,(eW p q g.rules).map fun x=>g.aA.getD x.toNat ⟨#[]⟩,(g.rules.filter (fQ p q)).map (eZ (cJ (eW p q g.rules))),cJ (eW p q g.rules) g.start⟩:=rfl
          rw[hrg] at hred
          clear hrg
          generalize eW p q g.rules=o at *
          generalize dY p q g.rules 0=kl at *
          simp (disch:=omega) only [↓wr,↓reduceIte,wq,Nat.reduceEqDiff,reduceCtorEq,t2]
          refine ba.up kl.length (SJ g p q b2 b7 b8 u0 u1 u3 o kl) ?_ ?_
          · refine ⟨⟨.emp 1,[],by simp,?_⟩,t1,t2,t7,t8,t10,rfl⟩
            exact (ho.emp (k:=1) (sz:=3)).perm (zD [(.sl b7 0 1 4,4,[[u0,u1,.emp 1,gi 0]]),(.sl b8 0 g.aA.length 1,1,bA (ez g.aA.length o)),(u3,1,bA kl),(u1,1,tH (o.map fun x=>g.aA.getD x.toNat ⟨#[]⟩)),(u0,3,g.ax.map dP),(.emp 1,3,[]),(.sl b2 0 1 4,4,[[.emp 1,.emp 1,.emp 1,gi 0]])] 5 (by simp)).symm
          clear ho t1 t2 t5 t6 t7 t8 t10 t11
          rintro i k T H2 hk ⟨⟨u2,bs,hbs,ho⟩,t1,t2,t7,t8,t10,t13⟩
          have hu3:dq u3=some (bA kl).length:=(ho.own 2 rfl).len
          simp (disch:=omega) only [↓wr,↓reduceIte,wq,ag,aj,Nat.reduceEqDiff,lJ,t10,t13,hu3]
          refine av.dec (fun hc=>?_) (fun hc=>?_)
          · obtain ⟨n3,e3,hn3⟩:=(ho.own 2 rfl).sl (by simp; omega)
            rw[List.length_map] at e3
            subst e3
            obtain ⟨m,hm1,hm2,hm3⟩:=hkg i (by omega)
            have hbg:=oU (show i < kl.length by omega)
            rw[Int.zero_add] at hm1
            have hki:kl[i]'(by omega)=(m:Int):=by
              rw[List.getElem?_eq_getElem (show i < kl.length by omega)] at hm1; simpa using hm1
            rw[hki] at hbg
            have hg2:g.rules[m]?=some (g.rules[m]'hm3):=List.getElem?_eq_getElem hm3
            have hmem:g.rules[m]'hm3∈g.rules:=List.getElem_mem _
            have htk:(g.rules.filter (fQ p q)).take (i+1)=(g.rules.filter (fQ p q)).take i ++ [g.rules[m]'hm3]:=by
              rw[List.take_add_one,← hm2,hg2]; rfl
            generalize g.rules[m]'hm3=r at hg2 hmem htk
            obtain ⟨hl1,hl2,hl3,hr6,hsy⟩:=hf.M8 hg hmem
            simp (disch:=omega) only [↓wr,↓reduceIte,wq,ab,Nat.reduceEqDiff,Nat.reduceAdd,Nat.reduceLT,Nat.reduceLeDiff,t1,t8,t10,t13,hn3,hbg,aw,bP,List.getElem?_map,hg2]
            refine ⟨by omega,by omega,?_⟩
            intro b14 hb14
            have hoA:=ho.new hb14 3 [bP r]
            have f8:=hoA.is 2 rfl (by simp[ez]; omega)
            have hbg2:=oU (l:=ez g.aA.length o) (i:=r.left.toNat) (by simp[ez]; omega)
            rw[zC hl2 hl3] at hbg2
            have hn814:b8≠b14:=hoA.PF 2 0 rfl rfl (by omega)
            have g8:H2 b8=.arr 1 (bA (ez g.aA.length o)):=ho.is 1 rfl (by simp[ez]; omega)
            try simp (disch:=omega) only [↓wr,↓reduceIte,wq,ab,ae,Nat.reduceEqDiff,Nat.reduceAdd,Nat.reduceLT,Nat.reduceLeDiff,g8,hn814,hbg2,set_set,encI]
            refine ⟨by omega,by simp[ez]; omega,?_⟩
            intro b15 hb15
            have hbne:=(dz hb15 cT).1
            have hb15:=(dz (dz hb15 cT).2 cT).2
            have hoB:=(((hoA.new (n:=b15) (by simp only[View.set,if_neg hbne]; exact hb15) 3 [[gi (cJ o r.left),.emp 1,gi r.prec]]).emp (k:=1) (sz:=1)).perm (.swap _ _ _))
            generalize hL:((V.sl b7 0 1 4,4,[[u0,u1,u2,gi 0]]) :: (V.sl b8 0 g.aA.length 1,1,bA (ez g.aA.length o)) :: (V.sl n3 0 kl.length 1,1,bA kl) ::
              (u1,1,tH (o.map fun x=>g.aA.getD x.toNat ⟨#[]⟩)) :: (u0,3,g.ax.map dP) :: (u2,3,kf bs) :: (V.sl b2 0 1 4,4,[[V.emp 1,V.emp 1,V.emp 1,gi 0]]) :: vT bs:List ep)=L at hoB
            have hL1:L[1]?=some (.sl b8 0 g.aA.length 1,1,bA (ez g.aA.length o)):=by rw[← hL]; rfl
            try simp (disch:=omega) only [↓wr,↓reduceIte,wq,ah,ag,aj,ab,ae,af,ai,isNil,Nat.reduceEqDiff,Nat.reduceAdd,Nat.reduceLT,Nat.reduceLeDiff,Int.reduceNeg,Int.reduceToNat,reduceCtorEq,t1,t2,t7,t8,t10,t13,set_set]
            refine ba.up r.right.length (Sq g b2 b7 b8 b14 b15 (.sl n3 0 kl.length 1) o r L i) ?_ ?_
            · exact ⟨⟨.emp 1,by rw[set_set,set_set]; exact hoB⟩,t1,t2,t7,t8,t10,t13,rfl,rfl,rfl⟩
            clear hoA hoB f8 g8 hb14 hb15 t1 t2 t7 t8 t10 t13
            rintro k k2 T H3 hk2 ⟨⟨v,hoC⟩,t1,t2,t7,t8,t10,t13,t14,t15,t16⟩
            have f14:=hoC.is 2 rfl (by simp)
            have f15:=hoC.is 0 rfl (by simp)
            have f8:H3 b8=.arr 1 (bA (ez g.aA.length o)):=hoC.is 4 (by simpa using hL1) (by simp[ez]; omega)
            simp only[bP] at f14
            simp (disch:=omega) only [↓wr,↓reduceIte,wq,ag,aj,Nat.reduceEqDiff,Nat.reduceAdd,Nat.reduceLT,Int.reduceNeg,ly,t14,t16,f14,encI]
            refine av.dec (fun hcc=>?_) (fun hcc=>?_)
            · have hgs:r.right[k]?=some (r.right[k]'(by omega)):=List.getElem?_eq_getElem (by omega)
              have hms:r.right[k]'(by omega)∈r.right:=List.getElem_mem _
              have hts:(eZ (cJ o) r).right.take (k+1)=(eZ (cJ o) r).right.take k ++ [if r.right[k]'(by omega) < 0 then -1 - cJ o (-1 - r.right[k]'(by omega)) else r.right[k]'(by omega)]:=by
                rw[List.take_add_one]; simp[eZ,hgs]
              have hlk:((eZ (cJ o) r).right.take k).length≤6:=by
                have h1:(eZ (cJ o) r).right.length=r.right.length:=by simp[eZ]
                have h2:((eZ (cJ o) r).right.take k).length≤(eZ (cJ o) r).right.length:=by rw[List.length_take]; omega
                omega
              generalize r.right[k]'(by omega)=s at hgs hms hts
              obtain ⟨⟨s1,s2⟩,s3⟩:=hsy s hms
              simp (disch:=omega) only [↓wr,↓reduceIte,wq,ag,Nat.reduceEqDiff,Nat.reduceAdd,Nat.reduceLT,Int.reduceNeg,t14,t16,f14,encI,List.getElem?_map,hgs]
              have hbd:=P4 o (-1 - s)
              have hob:o.length≤40:=by omega
              refine av.dec (fun hneg=>?_) (fun hneg=>?_)
              · rw[if_pos hneg] at hts
                have hin1:=s3 hneg
                have hbg3:=oU (l:=ez g.aA.length o) (i:=(-1 - s).toNat) (by simp[ez]; omega)
                rw[zC (by omega) hin1] at hbg3
                simp (disch:=omega) only [↓wr,↓reduceIte,wq,ag,af,Nat.reduceEqDiff,Nat.reduceAdd,Nat.reduceLT,Int.reduceNeg,t8,t15,f15,f8,hbg3]
                refine ⟨by omega,by simp[ez]; omega,?_⟩
                intro m hm
                try simp (disch:=omega) only [↓wr,↓reduceIte,wq,Nat.reduceEqDiff,Int.reduceNeg,bp]
                have hoD:=(hoC.fresh (o:=.arr 1 [[gi (-1 - cJ o (-1 - s))]]) hm).at 1 (by simp)
                refine bQ hoD (by simp[aU]) (by unfold aJ; simp at hlk ⊢; omega) (by unfold aJ; simp at hlk ⊢; omega) ?_
                intro v' H4 hoE _
                have cv:=hoE.head.cells
                have kv:=hoE.head.fA
                have f15':=hoE.is 1 rfl (by simp)
                simp (disch:=omega) only [↓wr,↓reduceIte,wq,ag,ab,Nat.reduceEqDiff,Nat.reduceAdd,Nat.reduceLT,Nat.reduceLeDiff,Int.reduceNeg,reduceCtorEq,t1,t2,t7,t13,t15,t16,f15',cv,kv]
                have hoF:=(hoE.at 1 (by simp)).put (es':=[[gi (cJ o r.left),v',gi r.prec]]) rfl rfl
                refine aV hk2 (by omega) ⟨⟨v',?_⟩,t1,t2,t7,t8,t10,t13,t14,t15,rfl⟩
                rw[hts]
                simp only[List.map_append,List.map_cons,List.map_nil]
                exact hoF
              · rw[if_neg hneg] at hts
                simp (disch:=omega) only [↓wr,↓reduceIte,wq,af,Nat.reduceEqDiff,Nat.reduceAdd,Nat.reduceLT,t15,f15]
                intro m hm
                try simp (disch:=omega) only [↓wr,↓reduceIte,wq,Nat.reduceEqDiff,bp]
                have hoD:=(hoC.fresh (o:=.arr 1 [[gi s]]) hm).at 1 (by simp)
                refine bQ hoD (by simp[aU]) (by unfold aJ; simp at hlk ⊢; omega) (by unfold aJ; simp at hlk ⊢; omega) ?_
                intro v' H4 hoE _
                have cv:=hoE.head.cells
                have kv:=hoE.head.fA
                have f15':=hoE.is 1 rfl (by simp)
                simp (disch:=omega) only [↓wr,↓reduceIte,wq,ag,ab,Nat.reduceEqDiff,Nat.reduceAdd,Nat.reduceLT,Nat.reduceLeDiff,reduceCtorEq,t1,t2,t7,t13,t15,t16,f15',cv,kv]
                have hoF:=(hoE.at 1 (by simp)).put (es':=[[gi (cJ o r.left),v',gi r.prec]]) rfl rfl
                refine aV hk2 (by omega) ⟨⟨v',?_⟩,t1,t2,t7,t8,t10,t13,t14,t15,rfl⟩
                rw[hts]
                simp only[List.map_append,List.map_cons,List.map_nil]
                exact hoF
            · rw[List.take_of_length_le (by simp[eZ]; omega)] at hoC
              subst hL
              have f7:=hoC.is 3 rfl (by simp)
              have cv:=(hoC.own 1 rfl).cells
              have kv:=(hoC.own 1 rfl).fA
              have hbl:(kf bs).length≤40:=by
                have h1:=congrArg List.length hbs
                simp only[List.length_map,List.length_take] at h1
                simp only[kf,List.length_map]
                omega
              simp (disch:=omega) only [↓wr,↓reduceIte,wq,af,Nat.reduceEqDiff,Nat.reduceAdd,Nat.reduceLT,Nat.reduceLeDiff,reduceCtorEq,t1,t2,t7,t13,t15,f7,f15,kv]
              intro m hm
              try simp (disch:=omega) only [↓wr,↓reduceIte,wq,Nat.reduceEqDiff,bp]
              have hoD:=(hoC.fresh (o:=.arr 3 [[gi (cJ o r.left),v,gi r.prec]]) hm).at 8 (by simp)
              refine bQ hoD (by simp[CP,kv]) (by unfold aJ; simp at hbl ⊢; omega) (by unfold aJ; simp at hbl ⊢; omega) ?_
              intro u2' H4 hoE _
              have cu:=hoE.head.cells
              have ku:=hoE.head.fA
              have f7':=hoE.is 4 rfl (by simp)
              simp (disch:=omega) only [↓wr,↓reduceIte,wq,ag,ab,Nat.reduceEqDiff,Nat.reduceAdd,Nat.reduceLT,Nat.reduceLeDiff,reduceCtorEq,t1,t2,t7,t13,f7',cu,ku]
              have hoF:=(hoE.at 4 (by simp)).put (es':=[[u0,u1,u2',gi 0]]) rfl rfl
              have hoG:=((((hoF.at 2 (by simp)).tail).at 3 (by simp)).tail)
              refine aV hk (by omega) ⟨⟨u2',bs ++ [(v,eZ (cJ o) r)],?_,?_⟩,t1,t2,t7,t8,t10,rfl⟩
              · rw[List.map_append,hbs,htk,List.map_append]; rfl
              · refine hoG.perm (.cons _ ?_)
                simp only[vT,kf,List.map_append,List.map_cons,List.map_nil]
                refine .trans ?_ (zD _ 4 (by simp)).symm
                refine .cons _ ?_
                exact (List.perm_append_singleton (v,1,bA (eZ (cJ o) r).right) ((.sl b8 0 g.aA.length 1,1,bA (ez g.aA.length o)) :: (.sl n3 0 kl.length 1,1,bA kl) :: (u1,1,tH (o.map fun x=>g.aA.getD x.toNat ⟨#[]⟩)) :: (u0,3,g.ax.map dP) :: (.sl b2 0 1 4,4,[[.emp 1,.emp 1,.emp 1,gi 0]]) :: vT bs)).symm
          · rw[List.take_of_length_le (by omega)] at hbs
            have f7:=ho.is 0 rfl (by simp)
            have f8:H2 b8=.arr 1 (bA (ez g.aA.length o)):=ho.is 1 rfl (by simp[ez]; omega)
            have f2:=ho.is 6 rfl (by simp)
            have n72:b7≠b2:=ho.PF 0 6 rfl rfl (by omega)
            have c1:=(ho.own 3 rfl).cells
            have k1:=(ho.own 3 rfl).fA
            have c2:=(ho.own 5 rfl).cells
            have k2:=(ho.own 5 rfl).fA
            simp (disch:=omega) only [↓wr,↓reduceIte,wq,ab,Nat.reduceEqDiff,Nat.reduceAdd,Nat.reduceLT,Nat.reduceLeDiff,reduceCtorEq,t1,t2,t7,t8,t10,f7,f8,f2,n72.symm,hstb,k0,k1,k2,aw]
            refine ⟨by omega,by simp[ez]; omega,fun h' hh=>?_⟩
            have hoA:=ho.put (es':=[[u0,u1,u2,gi (cJ o g.start)]]) rfl rfl
            have hoB:=(hoA.at 6 (by simp)).put (es':=[[u0,u1,u2,gi (cJ o g.start)]]) rfl rfl
            have hv:h'.view=(H2.set b7 (.arr 4 [[u0,u1,u2,gi (cJ o g.start)]])).set b2 (.arr 4 [[u0,u1,u2,gi (cJ o g.start)]]):=hh
            rw[← hv] at hoB
            rw[hred]
            exact Qq (x:=(⟨g.ax,o.map fun x=>g.aA.getD x.toNat ⟨#[]⟩,(g.rules.filter (fQ p q)).map (eZ (cJ o)),cJ o g.start⟩,kl,0)) (b:=bs) (hoB.own 5 rfl) (hoB.own 4 rfl) (hoB.own 6 rfl) (fun y hy=>hoB.1 y (by
              refine List.mem_cons_of_mem _ (List.mem_cons_of_mem _ (List.mem_cons_of_mem _ (List.mem_cons_of_mem _ (List.mem_cons_of_mem _ (List.mem_cons_of_mem _ (List.mem_cons_of_mem _ ?_))))))
              exact hy)) hbs (hoB.own 3 rfl)
  · rename_i hr
    intro h' hh
    rw[ko,if_neg (by simp[hr])]
    exact GI
theorem HM {g:ay} (e:np g=false):g.Small:=by
  simp only[np,Bool.or_eq_false_iff,decide_eq_false_iff_not] at e
  exact ⟨by omega⟩
theorem On (g:ay):aD Tryz.prog 16 [.agg (aw g)] (gb (np g)):=aD.val (fY g) fun H=>(Oc g H).mono fun _ _ h=>h.1
theorem Eu {a b:V} (ha:Tree a) (hb:Tree b):Tree (.bf [a,b]):=.bf _ fun i hi=>by
  match i,hi with
  | 0,_=>exact ha
  | 1,_=>exact hb
  | n+2,h=>exact absurd h (by simp)
theorem Co {H:View} {id n:Nat} {l:List Int} (hv:H id=.arr 1 (bA l)) (hn:n=l.length):eL H (.sl id 0 n 1) (encI l):=by
  subst hn
  exact eL.own (sz:=1) (.inr ⟨id,by simp,hv⟩) fun e he v hv=>by
    obtain ⟨x,_,rfl⟩:=List.mem_map.1 he
    simp at hv; subst hv; exact .val _
theorem fg.step {H H' H1:View} {u u1:V} (h:fg H H' u) (l:Left H' H1 u u1):fg H H1 u1:=fun id hid=>by
  have h1:=h id hid
  have h2:=l id (by rw[h1.1]; exact hid) h1.2
  exact ⟨h2.1.trans h1.1,h2.2⟩
theorem Ky {l:List Int} {k:Nat} (h:k≤l.length):dW 1 (.aX (l.map fun x=>[gi x])) (some (gi k)) none=some (.aX ((l.drop k).map fun x=>[gi x]),.none,[]):=by
  simp[dW,bound,asNat,h,List.all_map,List.map_drop]
  rw[List.take_of_length_le (by simp)]
theorem ed {P:Program} {t:TypeId} {d:TypeDesc} (hu:P.underlying t=some d) (hd:d=.string∨∃ k,d=.int k) (cs:Array Value) (off:Nat) {v:Value} (hv:cs[off]?=some v):bj P (part t cs off)=some v:=by
  have h0:bj P (isAgg t)=some false:=by
    rcases hd with rfl | ⟨k,rfl⟩
    all_goals simp only[isAgg,bb,dD hu,Option.bind_some]; rfl
  simp only[part,bb,h0,Option.bind_some,Bool.false_eq_true,if_false,hv]
  rfl
inductive eX (P:Program) (d:Nat) (xs ys:Array Value):List Field→Bool→Prop
  | nil:eX P d xs ys [] true
  | str (f:Field) (l:List Field) (c:Bool) (a b:ByteArray):(f.name≠ "_")→P.underlying f.type=some .string→xs[f.offset]?=some (.string a)→ys[f.offset]?=some (.string b)→eX P d xs ys l c→eX P d xs ys (f :: l) (a == b && c)
  | int (f:Field) (l:List Field) (c:Bool) (k:IntKind) (a b:Int):(f.name≠ "_")→P.underlying f.type=some (.int k)→xs[f.offset]?=some (.int k a)→ys[f.offset]?=some (.int k b)→eX P d xs ys l c→eX P d xs ys (f :: l) (a == b && c)
theorem eX.forIn {P:Program} {d e:Nat} {xs ys:Array Value} {l:List Field} {c:Bool} (h:eX P d xs ys l c) (hd:e=d+1) :
    bj P (forIn l ((none:Option Bool),()) fun f _ =>
        if f.name≠ "_" then do
          let a ← part f.type xs f.offset
          let b ← part f.type ys f.offset
          let e ← Op.equalIn e f.type a b
          if (!e)=true then pure (ForInStep.done (some false,())) else pure (ForInStep.yield (none,()))
        else pure (ForInStep.yield (none,())))=some (if c=true then (none,()) else (some false,())):=by
  subst hd
  induction h with
  | nil=>rfl
  | str f l c a b hn hu hx hy _ ih =>
    have he:bj P (Op.equalIn (d+1) f.type (.string a) (.string b))=some (a == b):=by
      simp only[Op.equalIn,bb,dD hu,Option.bind_some]; rfl
    rw[List.forIn_cons,bb,if_pos hn,bb,ed hu (.inl rfl) xs _ hx,Option.bind_some,bb,ed hu (.inl rfl) ys _ hy,Option.bind_some,bb,he,Option.bind_some]
    cases a == b with
    | false=>rfl
    | true=>exact ih
  | int f l c k a b hn hu hx hy _ ih =>
    have he:bj P (Op.equalIn (d+1) f.type (.int k a) (.int k b))=some (a == b):=by
      simp only[Op.equalIn,bb,dD hu,Option.bind_some]; rfl
    rw[List.forIn_cons,bb,if_pos hn,bb,ed hu (.inr ⟨k,rfl⟩) xs _ hx,Option.bind_some,bb,ed hu (.inr ⟨k,rfl⟩) ys _ hy,Option.bind_some,bb,he,Option.bind_some]
    cases a == b with
    | false=>rfl
    | true=>exact ih
theorem Ay {P:Program} {t:TypeId} {fs:Array Field} {xs ys:Array Value} {c:Bool} (hu:P.underlying t=some (.struct fs)) (hs:P.stoodInHeld t=false) (h:eX P 9998 xs ys fs.toList c) :
    bj P (Op.equal t (.agg xs) (.agg ys))=some c:=by
  rw[iX]
  rw[Op.equalIn,bb,dD hu,Option.bind_some]
  have hst:(bj P program)=some P:=rfl
  rw[bb,hst,Option.bind_some,hs]
  simp only[← Array.forIn_toList,Bool.false_eq_true,if_false]
  rw[bb,h.forIn (e:=9999) rfl,Option.bind_some]
  cases c <;> rfl
theorem CV {P:Program} {o:Oper} {T:Env} {op:BinOp} {t u:TypeId} {x y:Operand} {fs:Array Field} {xs ys:Array Value} {c r:Bool} (ho:o.op=.binOp op t x y u) (hu:P.underlying t=some (.struct fs)) (hs:P.stoodInHeld t=false) (hg:P.eqGuardType P.depth t=false)
    (hx:cx (ev T x)=some (.agg xs)) (hy:cx (ev T y)=some (.agg ys)) (h:eX P 9998 xs ys fs.toList c) (hr:(op=.eql∧r=c)∨(op=.neq∧r = !c)) :
    df P o T=some (.val (.bool r),.none,[]):=by
  have he:=Ay hu hs h
  have hst:(bj P program)=some P:=rfl
  unfold df
  simp only[ho,Op.operands]
  rcases hr with ⟨rfl,rfl⟩ | ⟨rfl,rfl⟩
  · simp[execOp,ho,hx,hy,eqGuard,binOp,fD,bb,hst,hg,he,plain]
    try simp[bj,pure]
  · simp[execOp,ho,hx,hy,eqGuard,binOp,fD,bb,hst,hg,he,plain]
    try simp[bj,pure]
theorem gB {P:Program} {T:Env} {H:View} {K:V→View→Prop} {w:cI (T,H,K)} {op:BinOp} {t u ty:TypeId} {x y:Operand} {fs:Array Field} {xs ys:Array Value} {c r:Bool} (hu:P.underlying t=some (.struct fs)) (hs:P.stoodInHeld t=false) (hg:P.eqGuardType P.depth t=false)
    (hx:cx (ev T x)=some (.agg xs)) (hy:cx (ev T y)=some (.agg ys)) (h:eX P 9998 xs ys fs.toList c) (hr:(op=.eql∧r=c)∨(op=.neq∧r = !c)) (hk:K (.val (.bool r)) H):pz P (.binOp op t x y u) ty T H K w:=by
  intro n _
  refine ⟨.val (.bool r),.none,[],?_,hk⟩
  have hn:gF P t=none:=by simp[gF,hu]
  simp only[sI,bT,oper,hn]
  simp only[Option.isSome_none,Bool.false_eq_true,if_false]
  exact CV rfl hu hs hg hx hy h hr
def yE (hp:Array Obj) (cs:List Value) (vs:List V):Prop :=
  vs.length=cs.length∧∀ μ i,i < vs.length→aF (fun b=>b < hp.size) μ hp (vs.getD i .any) (cs.getD i undef)
def Wt {H:Type} (P:Program) (t:TypeId) (d:DataW H):Prop:=∀ n∈d.weights P t,n≤reachBytes
def zj (P:Program) (t:TypeId) {α:Type} (f:α→List V) (ok:α→Prop):Prop :=
  ∀ {H:Type} (enc:TypeId × Value→H) (w:World) (base:Nat) (sp:Nat→Bool) (held:Bool) (fuel:Nat) (cs:List Value) (x:DataW H × List MemPlace),
    DataW.trod enc P w base sp held fuel t cs=some x→Wt P t x.1→∃ a,ok a∧yE w.heap cs (f a)
theorem wX {hp:Array Obj} {c:Value} {v:V} (h:∀ μ,aF (fun b=>b < hp.size) μ hp v c):yE hp [c] [v]:=by
  refine ⟨rfl,fun μ i hi=>?_⟩
  match i,hi with
  | 0,_=>exact h μ
theorem Q9 {P:Program} {t:TypeId} {k:IntKind} (ht:P.underlying t=some (.int k)):zj P t (fun n=>[.val (.int k n)]) (fun n=>(Lit.int k n).wf=true):=by
  intro H enc w base sp held fuel cs x h _
  obtain ⟨n,rfl,_,hw⟩:=DataW.trod_int ht h
  exact ⟨n,hw,wX fun μ=>.val _ rfl⟩
theorem Ec {P:Program} {t:TypeId} (ht:P.underlying t=some .string):zj P t (fun s=>[.val (.string s)]) (fun _=>True):=by
  intro H enc w base sp held fuel cs x h _
  obtain ⟨s,rfl,_,_⟩:=DataW.trod_string ht h
  exact ⟨s,trivial,wX fun μ=>.val _ rfl⟩
theorem FA {w:World} {base:Nat} {a:Addr} {n:Nat} {cs:List Value} (h:w.cells? base a n=some cs):cs.length=n∧∀ i,i < n→w.cell? (a.add i)=some (cs.getD i undef):=by
  obtain ⟨_,h2,h3⟩:=World.cells?_some h
  refine ⟨h2,fun i hi=>?_⟩
  rw[h3 i hi,List.getD_eq_getElem?_getD,List.getElem?_eq_getElem (by omega)]
  rfl
theorem Ma {w:World} {a:Addr} {v:Value} (h:w.cell? a=some v):a.spot=none∧a.block < w.heap.size:=by
  unfold World.cell? at h
  split at h
  · rename_i c _ _ hb
    split at h
    · simp at h
    · rename_i hs
      exact ⟨by simpa using hs,(Array.getElem?_eq_some_iff.1 hb).1⟩
  · simp at h
theorem MH {H:Type} {P:Program} {e:TypeId} : ∀ {l:List (DataW H)},(∀ n∈DataW.weightsAll P e l,n≤reachBytes)→∀ d∈l,Wt P e d
  | [],_,d,hd=>by simp at hd
  | x :: l,h,d,hd=>by
    simp only[DataW.weightsAll,List.mem_append] at h
    rcases List.mem_cons.1 hd with rfl | hd
    · exact fun n hn=>h n (.inl hn)
    · exact MH (fun n hn=>h n (.inr hn)) d hd
theorem OQ {H:Type} {P:Program} {t e:TypeId} {elems spare:List (DataW H)} (ht:P.underlying t=some (.slice e)) (h:Wt P t (.slice elems spare)) :
    (elems.length+spare.length) * P.bytesOf e≤reachBytes∧∀ d∈elems,Wt P e d:=by
  unfold Wt at h
  unfold DataW.weights at h
  rw[ht] at h
  simp only[List.mem_cons,List.mem_append] at h
  exact ⟨h _ (.inl rfl),MH fun n hn=>h n (.inr (.inl hn))⟩
theorem LZ {H:Type} {P:Program} {t:TypeId} {fs:Array Field} {parts:List (DataW H)} (ht:P.underlying t=some (.struct fs)) (h:Wt P t (.agg parts)) {j:Nat} {f:Field} {d:DataW H} (hf:fs[j]?=some f) (hd:parts[j]?=some d):Wt P f.type d:=by
  intro n hn
  refine h n ?_
  unfold DataW.weights
  rw[ht]
  exact DataW.weights_mem_each (j:=j) (t:=f.type) (by simp[hf]) hd n hn
theorem Jw {α:Type} {φ:Nat→α→Prop} : ∀ (n:Nat),(∀ i,i < n→∃ a,φ i a)→∃ l:List α,l.length=n∧∀ i (hi:i < l.length),φ i l[i]
  | 0,_=>⟨[],rfl,fun i hi=>by simp at hi⟩
  | n+1,h=>by
    obtain ⟨l,hl,hφ⟩:=Jw n fun i hi=>h i (by omega)
    obtain ⟨a,ha⟩:=h n (by omega)
    refine ⟨l ++ [a],by simp[hl],fun i hi=>?_⟩
    by_cases e:i < l.length
    · rw[List.getElem_append_left e]; exact hφ i e
    · have:i=n:=by simp at hi; omega
      subst this
      rw[List.getElem_append_right (by omega)]
      simp only[hl,Nat.sub_self,List.getElem_cons_zero]; exact ha
theorem wL {P:Program} {t e:TypeId} {α:Type} {f:α→List V} {ok:α→Prop} (ht:P.underlying t=some (.slice e)) (hc:0 < P.cellsOf e) (hb:0 < P.bytesOf e) (he:zj P e f ok) :
    zj P t (fun l:List α=>[.aX (l.map f)]) (fun l=>l.length < 4611686018427387904∧∀ a∈l,ok a):=by
  intro H enc w base sp held fuel cs x h hw
  rcases DataW.trod_slice ht h with ⟨rfl,rfl⟩ | ⟨a,len,cap,elems,rest,n,_,rfl,rfl,hba,hl,hm,hlen,hel,_,_⟩
  · exact ⟨[],⟨by simp,by simp⟩,wX fun μ=>.ic none 0 (by simp)⟩
  obtain ⟨hw1,hw2⟩:=OQ ht hw
  simp only[List.length_map] at hw1
  have hlt:len < 4611686018427387904:=by
    have h1:len * 1≤(elems.length+rest.length) * P.bytesOf e:=Nat.mul_le_mul (by omega) hb
    unfold reachBytes at hw1
    omega
  have each:∀ i,i < len→∃ y,ok y∧∃ ci,w.cells? base (a.add (i * P.cellsOf e)) (P.cellsOf e)=some ci∧yE w.heap ci (f y):=by
    intro i hi
    have h1:=hel i hi
    have h2:elems[i]?=some (elems[i]'(by omega)):=List.getElem?_eq_getElem (by omega)
    have hmem:elems[i]'(by omega)∈elems:=List.getElem_mem _
    rw[h2,Option.bind_eq_some_iff] at h1
    obtain ⟨ci,h3,h4⟩:=h1
    obtain ⟨y,h5,h6⟩:=he enc w base sp held n ci _ h4 (hw2 _ (List.mem_map.2 ⟨_,hmem,rfl⟩))
    exact ⟨y,h5,ci,h3,h6⟩
  obtain ⟨l,hll,hφ⟩:=Jw len each
  subst hll
  refine ⟨l,⟨hlt,fun y hy=>?_⟩,wX fun μ=>?_⟩
  · obtain ⟨i,hi,rfl⟩:=List.getElem_of_mem hy
    exact (hφ i hi).1
  by_cases h0:l=[]
  · subst h0
    exact .ic (some a) cap (by simp)
  have hpos:0 < l.length:=List.length_pos_iff.2 h0
  have hcell:∀ i j,i < l.length→j < P.cellsOf e→∃ c,cellAt w.heap a.block (a.off+i * P.cellsOf e+j)=some c∧a.block < w.heap.size∧(i=0→j=0→a.spot=none)∧∀ (hi:i < l.length),aF (fun b=>b < w.heap.size) μ w.heap ((f l[i]).getD j .any) c:=by
    intro i j hi hj
    obtain ⟨_,ci,h1,h2⟩:=hφ i hi
    obtain ⟨h3,h4⟩:=FA h1
    have h5:=h4 j hj
    have h6:=Ma h5
    have hbk:((a.add (i * P.cellsOf e)).add j).block=a.block:=by simp only[Addr.add]; split <;> split <;> rfl
    have hof:((a.add (i * P.cellsOf e)).add j).off=a.off+i * P.cellsOf e+j:=by
      simp only[Addr.add]; split <;> split <;> simp_all
    refine ⟨ci.getD j undef,?_,by rw[← hbk]; exact h6.2,?_,fun _=>?_⟩
    · rw[← hof,← hbk,← r5]
      rw[← h5]
      congr 1
      generalize (a.add (i * P.cellsOf e)).add j=b at h6
      cases b
      simp at h6 ⊢
      exact h6.1.symm
    · rintro rfl rfl
      simp[Addr.add] at h6
      exact h6.1
    · exact h2.2 μ j (by rw[h2.1,h3]; exact hj)
  obtain ⟨_,_,hz,hs,_⟩:=hcell 0 0 hpos hc
  have ha:a=⟨a.block,a.off,none⟩:=by
    cases a; simp at hs ⊢; exact hs
  have hlf:∀ i,i < l.length→(f (l[i]?.getD (l[0]'hpos))).length=P.cellsOf e:=fun i hi=>by
    obtain ⟨_,ci,h1,h2⟩:=hφ i hi
    rw[List.getElem?_eq_getElem hi,Option.getD_some,h2.1,(FA h1).1]
  have hgd:∀ i (hi:i < l.length),(l.map f).getD i []=f l[i]:=fun i hi=>by simp[List.getD_eq_getElem?_getD,hi]
  have hcl:(l.map f).length=l.length:=by simp
  have:=aF.aX (Z:=fun b=>b < w.heap.size) (μ:=μ) (hp:=w.heap) (l.map f) a.block a.off (P.cellsOf e) cap (fun i j=>(cellAt w.heap a.block (a.off+i * P.cellsOf e+j)).getD undef) hz (by rw[hcl]; exact hl)
    (fun i hi=>by
      rw[hcl] at hi
      have:=hlf i hi
      rw[List.getElem?_eq_getElem hi,Option.getD_some] at this
      rw[hgd i hi]; exact this)
    (fun i j hi hj=>by
      rw[hcl] at hi
      obtain ⟨c,h1,_⟩:=hcell i j hi hj
      rw[h1]; rfl)
    (fun i j hi hj=>by
      rw[hcl] at hi
      obtain ⟨c,h1,_,_,h2⟩:=hcell i j hi hj
      rw[h1,hgd i hi]; exact h2 hi)
  rw[hcl,← ha] at this
  exact this
theorem yu {P:Program} {t:TypeId} {fs:Array Field} (ht:P.underlying t=some (.struct fs)) (hf:∀ (i:Nat) (f:Field),fs[i]?=some f→f.offset=i∧P.cellsOf f.type=1) (hn:P.cellsOf t=fs.size)
    {H:Type} {enc:TypeId × Value→H} {w:World} {base:Nat} {sp:Nat→Bool} {held:Bool} {fuel:Nat} {cs:List Value} {x:DataW H × List MemPlace} (h:DataW.trod enc P w base sp held fuel t cs=some x) (hw:Wt P t x.1) :
    cs.length=fs.size∧∀ (i:Nat) (f:Field),fs[i]?=some f→∀ {α:Type} {g:α→List V} {ok:α→Prop},zj P f.type g ok→∃ a,ok a∧yE w.heap [cs.getD i undef] (g a):=by
  obtain ⟨xs,n,rfl,rfl,hl,hlen,hx⟩:=DataW.trod_struct ht h
  refine ⟨by rw[hl,hn],fun i f hi α g ok hr=>?_⟩
  obtain ⟨h1,h2⟩:=hf i f hi
  have hi2:i < fs.size:=(Array.getElem?_eq_some_iff.1 hi).1
  have h3:=hx i f hi
  have h4:xs[i]?=some (xs[i]'(by omega)):=List.getElem?_eq_getElem (by omega)
  rw[h4,h1,h2] at h3
  have h5:(cs.drop i).take 1=[cs.getD i undef]:=by
    rw[List.getD_eq_getElem?_getD,List.getElem?_eq_getElem (by omega),List.drop_eq_getElem_cons (by omega)]
    rfl
  rw[h5] at h3
  exact hr enc w base sp held n _ _ h3 (LZ ht hw hi (by simp[h4]))
theorem gD {hp:Array Obj} {c:Value} {cs:List Value} {v:V} {vs:List V} (h:yE hp [c] [v]) (k:yE hp cs vs):yE hp (c :: cs) (v :: vs):=by
  refine ⟨by simp[k.1],fun μ i hi=>?_⟩
  cases i with
  | zero=>exact h.2 μ 0 (by simp)
  | succ i=>exact k.2 μ i (by simpa using hi)
theorem AY {hp:Array Obj} : yE hp [] []:=⟨rfl,fun μ i hi=>by simp at hi⟩
theorem P7 {n:Int} (h:(Lit.int .i64 n).wf=true):bJ n:=by
  simp only[Lit.wf,Bool.and_eq_true,decide_eq_true_eq] at h
  exact h
theorem oY:zj Tryz.prog 3 (fun n=>[gi n]) bJ:=fun enc w base sp held fuel cs x h hw=>by
  obtain ⟨n,h1,h2⟩:=Q9 Tryz.underlying3 enc w base sp held fuel cs x h hw
  exact ⟨n,P7 h1,h2⟩
theorem IZ:zj Tryz.prog 27 (fun l:List Int=>[encI l]) (fun l=>aL l∧∀ x∈l,bJ x) :=
  wL Tryz.underlying27 (of_decide_eq_true (by kernel_rfl)) (of_decide_eq_true (by kernel_rfl)) oY
theorem J5:zj Tryz.prog 23 (fun l:List ByteArray=>[encS l]) (fun l=>aL l∧∀ x∈l,True) :=
  wL Tryz.underlying23 (of_decide_eq_true (by kernel_rfl)) (of_decide_eq_true (by kernel_rfl)) (Ec Tryz.underlying9)
theorem Sa {cs:List Value} (h:cs.length=3):cs=[cs.getD 0 undef,cs.getD 1 undef,cs.getD 2 undef]:=by
  match cs,h with
  | [a,b,c],_=>rfl
theorem S9 {cs:List Value} (h:cs.length=4):cs=[cs.getD 0 undef,cs.getD 1 undef,cs.getD 2 undef,cs.getD 3 undef]:=by
  match cs,h with
  | [a,b,c,d],_=>rfl
theorem PX:zj Tryz.prog 134 dP (fun t=>bJ t.level∧bJ t.assoc):=fun enc w base sp held fuel cs x h hw=>by
  obtain ⟨hl,hf⟩:=yu Tryz.underlying134 (by
    intro i f hi
    match i,hi with
    | 0,hi=>simp at hi; subst hi; exact ⟨rfl,by kernel_rfl⟩
    | 1,hi=>simp at hi; subst hi; exact ⟨rfl,by kernel_rfl⟩
    | 2,hi=>simp at hi; subst hi; exact ⟨rfl,by kernel_rfl⟩
    | n+3,hi=>simp at hi) (by kernel_rfl) h hw
  obtain ⟨a,_,h1⟩:=hf 0 _ rfl (Ec Tryz.underlying9)
  obtain ⟨b,h2,h3⟩:=hf 1 _ rfl oY
  obtain ⟨c,h4,h5⟩:=hf 2 _ rfl oY
  refine ⟨⟨a,b,c⟩,⟨h2,h4⟩,?_⟩
  rw[Sa hl]
  exact gD h1 (gD h3 (gD h5 AY))
theorem Qf:zj Tryz.prog 98 bP (fun r=>bJ r.left∧bJ r.prec∧aL r.right∧∀ x∈r.right,bJ x):=fun enc w base sp held fuel cs x h hw=>by
  obtain ⟨hl,hf⟩:=yu Tryz.underlying98 (by
    intro i f hi
    match i,hi with
    | 0,hi=>simp at hi; subst hi; exact ⟨rfl,by kernel_rfl⟩
    | 1,hi=>simp at hi; subst hi; exact ⟨rfl,by kernel_rfl⟩
    | 2,hi=>simp at hi; subst hi; exact ⟨rfl,by kernel_rfl⟩
    | n+3,hi=>simp at hi) (by kernel_rfl) h hw
  obtain ⟨a,h0,h1⟩:=hf 0 _ rfl oY
  obtain ⟨b,h2,h3⟩:=hf 1 _ rfl IZ
  obtain ⟨c,h4,h5⟩:=hf 2 _ rfl oY
  refine ⟨⟨a,b,c⟩,⟨h0,h4,h2.1,h2.2⟩,?_⟩
  rw[Sa hl]
  exact gD h1 (gD h3 (gD h5 AY))
theorem QH:zj Tryz.prog 26 aw ay.Ok:=fun enc w base sp held fuel cs x h hw=>by
  obtain ⟨hl,hf⟩:=yu Tryz.underlying26 (by
    intro i f hi
    match i,hi with
    | 0,hi=>simp at hi; subst hi; exact ⟨rfl,by kernel_rfl⟩
    | 1,hi=>simp at hi; subst hi; exact ⟨rfl,by kernel_rfl⟩
    | 2,hi=>simp at hi; subst hi; exact ⟨rfl,by kernel_rfl⟩
    | 3,hi=>simp at hi; subst hi; exact ⟨rfl,by kernel_rfl⟩
    | n+4,hi=>simp at hi) (by kernel_rfl) h hw
  obtain ⟨a,h0,h1⟩:=hf 0 _ rfl (wL Tryz.underlying22 (of_decide_eq_true (by kernel_rfl)) (of_decide_eq_true (by kernel_rfl)) PX)
  obtain ⟨b,h2,h3⟩:=hf 1 _ rfl J5
  obtain ⟨c,h4,h5⟩:=hf 2 _ rfl (wL Tryz.underlying24 (of_decide_eq_true (by kernel_rfl)) (of_decide_eq_true (by kernel_rfl)) Qf)
  obtain ⟨d,h6,h7⟩:=hf 3 _ rfl oY
  refine ⟨⟨a,b,c,d⟩,⟨h0.1,h2.1,h4.1,h6,h0.2,h4.2⟩,?_⟩
  rw[S9 hl]
  exact gD h1 (gD h3 (gD h5 (gD h7 AY)))
structure Cell where
  kind:Int
  n:Int
  deriving DecidableEq
structure dx where
  aK:List (List Cell)
  gotos:List (List Int)
  deriving DecidableEq
def tN (g:ay) (n:Nat) (c:Cell):Bool:=if c.kind=0∨c.kind=3 then decide (c.n=0) else if c.kind=1 then decide (0≤c.n) && decide (c.n < n) else if c.kind=2 then decide (0≤c.n) && decide (c.n < g.rules.length) else false
def CW (g:ay) (n:Nat) (a:List Cell) (l:List Int):Bool:=decide (a.length=g.ax.length+1) && decide (l.length=g.aA.length) && a.all (tN g n) && l.all fun x=>decide (-1≤x) && decide (x < n)
def j0 (g:ay) (t:dx):Bool:=bS g && decide (1≤t.aK.length) && decide (t.aK.length≤300) && decide (t.gotos.length=t.aK.length) && (List.range t.aK.length).all fun i=>CW g t.aK.length (t.aK.getD i []) (t.gotos.getD i [])
def di (t:dx) (s x:Int):Cell:=(t.aK.getD s.toNat []).getD x.toNat ⟨0,0⟩
def jb (t:dx) (s x:Int):Int:=(t.gotos.getD s.toNat []).getD x.toNat (-1)
def cm (st:List Int):Int:=st.getD (st.length - 1) 0
def bY (g:ay) (w:List Int) (at_:Nat):Int:=if at_ < w.length then w.getD at_ 0 else g.ax.length
def bk (g:ay) (k:Int):cR:=g.rules.getD k.toNat ⟨0,[],0⟩
def iq (g:ay) (t:dx) (w:List Int):Nat→List Int→List Int→Nat→List Int × Int × Int
  | k,st,rs,at_ =>
    if (di t (cm st) (bY g w at_)).kind=3∧at_=w.length then (rs,at_,0)
    else if (di t (cm st) (bY g w at_)).kind=0∨(di t (cm st) (bY g w at_)).kind=3∨(di t (cm st) (bY g w at_)).kind=1∧at_=w.length then ([],at_,3)
    else match k with
      | 0=>([],at_,14)
      | k+1 =>
        if (di t (cm st) (bY g w at_)).kind=1 then iq g t w k (st ++ [(di t (cm st) (bY g w at_)).n]) rs (at_+1)
        else if st.length≤(bk g (di t (cm st) (bY g w at_)).n).right.length then ([],at_,3)
        else if jb t (cm (st.take (st.length - (bk g (di t (cm st) (bY g w at_)).n).right.length))) (bk g (di t (cm st) (bY g w at_)).n).left = -1 then ([],at_,3)
        else iq g t w k (st.take (st.length - (bk g (di t (cm st) (bY g w at_)).n).right.length) ++ [jb t (cm (st.take (st.length - (bk g (di t (cm st) (bY g w at_)).n).right.length))) (bk g (di t (cm st) (bY g w at_)).n).left])
          (rs ++ [(di t (cm st) (bY g w at_)).n]) at_
def Ep (t:dx) (st:List Int):Prop:=st≠[]∧∀ x∈st,0≤x∧x < t.aK.length
theorem getD_some {α:Type} {l:List α} {j:Nat} {d:α} (h:j < l.length):l[j]?=some (l.getD j d):=by simp[List.getD_eq_getElem?_getD,h]
theorem A8 {st:List Int} (h:st≠[]):cm st∈st:=by
  have hl:st.length - 1 < st.length:=by have:=List.length_pos_iff.2 h; omega
  unfold cm
  simp[List.getD_eq_getElem?_getD,hl]
theorem Ep.app {t:dx} {st:List Int} {x:Int} (h:∀ y∈st,0≤y∧y < t.aK.length) (hx:0≤x∧x < t.aK.length):Ep t (st ++ [x]):=by
  refine ⟨by simp,fun y hy=>?_⟩
  rcases List.mem_append.1 hy with hy | hy
  · exact h y hy
  · simp at hy; subst hy; exact hx
theorem Ep.take {t:dx} {st:List Int} (h:Ep t st) {k:Nat} (hk:0 < k):Ep t (st.take k):=by
  refine ⟨?_,fun y hy=>h.2 y (List.mem_of_mem_take hy)⟩
  intro e
  rcases List.take_eq_nil_iff.1 e with e | e
  · omega
  · exact h.1 e
structure kK (g:ay) (t:dx):Prop where
  right:bS g=true
  n1:1≤t.aK.length
  Tm:t.aK.length≤300
  len:t.gotos.length=t.aK.length
  row:∀ i,i < t.aK.length→CW g t.aK.length (t.aK.getD i []) (t.gotos.getD i [])=true
theorem zZ {g:ay} {t:dx} (h:j0 g t=true):kK g t:=by
  unfold j0 at h
  simp only[Bool.and_eq_true,decide_eq_true_eq,List.all_eq_true,List.mem_range] at h
  exact ⟨h.1.1.1.1,h.1.1.1.2,h.1.1.2,h.1.2,h.2⟩
theorem kK.BH {g:ay} {t:dx} (h:kK g t) {i:Nat} (hi:i < t.aK.length):(t.aK.getD i []).length=g.ax.length+1∧(t.gotos.getD i []).length=g.aA.length∧(∀ c∈t.aK.getD i [],tN g t.aK.length c=true)∧∀ x∈t.gotos.getD i [],-1≤x∧x < t.aK.length:=by
  have:=h.row i hi
  unfold CW at this
  simp only[Bool.and_eq_true,decide_eq_true_eq,List.all_eq_true] at this
  exact ⟨this.1.1.1,this.1.1.2,this.1.2,this.2⟩
theorem kK.cell {g:ay} {t:dx} (h:kK g t) {s x:Int} (hs:0≤s∧s < t.aK.length) (hx:0≤x∧x≤g.ax.length):tN g t.aK.length (di t s x)=true∧(t.aK.getD s.toNat [])[x.toNat]?=some (di t s x):=by
  have hi:s.toNat < t.aK.length:=by omega
  obtain ⟨h1,_,h3,_⟩:=h.BH hi
  have hj:x.toNat < (t.aK.getD s.toNat []).length:=by omega
  have e:(t.aK.getD s.toNat [])[x.toNat]?=some (di t s x):=getD_some hj
  exact ⟨h3 _ (List.mem_of_getElem? e),e⟩
theorem kK.go {g:ay} {t:dx} (h:kK g t) {s x:Int} (hs:0≤s∧s < t.aK.length) (hx:0≤x∧x < g.aA.length):(-1≤jb t s x∧jb t s x < t.aK.length)∧(t.gotos.getD s.toNat [])[x.toNat]?=some (jb t s x):=by
  have hi:s.toNat < t.aK.length:=by omega
  obtain ⟨_,h2,_,h4⟩:=h.BH hi
  have hj:x.toNat < (t.gotos.getD s.toNat []).length:=by omega
  have e:(t.gotos.getD s.toNat [])[x.toNat]?=some (jb t s x):=getD_some hj
  exact ⟨h4 _ (List.mem_of_getElem? e),e⟩
def gU (g:ay) (t:dx) (w:List Int):List Int × Int × Int:=if (bS g && decide (w.length≤60) && (w.all fun x=>decide (0≤x) && decide (x < g.ax.length)) && j0 g t)=true then iq g t w 2000 [0] [] 0 else ([],0,1)
section
variable {g r:ay} {p q:List Bool} {o:List Int}
end
section
variable {g r:ay} {p q:List Bool} {o:List Int}
end
def isRed (g:ay):Bool:=(ko g).2.2 == 0 && decide (g=(ko g).1)
def Q4 (p:List Int) (i:Nat) (s:Int):Prop:=∃ c,p[i]?=some c∧(c=s∨c = -1)
structure Item where
  aP:Nat
  dot:Nat
  Nf:Nat
  deriving DecidableEq
structure Td (g:ay) (p:List Int) (S:Nat→List Item):Prop where
  start:∀ (i:Nat) (R:cR),g.rules[i]?=some R→R.left=g.start→⟨i,0,0⟩∈S 0
  term:∀ a x R s,x∈S a→g.rules[x.aP]?=some R→R.right[x.dot]?=some s→0≤s→Q4 p a s→⟨x.aP,x.dot+1,x.Nf⟩∈S (a+1)
  pred:∀ a x R s i R',x∈S a→g.rules[x.aP]?=some R→R.right[x.dot]?=some s→s < 0→g.rules[i]?=some R'→R'.left = -1 - s→a≤p.length→⟨i,0,a⟩∈S a
  null:∀ a x R s,x∈S a→g.rules[x.aP]?=some R→R.right[x.dot]?=some s→s < 0→(bm g false).getD (-1 - s).toNat false=true→a≤p.length→⟨x.aP,x.dot+1,x.Nf⟩∈S a
  comp:∀ a y R' x R s,y∈S a→g.rules[y.aP]?=some R'→y.dot=R'.right.length→y.Nf < a→x∈S y.Nf→g.rules[x.aP]?=some R→R.right[x.dot]?=some s→s < 0→R'.left = -1 - s→a≤p.length→⟨x.aP,x.dot+1,x.Nf⟩∈S a
abbrev Tb:=List (List (List Bool))
end Gv
