/-
  Part 12 of the proof: what the machine does and what the functions answer.
  Conditions: those that each lemma names.
-/
import Derived.Test.YtomcjampldmjoaaGreatSGzTK
set_option linter.unusedSimpArgs false
set_option linter.unusedVariables false
set_option linter.unusedSimpArgs false
namespace Gv
open Go Go.Proofs
theorem F9 {x:Int} : ∀ (o:List Int) (i:Int),x∈o→∃ k:Nat,cF (fun y=>y == x) o i=i+k∧o[k]?=some x
  | [],_,h=>by simp at h
  | y :: o,i,h=>by
    by_cases e:y=x
    · exact ⟨0,by simp[cF,e],by simp[e]⟩
    · have hx:x∈o:=by
        rcases List.mem_cons.1 h with rfl | h
        · exact absurd rfl e
        · exact h
      obtain ⟨k,h1,h2⟩:=F9 o (i+1) hx
      exact ⟨k+1,by simp only[cF]; rw[if_neg (by simp[e]),h1]; push_cast; omega,by simpa using h2⟩
theorem zH {o:List Int} {x:Int} (h:x∈o):o[(bm o x).toNat]?=some x:=by
  obtain ⟨k,h1,h2⟩:=F9 o 0 h
  have:bm o x=k:=by unfold bm; omega
  rw[this]; simpa using h2
theorem yK {o:List Int} (hn:o.Nodup) {k:Nat} {x:Int} (h:o[k]?=some x):bm o x=k:=by
  have hx:=List.mem_of_getElem? h
  have h1:=zH hx
  have h2:=ke hx
  obtain ⟨hk,h3⟩:=List.getElem?_eq_some_iff.1 h
  obtain ⟨hk2,h4⟩:=List.getElem?_eq_some_iff.1 h1
  have:=(List.getElem_inj hn).1 (h4.trans h3.symm)
  omega
theorem q0:∀ (l:List aO) (acc:List Int),acc.Nodup→(l.foldl dk acc).Nodup
  | [],_,h=>h
  | r :: l,acc,h=>q0 l _ (AY h)
theorem IK (p q:List Bool) (l:List aO):(bQ p q l).Nodup:=q0 _ _ List.nodup_nil
theorem LX (acc:List Int) (r:aO):∃ m,dk acc r=acc ++ m:=by
  unfold dk
  split
  · exact ⟨[],by simp⟩
  · exact ⟨_,rfl⟩
theorem uG:∀ (l:List aO) (acc:List Int),∃ m,l.foldl dk acc=acc ++ m
  | [],acc=>⟨[],by simp⟩
  | r :: l,acc=>by
    obtain ⟨m,hm⟩:=LX acc r
    obtain ⟨k,hk⟩:=uG l (dk acc r)
    exact ⟨m ++ k,by rw[List.foldl_cons,hk,hm,List.append_assoc]⟩
theorem MA {a b:List Int} {x:Int} (h:x∈a):bm (a ++ b) x=bm a x:=by
  unfold bm
  rw[tj _ _ _ _ (by omega)]
  have:=ke h
  unfold bm at this
  rw[if_pos this.1]
theorem vP {r:ao} {o:List Int} (ho:o.Nodup) (hr:r.au.length=o.length):∀ (l:List aO) (acc:List Int),o=l.foldl dk acc→(∀ x∈l,gw r (bj (bm o) x)=true)→fI r (l.map (bj (bm o))) ((acc.length:Int) - 1)=true
  | [],acc,h,_=>by
    simp only[List.foldl_nil] at h
    simp[fI,hr,h]
  | x :: l,acc,h,hb=>by
    simp only[List.map_cons,fI,Bool.and_eq_true,decide_eq_true_eq]
    rw[List.foldl_cons] at h
    have h1:(bj (bm o) x).left=bm o x.left:=rfl
    obtain ⟨m,hm⟩:=uG l (dk acc x)
    rw[← h] at hm
    by_cases hx:x.left∈acc
    · have e:dk acc x=acc:=by unfold dk; rw[if_pos hx]
      rw[e] at hm h
      have h2:=ke hx
      have h3:bm o x.left=bm acc x.left:=by rw[hm]; exact MA hx
      rw[h1,h3,if_neg (by omega)]
      exact ⟨⟨⟨h2.1,by omega⟩,hb x (by simp)⟩,vP ho hr l acc h fun y hy=>hb y (by simp[hy])⟩
    · have e:dk acc x=acc ++ [x.left]:=by unfold dk; rw[if_neg hx]
      rw[e] at hm h
      have h3:bm o x.left=acc.length:=yK ho (by rw[hm]; simp)
      rw[h1,h3,if_pos (by omega)]
      refine ⟨⟨⟨by omega,by omega⟩,hb x (by simp)⟩,?_⟩
      have:=vP ho hr l (acc ++ [x.left]) h fun y hy=>hb y (by simp[hy])
      rw[List.length_append] at this
      simpa using this
theorem za {g r:ao} (h:r.ax=g.ax):∀ (l:List Term) (i:Int),iY r l i=iY g l i
  | [],_=>rfl
  | t :: l,i=>by
    simp only[iY,za h l]
    congr 1
    simp only[jB,lf,qx,h]
theorem pZ {o:List Int} {n:Nat} (h:o.Nodup) (hb:∀ x∈o,0≤x∧x < n):o.length≤n:=by
  have:=pg o ((List.range n).map fun (k:Nat)=>(k:Int)) h fun x hx=>by
    have:=hb x hx
    exact List.mem_map.2 ⟨x.toNat,List.mem_range.2 (by omega),by omega⟩
  simpa using this
structure dW (g:ao) (p q:List Bool) (o:List Int) (r:ao):Prop where
  right:bo g=true
  pe:p=aK g true
  qe:q=bA g
  oe:o=bQ p q g.rules
  re:r=jj g (bm o) p q
  nodup:o.Nodup
  inside:∀ x∈o,0≤x∧x < g.au.length
  kept:∀ R∈g.rules,bH p q R=true→R.left∈o∧∀ s∈R.right,s < 0→-1 - s∈o
  from_:∀ x∈o,∃ R∈g.rules,bH p q R=true∧R.left=x
  start:g.start∈o
theorem O6 {g:ao} (hr:bo g=true) (hp:(aK g true).getD g.start.toNat false=true):dW g (aK g true) (bA g) (bQ (aK g true) (bA g) g.rules) (jj g (bm (bQ (aK g true) (bA g) g.rules)) (aK g true) (bA g)):=by
  have hf:=aW hr
  refine ⟨hr,rfl,rfl,rfl,rfl,IK _ _ _,fun x hx=>?_,fun R hm hk=>⟨qX.2 ⟨R,hm,hk,rfl⟩,fun s hs hn=>?_⟩,fun x hx=>qX.1 hx,Bo hr hf.eA hp (sQ hr)⟩
  · obtain ⟨R,h1,_,rfl⟩:=qX.1 hx
    exact hf.left R h1
  · refine Bo hr (by omega) ?_ (vT hr hm hk hs hn)
    rw[bH,Bool.and_eq_true] at hk
    have:=hk.2
    simp only[dw,List.all_eq_true] at this
    have:=this s hs
    rwa [if_neg (by omega)] at this
section
variable {g r:ao} {p q:List Bool} {o:List Int}
theorem dW.rules (h:dW g p q o r):r.rules=(g.rules.filter (bH p q)).map (bj (bm o)):=by rw[h.re]; rfl
theorem dW.au (h:dW g p q o r):r.au=o.map fun x=>g.au.getD x.toNat ⟨#[]⟩:=by rw[h.re,h.oe]; rfl
theorem dW.ax (h:dW g p q o r):r.ax=g.ax:=by rw[h.re]; rfl
theorem dW.Fb (h:dW g p q o r):r.start=bm o g.start:=by rw[h.re]; rfl
theorem dW.len (h:dW g p q o r):r.au.length=o.length:=by rw[h.au]; simp
theorem dW.lT (h:dW g p q o r):bo r=true:=by
  have hf:=aW h.right
  have hR:=h.right
  simp only[bo,jd,jR,Bool.and_eq_true,decide_eq_true_eq] at hR ⊢
  obtain ⟨⟨⟨⟨⟨⟨⟨a1,a2⟩,⟨a3,a4⟩,a5⟩,a6⟩,a7⟩,a8⟩,a9⟩,a10⟩:=hR
  have hst:=ke h.start
  have hol:o.length≤g.au.length:=pZ h.nodup h.inside
  have hgn:g.au.Nodup∧∀ s∈g.au,fe (er s)=true∧lf g s < 0:=by
    rw[rR] at a5
    refine ⟨(sf g.au).1 fun k s hk=>?_,fun s hs=>?_⟩
    · have:=a5 k s hk
      simp only[kQ,xQ,Bool.and_eq_true,beq_iff_eq] at this
      have:=this.1.2
      omega
    · obtain ⟨k,hk⟩:=List.getElem?_of_mem hs
      have:=a5 k s hk
      simp only[kQ,Bool.and_eq_true,decide_eq_true_eq] at this
      exact ⟨this.1.1,this.2⟩
  have hget:∀ x∈o,∃ (hx:x.toNat < g.au.length),g.au.getD x.toNat ⟨#[]⟩=g.au[x.toNat]:=fun x hx=>by
    have:=h.inside x hx
    exact ⟨by omega,by simp[List.getD_eq_getElem?_getD,List.getElem?_eq_getElem (show x.toNat < g.au.length by omega)]⟩
  have hrn:r.au.Nodup:=by
    rw[h.au,List.nodup_iff_pairwise_ne,List.pairwise_map]
    refine (List.Pairwise.and_mem.1 h.nodup).imp ?_
    rintro x y ⟨hx,hy,hne⟩ e
    obtain ⟨h1,h2⟩:=hget x hx
    obtain ⟨h3,h4⟩:=hget y hy
    rw[h2,h4] at e
    have h5:=(List.getElem_inj hgn.1).1 e
    have h6:=h.inside x hx
    have h7:=h.inside y hy
    exact hne (by omega)
  have hrules:(g.rules.filter (bH p q)).length≤g.rules.length:=List.length_filter_le _ _
  obtain ⟨R0,hR0,hk0,_⟩:=h.from_ _ h.start
  have hpos:0 < (g.rules.filter (bH p q)).length:=List.length_pos_of_mem (List.mem_filter.2 ⟨hR0,hk0⟩)
  have hrl:r.rules.length=(g.rules.filter (bH p q)).length:=by rw[h.rules]; simp
  refine ⟨⟨⟨⟨⟨⟨⟨by rw[h.ax]; exact a1,?_⟩,⟨by rw[h.len]; omega,by rw[h.len]; omega⟩,?_⟩,by omega⟩,by omega⟩,by rw[h.Fb]; omega⟩,by rw[h.Fb,h.len]; omega⟩,?_⟩
  · rw[h.ax,za h.ax]; exact a2
  · rw[rR]
    intro k s hk
    have hm:=List.mem_of_getElem? hk
    have hidx:=(sf r.au).2 hrn k s hk
    rw[h.au,List.mem_map] at hm
    obtain ⟨x,hx,rfl⟩:=hm
    obtain ⟨h1,h2⟩:=hget x hx
    obtain ⟨h3,h4⟩:=hgn.2 _ (h2 ▸ List.getElem_mem h1:g.au.getD x.toNat ⟨#[]⟩∈g.au)
    simp only[kQ,xQ,Bool.and_eq_true,beq_iff_eq,decide_eq_true_eq]
    refine ⟨⟨h3,by rw[hidx]; omega⟩,?_⟩
    simp only[lf,h.ax] at h4 ⊢
    exact h4
  · rw[h.rules]
    have:=vP (r:=r) h.nodup h.len (g.rules.filter (bH p q)) [] (by rw[h.oe]; rfl) (fun x hx=>?_)
    · simpa using this
    obtain ⟨hm,hk⟩:=List.mem_filter.1 hx
    obtain ⟨_,hin⟩:=h.kept x hm hk
    have hb:=(xm _ _ a10).2 x hm
    have hb:=hb.2.2
    simp only[gw,Bool.and_eq_true,decide_eq_true_eq,List.all_eq_true] at hb ⊢
    obtain ⟨⟨⟨b1,b2⟩,b3⟩,b4⟩:=hb
    refine ⟨⟨⟨by simpa [bj] using b1,b2⟩,by rw[h.ax]; exact b3⟩,fun s hs=>?_⟩
    simp only[bj,List.mem_map] at hs
    obtain ⟨s0,hs0,rfl⟩:=hs
    have b5:=b4 s0 hs0
    by_cases hn:s0 < 0
    · rw[if_pos hn]
      have hl:=ke (hin s0 hs0 hn)
      simp only[ly,iu,Bool.and_eq_true]
      rw[if_neg (by omega),decide_eq_false (p:=0≤-1 - bm o (-1 - s0)) (by omega)]
      simp only[h.len,decide_eq_true_eq,Bool.false_and,Bool.not_false,and_true]
      omega
    · rw[if_neg hn]
      simp only[ly,iu,h.ax] at b5 ⊢
      rw[if_pos (by omega)] at b5 ⊢
      exact b5
end
end Gv
set_option linter.unusedSimpArgs false
namespace Gv
open Go Go.Proofs
inductive uO (g:ao):Int→Prop
  | mk (R:aO):R∈g.rules→(∀ s∈R.right,s < 0→uO g (-1 - s))→uO g R.left
inductive nQ (g:ao) (p:List Bool):Int→Prop
  | start:nQ g p g.start
  | next (R:aO) (s:Int):R∈g.rules→nQ g p R.left→dw R.right p true=true→s∈R.right→s < 0→nQ g p (-1 - s)
theorem vf {l:List Int} {p:List Bool} : dw l p true=true↔∀ s∈l,s < 0→p.getD (-1 - s).toNat false=true:=by
  simp only[dw,List.all_eq_true]
  constructor
  · intro h s hs hn
    have:=h s hs
    rwa [if_neg (by omega)] at this
  · intro h s hs
    by_cases hn:s < 0
    · rw[if_neg (by omega)]; exact h s hs hn
    · rw[if_pos (by omega)]
theorem zC {l:List Bool} {i j:Nat} (h:(l.set i true).getD j false=true):j=i∨l.getD j false=true:=by
  by_cases e:i=j
  · exact .inl e.symm
  · right
    simp only[List.getD_eq_getElem?_getD,List.getElem?_set,if_neg e] at h ⊢
    exact h
theorem A0 {g:ao} {i:Nat} : (bZ g).getD i false=false:=by
  simp only[bZ,List.getD_eq_getElem?_getD,List.getElem?_replicate]
  split <;> rfl
theorem FT {g:ao} (hr:bo g=true):∀ i:Nat,(aK g true).getD i false=true→uO g i:=by
  have hf:=aW hr
  have hst:∀ (is:List Bool) (R:aO),R∈g.rules→(∀ i:Nat,is.getD i false=true→uO g i)→∀ i:Nat,(dC true is R).getD i false=true→uO g i:=by
    intro is R hR h i hi
    unfold dC at hi
    split at hi
    · rename_i ha
      rcases zC hi with rfl | hi
      · have:=hf.left R hR
        have e:((R.left.toNat:Nat):Int)=R.left:=by omega
        rw[e]
        refine .mk R hR fun s hs hn=>?_
        have:=h _ (vf.1 ha s hs hn)
        rwa [show (((-1 - s).toNat:Nat):Int) = -1 - s by omega] at this
      · exact h i hi
    · exact h i hi
  have hfold:∀ (l:List aO) (is:List Bool),(∀ R∈l,R∈g.rules)→(∀ i:Nat,is.getD i false=true→uO g i)→∀ i:Nat,(l.foldl (dC true) is).getD i false=true→uO g i:=by
    intro l
    induction l with
    | nil=>intro is _ h; exact h
    | cons R l ih=>intro is hl h; exact ih _ (fun x hx=>hl x (by simp[hx])) (hst is R (hl R (by simp)) h)
  have hit:∀ (n:Nat) (is:List Bool),(∀ i:Nat,is.getD i false=true→uO g i)→∀ i:Nat,(iter (jb g true) n is).getD i false=true→uO g i:=by
    intro n
    induction n with
    | zero=>intro is h; exact h
    | succ n ih=>intro is h; exact ih _ (hfold g.rules is (fun _ h=>h) h)
  rw[aK,if_pos hr]
  exact hit _ _ fun i hi=>by rw[A0] at hi; simp at hi
theorem DB (t:Bool) (is:List Bool) (R:aO):fC is (dC t is R):=by
  unfold dC
  split
  · exact .set _ _
  · exact .refl _
theorem CN (t:Bool):∀ (l:List aO) (is:List Bool),fC is (l.foldl (dC t) is)
  | [],is=>.refl _
  | R :: l,is=>(DB t is R).trans (CN t l _)
theorem AH {t:Bool} : ∀ {l:List aO} {is:List Bool},l.foldl (dC t) is=is→∀ R∈l,dC t is R=is
  | [],_,_,_,h=>by simp at h
  | R :: l,is,h,x,hx=>by
    rw[List.foldl_cons] at h
    have h1:=CN t l (dC t is R)
    rw[h] at h1
    have h2:=(h1.MO (DB t is R))
    rcases List.mem_cons.1 hx with rfl | hx
    · exact h2
    · rw[h2] at h; exact AH h x hx
theorem JS {g:ao} (hr:bo g=true) (t:Bool):jb g t (aK g t)=aK g t:=by
  have hf:=aW hr
  have h:=sJ (qW t) g.rules 16 (bZ g) (by have:=hf.au; simp[bZ]; omega)
  rw[GZ,Kw hr] at h
  exact h.1
theorem ra {g:ao} (hr:bo g=true) {t:Bool} {R:aO} (hR:R∈g.rules) (ha:dw R.right (aK g t) t=true):(aK g t).getD R.left.toNat false=true:=by
  have h1:=AH (JS hr t) R hR
  have hf:=aW hr
  have hl:=jg hr t
  have hb:=hf.left R hR
  unfold dC at h1
  rw[if_pos ha] at h1
  rw[← h1]
  simp only[List.getD_eq_getElem?_getD]
  rw[List.getElem?_set_self (by omega)]
  rfl
theorem xt {g:ao} (hr:bo g=true) {x:Int} (h:uO g x):(aK g true).getD x.toNat false=true:=by
  induction h with
  | mk R hR _ ih=>exact ra hr hR (vf.2 fun s hs hn=>ih s hs hn)
theorem xh {g:ao} (hr:bo g=true):∀ i:Nat,(bA g).getD i false=true→nQ g (aK g true) i:=by
  have hf:=aW hr
  have hmk:∀ (R:aO),R∈g.rules→nQ g (aK g true) R.left→dw R.right (aK g true) true=true→∀ (l:List Int) (is:List Bool),(∀ s∈l,s∈R.right)→(∀ i:Nat,is.getD i false=true→nQ g (aK g true) i)→∀ i:Nat,(l.foldl mark is).getD i false=true→nQ g (aK g true) i:=by
    intro R hR hl ha l
    induction l with
    | nil=>intro is _ h; exact h
    | cons s l ih =>
      intro is hs h
      refine ih _ (fun x hx=>hs x (by simp[hx])) fun i hi=>?_
      unfold mark at hi
      split at hi
      · rename_i hn
        rcases zC hi with rfl | hi
        · rw[show (((-1 - s).toNat:Nat):Int) = -1 - s by omega]
          exact .next R s hR hl ha (hs s (by simp)) hn
        · exact h i hi
      · exact h i hi
  have hst:∀ (is:List Bool) (R:aO),R∈g.rules→(∀ i:Nat,is.getD i false=true→nQ g (aK g true) i)→∀ i:Nat,(eL (aK g true) is R).getD i false=true→nQ g (aK g true) i:=by
    intro is R hR h
    unfold eL
    split
    · rename_i ha
      rw[Bool.and_eq_true] at ha
      have h1:=h _ ha.1
      have:=hf.left R hR
      rw[show ((R.left.toNat:Nat):Int)=R.left by omega] at h1
      exact hmk R hR h1 ha.2 R.right is (fun _ h=>h) h
    · exact h
  have hfold:∀ (l:List aO) (is:List Bool),(∀ R∈l,R∈g.rules)→(∀ i:Nat,is.getD i false=true→nQ g (aK g true) i)→∀ i:Nat,(l.foldl (eL (aK g true)) is).getD i false=true→nQ g (aK g true) i:=by
    intro l
    induction l with
    | nil=>intro is _ h; exact h
    | cons R l ih=>intro is hl h; exact ih _ (fun x hx=>hl x (by simp[hx])) (hst is R (hl R (by simp)) h)
  have hit:∀ (n:Nat) (is:List Bool),(∀ i:Nat,is.getD i false=true→nQ g (aK g true) i)→∀ i:Nat,(iter (mG g (aK g true)) n is).getD i false=true→nQ g (aK g true) i:=by
    intro n
    induction n with
    | zero=>intro is h; exact h
    | succ n ih=>intro is h; exact ih _ (hfold g.rules is (fun _ h=>h) h)
  rw[bA,if_pos hr]
  refine hit _ _ fun i hi=>?_
  rcases zC hi with rfl | hi
  · have:=hf.eA
    rw[show ((g.start.toNat:Nat):Int)=g.start by omega]
    exact .start
  · rw[A0] at hi; simp at hi
theorem yh {g:ao} (hr:bo g=true) {x:Int} (h:nQ g (aK g true) x):(bA g).getD x.toNat false=true:=by
  induction h with
  | start=>exact sQ hr
  | next R s hR _ ha hs hn ih=>exact vT hr hR (by rw[bH,ih,ha]; rfl) hs hn
section
variable {g r:ao} {p q:List Bool} {o:List Int}
theorem dW.Qs (h:dW g p q o r) {x:Int} (hd:uO g x):x∈o→uO r (bm o x):=by
  induction hd with
  | mk R hR hsub ih =>
    intro hx
    obtain ⟨R1,hR1,hk1,e1⟩:=h.from_ _ hx
    have hk:bH p q R=true:=by
      rw[bH,Bool.and_eq_true] at hk1 ⊢
      refine ⟨by rw[← e1]; exact hk1.1,?_⟩
      rw[h.pe]
      exact vf.2 fun s hs hn=>xt h.right (hsub s hs hn)
    have hin:=(h.kept R hR hk).2
    have hm:bj (bm o) R∈r.rules:=by rw[h.rules]; exact List.mem_map.2 ⟨R,List.mem_filter.2 ⟨hR,hk⟩,rfl⟩
    refine uO.mk (bj (bm o) R) hm fun s' hs' hn'=>?_
    simp only[bj,List.mem_map] at hs'
    obtain ⟨s,hs,rfl⟩:=hs'
    by_cases hn:s < 0
    · rw[if_pos hn]
      have:=ih s hs hn (hin s hs hn)
      rwa [show -1 - (-1 - bm o (-1 - s))=bm o (-1 - s) by omega]
    · rw[if_neg hn] at hn'; omega
theorem dW.PN (h:dW g p q o r) {x:Int} (hx:x∈o):(aK r true).getD (bm o x).toNat false=true:=by
  obtain ⟨R,hR,hk,rfl⟩:=h.from_ _ hx
  rw[bH,Bool.and_eq_true,h.pe] at hk
  have h1:=ra h.right hR hk.2
  have h2:=FT h.right _ h1
  have:=(h.inside _ hx)
  rw[show ((R.left.toNat:Nat):Int)=R.left by omega] at h2
  exact xt h.lT (h.Qs h2 hx)
theorem dW.at_ (h:dW g p q o r) {k:Nat} (hk:k < o.length):∃ x∈o,bm o x=k∧o[k]?=some x:=⟨o[k],List.getElem_mem _,yK h.nodup (List.getElem?_eq_getElem hk),List.getElem?_eq_getElem hk⟩
theorem dW.Dk (h:dW g p q o r) {k:Nat} (hk:k < o.length):(aK r true).getD k false=true:=by
  obtain ⟨x,hx,h1,_⟩:=h.at_ hk
  have:=h.PN hx
  rwa [h1,Int.toNat_natCast] at this
theorem dW.JV (h:dW g p q o r) {R:aO} (hR:R∈r.rules):dw R.right (aK r true) true=true:=by
  have hf:=aW h.lT
  refine vf.2 fun s hs hn=>h.Dk ?_
  have:=hf.neg hR hs hn
  rw[h.len] at this
  omega
theorem dW.Qu (h:dW g p q o r) {x:Int} (hd:nQ g (aK g true) x):nQ r (aK r true) (bm o x):=by
  induction hd with
  | start=>rw[← h.Fb]; exact .start
  | next R s hR h1 ha hs hn ih =>
    have hk:bH p q R=true:=by
      rw[bH,h.pe,h.qe,ha,yh h.right h1]; rfl
    have hm:bj (bm o) R∈r.rules:=by rw[h.rules]; exact List.mem_map.2 ⟨R,List.mem_filter.2 ⟨hR,hk⟩,rfl⟩
    have hin:=(h.kept R hR hk).2 s hs hn
    have h2:=ke hin
    have:=nQ.next (g:=r) (p:=aK r true) (bj (bm o) R) (-1 - bm o (-1 - s)) hm ih (h.JV hm) (by
      simp only[bj,List.mem_map]
      exact ⟨s,hs,by rw[if_pos hn]⟩) (by omega)
    rwa [show -1 - (-1 - bm o (-1 - s))=bm o (-1 - s) by omega] at this
theorem dW.CO (h:dW g p q o r) {k:Nat} (hk:k < o.length):(bA r).getD k false=true:=by
  obtain ⟨x,hx,h1,_⟩:=h.at_ hk
  obtain ⟨R,hR,hkk,rfl⟩:=h.from_ _ hx
  rw[bH,Bool.and_eq_true,h.qe] at hkk
  have h2:=xh h.right _ hkk.1
  have:=(h.inside _ hx)
  rw[show ((R.left.toNat:Nat):Int)=R.left by omega] at h2
  have:=yh h.lT (h.Qu h2)
  rwa [h1,Int.toNat_natCast] at this
def kP (n:Nat):List Int:=(List.range n).map fun (k:Nat)=>(k:Int)
theorem Fs (n:Nat):(kP n).length=n:=by simp[kP]
theorem zn {n k:Nat} (h:k < n):(kP n)[k]?=some (k:Int):=by simp[kP,h]
theorem IW (n:Nat):(kP n).Nodup:=by
  rw[kP,List.nodup_iff_pairwise_ne,List.pairwise_map]
  exact (List.nodup_range (n:=n)).imp fun h e=>h (by omega)
theorem zP {n:Nat} {x:Int} (h0:0≤x) (h1:x < n):bm (kP n) x=x:=by
  have:=yK (IW n) (zn (n:=n) (k:=x.toNat) (by omega))
  rw[show ((x.toNat:Nat):Int)=x by omega] at this
  exact this
theorem Db {p q:List Bool} : ∀ (l:List aO) (i:Int),(∀ R∈l,bH p q R=true)→cq p q l i=(List.range l.length).map fun (k:Nat)=>i+(k:Int)
  | [],_,_=>rfl
  | R :: l,i,h=>by
    rw[cq,if_pos (h R (by simp)),Db l (i+1) (fun x hx=>h x (by simp[hx])),List.length_cons,List.range_succ_eq_map,List.map_cons,List.map_map]
    congr 1
    · omega
    · apply List.map_congr_left
      intro k _
      simp only[Function.comp]
      push_cast; omega
theorem tV {f:Int→Int} {o:List Int} (hf:∀ x∈o,∀ y∈o,f x=f y→x=y):∀ (l:List aO) (acc:List Int),(∀ x∈acc,x∈o)→(∀ R∈l,R.left∈o)→(l.map (bj f)).foldl dk (acc.map f)=(l.foldl dk acc).map f
  | [],_,_,_=>rfl
  | R :: l,acc,ha,hl=>by
    have e:dk (acc.map f) (bj f R)=(dk acc R).map f:=by
      have h1:(bj f R).left=f R.left:=rfl
      unfold dk
      rw[h1]
      by_cases h:R.left∈acc
      · rw[if_pos h,if_pos (List.mem_map.2 ⟨_,h,rfl⟩)]
      · rw[if_neg h,if_neg (fun hm=>by
          obtain ⟨y,hy,e⟩:=List.mem_map.1 hm
          exact h (hf y (ha y hy) _ (hl R (by simp)) e ▸ hy))]
        simp
    rw[List.map_cons,List.foldl_cons,List.foldl_cons,e]
    refine tV hf l (dk acc R) (fun x hx=>?_) (fun x hx=>hl x (by simp[hx]))
    unfold dk at hx
    split at hx
    · exact ha x hx
    · rcases List.mem_append.1 hx with hx | hx
      · exact ha x hx
      · simp at hx; subst hx; exact hl R (by simp)
theorem dW.inj (h:dW g p q o r):∀ x∈o,∀ y∈o,bm o x=bm o y→x=y:=by
  intro x hx y hy e
  have h1:=zH hx
  have h2:=zH hy
  rw[e,h2] at h1
  exact (Option.some.inj h1).symm
theorem dW.N3 (h:dW g p q o r):o.map (bm o)=kP o.length:=by
  apply List.ext_getElem?
  intro k
  rw[List.getElem?_map]
  by_cases hk:k < o.length
  · rw[zn hk,List.getElem?_eq_getElem hk,Option.map_some,yK h.nodup (List.getElem?_eq_getElem hk)]
  · rw[List.getElem?_eq_none (by omega),List.getElem?_eq_none (by rw[Fs]; omega)]; rfl
theorem dW.zB (h:dW g p q o r):∀ R∈r.rules,bH (aK r true) (bA r) R=true:=fun R hR=>by
  have hf:=aW h.lT
  have:=hf.left R hR
  rw[h.len] at this
  rw[bH,h.CO (by omega),h.JV hR]; rfl
theorem dW.ord (h:dW g p q o r):bQ (aK r true) (bA r) r.rules=kP o.length:=by
  unfold bQ
  rw[List.filter_eq_self.2 h.zB,h.rules]
  have:=tV h.inj (g.rules.filter (bH p q)) [] (by simp) (fun R hR=>by
    obtain ⟨h1,h2⟩:=List.mem_filter.1 hR
    exact (h.kept R h1 h2).1)
  rw[List.map_nil] at this
  rw[this,← h.N3]
  congr 1
  rw[h.oe]; rfl
theorem dW.once (h:dW g p q o r):eR r=(r,kP r.rules.length,0):=by
  have hf:=aW h.lT
  have hst:=hf.start
  have hst0:=hf.eA
  rw[h.len] at hst
  rw[mw h.lT,if_pos (h.Dk (by omega)),h.ord]
  have hk:cq (aK r true) (bA r) r.rules 0=kP r.rules.length:=by
    rw[Db _ _ h.zB]
    unfold kP
    apply List.map_congr_left
    intro k _; omega
  have hr:jj r (bm (kP o.length)) (aK r true) (bA r)=r:=by
    unfold jj
    rw[h.ord,List.filter_eq_self.2 h.zB]
    have e1:((kP o.length).map fun x=>r.au.getD x.toNat ⟨#[]⟩)=r.au:=by
      apply List.ext_getElem?
      intro k
      rw[List.getElem?_map]
      by_cases hkk:k < o.length
      · rw[zn hkk,Option.map_some]
        simp[List.getD_eq_getElem?_getD,List.getElem?_eq_getElem (show k < r.au.length by rw[h.len]; omega)]
      · rw[List.getElem?_eq_none (by rw[Fs]; omega),List.getElem?_eq_none (by rw[h.len]; omega)]; rfl
    have e2:r.rules.map (bj (bm (kP o.length)))=r.rules:=by
      conv=>rhs; rw[← List.map_id r.rules]
      apply List.map_congr_left
      intro R hR
      have hl:=hf.left R hR
      rw[h.len] at hl
      unfold bj
      rw[zP hl.1 hl.2]
      have e3:(R.right.map fun s=>if s < 0 then -1 - bm (kP o.length) (-1 - s) else s)=R.right:=by
        conv=>rhs; rw[← List.map_id R.right]
        apply List.map_congr_left
        intro s hs
        by_cases hn:s < 0
        · have:=hf.neg hR hs hn
          rw[h.len] at this
          rw[if_pos hn,zP (by omega) this]
          simp only[id]; omega
        · rw[if_neg hn]; rfl
      rw[e3]; rfl
    rw[e1,e2,zP hst0 hst]
  rw[hr,hk]
end
def isRed (g:ao):Bool:=(eR g).2.2 == 0 && decide (g=(eR g).1)
end Gv
set_option linter.unusedSimpArgs false
namespace Gv
open Go Go.Proofs
end Gv
set_option linter.unusedSimpArgs false
namespace Gv
open Go Go.Proofs
structure bh where
  ba:Int
  br:Int
  rules:Int
  ax:Int
def gP:bh:=⟨(-1),0,0,0⟩
def bq:bh:=⟨0,0,0,0⟩
def bc (P:List bh) (m:Nat):bh:=P.getD m gP
abbrev bG (x:Int):Nat:=(-1 - x).toNat
def bF (P:List bh):List Int→bh→bh × Bool
  | [],s=>(s,true)
  | x :: l,s=>if 0≤x then bF P l ⟨s.ba,s.br,s.rules,min 1048576 (s.ax+1)⟩
    else if (bc P (bG x)).ba < 0 then (s,false)
    else bF P l ⟨s.ba,max s.br (bc P (bG x)).br,min 1048576 (s.rules+(bc P (bG x)).rules),min 1048576 (s.ax+(bc P (bG x)).ax)⟩
def bf (P:List bh) (m:Nat):Prop:=0≤(bc P m).ba
def fF (P:List bh) (l:List Int):Prop:=∀ x∈l,x < 0→bf P (bG x)
theorem jc (P:List bh):∀ (l:List Int) (s:bh),(bF P l s).2=true↔fF P l
  | [],s=>by simp[bF,fF]
  | x :: l,s=>by
    simp only[bF,fF,List.mem_cons]
    by_cases h:0≤x
    · rw[if_pos h,jc P l]
      refine ⟨fun k y hy hn=>?_,fun k y hy=>k y (.inr hy)⟩
      rcases hy with rfl | hy
      · omega
      · exact k y hy hn
    · rw[if_neg h]
      by_cases h2:(bc P (bG x)).ba < 0
      · rw[if_pos h2]
        simp only[Bool.false_eq_true,false_iff]
        intro k
        have:=k x (.inl rfl) (by omega)
        unfold bf at this; omega
      · rw[if_neg h2,jc P l]
        refine ⟨fun k y hy hn=>?_,fun k y hy=>k y (.inr hy)⟩
        rcases hy with rfl | hy
        · unfold bf; omega
        · exact k y hy hn
theorem fZ (P:List bh) (k:Int):∀ (l:List Int) (s:bh),fF P l→((bF P l s).1.br≤k↔s.br≤k∧∀ x∈l,x < 0→(bc P (bG x)).br≤k)
  | [],s,_=>by simp[bF]
  | x :: l,s,h=>by
    have hl:fF P l:=fun y hy=>h y (by simp[hy])
    simp only[bF,List.mem_cons]
    by_cases h0:0≤x
    · rw[if_pos h0,fZ P k l _ hl]
      refine ⟨fun ⟨a,b⟩=>⟨a,fun y hy hn=>?_⟩,fun ⟨a,b⟩=>⟨a,fun y hy=>b y (.inr hy)⟩⟩
      rcases hy with rfl | hy
      · omega
      · exact b y hy hn
    · have:=h x (by simp) (by omega)
      unfold bf at this
      rw[if_neg h0,if_neg (by omega),fZ P k l _ hl]
      refine ⟨fun ⟨a,b⟩=>⟨by simp only at a; omega,fun y hy hn=>?_⟩,fun ⟨a,b⟩=>⟨by have:=b x (.inl rfl) (by omega); simp only; omega,fun y hy=>b y (.inr hy)⟩⟩
      rcases hy with rfl | hy
      · simp only at a; omega
      · exact b y hy hn
theorem Ba {P P':List bh} : ∀ (l:List Int) (s:bh),(∀ x∈l,x < 0→bc P (bG x)=bc P' (bG x))→bF P l s=bF P' l s
  | [],s,_=>rfl
  | x :: l,s,h=>by
    have hl:=fun s=>Ba (P:=P) (P':=P') l s fun y hy=>h y (by simp[hy])
    simp only[bF]
    by_cases h0:0≤x
    · rw[if_pos h0,if_pos h0,hl]
    · rw[if_neg h0,if_neg h0,h x (by simp) (by omega),hl]
theorem pD (P:List bh):∀ (l:List Int) (s:bh),s.br≤(bF P l s).1.br
  | [],s=>Int.le_refl _
  | x :: l,s=>by
    simp only[bF]
    split
    · exact pD P l _
    · split
      · exact Int.le_refl _
      · have:=pD P l ⟨s.ba,max s.br (bc P (bG x)).br,min 1048576 (s.rules+(bc P (bG x)).rules),min 1048576 (s.ax+(bc P (bG x)).ax)⟩
        simp only at this ⊢; omega
def ef (P:List bh) (i:Nat) (r:aO):bh:=⟨i,(bF P r.right bq).1.br+1,min 1048576 ((bF P r.right bq).1.rules+1),(bF P r.right bq).1.ax⟩
def oT (P:List bh) (i:Nat) (N:List bh) (r:aO):List bh :=
  if 0≤(bc N r.left.toNat).ba then N else if (bF P r.right bq).2=true then N.set r.left.toNat (ef P i r) else N
def lk (P:List bh):Nat→List bh→List aO→List bh
  | _,N,[]=>N
  | i,N,r :: l=>lk P (i+1) (oT P i N r) l
def xd (rules:List aO) (P:List bh):List bh:=lk P 0 P rules
def kO (P:List bh) (m:Nat):Nat→List aO→Option bh
  | _,[]=>none
  | i,r :: l=>if r.left.toNat=m∧(bF P r.right bq).2=true then some (ef P i r) else kO P m (i+1) l
theorem yz {N:List bh} {i m:Nat} {p:bh} (hm:m < N.length):bc (N.set i p) m=if i=m then p else bc N m:=by
  simp only[bc,List.getD_eq_getElem?_getD,List.getElem?_set]
  split
  · rename_i e; subst e; simp[hm]
  · rfl
theorem CU (P:List bh) (i:Nat) (N:List bh) (r:aO):(oT P i N r).length=N.length:=by
  unfold oT; split; · rfl
  split <;> simp
theorem Dt (P:List bh):∀ (l:List aO) (i:Nat) (N:List bh),(lk P i N l).length=N.length
  | [],_,_=>rfl
  | r :: l,i,N=>by rw[lk,Dt P l,CU]
theorem E0 (P:List bh) (m:Nat):∀ (l:List aO) (i:Nat) (N:List bh),m < N.length→bc (lk P i N l) m=if 0≤(bc N m).ba then bc N m else (kO P m i l).getD (bc N m)
  | [],i,N,hm=>by simp[lk,kO]
  | r :: l,i,N,hm=>by
    rw[lk,E0 P m l (i+1) _ (by rw[CU]; exact hm),kO]
    unfold oT
    by_cases h1:0≤(bc N r.left.toNat).ba
    · rw[if_pos h1]
      by_cases h2:r.left.toNat=m
      · subst h2
        rw[if_pos h1,if_pos h1]
      · rw[if_neg (c:=r.left.toNat=m∧_) (fun e=>h2 e.1)]
    · rw[if_neg h1]
      by_cases h3:(bF P r.right bq).2=true
      · rw[if_pos h3]
        by_cases h2:r.left.toNat=m
        · subst h2
          rw[yz hm,if_pos rfl,if_neg h1,if_pos (show (0:Int)≤(ef P i r).ba by simp only[ef]; omega),if_pos (c:=r.left.toNat=r.left.toNat∧_) (And.intro rfl h3)]
          rfl
        · rw[yz hm,if_neg h2,if_neg (c:=r.left.toNat=m∧_) (fun e=>h2 e.1)]
      · rw[if_neg h3,if_neg (c:=r.left.toNat=m∧_) (fun e=>h3 e.2)]
theorem gQ {P:List bh} {m:Nat} : ∀ {l:List aO} {i:Nat} {p:bh},kO P m i l=some p→∃ (j:Nat) (r:aO),l[j]?=some r∧r.left.toNat=m∧fF P r.right∧p=ef P (i+j) r∧∀ (j':Nat) (r':aO),j' < j→l[j']?=some r'→r'.left.toNat=m→¬ fF P r'.right
  | [],i,p,h=>by simp[kO] at h
  | r :: l,i,p,h=>by
    rw[kO] at h
    by_cases hc:r.left.toNat=m∧(bF P r.right bq).2=true
    · rw[if_pos hc] at h
      exact ⟨0,r,rfl,hc.1,(jc P _ _).1 hc.2,by simpa using h.symm,fun j' r' hj=>by omega⟩
    · rw[if_neg hc] at h
      obtain ⟨j,r2,a,b,c,d,e⟩:=gQ h
      refine ⟨j+1,r2,by simpa using a,b,c,by rw[d]; congr 1; omega,fun j' r' hj hr hl hk=>?_⟩
      cases j' with
      | zero =>
        simp at hr; subst hr
        exact hc ⟨hl,(jc P _ _).2 hk⟩
      | succ j'=>exact e j' r' (by omega) (by simpa using hr) hl hk
theorem xw {P:List bh} {m:Nat} : ∀ {l:List aO} {i:Nat},kO P m i l=none→∀ r∈l,r.left.toNat=m→¬ fF P r.right
  | [],i,h,r,hr,_,_=>by simp at hr
  | r :: l,i,h,r',hr,hl,hk=>by
    rw[kO] at h
    by_cases hc:r.left.toNat=m∧(bF P r.right bq).2=true
    · rw[if_pos hc] at h; simp at h
    · rw[if_neg hc] at h
      rcases List.mem_cons.1 hr with rfl | hr
      · exact hc ⟨hl,(jc P _ _).2 hk⟩
      · exact xw h r' hr hl hk
def aA (g:ao) (k:Nat):List bh:=iter (xd g.rules) k (List.replicate g.au.length gP)
theorem CL {α:Type} (f:α→α):∀ (k:Nat) (x:α),iter f (k+1) x=f (iter f k x)
  | 0,x=>rfl
  | k+1,x=>by rw[iter,CL f k,iter]
theorem me (g:ao) (k:Nat):aA g (k+1)=xd g.rules (aA g k):=CL _ _ _
theorem dF (g:ao):∀ k,(aA g k).length=g.au.length
  | 0=>by simp[aA,iter]
  | k+1=>by rw[me,xd,Dt,dF g k]
theorem uk {P:List bh} {m:Nat} (h:P.length≤m):bc P m=gP:=by simp[bc,List.getD_eq_getElem?_getD,List.getElem?_eq_none h]
theorem Fw {P:List bh} {m:Nat} (h:bf P m):m < P.length:=by
  rcases Nat.lt_or_ge m P.length with h1 | h1
  · exact h1
  · unfold bf at h; rw[uk h1] at h; simp[gP] at h
theorem nT (g:ao) (k m:Nat):bc (aA g (k+1)) m=if 0≤(bc (aA g k) m).ba then bc (aA g k) m else if m < g.au.length then (kO (aA g k) m 0 g.rules).getD (bc (aA g k) m) else bc (aA g k) m:=by
  by_cases hm:m < g.au.length
  · rw[me,xd,E0 _ _ _ _ _ (by rw[dF]; exact hm),if_pos hm]
  · rw[if_neg hm,uk (by rw[dF]; omega),uk (by rw[dF]; omega)]
    simp
theorem Av {g:ao} {k m:Nat} (h:bf (aA g k) m):bc (aA g (k+1)) m=bc (aA g k) m:=by
  rw[nT]; unfold bf at h; rw[if_pos h]
theorem y7 {g:ao} {k m:Nat} (h:bf (aA g k) m):∀ d,bc (aA g (k+d)) m=bc (aA g k) m
  | 0=>rfl
  | d+1=>by
    have ih:=y7 h d
    have:bf (aA g (k+d)) m:=by unfold bf at h ⊢; rw[ih]; exact h
    rw[← ih,← Av this]; rfl
theorem eZ {g:ao} {k m j:Nat} (h:bf (aA g k) m) (hj:k≤j):bc (aA g j) m=bc (aA g k) m∧bf (aA g j) m:=by
  obtain ⟨d,rfl⟩:∃ d,j=k+d:=⟨j - k,by omega⟩
  have:=y7 h d
  exact ⟨this,by unfold bf at h ⊢; rw[this]; exact h⟩
theorem sD {g:ao} {k m:Nat} (h0:¬ bf (aA g k) m) (h:bf (aA g (k+1)) m):kO (aA g k) m 0 g.rules=some (bc (aA g (k+1)) m):=by
  unfold bf at h h0
  rw[nT,if_neg h0] at h
  rw[nT,if_neg h0]
  split at h
  · rename_i hm
    rw[if_pos hm]
    cases hc:kO (aA g k) m 0 g.rules with
    | none=>rw[hc] at h; exact absurd h h0
    | some p=>rfl
  · exact absurd h h0
theorem gR {g:ao} {m:Nat} : ∀ {k:Nat},¬ bf (aA g k) m→bc (aA g k) m=gP
  | 0,_=>by
    simp only[aA,iter,bc,List.getD_eq_getElem?_getD,List.getElem?_replicate]
    split <;> rfl
  | k+1,h=>by
    have h0:¬ bf (aA g k) m:=fun e=>h (eZ e (by omega)).2
    unfold bf at h h0
    rw[nT,if_neg h0] at h ⊢
    split
    · rename_i hm
      rw[if_pos hm] at h
      cases hc:kO (aA g k) m 0 g.rules with
      | none=>exact gR (k:=k) h0
      | some p =>
        rw[hc] at h
        obtain ⟨j,r,_,_,_,rfl,_⟩:=gQ hc
        simp only[Option.getD_some,ef] at h; omega
    · exact gR (k:=k) h0
theorem dG (g:ao):∀ k:Nat,∀ m,bf (aA g k) m→1≤(bc (aA g k) m).br∧(bc (aA g k) m).br≤k∧∀ j:Nat,j≤k→(bc (aA g k) m).br≤j→bf (aA g j) m
  | 0,m,h=>by
    unfold bf at h
    have:bc (aA g 0) m=gP:=by
      simp only[aA,iter,bc,List.getD_eq_getElem?_getD,List.getElem?_replicate]
      split <;> rfl
    rw[this] at h; simp[gP] at h
  | k+1,m,h=>by
    have ih:=dG g k
    by_cases h0:bf (aA g k) m
    · obtain ⟨a,b,c⟩:=ih m h0
      rw[(eZ h0 (Nat.le_succ k)).1]
      refine ⟨a,by push_cast; omega,fun j hj hh=>?_⟩
      rcases Nat.lt_or_ge k j with e | e
      · exact (eZ h0 (by omega)).2
      · exact c j e hh
    · have hc:=sD h0 h
      obtain ⟨i,r,hr,hl,hk,hp,_⟩:=gQ hc
      have hh:(bc (aA g (k+1)) m).br=(bF (aA g k) r.right bq).1.br+1:=by rw[hp]; rfl
      have h1:=pD (aA g k) r.right bq
      have h2:=(fZ (aA g k) k r.right bq hk).2 ⟨by simp[bq],fun x hx hn=>(ih _ (hk x hx hn)).2.1⟩
      have h3:¬ (bF (aA g k) r.right bq).1.br≤(k:Int) - 1:=by
        intro hle
        have hz:(0:Int)≤(bF (aA g k) r.right bq).1.br:=h1
        obtain ⟨d,rfl⟩:∃ d,k=d+1:=⟨k - 1,by omega⟩
        have h4:=((fZ (aA g (d+1)) _ r.right bq hk).1 hle).2
        have h5:fF (aA g d) r.right:=fun x hx hn=>(ih _ (hk x hx hn)).2.2 d (by omega) (by have:=h4 x hx hn; push_cast at this; omega)
        apply h0
        by_cases h6:bf (aA g d) m
        · exact (eZ h6 (by omega)).2
        · unfold bf at h6 ⊢
          have hm:=Fw h
          rw[dF] at hm
          rw[nT,if_neg h6,if_pos hm]
          cases hc2:kO (aA g d) m 0 g.rules with
          | none=>exact absurd h5 (xw hc2 r (List.mem_of_getElem? hr) hl)
          | some p =>
            obtain ⟨j,r2,_,_,_,rfl,_⟩:=gQ hc2
            simp only[Option.getD_some,ef]; omega
      have hz:(0:Int)≤(bF (aA g k) r.right bq).1.br:=h1
      refine ⟨by omega,by push_cast; omega,fun j hj hle=>?_⟩
      have:j=k+1:=by omega
      subst this; exact h
theorem vr {g:ao} {m:Nat} : ∀ {k:Nat},bf (aA g k) m→∃ j,j < k∧¬ bf (aA g j) m∧(bc (aA g k) m).br=j+1∧kO (aA g j) m 0 g.rules=some (bc (aA g k) m)
  | 0,h=>by
    have:=(dG g 0 m h)
    simp at this; omega
  | k+1,h=>by
    by_cases h0:bf (aA g k) m
    · obtain ⟨j,a,b,c,d⟩:=vr h0
      rw[(eZ h0 (Nat.le_succ k)).1]
      exact ⟨j,by omega,b,c,d⟩
    · refine ⟨k,by omega,h0,?_,sD h0 h⟩
      obtain ⟨a,b,c⟩:=dG g (k+1) m h
      rcases Int.lt_or_le (k:Int) (bc (aA g (k+1)) m).br with e | e
      · push_cast at b; omega
      · exact absurd (c k (by omega) e) h0
def q9 (P:List bh):List Bool:=P.map fun p=>decide (0≤p.ba)
theorem Bn (P:List bh) (m:Nat):(q9 P).getD m false=true↔bf P m:=by
  simp only[q9,bf,bc,List.getD_eq_getElem?_getD,List.getElem?_map]
  cases P[m]? with
  | none=>simp[gP]
  | some p=>simp
theorem Pv (g:ao) (k:Nat):fC (q9 (aA g k)) (q9 (aA g (k+1))) :=
  ⟨by simp[q9,dF],fun i h=>(Bn _ _).2 (eZ ((Bn _ _).1 h) (by omega)).2⟩
theorem Pl {g:ao} {k:Nat} (h:q9 (aA g k)=q9 (aA g (k+1))):aA g (k+1)=aA g k:=by
  have hp:∀ m,bc (aA g (k+1)) m=bc (aA g k) m:=fun m=>by
    by_cases h0:bf (aA g k) m
    · exact Av h0
    · have h1:¬ bf (aA g (k+1)) m:=fun e=>h0 ((Bn _ _).1 (by rw[h]; exact (Bn _ _).2 e))
      rw[gR h0,gR h1]
  apply List.ext_getElem (by rw[dF,dF])
  intro m h1 h2
  have:=hp m
  simpa [bc,List.getD_eq_getElem?_getD,h1,h2] using this
theorem Ir {g:ao} {k:Nat} (hk:k≤de (q9 (aA g k))):aA g (k+1)=aA g k∨k+1≤de (q9 (aA g (k+1))):=by
  have:=(Pv g k).de
  by_cases e:de (q9 (aA g k))=de (q9 (aA g (k+1)))
  · exact .inl (Pl (this.2 e))
  · exact .inr (by omega)
theorem Gh (g:ao) (k:Nat):de (q9 (aA g k))≤g.au.length:=by
  have:=vD (q9 (aA g k))
  simpa [q9,dF] using this
theorem Au {g:ao} {k:Nat} (h:aA g (k+1)=aA g k):∀ d,aA g (k+d)=aA g k
  | 0=>rfl
  | d+1=>by
    have ih:=Au h d
    rw[← Nat.add_assoc,me,ih,← me,h]
def av (g:ao):List bh:=aA g g.au.length
theorem eF (g:ao):(av g).length=g.au.length:=dF _ _
theorem M9 {g:ao} {k:Nat} (hk:k≤g.au.length) (h:aA g (k+1)=aA g k):aA g k=av g:=by
  obtain ⟨d,hd⟩:∃ d,g.au.length=k+d:=⟨g.au.length - k,by omega⟩
  rw[av,hd,Au h d]
theorem gV {g:ao} {m:Nat} (h:bf (av g) m):1≤(bc (av g) m).br∧(bc (av g) m).br≤g.au.length:=⟨(dG g _ m h).1,(dG g _ m h).2.1⟩
theorem vJ {g:ao} {m:Nat} (h:¬ bf (av g) m):bc (av g) m=gP:=gR h
theorem kZ {g:ao} {m:Nat} (h:bf (av g) m):∃ (i:Nat) (r:aO),g.rules[i]?=some r∧r.left.toNat=m∧fF (av g) r.right∧bc (av g) m=ef (av g) i r ∧
    ∀ (j:Nat) (r':aO),j < i→g.rules[j]?=some r'→r'.left.toNat=m→fF (av g) r'.right→(bF (av g) r'.right bq).1.br+1≠(bc (av g) m).br:=by
  obtain ⟨k,hk,hn,hh,hc⟩:=vr h
  obtain ⟨i,r,hr,hl,ha,hp,hmin⟩:=gQ hc
  have hsame:∀ x∈r.right,x < 0→bc (aA g k) (bG x)=bc (av g) (bG x):=fun x hx hn=>((eZ (ha x hx hn) (by omega)).1).symm
  have hs:bF (aA g k) r.right bq=bF (av g) r.right bq:=Ba _ _ hsame
  refine ⟨i,r,hr,hl,fun x hx hn=>(eZ (ha x hx hn) (by omega)).2,?_,fun j r' hj hr' hl' ha' he=>?_⟩
  · show bc (aA g g.au.length) m=_
    rw[hp]; unfold ef; rw[hs,Nat.zero_add]
  · have h1:(bc (av g) m).br=k+1:=hh
    refine hmin j r' hj hr' hl' fun x hx hn=>?_
    have h2:=((fZ (av g) k r'.right bq ha').1 (by omega)).2 x hx hn
    exact (dG g _ _ (ha' x hx hn)).2.2 k (by omega) h2
end Gv
set_option linter.unusedSimpArgs false
namespace Gv
open Go Go.Proofs
def ey (h:List Int) (m:Nat):Int:=h.getD m 0
def ej (h:List Int):List Int→Int→Int
  | [],top=>top+1
  | x :: l,top=>if 0≤x then ej h l top else if ey h (bG x)=0 then 0 else ej h l (max top (ey h (bG x)))
def iS (old:List Int) (k:Int) (out:List Int) (r:aO):List Int:=if ey out r.left.toNat=0∧ej old r.right 0=k then out.set r.left.toNat k else out
abbrev dX (P:List bh):List Int:=P.map bh.br
theorem kp (P:List bh) (m:Nat):ey (dX P) m=(bc P m).br:=by
  simp only[ey,bc,List.getD_eq_getElem?_getD,List.getElem?_map]
  cases P[m]? <;> rfl
def yI (P:List bh):Prop:=∀ m,(bf P m→1≤(bc P m).br)∧(¬ bf P m→bc P m=gP)
theorem Aq (g:ao) (k:Nat):yI (aA g k):=fun m=>⟨fun h=>(dG g k m h).1,gR⟩
theorem yI.zero {P:List bh} (h:yI P) (m:Nat):ey (dX P) m=0↔¬ bf P m:=by
  rw[kp]
  constructor
  · intro e k; have:=(h m).1 k; omega
  · intro k; rw[(h m).2 k]; rfl
theorem xI {P:List bh} {x:Int} {l:List Int} {s:bh} (h:0≤x):bF P (x :: l) s=bF P l ⟨s.ba,s.br,s.rules,min 1048576 (s.ax+1)⟩:=by rw[bF,if_pos h]
theorem vZ {P:List bh} {x:Int} {l:List Int} {s:bh} (h:¬ 0≤x) (hk:¬ (bc P (bG x)).ba < 0):bF P (x :: l) s=bF P l ⟨s.ba,max s.br (bc P (bG x)).br,min 1048576 (s.rules+(bc P (bG x)).rules),min 1048576 (s.ax+(bc P (bG x)).ax)⟩:=by rw[bF,if_neg h,if_neg hk]
theorem CQ {P:List bh} {x:Int} {l:List Int} {s:bh} (h:¬ 0≤x) (hk:(bc P (bG x)).ba < 0):bF P (x :: l) s=(s,false):=by rw[bF,if_neg h,if_pos hk]
theorem xu {P:List bh} (hP:yI P):∀ (l:List Int) (s:bh),ej (dX P) l s.br=if (bF P l s).2=true then (bF P l s).1.br+1 else 0
  | [],s=>by simp[ej,bF]
  | x :: l,s=>by
    simp only[ej]
    by_cases h0:0≤x
    · rw[if_pos h0,xI h0,← xu hP l]
    · rw[if_neg h0]
      by_cases h1:bf P (bG x)
      · have h2:=h1
        unfold bf at h2
        rw[if_neg (fun e=>((hP.zero _).1 e) h1),vZ h0 (by omega),← xu hP l,kp]
      · have h2:=h1
        unfold bf at h2
        rw[if_pos ((hP.zero _).2 h1),CQ h0 (by omega)]
        rfl
theorem pI {P:List bh} (hP:yI P) (l:List Int):(ej (dX P) l 0=0↔¬ fF P l)∧(fF P l→ej (dX P) l 0=(bF P l bq).1.br+1):=by
  have h:=xu hP l bq
  have h1:=pD P l bq
  have h2:(0:Int)≤(bF P l bq).1.br:=h1
  have h3:ej (dX P) l 0=_:=h
  rw[h3]
  by_cases hk:fF P l
  · have:=(jc P l bq).2 hk
    rw[if_pos this]
    exact ⟨⟨fun e=>by omega,fun e=>absurd hk e⟩,fun _=>rfl⟩
  · have:=fun e=>hk ((jc P l bq).1 e)
    rw[if_neg this]
    exact ⟨⟨fun _=>hk,fun _=>rfl⟩,fun e=>absurd e hk⟩
theorem OK {out:List Int} {i m:Nat} {v:Int} (hm:m < out.length):ey (out.set i v) m=if i=m then v else ey out m:=by
  simp only[ey,List.getD_eq_getElem?_getD,List.getElem?_set]
  split
  · rename_i e; subst e; simp[hm]
  · rfl
theorem Ak (old:List Int) (k:Int) (out:List Int) (r:aO):(iS old k out r).length=out.length:=by
  unfold iS; split <;> simp
theorem AW (old:List Int) (k:Int):∀ (l:List aO) (out:List Int),(l.foldl (iS old k) out).length=out.length
  | [],_=>rfl
  | r :: l,out=>by rw[List.foldl_cons,AW old k l,Ak]
theorem Dq (old:List Int) (k:Int) (m:Nat) (hk:k≠0):∀ (l:List aO) (out:List Int),m < out.length →
    (ey out m≠0→ey (l.foldl (iS old k) out) m=ey out m) ∧
    (ey out m=0→(∃ r∈l,r.left.toNat=m∧ej old r.right 0=k)→ey (l.foldl (iS old k) out) m=k) ∧
    (ey out m=0→(¬ ∃ r∈l,r.left.toNat=m∧ej old r.right 0=k)→ey (l.foldl (iS old k) out) m=0)
  | [],out,hm=>⟨fun _=>rfl,fun _ ⟨r,hr,_⟩=>by simp at hr,fun h _=>h⟩
  | r :: l,out,hm=>by
    obtain ⟨i1,i2,i3⟩:=Dq old k m hk l (iS old k out r) (by rw[Ak]; exact hm)
    rw[List.foldl_cons]
    unfold iS at i1 i2 i3 ⊢
    by_cases hc:ey out r.left.toNat=0∧ej old r.right 0=k
    · rw[if_pos hc] at i1 i2 i3 ⊢
      rw[OK hm] at i1 i2 i3
      by_cases e:r.left.toNat=m
      · rw[if_pos e] at i1 i2 i3
        refine ⟨fun h=>absurd (e ▸ hc.1) h,fun _ _=>i1 hk,fun _ h=>absurd ⟨r,by simp,e,hc.2⟩ h⟩
      · rw[if_neg e] at i1 i2 i3
        refine ⟨i1,fun h ⟨r',hr',h1,h2⟩=>?_,fun h h1=>i3 h fun ⟨r',hr',h2⟩=>h1 ⟨r',by simp[hr'],h2⟩⟩
        rcases List.mem_cons.1 hr' with rfl | hr'
        · exact absurd h1 e
        · exact i2 h ⟨r',hr',h1,h2⟩
    · rw[if_neg hc] at i1 i2 i3 ⊢
      refine ⟨i1,fun h ⟨r',hr',h1,h2⟩=>?_,fun h h1=>i3 h fun ⟨r',hr',h2⟩=>h1 ⟨r',by simp[hr'],h2⟩⟩
      rcases List.mem_cons.1 hr' with rfl | hr'
      · exact absurd ⟨h1 ▸ h,h2⟩ hc
      · exact i2 h ⟨r',hr',h1,h2⟩
theorem OL (g:ao) (k:Nat):g.rules.foldl (iS (dX (aA g k)) ((k:Int)+1)) (dX (aA g k))=dX (aA g (k+1)):=by
  apply List.ext_getElem (by rw[AW]; simp[dF])
  intro m h1 h2
  have hm:m < g.au.length:=by simpa [dF] using h2
  have hg:∀ {l:List Int} (h:m < l.length),l[m]=ey l m:=fun h=>by simp[ey,List.getD_eq_getElem?_getD,h]
  rw[hg h1,hg h2,kp]
  obtain ⟨i1,i2,i3⟩:=Dq (dX (aA g k)) ((k:Int)+1) m (by omega) g.rules (dX (aA g k)) (by simp[dF,hm])
  have hs:=Aq g k
  by_cases h0:bf (aA g k) m
  · rw[i1 (fun e=>(hs.zero m).1 e h0),kp,(eZ h0 (Nat.le_succ k)).1]
  · have hz:=(hs.zero m).2 h0
    by_cases hn:bf (aA g (k+1)) m
    · obtain ⟨i,r,hr,hl,ha,hp,_⟩:=gQ (sD h0 hn)
      obtain ⟨a,b,c⟩:=dG g (k+1) m hn
      have he:(bc (aA g (k+1)) m).br=k+1:=by
        rcases Int.lt_or_le (k:Int) (bc (aA g (k+1)) m).br with e | e
        · push_cast at b; omega
        · exact absurd (c k (by omega) e) h0
      rw[he]
      refine i2 hz ⟨r,List.mem_of_getElem? hr,hl,?_⟩
      rw[(pI hs r.right).2 ha,← he,hp]; rfl
    · rw[gR hn]
      refine i3 hz fun ⟨r,hr,hl,he⟩=>?_
      have ha:fF (aA g k) r.right:=by
        rcases Classical.em (fF (aA g k) r.right) with h | h
        · exact h
        · have:=(pI hs r.right).1.2 h; omega
      unfold bf at h0 hn
      rw[nT,if_neg h0,if_pos hm] at hn
      cases hc:kO (aA g k) m 0 g.rules with
      | none=>exact xw hc r hr hl ha
      | some p =>
        rw[hc] at hn
        obtain ⟨j,r2,_,_,_,rfl,_⟩:=gQ hc
        simp only[Option.getD_some,ef] at hn; omega
def ju (h:List Int) (m:Nat):List aO→Int→Int
  | [],_=>(-1)
  | r :: l,i=>if r.left=(m:Int)∧0 < ey h m∧ej h r.right 0=ey h m then i else ju h m l (i+1)
theorem Aw {h:List Int} {m:Nat} : ∀ {l:List aO} {i:Int},(∀ r∈l,¬ (r.left=(m:Int)∧0 < ey h m∧ej h r.right 0=ey h m))→ju h m l i=(-1)
  | [],_,_=>rfl
  | r :: l,i,hn=>by rw[ju,if_neg (hn r (by simp)),Aw fun r hr=>hn r (by simp[hr])]
theorem AK {h:List Int} {m:Nat} : ∀ {l:List aO} {i:Int} {j:Nat} {r:aO},l[j]?=some r→(r.left=(m:Int)∧0 < ey h m∧ej h r.right 0=ey h m) →
    (∀ (j':Nat) (r':aO),j' < j→l[j']?=some r'→¬ (r'.left=(m:Int)∧0 < ey h m∧ej h r'.right 0=ey h m))→ju h m l i=i+j
  | [],_,_,_,hr,_,_=>by simp at hr
  | r0 :: l,i,0,r,hr,hc,_=>by
    simp at hr; subst hr
    rw[ju,if_pos hc]; simp
  | r0 :: l,i,j+1,r,hr,hc,hn=>by
    rw[ju,if_neg (hn 0 r0 (by omega) rfl),AK (l:=l) (i:=i+1) (by simpa using hr) hc fun j' r' hj hr'=>hn (j'+1) r' (by omega) (by simpa using hr')]
    push_cast; omega
theorem Ju {g:ao} (hf:∀ r∈g.rules,0≤r.left) (m:Nat):ju (dX (av g)) m g.rules 0=(bc (av g) m).ba:=by
  have hs:yI (av g):=Aq g _
  by_cases h:bf (av g) m
  · obtain ⟨i,r,hr,hl,ha,hp,hmin⟩:=kZ h
    have h0:=hf r (List.mem_of_getElem? hr)
    have hh:ej (dX (av g)) r.right 0=ey (dX (av g)) m:=by
      rw[(pI hs _).2 ha,kp,hp]; rfl
    have hpos:0 < ey (dX (av g)) m:=by rw[kp]; have:=(gV h).1; omega
    have:=AK (h:=dX (av g)) (m:=m) (i:=0) hr ⟨by omega,hpos,hh⟩ fun j r' hj hr' hc=>by
      have ha':fF (av g) r'.right:=by
        rcases Classical.em (fF (av g) r'.right) with h | h
        · exact h
        · have:=(pI hs r'.right).1.2 h; omega
      have hc2:=hc.2.2
      rw[(pI hs _).2 ha',kp] at hc2
      exact hmin j r' hj hr' (by omega) ha' hc2
    rw[this,hp]; simp[ef]
  · rw[vJ h]
    refine Aw fun r hr hc=>?_
    have:=(hs.zero m).2 h
    omega
def na (a b:Int × Int):Int × Int:=(min 1000 (a.1+b.1),min 1000 (a.2+b.2))
def iW (S:List (Int × Int)) (m:Nat):Int × Int:=S.getD m (0,0)
def ld (S:List (Int × Int)):List Int→Int × Int→Int × Int
  | [],s=>s
  | x :: l,s=>ld S l (na s (if 0≤x then (0,1) else iW S (bG x)))
def jP (p:bh):Int × Int:=(min 1000 p.rules,min 1000 p.ax)
def c9 (p:bh):Prop:=(0≤p.rules∧p.rules≤1048576)∧(0≤p.ax∧p.ax≤1048576)
theorem oI {P:List bh} (hP:∀ m,c9 (bc P m)):∀ (l:List Int) (s:bh),c9 s→c9 (bF P l s).1
  | [],s,h=>h
  | x :: l,s,h=>by
    have hx:=hP (bG x)
    unfold c9 at h hx
    simp only[bF]
    split
    · exact oI hP l _ (by unfold c9; simp only; omega)
    · split
      · exact h
      · exact oI hP l _ (by unfold c9; simp only; omega)
theorem j3:c9 bq:=by unfold c9; simp[bq]
theorem Le:c9 gP:=by unfold c9; simp[gP]
theorem fY (g:ao):∀ k m,c9 (bc (aA g k) m)
  | 0,m=>by
    have:bc (aA g 0) m=gP:=by
      simp only[aA,iter,bc,List.getD_eq_getElem?_getD,List.getElem?_replicate]
      split <;> rfl
    rw[this]; exact Le
  | k+1,m=>by
    by_cases h:bf (aA g (k+1)) m
    · by_cases h0:bf (aA g k) m
      · rw[(eZ h0 (Nat.le_succ k)).1]; exact fY g k m
      · obtain ⟨i,r,_,_,_,hp,_⟩:=gQ (sD h0 h)
        rw[hp]
        have:=oI (fY g k) r.right bq j3
        unfold c9 at this ⊢
        simp only[ef]; omega
    · rw[gR h]; exact Le
theorem zI {P:List bh} {S:List (Int × Int)} (hP:∀ m,c9 (bc P m)):∀ (l:List Int) (s:bh) (t:Int × Int),c9 s→fF P l→(∀ x∈l,x < 0→iW S (bG x)=jP (bc P (bG x)))→t=jP s→ld S l t=jP (bF P l s).1
  | [],s,t,_,_,_,ht=>ht
  | x :: l,s,t,hs,ha,hS,ht=>by
    have hx:=hP (bG x)
    unfold c9 at hs hx
    have ha':fF P l:=fun y hy=>ha y (by simp[hy])
    have hS':=fun y (hy:y∈l)=>hS y (by simp[hy])
    simp only[ld,bF]
    by_cases h0:0≤x
    · rw[if_pos h0,if_pos h0]
      refine zI hP l _ _ (by unfold c9; simp only; omega) ha' hS' ?_
      subst ht
      simp only[na,jP,Prod.mk.injEq]; omega
    · have hk:=ha x (by simp) (by omega)
      unfold bf at hk
      rw[if_neg h0,if_neg h0,if_neg (by omega),hS x (by simp) (by omega)]
      refine zI hP l _ _ (by unfold c9; simp only; omega) ha' hS' ?_
      subst ht
      simp only[na,jP,Prod.mk.injEq]; omega
theorem JB {g:ao} {S:List (Int × Int)} {m:Nat} (h:bf (av g) m) {i:Nat} {r:aO} (hr:g.rules[i]?=some r) (hi:(bc (av g) m).ba=i)
    (hS:∀ k,(bc (av g) k).br < (bc (av g) m).br→bf (av g) k→iW S k=jP (bc (av g) k)):na (1,0) (ld S r.right (0,0))=jP (bc (av g) m):=by
  obtain ⟨i',r',hr',hl,ha,hp,_⟩:=kZ h
  have:i'=i:=by rw[hp] at hi; simp only[ef] at hi; omega
  subst this
  rw[hr] at hr'; simp at hr'; subst hr'
  have hh:(bc (av g) m).br=(bF (av g) r.right bq).1.br+1:=by rw[hp]; rfl
  have h1:=((fZ (av g) ((bc (av g) m).br - 1) r.right bq ha).1 (by omega)).2
  rw[zI (P:=av g) (fun m=>fY g _ m) r.right bq (0,0) j3 ha (fun x hx hn=>hS _ (by have:=h1 x hx hn; omega) (ha x hx hn)) rfl]
  have:=oI (fY g g.au.length) r.right bq j3
  have h2:c9 (bF (av g) r.right bq).1:=this
  unfold c9 at h2
  rw[hp]
  simp only[na,jP,ef,Prod.mk.injEq]; omega
def ql (g:ao) (i:Int):List Int:=(g.rules.getD i.toNat ⟨0,[],0⟩).right
def dD (g:ao) (P:List bh):Nat→List Int→List Int
  | 0,l=>l.flatMap fun x=>if 0≤x then [x] else []
  | f+1,l=>l.flatMap fun x=>if 0≤x then [x] else dD g P f (ql g (bc P (bG x)).ba)
def cB (g:ao) (P:List bh):Nat→List Int→List Int
  | 0,_=>[]
  | f+1,l=>l.flatMap fun x=>if 0≤x then [] else (bc P (bG x)).ba :: cB g P f (ql g (bc P (bG x)).ba)
def xV (P:List bh) (f:Nat) (l:List Int):Prop:=∀ x∈l,x < 0→bf P (bG x)∧(bc P (bG x)).br≤f
theorem pL (g:ao) (P:List bh) (f:Nat):dD g P f []=[]:=by cases f <;> rfl
theorem pO (g:ao) (P:List bh) (f:Nat):cB g P f []=[]:=by cases f <;> rfl
theorem iD (g:ao) (P:List bh) (f:Nat) (a b:List Int):dD g P f (a ++ b)=dD g P f a ++ dD g P f b:=by cases f <;> simp[dD]
theorem fu (g:ao) (P:List bh) (f:Nat) (a b:List Int):cB g P f (a ++ b)=cB g P f a ++ cB g P f b:=by cases f <;> simp[cB]
theorem ko {g:ao} {P:List bh} {f:Nat} {x:Int} (h:0≤x):dD g P f [x]=[x]:=by cases f <;> simp[dD,h]
theorem kr {g:ao} {P:List bh} {f:Nat} {x:Int} (h:0≤x):cB g P f [x]=[]:=by cases f <;> simp[cB,h]
theorem lW {g:ao} {P:List bh} {f:Nat} {x:Int} (h:x < 0):dD g P (f+1) [x]=dD g P f (ql g (bc P (bG x)).ba):=by
  simp[dD,show ¬ 0≤x by omega]
theorem gG {g:ao} {P:List bh} {f:Nat} {x:Int} (h:x < 0):cB g P (f+1) [x]=(bc P (bG x)).ba :: cB g P f (ql g (bc P (bG x)).ba):=by
  simp[cB,show ¬ 0≤x by omega]
theorem ua {g:ao} {l:List Int} (h:xV (av g) 0 l):∀ x∈l,0≤x:=fun x hx=>by
  rcases Int.lt_or_le x 0 with h1 | h1
  · obtain ⟨a,b⟩:=h x hx h1
    have:=(gV a).1
    simp at b; omega
  · exact h1
theorem ov {g:ao} {f:Nat} {m:Nat} (h:bf (av g) m) (hh:(bc (av g) m).br≤(f:Int)+1):∃ (i:Nat) (r:aO),(bc (av g) m).ba=i∧g.rules[i]?=some r∧ql g (bc (av g) m).ba=r.right∧xV (av g) f r.right∧bc (av g) m=ef (av g) i r:=by
  obtain ⟨i,r,hr,hl,ha,hp,_⟩:=kZ h
  have hi:(bc (av g) m).ba=i:=by rw[hp]; rfl
  have h2:(bc (av g) m).br=(bF (av g) r.right bq).1.br+1:=by rw[hp]; rfl
  have h1:=((fZ (av g) f r.right bq ha).1 (by omega)).2
  refine ⟨i,r,hi,hr,?_,fun x hx hn=>⟨ha x hx hn,h1 x hx hn⟩,hp⟩
  rw[hi]; simp[ql,List.getD_eq_getElem?_getD,hr]
theorem kc {g:ao} {f:Nat} (hc:∀ x,x < 0→bf (av g) (bG x)→(bc (av g) (bG x)).br≤f→(bc (av g) (bG x)).rules=min 1048576 ((cB g (av g) f [x]).length:Int)∧(bc (av g) (bG x)).ax=min 1048576 ((dD g (av g) f [x]).length:Int)) :
    ∀ (l:List Int) (s:bh),xV (av g) f l→c9 s→(bF (av g) l s).1.rules=min 1048576 (s.rules+(cB g (av g) f l).length)∧(bF (av g) l s).1.ax=min 1048576 (s.ax+(dD g (av g) f l).length)
  | [],s,_,hs=>by
    unfold c9 at hs
    rw[pL,pO]
    simp only[bF,List.length_nil]; omega
  | x :: l,s,hu,hs=>by
    have hu':xV (av g) f l:=fun y hy=>hu y (by simp[hy])
    have e1:=iD g (av g) f [x] l
    have e2:=fu g (av g) f [x] l
    rw[List.singleton_append] at e1 e2
    rw[e1,e2,List.length_append,List.length_append]
    have hx:c9 (bc (av g) (bG x)):=fY g g.au.length (bG x)
    unfold c9 at hs hx
    by_cases h0:0≤x
    · obtain ⟨i1,i2⟩:=kc hc l ⟨s.ba,s.br,s.rules,min 1048576 (s.ax+1)⟩ hu' (by unfold c9; simp only; omega)
      rw[xI h0,i1,i2,ko h0,kr h0]
      simp only[List.length_cons,List.length_nil]
      omega
    · obtain ⟨hk,hh⟩:=hu x (by simp) (by omega)
      obtain ⟨k1,k2⟩:=hc x (by omega) hk hh
      obtain ⟨i1,i2⟩:=kc hc l ⟨s.ba,max s.br (bc (av g) (bG x)).br,min 1048576 (s.rules+(bc (av g) (bG x)).rules),min 1048576 (s.ax+(bc (av g) (bG x)).ax)⟩ hu' (by unfold c9; simp only; omega)
      unfold bf at hk
      rw[vZ h0 (by omega),i1,i2,k1,k2]
      push_cast
      omega
theorem x7 (g:ao):∀ (f:Nat) (l:List Int) (s:bh),xV (av g) f l→c9 s →
    (bF (av g) l s).1.rules=min 1048576 (s.rules+(cB g (av g) f l).length)∧(bF (av g) l s).1.ax=min 1048576 (s.ax+(dD g (av g) f l).length)
  | 0,l,s,hu,hs=>kc (fun x hx hk hh=>by have:=(gV hk).1; simp only[Int.natCast_zero] at hh; omega) l s hu hs
  | f+1,l,s,hu,hs=>kc (fun x hx hk hh=>by
      obtain ⟨i,r,hi,hr,hra,hur,hp⟩:=ov (f:=f) hk (by push_cast at hh; exact hh)
      obtain ⟨j1,j2⟩:=x7 g f r.right bq hur j3
      have k1:(bc (av g) (bG x)).rules=min 1048576 ((bF (av g) r.right bq).1.rules+1):=by rw[hp]; rfl
      have k2:(bc (av g) (bG x)).ax=(bF (av g) r.right bq).1.ax:=by rw[hp]; rfl
      rw[lW hx,gG hx,hra,k1,k2,j1,j2]
      simp only[List.length_cons,bq]
      push_cast
      omega) l s hu hs
theorem ow {g:ao} {f:Nat} (hc:∀ x,x < 0→(dD g (av g) f [x]).length≤6 * (cB g (av g) f [x]).length):∀ (l:List Int),(dD g (av g) f l).length≤l.length+6 * (cB g (av g) f l).length
  | []=>by rw[pL]; simp
  | x :: l=>by
    have e1:=iD g (av g) f [x] l
    have e2:=fu g (av g) f [x] l
    rw[List.singleton_append] at e1 e2
    rw[e1,e2,List.length_append,List.length_append]
    have ih:=ow hc l
    by_cases h0:0≤x
    · rw[ko h0,kr h0]
      simp only[List.length_cons,List.length_nil]; omega
    · have:=hc x (by omega)
      simp only[List.length_cons]; omega
theorem OC {g:ao} (hg:∀ r∈g.rules,r.right.length≤6) (i:Int):(ql g i).length≤6:=by
  simp only[ql,List.getD_eq_getElem?_getD]
  cases hr:g.rules[i.toNat]? with
  | none=>simp
  | some r=>simpa using hg r (List.mem_of_getElem? hr)
theorem Dj {g:ao} (hg:∀ r∈g.rules,r.right.length≤6):∀ (f:Nat) (l:List Int),(dD g (av g) f l).length≤l.length+6 * (cB g (av g) f l).length
  | 0,l=>ow (fun x hx=>by simp[dD,show ¬ 0≤x by omega]) l
  | f+1,l=>ow (fun x hx=>by
      have i2:=Dj hg f (ql g (bc (av g) (bG x)).ba)
      have:=OC hg (bc (av g) (bG x)).ba
      rw[lW hx,gG hx]
      simp only[List.length_cons]; omega) l
def fb (g:ao) (n:Int):List Int × Int :=
  if (bo g && decide (0≤n) && decide (n < g.au.length))=true then
    (if (bc (av g) n.toNat).ba < 0 then ([],9) else if 300 < (bc (av g) n.toNat).rules then ([],13) else (cB g (av g) g.au.length [-1 - n],0))
  else ([],1)
end Gv
set_option linter.unusedSimpArgs false
namespace Gv
open Go Go.Proofs
def pA (p:List Int) (i:Nat) (s:Int):Prop:=∃ c,p[i]?=some c∧(c=s∨c = -1)
inductive Sp (g:ao) (p:List Int):List Int→Nat→Nat→Prop
  | nil (i:Nat):Sp g p [] i i
  | term (s:Int) (l:List Int) (i j:Nat):0≤s→pA p i s→Sp g p l (i+1) j→Sp g p (s :: l) i j
  | bY (s:Int) (l:List Int) (R:aO) (i k j:Nat):s < 0→R∈g.rules→R.left = -1 - s→Sp g p R.right i k→Sp g p l k j→Sp g p (s :: l) i j
theorem Sp.le {g:ao} {p:List Int} {l:List Int} {i j:Nat} (h:Sp g p l i j):i≤j:=by
  induction h with
  | nil=>exact Nat.le_refl _
  | term _ _ _ _ _ _ _ ih=>omega
  | bY _ _ _ _ _ _ _ _ _ _ _ ih1 ih2=>omega
theorem Sp.len {g:ao} {p:List Int} {l:List Int} {i j:Nat} (h:Sp g p l i j):i≤p.length→j≤p.length:=by
  induction h with
  | nil=>exact id
  | term _ _ i _ _ hf _ ih =>
    intro _
    obtain ⟨c,hc,_⟩:=hf
    have:=(List.getElem?_eq_some_iff.1 hc).1
    exact ih (by omega)
  | bY _ _ _ _ _ _ _ _ _ _ _ ih1 ih2=>exact fun h=>ih2 (ih1 h)
theorem Sp.app {g:ao} {p:List Int} {a:List Int} {i k:Nat} (h:Sp g p a i k):∀ {b:List Int} {j:Nat},Sp g p b k j→Sp g p (a ++ b) i j:=by
  induction h with
  | nil=>exact fun h=>h
  | term s l i _ h0 hf _ ih=>exact fun hb=>.term s _ i _ h0 hf (ih hb)
  | bY s l R i k _ h0 hR hl h1 _ _ ih2=>exact fun hb=>.bY s _ R i k _ h0 hR hl h1 (ih2 hb)
theorem Sp.split {g:ao} {p:List Int} : ∀ {a b:List Int} {i j:Nat},Sp g p (a ++ b) i j→∃ k,Sp g p a i k∧Sp g p b k j
  | [],b,i,j,h=>⟨i,.nil i,h⟩
  | s :: a,b,i,j,h=>by
    cases h with
    | term _ _ _ _ h0 hf h =>
      obtain ⟨k,h1,h2⟩:=Sp.split h
      exact ⟨k,.term s a i k h0 hf h1,h2⟩
    | bY _ _ R _ m _ h0 hR hl h1 h =>
      obtain ⟨k,h2,h3⟩:=Sp.split h
      exact ⟨k,.bY s a R i m k h0 hR hl h1 h2,h3⟩
structure Item where
  ba:Nat
  dot:Nat
  l7:Nat
  deriving DecidableEq
def Sound (g:ao) (p:List Int) (at_:Nat) (x:Item):Prop:=∃ R,g.rules[x.ba]?=some R∧x.dot≤R.right.length∧x.l7≤at_∧Sp g p (R.right.take x.dot) x.l7 at_
structure Qt (g:ao) (p:List Int) (S:Nat→List Item):Prop where
  start:∀ (i:Nat) (R:aO),g.rules[i]?=some R→R.left=g.start→⟨i,0,0⟩∈S 0
  term:∀ a x R s,x∈S a→g.rules[x.ba]?=some R→R.right[x.dot]?=some s→0≤s→pA p a s→⟨x.ba,x.dot+1,x.l7⟩∈S (a+1)
  pred:∀ a x R s i R',x∈S a→g.rules[x.ba]?=some R→R.right[x.dot]?=some s→s < 0→g.rules[i]?=some R'→R'.left = -1 - s→a≤p.length→⟨i,0,a⟩∈S a
  null:∀ a x R s,x∈S a→g.rules[x.ba]?=some R→R.right[x.dot]?=some s→s < 0→(aK g false).getD (-1 - s).toNat false=true→a≤p.length→⟨x.ba,x.dot+1,x.l7⟩∈S a
  comp:∀ a y R' x R s,y∈S a→g.rules[y.ba]?=some R'→y.dot=R'.right.length→y.l7 < a→x∈S y.l7→g.rules[x.ba]?=some R→R.right[x.dot]?=some s→s < 0→R'.left = -1 - s→a≤p.length→⟨x.ba,x.dot+1,x.l7⟩∈S a
inductive In (p:List Int) (T:Nat→Nat→Nat→Prop):List Int→Nat→Nat→Prop
  | nil (i:Nat):In p T [] i i
  | term (s:Int) (l:List Int) (i j:Nat):0≤s→pA p i s→In p T l (i+1) j→In p T (s :: l) i j
  | bY (s:Int) (l:List Int) (i k j:Nat):s < 0→T (-1 - s).toNat i k→In p T l k j→In p T (s :: l) i j
end Gv
set_option linter.unusedSimpArgs false
namespace Gv
open Go
inductive iX (g:ao):List Int→List Int→List Int→Prop
  | nil:iX g [] [] []
  | term (s:Int) (l t w:List Int):0≤s→iX g l t w→iX g (s :: l) t (s :: w)
  | bY (s:Int) (l:List Int) (k:Nat) (R:aO) (t1 w1 t w:List Int):s < 0→g.rules[k]?=some R→R.left = -1 - s→iX g R.right t1 w1→iX g l t w→iX g (s :: l) (((k:Int) :: t1) ++ t) (w1 ++ w)
theorem iX.app {g:ao} {a t w:List Int} (h:iX g a t w) {b t' w':List Int} (k:iX g b t' w'):iX g (a ++ b) (t ++ t') (w ++ w'):=by
  induction h with
  | nil=>exact k
  | term s l t w h0 _ ih=>exact .term s _ _ _ h0 ih
  | bY s l k R t1 w1 t w h0 hR hl h1 _ _ ih =>
    have:=iX.bY s _ k R t1 w1 _ _ h0 hR hl h1 ih
    simpa using this
structure Wk where
  rest:List Int
  word:List Int
  post:List Int
  high:Nat
def rA (s:Int) (x:Wk):Wk:=⟨x.rest,s :: x.word,x.post,x.high⟩
def p0 (t:Int) (x y:Wk):Wk:=⟨y.rest,x.word ++ y.word,x.post ++ (t :: y.post),max (x.high+1) y.high⟩
def dQ (g:ao) (t:Int):Option aO:=if 0≤t then g.rules[t.toNat]? else none
def bJ (g:ao):Nat→List Int→List Int→Option Wk
  | _,[],rest=>some ⟨rest,[],[],0⟩
  | f,s :: l,rest=>if 0≤s then (bJ g f l rest).map (rA s) else
    match f,rest with
    | f+1,t :: rest=>match dQ g t with
      | some R=>if R.left = -1 - s then (match bJ g f R.right rest with
        | some x=>(bJ g (f+1) l x.rest).map (p0 t x)
        | none=>none) else none
      | none=>none
    | _,_=>none
termination_by f l _=>(f,l.length)
theorem dU (g:ao) (f:Nat) (rest:List Int):bJ g f [] rest=some ⟨rest,[],[],0⟩:=by rw[bJ.eq_def]
theorem fN {g:ao} {f:Nat} {s:Int} {l rest:List Int} (h:0≤s):bJ g f (s :: l) rest=(bJ g f l rest).map (rA s):=by
  rw[bJ.eq_def]; simp only[if_pos h]
theorem kj {g:ao} {s:Int} {l rest:List Int} (h:s < 0):bJ g 0 (s :: l) rest=none:=by
  rw[bJ.eq_def]; simp only[if_neg (show ¬ 0≤s by omega)]
theorem fX {g:ao} {f:Nat} {s:Int} {l:List Int} (h:s < 0):bJ g f (s :: l) []=none:=by
  rw[bJ.eq_def]; simp only[if_neg (show ¬ 0≤s by omega)]
theorem ee {g:ao} {f:Nat} {s t:Int} {l rest:List Int} (h:s < 0):bJ g (f+1) (s :: l) (t :: rest)=match dQ g t with
      | some R=>if R.left = -1 - s then (match bJ g f R.right rest with
        | some x=>(bJ g (f+1) l x.rest).map (p0 t x)
        | none=>none) else none
      | none=>none:=by
  rw[bJ.eq_def]; simp only[if_neg (show ¬ 0≤s by omega)]
def nW (x y:Wk):Wk:=⟨y.rest,x.word ++ y.word,x.post ++ y.post,max x.high y.high⟩
theorem lM (g:ao) (f:Nat):∀ (a b rest:List Int),bJ g f (a ++ b) rest=match bJ g f a rest with
    | some x=>(bJ g f b x.rest).map (nW x)
    | none=>none
  | [],b,rest=>by
    rw[dU]
    simp only[List.nil_append]
    cases bJ g f b rest <;> simp[nW]
  | s :: a,b,rest=>by
    by_cases h:0≤s
    · rw[List.cons_append,fN h,fN h,lM g f a b rest]
      cases bJ g f a rest with
      | none=>rfl
      | some x =>
        simp only[Option.map_some,rA]
        cases bJ g f b x.rest <;> simp[nW,rA]
    · cases f with
      | zero=>rw[List.cons_append,kj (by omega),kj (by omega)]
      | succ f =>
        cases rest with
        | nil=>rw[List.cons_append,fX (by omega),fX (by omega)]
        | cons t rest =>
          rw[List.cons_append,ee (by omega),ee (by omega)]
          cases dQ g t with
          | none=>rfl
          | some R =>
            simp only
            split
            · cases bJ g f R.right rest with
              | none=>rfl
              | some x =>
                simp only
                rw[lM g (f+1) a b x.rest]
                cases bJ g (f+1) a x.rest with
                | none=>rfl
                | some y =>
                  simp only[Option.map_some,p0]
                  cases bJ g (f+1) b y.rest <;> simp[p0,nW,Nat.max_assoc]
            · rfl
theorem qz {g:ao} (hg:∀ r∈g.rules,r.right.length≤6):∀ (f:Nat) (l rest:List Int) (x:Wk),bJ g f l rest=some x→x.rest.length≤rest.length∧x.post.length+x.rest.length=rest.length∧x.word.length+6 * x.rest.length≤l.length+6 * rest.length∧x.high≤f:=by
  intro f
  induction f with
  | zero =>
    intro l
    induction l with
    | nil=>intro rest x h; rw[dU] at h; simp at h; subst h; simp
    | cons s l ih =>
      intro rest x h
      by_cases hs:0≤s
      · rw[fN hs] at h
        cases hw:bJ g 0 l rest with
        | none=>rw[hw] at h; simp at h
        | some y =>
          rw[hw] at h; simp at h; subst h
          have:=ih rest y hw
          simp[rA]; omega
      · rw[kj (by omega)] at h; simp at h
  | succ f ihf =>
    intro l
    induction l with
    | nil=>intro rest x h; rw[dU] at h; simp at h; subst h; simp
    | cons s l ih =>
      intro rest x h
      by_cases hs:0≤s
      · rw[fN hs] at h
        cases hw:bJ g (f+1) l rest with
        | none=>rw[hw] at h; simp at h
        | some y =>
          rw[hw] at h; simp at h; subst h
          have:=ih rest y hw
          simp[rA]; omega
      · cases rest with
        | nil=>rw[fX (by omega)] at h; simp at h
        | cons t rest =>
          rw[ee (by omega)] at h
          cases hr:dQ g t with
          | none=>rw[hr] at h; simp at h
          | some R =>
            rw[hr] at h
            simp only at h
            split at h
            · cases hw:bJ g f R.right rest with
              | none=>rw[hw] at h; simp at h
              | some y =>
                rw[hw] at h
                simp only at h
                cases hz:bJ g (f+1) l y.rest with
                | none=>rw[hz] at h; simp at h
                | some z =>
                  rw[hz] at h; simp at h; subst h
                  have h1:=ihf R.right rest y hw
                  have h2:=ih y.rest z hz
                  have h3:R.right.length≤6:=by
                    unfold dQ at hr
                    split at hr
                    · exact hg R (List.mem_of_getElem? hr)
                    · simp at hr
                  simp[p0]; omega
            · simp at h
theorem Mj {g:ao} {l t w:List Int} (h:iX g l t w):∀ (f:Nat) (rest:List Int),t.length≤f→∃ x,bJ g f l (t ++ rest)=some x∧x.rest=rest∧x.word=w:=by
  induction h with
  | nil=>exact fun f rest _=>⟨_,dU _ _ _,rfl,rfl⟩
  | term s l t w h0 _ ih =>
    intro f rest hf
    obtain ⟨x,h1,h2,h3⟩:=ih f rest hf
    exact ⟨rA s x,by rw[fN h0,h1]; rfl,h2,by rw[rA,h3]⟩
  | bY s l k R t1 w1 t w h0 hR hl _ _ ih1 ih2 =>
    intro f rest hf
    obtain ⟨f,rfl⟩:∃ f',f=f'+1:=⟨f - 1,by simp at hf; omega⟩
    obtain ⟨x,h1,h2,h3⟩:=ih1 f (t ++ rest) (by simp at hf; omega)
    obtain ⟨y,h4,h5,h6⟩:=ih2 (f+1) rest (by simp at hf; omega)
    refine ⟨p0 k x y,?_,h5,by rw[p0,h3,h6]⟩
    rw[List.cons_append,List.cons_append,List.append_assoc,ee h0]
    have:dQ g (k:Int)=some R:=by rw[dQ,if_pos (by omega)]; simpa using hR
    rw[this]
    simp only
    rw[if_pos hl,h1]
    simp only
    rw[h2,h4]; rfl
theorem Ku {g:ao} (hleft:∀ r∈g.rules,0≤r.left):∀ (f:Nat) (l:List Int),xV (av g) f l→iX g l (cB g (av g) f l) (dD g (av g) f l):=by
  intro f
  induction f with
  | zero =>
    intro l
    induction l with
    | nil=>intro _; rw[pO,pL]; exact .nil
    | cons s l ih =>
      intro h
      have h0:=ua h s (by simp)
      have e1:=fu g (av g) 0 [s] l
      have e2:=iD g (av g) 0 [s] l
      rw[List.singleton_append] at e1 e2
      rw[e1,e2,kr h0,ko h0]
      exact .term s l _ _ h0 (ih fun x hx=>h x (by simp[hx]))
  | succ f ihf =>
    intro l
    induction l with
    | nil=>intro _; rw[pO,pL]; exact .nil
    | cons s l ih =>
      intro h
      have hl:=ih fun x hx=>h x (by simp[hx])
      have e1:=fu g (av g) (f+1) [s] l
      have e2:=iD g (av g) (f+1) [s] l
      rw[List.singleton_append] at e1 e2
      rw[e1,e2]
      by_cases h0:0≤s
      · rw[kr h0,ko h0]
        exact .term s l _ _ h0 hl
      · obtain ⟨hk,hh⟩:=h s (by simp) (by omega)
        obtain ⟨i,R,hi,hR,hra,hur,hlf⟩:=ov (f:=f) hk (by push_cast at hh; exact hh)
        rw[gG (by omega),lW (by omega),hra,hi]
        have hRl:R.left = -1 - s:=by
          obtain ⟨i',r',hr',hl',_,hp',_⟩:=kZ hk
          have:(i':Int)=i:=by rw[← hi,hp']; rfl
          have:i'=i:=by omega
          subst this
          rw[hR] at hr'
          simp at hr'; subst hr'
          have:=hleft R (List.mem_of_getElem? hR)
          unfold bG at hl'
          omega
        exact .bY s l i R _ _ _ _ (by omega) hR hRl (ihf R.right hur) hl
end Gv
set_option linter.unusedSimpArgs false
namespace Gv
open Go
structure Way where
  bY:Int
  ba:Int
  place:Int
def bu (F:List Way):List Int:=F.map Way.bY
def gU (k j s:Int) (F:List Way):List Way:=if s < 0∧-1 - s ∉ bu F then F ++ [⟨-1 - s,k,j⟩] else F
def hQ (k:Int):Int→List Int→List Way→List Way
  | _,[],F=>F
  | j,s :: l,F=>hQ k (j+1) l (gU k j s F)
def jv (n k:Int) (R:aO) (F:List Way):List Way:=if R.left=n then hQ k 0 R.right F else F
def eN (n:Int):Int→List aO→List Way→List Way
  | _,[],F=>F
  | k,R :: l,F=>eN n (k+1) l (jv n k R F)
def dc (g:ao):Nat→List Way
  | 0=>[⟨g.start,-1,0⟩]
  | i+1=>match (dc g i)[i]? with
    | some x=>eN x.bY 0 g.rules (dc g i)
    | none=>dc g i
def dA (g:ao):List Way:=dc g g.au.length
theorem v7 (k s:Int):∀ (l:List Int) (j:Int) (F:List Way),hQ k j (l ++ [s]) F=gU k (j+l.length) s (hQ k j l F)
  | [],j,F=>by simp[hQ]
  | x :: l,j,F=>by
    rw[List.cons_append,hQ,v7 k s l,hQ,List.length_cons]
    congr 1
    push_cast; omega
theorem sU (n:Int) (R:aO):∀ (l:List aO) (k:Int) (F:List Way),eN n k (l ++ [R]) F=jv n (k+l.length) R (eN n k l F)
  | [],k,F=>by simp[eN]
  | x :: l,k,F=>by
    rw[List.cons_append,eN,sU n R l,eN,List.length_cons]
    congr 1
    push_cast; omega
structure c6 (g:ao) (F:List Way):Prop where
  first:F[0]?=some ⟨g.start,-1,0⟩
  nodup:(bu F).Nodup
  from_:∀ i x,F[i]?=some x→0 < i→∃ (k j:Nat) (R:aO),x.ba=(k:Int)∧x.place=(j:Int)∧g.rules[k]?=some R∧R.right[j]?=some (-1 - x.bY)∧0≤x.bY∧∃ m y,m < i∧F[m]?=some y∧y.bY=R.left
theorem c6.pre {g:ao} {F:List Way} (h:c6 g F) {i m:Nat} {x:Way} (hx:F[i]?=some x) (w:Way):(F ++ [w])[i]?=some x:=by
  rw[List.getElem?_append_left (List.getElem?_eq_some_iff.1 hx).1]; exact hx
theorem Co {g:ao} {F:List Way} {k j m:Nat} {R:aO} {s:Int} {y:Way} (h:c6 g F) (hR:g.rules[k]?=some R) (hs:R.right[j]?=some s) (hm:F[m]?=some y) (hy:y.bY=R.left):c6 g (gU k j s F):=by
  unfold gU
  split
  · rename_i hc
    refine ⟨?_,?_,fun i x hx hi=>?_⟩
    · rw[List.getElem?_append_left (List.getElem?_eq_some_iff.1 h.first).1]; exact h.first
    · rw[bu,List.map_append,List.nodup_append]
      refine ⟨h.nodup,by simp,fun a ha b hb e=>?_⟩
      simp at hb
      subst hb; subst e
      exact hc.2 ha
    · by_cases hl:i < F.length
      · rw[List.getElem?_append_left hl] at hx
        obtain ⟨k',j',R',h1,h2,h3,h4,h5,m',y',h6,h7,h8⟩:=h.from_ i x hx hi
        exact ⟨k',j',R',h1,h2,h3,h4,h5,m',y',h6,by rw[List.getElem?_append_left (by omega)]; exact h7,h8⟩
      · have hi':i=F.length:=by
          have:=(List.getElem?_eq_some_iff.1 hx).1
          simp at this; omega
        subst hi'
        simp at hx; subst hx
        have hml:=(List.getElem?_eq_some_iff.1 hm).1
        exact ⟨k,j,R,rfl,rfl,hR,by rw[hs]; congr 1; simp only; omega,by simp only; omega,m,y,hml,by rw[List.getElem?_append_left hml]; exact hm,hy⟩
  · exact h
theorem No (k j s:Int) (F:List Way):∃ l,gU k j s F=F ++ l:=by
  unfold gU
  split
  · exact ⟨_,rfl⟩
  · exact ⟨[],by simp⟩
theorem Mz (k j s:Int) (F:List Way) (hs:s < 0) : -1 - s∈bu (gU k j s F):=by
  unfold gU
  split
  · simp[bu]
  · rename_i hc
    apply Decidable.byContradiction
    intro h
    exact hc ⟨hs,h⟩
theorem uK {F l:List Way} {i:Nat} {x:Way} (h:F[i]?=some x):(F ++ l)[i]?=some x:=by
  rw[List.getElem?_append_left (List.getElem?_eq_some_iff.1 h).1]; exact h
theorem zD {F l:List Way} {n:Int} (h:n∈bu F):n∈bu (F ++ l):=by
  simp only[bu,List.map_append,List.mem_append]
  exact .inl h
theorem Eu {g:ao} {k m:Nat} {R:aO} {y:Way} (hR:g.rules[k]?=some R) (hy:y.bY=R.left):∀ (l:List Int) (j:Nat) (F:List Way),R.right.drop j=l→c6 g F→F[m]?=some y →
    c6 g (hQ k j l F)∧(∃ e,hQ k j l F=F ++ e)∧∀ s∈l,s < 0→-1 - s∈bu (hQ k j l F)
  | [],j,F,_,h,_=>⟨h,⟨[],by simp[hQ]⟩,by simp⟩
  | s :: l,j,F,hd,h,hm=>by
    have hs:R.right[j]?=some s:=by
      have:=List.getElem?_drop (xs:=R.right) (i:=j) (j:=0)
      rw[hd] at this
      simpa using this.symm
    have hd':R.right.drop (j+1)=l:=by rw[← List.drop_drop,hd]; rfl
    obtain ⟨e1,h1⟩:=No k j s F
    have ho:=Co h hR hs hm hy
    have hm':(gU k j s F)[m]?=some y:=by rw[h1]; exact uK hm
    obtain ⟨a,⟨e2,b⟩,c⟩:=Eu hR hy l (j+1) (gU k j s F) hd' ho hm'
    rw[hQ]
    push_cast at a b c
    refine ⟨a,⟨e1 ++ e2,by rw[b,h1,List.append_assoc]⟩,fun x hx hn=>?_⟩
    rcases List.mem_cons.1 hx with rfl | hx
    · rw[b]
      exact zD (Mz _ _ _ _ hn)
    · exact c x hx hn
theorem Dr {g:ao} {m:Nat} {y:Way} : ∀ (l:List aO) (k:Nat) (F:List Way),g.rules.drop k=l→c6 g F→F[m]?=some y →
    c6 g (eN y.bY k l F)∧(∃ e,eN y.bY k l F=F ++ e)∧∀ R∈l,R.left=y.bY→∀ s∈R.right,s < 0→-1 - s∈bu (eN y.bY k l F)
  | [],k,F,_,h,_=>⟨h,⟨[],by simp[eN]⟩,by simp⟩
  | R :: l,k,F,hd,h,hm=>by
    have hR:g.rules[k]?=some R:=by
      have:=List.getElem?_drop (xs:=g.rules) (i:=k) (j:=0)
      rw[hd] at this
      simpa using this.symm
    have hd':g.rules.drop (k+1)=l:=by rw[← List.drop_drop,hd]; rfl
    have h0:c6 g (jv y.bY k R F)∧(∃ e,jv y.bY k R F=F ++ e)∧(R.left=y.bY→∀ s∈R.right,s < 0→-1 - s∈bu (jv y.bY k R F)):=by
      unfold jv
      split
      · rename_i hl
        have:=Eu hR hl.symm R.right 0 F (by simp) h hm
        exact ⟨this.1,this.2.1,fun _=>this.2.2⟩
      · rename_i hl
        exact ⟨h,⟨[],by simp⟩,fun e=>absurd e hl⟩
    obtain ⟨ho,⟨e1,h1⟩,hk⟩:=h0
    have hm':(jv y.bY k R F)[m]?=some y:=by rw[h1]; exact uK hm
    obtain ⟨a,⟨e2,b⟩,c⟩:=Dr l (k+1) (jv y.bY k R F) hd' ho hm'
    rw[eN]
    push_cast at a b c
    refine ⟨a,⟨e1 ++ e2,by rw[b,h1,List.append_assoc]⟩,fun x hx hl s hs hn=>?_⟩
    rcases List.mem_cons.1 hx with rfl | hx
    · rw[b]
      exact zD (hk hl s hs hn)
    · exact c x hx hl s hs hn
def BW (g:ao) (F:List Way) (i:Nat):Prop:=∀ m y,m < i→F[m]?=some y→∀ R∈g.rules,R.left=y.bY→∀ s∈R.right,s < 0→-1 - s∈bu F
theorem Ek (g:ao):∀ i,c6 g (dc g i)∧BW g (dc g i) i
  | 0=>⟨⟨rfl,by simp[dc,bu],fun i x hx hi=>by
      cases i with
      | zero=>omega
      | succ i=>simp[dc] at hx⟩,fun m y hm=>by omega⟩
  | i+1=>by
    obtain ⟨h1,h2⟩:=Ek g i
    rw[dc]
    cases hx:(dc g i)[i]? with
    | none =>
      simp only
      refine ⟨h1,fun m y hm hy=>?_⟩
      have:=(List.getElem?_eq_some_iff.1 hy).1
      have:=List.getElem?_eq_none_iff.1 hx
      exact h2 m y (by omega) hy
    | some x =>
      simp only
      obtain ⟨a,⟨e,b⟩,c⟩:=Dr (g:=g) g.rules 0 (dc g i) (by simp) h1 hx
      simp only[Int.natCast_zero] at a b c
      refine ⟨a,fun m y hm hy R hR hl s hs hn=>?_⟩
      by_cases hmi:m=i
      · subst hmi
        rw[b,uK hx] at hy
        simp at hy; subst hy
        exact c R hR hl s hs hn
      · have hml:m < (dc g i).length:=by
          have:=(List.getElem?_eq_some_iff.1 hx).1
          omega
        have hy':(dc g i)[m]?=some y:=by
          rw[b,List.getElem?_append_left hml] at hy; exact hy
        rw[b]
        exact zD (h2 m y (by omega) hy' R hR hl s hs hn)
theorem Ga {g:ao} {i:Nat} (h:(dc g i).length≤i):∀ d,dc g (i+d)=dc g i
  | 0=>rfl
  | d+1=>by
    have ih:=Ga h d
    rw[← Nat.add_assoc,dc,ih,List.getElem?_eq_none (by omega)]
theorem c6.inside {g:ao} {F:List Way} (h:c6 g F) (h0:0≤g.start∧g.start < g.au.length) (hs:∀ R∈g.rules,∀ s∈R.right,s < 0→-1 - s < g.au.length):∀ n∈bu F,0≤n∧n < g.au.length:=by
  intro n hn
  simp only[bu,List.mem_map] at hn
  obtain ⟨x,hx,rfl⟩:=hn
  obtain ⟨i,hi⟩:=List.mem_iff_getElem?.1 hx
  by_cases hi0:i=0
  · subst hi0
    rw[h.first] at hi
    simp at hi; subst hi
    exact h0
  · obtain ⟨k,j,R,_,_,h3,h4,h5,_⟩:=h.from_ i x hi (by omega)
    have:=hs R (List.mem_of_getElem? h3) _ (List.mem_of_getElem? h4) (by omega)
    omega
theorem c6.len {g:ao} {F:List Way} (h:c6 g F) (h0:0≤g.start∧g.start < g.au.length) (hs:∀ R∈g.rules,∀ s∈R.right,s < 0→-1 - s < g.au.length):F.length≤g.au.length:=by
  have:=pZ h.nodup (h.inside h0 hs)
  simpa [bu] using this
theorem Oy {g:ao} (h0:0≤g.start∧g.start < g.au.length) (hs:∀ R∈g.rules,∀ s∈R.right,s < 0→-1 - s < g.au.length):c6 g (dA g)∧BW g (dA g) (dA g).length:=by
  obtain ⟨h1,h2⟩:=Ek g g.au.length
  refine ⟨h1,fun m y hm hy=>?_⟩
  have:=h1.len h0 hs
  exact h2 m y (by unfold dA at hm; omega) hy
def lookW (F:List Way) (n:Int):Option Way:=F.find? fun x=>x.bY == n
def dh (F:List Way) (n:Int):Nat:=F.findIdx fun x=>x.bY == n
theorem H9 {F:List Way} {n:Int} (h:n∈bu F):∃ x,lookW F n=some x∧F[dh F n]?=some x∧x.bY=n:=by
  induction F with
  | nil=>simp[bu] at h
  | cons y F ih =>
    by_cases e:y.bY=n
    · exact ⟨y,by simp[lookW,e],by simp[dh,List.findIdx_cons,e],e⟩
    · have h':n∈bu F:=by
        simp only[bu,List.map_cons,List.mem_cons] at h ⊢
        rcases h with h | h
        · exact absurd h.symm e
        · exact h
      obtain ⟨x,h1,h2,h3⟩:=ih h'
      refine ⟨x,by simpa [lookW,e] using h1,?_,h3⟩
      have:dh (y :: F) n=dh F n+1:=by simp[dh,List.findIdx_cons,show (y.bY == n)=false by simpa using e]
      rw[this]; simpa using h2
theorem Pe {F:List Way} {n:Int} {m:Nat} {y:Way} (h:F[m]?=some y) (hy:y.bY=n):dh F n≤m:=by
  induction F generalizing m with
  | nil=>simp at h
  | cons x F ih =>
    by_cases e:x.bY=n
    · simp[dh,List.findIdx_cons,e]
    · cases m with
      | zero=>simp at h; subst h; exact absurd hy e
      | succ m =>
        have:=ih (m:=m) (by simpa using h)
        have:dh (x :: F) n=dh F n+1:=by simp[dh,List.findIdx_cons,show (x.bY == n)=false by simpa using e]
        omega
theorem yj {g:ao} {F:List Way} (h:c6 g F) {n:Int} (hn:n∈bu F) (hs:n≠g.start):∃ (k j:Nat) (R:aO),lookW F n=some ⟨n,k,j⟩∧g.rules[k]?=some R∧R.right[j]?=some (-1 - n)∧0≤n∧R.left∈bu F∧dh F R.left < dh F n:=by
  obtain ⟨x,h1,h2,h3⟩:=H9 hn
  have hi:0 < dh F n:=by
    apply Nat.pos_of_ne_zero
    intro e
    rw[e,h.first] at h2
    simp at h2; subst h2
    exact hs h3.symm
  obtain ⟨k,j,R,a,b,c,d,e,m,y,f1,f2,f3⟩:=h.from_ _ x h2 hi
  refine ⟨k,j,R,?_,c,by rw[d,h3],by omega,?_,?_⟩
  · rw[h1]
    cases x
    simp at a b h3
    subst a; subst b; subst h3; rfl
  · rw[← f3]
    exact List.mem_map.2 ⟨y,List.mem_of_getElem? f2,rfl⟩
  · exact Nat.lt_of_le_of_lt (Pe f2 f3) f1
theorem kq {g:ao} {F:List Way} (h:c6 g F):lookW F g.start=some ⟨g.start,-1,0⟩:=by
  have:=h.first
  cases F with
  | nil=>simp at this
  | cons y F=>simp at this; subst this; simp[lookW]
theorem N6 {g:ao} {F:List Way} (h:c6 g F) (hc:BW g F F.length) {p:List Bool} {n:Int} (hr:nQ g p n):n∈bu F:=by
  induction hr with
  | start=>exact List.mem_map.2 ⟨_,List.mem_of_getElem? h.first,rfl⟩
  | next R s hR _ _ hs hn ih =>
    simp only[bu,List.mem_map] at ih
    obtain ⟨y,hy,e⟩:=ih
    obtain ⟨m,hm⟩:=List.mem_iff_getElem?.1 hy
    exact hc m y (List.getElem?_eq_some_iff.1 hm).1 hm R hR e.symm s hs hn
end Gv
set_option linter.unusedSimpArgs false
namespace Gv
open Go
def cz (g:ao) (place:Int) (inner:List Int):Int→List Int→Option (List Int)
  | _,[]=>some []
  | i,s :: l=>if 0≤s then cz g place inner (i+1) l
    else if i=place then (cz g place inner (i+1) l).map (inner ++ ·)
    else if (fb g (-1 - s)).2=0 then (cz g place inner (i+1) l).map ((fb g (-1 - s)).1 ++ ·) else none
def dL (g:ao) (ba place:Int) (inner:List Int):List Int × Bool:=match cz g place inner 0 (ql g ba) with
  | some l=>(ba :: l,decide ((ba :: l).length≤300))
  | none=>([],false)
def w7 (g:ao) (k:Int):Int:=(g.rules.getD k.toNat ⟨0,[],0⟩).left
def cn (g:ao) (F:List Way):Nat→Int→List Int × Bool→List Int × Bool
  | 0,_,x=>x
  | f+1,n,x=>if x.2=true then (match lookW F n with
    | some w=>if 0≤w.ba then cn g F f (w7 g w.ba) (dL g w.ba w.place x.1) else x
    | none=>x) else x
def eQ (g:ao) (t:List Int):Option Wk:=if bo g=true∧t.length≤300 then (match bJ g t.length [-1 - g.start] t with
    | some x=>if x.rest=[] then some x else none
    | none=>none) else none
def iM (g:ao) (t:List Int):List Int × Int:=match eQ g t with
  | some x=>(x.word,0)
  | none=>([],1)
def dK (g:ao) (i:Int):List Int × Bool:=cn g (dA g) (dh (dA g) (w7 g i)) (w7 g i) (dL g i (-1) [])
def c7 (g:ao) (i:Int):List Int × Int:=if (dK g i).2=false then ([],13) else if 60 < (iM g (dK g i).1).1.length then ([],13) else ((dK g i).1,0)
def gN (g:ao) (i:Int):List Int × Int:=if (isRed g && decide (0≤i) && decide (i < g.rules.length))=true then c7 g i else ([],1)
def bw (g:ao):Nat→List (List Int) × Int
  | 0=>([],0)
  | i+1=>if (bw g i).2≠0 then bw g i else if (bw g i).1.any (fun t=>decide ((i:Int)∈t))=true then bw g i
    else if (c7 g i).2=0 then ((bw g i).1 ++ [(c7 g i).1],0) else ([],(c7 g i).2)
def fJ (g:ao):List (List Int) × Int:=if isRed g=true then bw g g.rules.length else ([],1)
def oS (g:ao) (l:List (List Int)):List Bool:=if bo g=true then (List.range g.rules.length).map fun (i:Nat)=>l.any fun t=>decide ((i:Int)∈t) else []
theorem J9 {g:ao} (hleft:∀ r∈g.rules,0≤r.left) {n:Int} (h:(fb g n).2=0):∃ w,iX g [-1 - n] (fb g n).1 w:=by
  unfold fb at h ⊢
  split at h
  · rename_i hc
    rw[if_pos hc]
    simp only[Bool.and_eq_true,decide_eq_true_eq] at hc
    split at h
    · simp at h
    · rename_i hk
      rw[if_neg hk]
      split at h
      · simp at h
      · rename_i h3
        rw[if_neg h3]
        refine ⟨_,Ku hleft _ _ fun x hx hn=>?_⟩
        simp at hx; subst hx
        have e:bG (-1 - n)=n.toNat:=by unfold bG; omega
        rw[e]
        have hkn:bf (av g) n.toNat:=by unfold bf; omega
        exact ⟨hkn,(gV hkn).2⟩
  · simp at h
theorem Dy {g:ao} (hleft:∀ r∈g.rules,0≤r.left) {place:Int} {inner:List Int} : ∀ (l:List Int) (i:Int) (t:List Int),(∀ s,l[(place - i).toNat]?=some s→i≤place→s < 0→∃ w,iX g [s] inner w)→cz g place inner i l=some t→∃ w,iX g l t w
  | [],i,t,_,h=>by
    rw[cz] at h; simp at h; subst h
    exact ⟨[],.nil⟩
  | s :: l,i,t,hin,h=>by
    have hrec:∀ t',cz g place inner (i+1) l=some t'→∃ w,iX g l t' w:=fun t' h'=>Dy hleft l (i+1) t' (fun s' hs' hi hn=>hin s' (by
      have:(place - i).toNat=(place - (i+1)).toNat+1:=by omega
      rw[this]; simpa using hs') (by omega) hn) h'
    rw[cz] at h
    split at h
    · rename_i h0
      obtain ⟨w,hw⟩:=hrec t h
      exact ⟨s :: w,.term s l t w h0 hw⟩
    · rename_i h0
      split at h
      · rename_i hp
        cases hr:cz g place inner (i+1) l with
        | none=>rw[hr] at h; simp at h
        | some t' =>
          rw[hr] at h; simp at h; subst h
          obtain ⟨w1,hw1⟩:=hin s (by rw[hp]; simp) (by omega) (by omega)
          obtain ⟨w2,hw2⟩:=hrec t' hr
          exact ⟨w1 ++ w2,by have:=hw1.app hw2; simpa using this⟩
      · split at h
        · rename_i ht
          cases hr:cz g place inner (i+1) l with
          | none=>rw[hr] at h; simp at h
          | some t' =>
            rw[hr] at h; simp at h; subst h
            obtain ⟨w1,hw1⟩:=J9 hleft ht
            rw[show -1 - (-1 - s)=s by omega] at hw1
            obtain ⟨w2,hw2⟩:=hrec t' hr
            exact ⟨w1 ++ w2,by have:=hw1.app hw2; simpa using this⟩
        · simp at h
theorem ja {g:ao} {k:Nat} {R:aO} (h:g.rules[k]?=some R):ql g (k:Int)=R.right∧w7 g (k:Int)=R.left:=by
  simp[ql,w7,List.getD_eq_getElem?_getD,h]
theorem F7 {g:ao} (hleft:∀ r∈g.rules,0≤r.left) {k:Nat} {R:aO} (hR:g.rules[k]?=some R) {place:Int} {inner:List Int} (hin:∀ s,R.right[place.toNat]?=some s→0≤place→s < 0→∃ w,iX g [s] inner w) (h:(dL g k place inner).2=true) :
    ∃ w,iX g [-1 - R.left] (dL g k place inner).1 w∧(dL g k place inner).1.length≤300:=by
  unfold dL at h ⊢
  rw[(ja hR).1] at h ⊢
  cases hp:cz g place inner 0 R.right with
  | none=>rw[hp] at h; simp at h
  | some t =>
    rw[hp] at h
    simp only[decide_eq_true_eq] at h
    simp only
    obtain ⟨w,hw⟩:=Dy hleft R.right 0 t (fun s hs h0 hn=>hin s (by simpa using hs) h0 hn) hp
    have:=hleft R (List.mem_of_getElem? hR)
    refine ⟨w,?_,h⟩
    have:=iX.bY (-1 - R.left) [] k R t w [] [] (by omega) hR (by omega) hw .nil
    simpa using this
theorem vg {g:ao} {k place:Int} {inner:List Int} (h:(dL g k place inner).2=true):(dL g k place inner).1.length≤300:=by
  unfold dL at h ⊢
  split at h
  · rename_i l hl
    rw[hl] at *
    simpa using h
  · simp at h
theorem Ds {g:ao} {F:List Way} (hF:c6 g F) (hleft:∀ r∈g.rules,0≤r.left):∀ (f:Nat) (n:Int) (x:List Int × Bool),n∈bu F→dh F n≤f→(x.2=true→∃ w,iX g [-1 - n] x.1 w∧x.1.length≤300)→(cn g F f n x).2=true →
    ∃ w,iX g [-1 - g.start] (cn g F f n x).1 w∧(cn g F f n x).1.length≤300
  | 0,n,x,hn,hf,hx,h=>by
    rw[cn] at h ⊢
    by_cases e:n=g.start
    · rw[← e]; exact hx h
    · obtain ⟨_,_,_,_,_,_,_,_,h6⟩:=yj hF hn e
      omega
  | f+1,n,x,hn,hf,hx,h=>by
    rw[cn] at h ⊢
    split at h
    · rename_i hx2
      rw[if_pos hx2]
      by_cases e:n=g.start
      · subst e
        rw[kq hF] at h ⊢
        simp only at h ⊢
        rw[if_neg (by omega)] at h ⊢
        exact hx h
      · obtain ⟨k,j,R,h1,h2,h3,h4,h5,h6⟩:=yj hF hn e
        rw[h1] at h ⊢
        simp only at h ⊢
        rw[if_pos (by omega),(ja h2).2] at h ⊢
        refine Ds hF hleft f R.left _ h5 (by omega) (fun hg=>?_) h
        refine F7 hleft h2 (fun s hs _ _=>?_) hg
        rw[Int.toNat_natCast,h3] at hs
        simp at hs; subst hs
        obtain ⟨w,hw,_⟩:=hx hx2
        exact ⟨w,hw⟩
    · rename_i hx2
      rw[if_neg hx2]
      exact absurd h hx2
theorem fM {g:ao} (h:isRed g=true):bo g=true∧c6 g (dA g)∧∀ k:Nat,k < g.au.length→(k:Int)∈bu (dA g):=by
  unfold isRed at h
  simp only[Bool.and_eq_true,beq_iff_eq,decide_eq_true_eq] at h
  obtain ⟨h1,h2⟩:=h
  have hr:bo g=true:=by
    apply Decidable.byContradiction
    intro hn
    unfold eR at h1
    simp[hn] at h1
  have hf:=aW hr
  have hp:(aK g true).getD g.start.toNat false=true:=by
    apply Decidable.byContradiction
    intro hn
    rw[mw hr,if_neg hn] at h1
    simp at h1
  have hred:=O6 hr hp
  have e:jj g (bm (bQ (aK g true) (bA g) g.rules)) (aK g true) (bA g)=g:=by
    rw[mw hr,if_pos hp] at h2
    exact h2.symm
  rw[e] at hred
  have hW:=Oy (g:=g) ⟨hf.eA,hf.start⟩ (fun R hR s hs hn=>by
    have:=hf.sym R hR s hs
    unfold iu at this
    rw[if_neg (by omega)] at this
    simpa using this)
  refine ⟨hr,hW.1,fun k hk=>?_⟩
  rw[hred.len] at hk
  exact N6 hW.1 hW.2 (xh hr k (hred.CO hk))
theorem E4 {g:ao} (h:isRed g=true) {i:Nat} (hi:i < g.rules.length) (hc:(dK g i).2=true):∃ w,iX g [-1 - g.start] (dK g i).1 w∧(dK g i).1.length≤300:=by
  obtain ⟨hr,hW,hall⟩:=fM h
  have hf:=aW hr
  have hleft:=fun r hr=>(hf.left r hr).1
  have hR:g.rules[i]?=some (g.rules[i]):=List.getElem?_eq_getElem hi
  have hb:=hf.left _ (List.getElem_mem hi)
  unfold dK at hc ⊢
  rw[(ja hR).2] at hc ⊢
  have hk:=hall (g.rules[i]).left.toNat (by omega)
  rw[show (((g.rules[i]).left.toNat:Nat):Int)=(g.rules[i]).left by omega] at hk
  exact Ds hW hleft _ _ _ hk (Nat.le_refl _) (fun hg=>F7 hleft hR (fun s _ h0 _=>absurd h0 (by decide)) hg) hc
theorem C3 {g:ao} (hr:bo g=true) {t w:List Int} (h:iX g [-1 - g.start] t w) (hl:t.length≤300):∃ x,eQ g t=some x∧x.word=w:=by
  obtain ⟨x,h1,h2,h3⟩:=Mj h t.length [] (Nat.le_refl _)
  rw[List.append_nil] at h1
  exact ⟨x,by rw[eQ,if_pos ⟨hr,hl⟩,h1]; simp[h2],h3⟩
end Gv
set_option linter.unusedSimpArgs false
namespace Gv
open Go
theorem xD {g:ao} {place:Int} {inner:List Int} : ∀ (l:List Int) (i:Int) (t:List Int) (s:Int),l[(place - i).toNat]?=some s→i≤place→s < 0→cz g place inner i l=some t→∀ x∈inner,x∈t
  | [],i,t,s,hs,_,_,_=>by simp at hs
  | c :: l,i,t,s,hs,hi,hn,h=>by
    rw[cz] at h
    by_cases e:i=place
    · subst e
      simp at hs; subst hs
      rw[if_neg (by omega),if_pos rfl] at h
      intro x hx
      cases hr:cz g i inner (i+1) l with
      | none=>rw[hr] at h; simp at h
      | some t'=>rw[hr] at h; simp at h; subst h; simp[hx]
    · have hs':l[(place - (i+1)).toNat]?=some s:=by
        have:(place - i).toNat=(place - (i+1)).toNat+1:=by omega
        rw[this] at hs
        simpa using hs
      split at h
      · exact xD l (i+1) t s hs' (by omega) hn h
      · try rw[if_neg e] at h
        split at h
        · cases hr:cz g place inner (i+1) l with
          | none=>rw[hr] at h; simp at h
          | some t' =>
            rw[hr] at h; simp at h; subst h
            intro x hx
            have:=xD l (i+1) t' s hs' (by omega) hn hr x hx
            simp[this]
        · simp at h
theorem CD {g:ao} {F:List Way} (hF:c6 g F):∀ (f:Nat) (n:Int) (x:List Int × Bool) (y:Int),n∈bu F→y∈x.1→(cn g F f n x).2=true→y∈(cn g F f n x).1
  | 0,n,x,y,_,hy,_=>by rw[cn]; exact hy
  | f+1,n,x,y,hn,hy,h=>by
    rw[cn] at h ⊢
    split at h
    · rename_i hx2
      rw[if_pos hx2]
      by_cases e:n=g.start
      · subst e
        rw[kq hF] at h ⊢
        simp only at h ⊢
        rw[if_neg (by omega)]
        exact hy
      · obtain ⟨k,j,R,h1,h2,h3,h4,h5,h6⟩:=yj hF hn e
        rw[h1] at h ⊢
        simp only at h ⊢
        rw[if_pos (by omega),(ja h2).2] at h ⊢
        by_cases hg:(dL g k j x.1).2=true
        · refine CD hF f R.left _ y h5 ?_ h
          unfold dL at hg ⊢
          rw[(ja h2).1] at hg ⊢
          cases hp:cz g j x.1 0 R.right with
          | none=>rw[hp] at hg; simp at hg
          | some t =>
            simp only
            exact List.mem_cons_of_mem _ (xD R.right 0 t (-1 - n) (by simpa using h3) (by omega) (by omega) hp y hy)
        · cases f with
          | zero=>rw[cn] at h; exact absurd h hg
          | succ f=>rw[cn,if_neg hg] at h; exact absurd h hg
    · rename_i hx2
      exact absurd h hx2
theorem MH {g:ao} (h:isRed g=true) {i:Nat} (hi:i < g.rules.length) (hc:(dK g i).2=true):(i:Int)∈(dK g i).1:=by
  obtain ⟨hr,hW,hall⟩:=fM h
  have hf:=aW hr
  have hR:g.rules[i]?=some (g.rules[i]):=List.getElem?_eq_getElem hi
  have hb:=hf.left _ (List.getElem_mem hi)
  have hk:=hall (g.rules[i]).left.toNat (by omega)
  rw[show (((g.rules[i]).left.toNat:Nat):Int)=(g.rules[i]).left by omega] at hk
  unfold dK at hc ⊢
  rw[(ja hR).2] at hc ⊢
  have hg:(dL g i (-1) []).2=true:=by
    apply Decidable.byContradiction
    intro hn
    cases hx:dh (dA g) (g.rules[i]).left with
    | zero=>rw[hx,cn] at hc; exact hn hc
    | succ f=>rw[hx,cn,if_neg hn] at hc; exact hn hc
  refine CD hW _ _ _ _ hk ?_ hc
  unfold dL at hg ⊢
  split
  · simp
  · rename_i hp
    rw[hp] at hg; simp at hg
theorem L3 {g:ao} {i:Int} (h:(c7 g i).2=0):(dK g i).2=true∧(c7 g i).1=(dK g i).1∧(iM g (dK g i).1).1.length≤60:=by
  unfold c7 at h ⊢
  split at h
  · simp at h
  · rename_i h1
    rw[if_neg h1]
    split at h
    · simp at h
    · rename_i h2
      rw[if_neg h2]
      exact ⟨by simpa using h1,rfl,by omega⟩
theorem JT {g:ao} {i:Int} (h:(c7 g i).2≠0):(c7 g i).2=13∧(c7 g i).1=[]:=by
  unfold c7 at h ⊢
  split
  · exact ⟨rfl,rfl⟩
  · rename_i h1
    rw[if_neg h1] at h
    split
    · exact ⟨rfl,rfl⟩
    · rename_i h2
      rw[if_neg h2] at h
      simp at h
def NJ (g:ao) (t:List Int):Prop:=∃ w,iX g [-1 - g.start] t w∧t.length≤300∧iM g t=(w,0)∧w.length≤60
theorem I2 {g:ao} (h:isRed g=true) {i:Nat} (hi:i < g.rules.length) (hu:(c7 g i).2=0):NJ g (c7 g i).1∧(i:Int)∈(c7 g i).1:=by
  obtain ⟨h1,h2,h3⟩:=L3 hu
  obtain ⟨w,h4,h5⟩:=E4 h hi h1
  obtain ⟨x,h6,h7⟩:=C3 (fM h).1 h4 h5
  rw[h2]
  refine ⟨⟨w,h4,h5,?_,?_⟩,MH h hi h1⟩
  · rw[iM,h6,← h7]
  · rw[iM,h6] at h3
    simp only at h3
    rw[← h7]; exact h3
theorem sC {g:ao} (h:isRed g=true):∀ i,i≤g.rules.length→(bw g i).1.length≤i∧(∀ t∈(bw g i).1,NJ g t)∧((bw g i).2=0→∀ k:Nat,k < i→∃ t∈(bw g i).1,(k:Int)∈t)∧((bw g i).2≠0→(bw g i).2=13∧(bw g i).1=[])
  | 0,_=>⟨by simp[bw],by simp[bw],fun _ k hk=>by omega,fun hn=>by simp[bw] at hn⟩
  | i+1,hi=>by
    obtain ⟨h1,h2,h3,h4⟩:=sC h i (by omega)
    rw[bw]
    split
    · rename_i he
      exact ⟨by omega,h2,fun h0=>absurd h0 he,h4⟩
    · rename_i he
      have he:(bw g i).2=0:=by simpa using he
      split
      · rename_i ha
        refine ⟨by omega,h2,fun h0 k hk=>?_,h4⟩
        by_cases hki:k=i
        · subst hki
          obtain ⟨t,ht,hm⟩:=List.any_eq_true.1 ha
          exact ⟨t,ht,by simpa using hm⟩
        · exact h3 h0 k (by omega)
      · split
        · rename_i hu
          obtain ⟨hg,hm⟩:=I2 h (i:=i) (by omega) hu
          refine ⟨by simp; omega,fun t ht=>?_,fun _ k hk=>?_,fun hn=>by simp at hn⟩
          · rcases List.mem_append.1 ht with ht | ht
            · exact h2 t ht
            · simp at ht; subst ht; exact hg
          · by_cases hki:k=i
            · subst hki
              exact ⟨_,by simp,hm⟩
            · obtain ⟨t,ht,hkt⟩:=h3 he k (by omega)
              exact ⟨t,by simp[ht],hkt⟩
        · rename_i hu
          obtain ⟨a,b⟩:=JT hu
          exact ⟨by simp,by simp,fun h0=>absurd h0 hu,fun _=>⟨a,rfl⟩⟩
end Gv
