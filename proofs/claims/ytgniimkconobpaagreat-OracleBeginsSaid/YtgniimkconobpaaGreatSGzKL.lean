/-
  Part 12 of the proof: what the machine does and what the functions answer.
  Conditions: those that each lemma names.
-/
import Derived.Test.YtgniimkconobpaaGreatSGzKK
set_option linter.unusedSimpArgs false
set_option linter.unusedVariables false
set_option linter.unusedSimpArgs false
namespace Gv
open Go Go.Proofs
theorem Bp {x:Int} : ∀ (o:List Int) (i:Int),x∈o→∃ k:Nat,cO (fun y=>y == x) o i=i+k∧o[k]?=some x
  | [],_,h=>by simp at h
  | y :: o,i,h=>by
    by_cases e:y=x
    · exact ⟨0,by simp[cO,e],by simp[e]⟩
    · have hx:x∈o:=by
        rcases List.mem_cons.1 h with rfl | h
        · exact absurd rfl e
        · exact h
      obtain ⟨k,h1,h2⟩:=Bp o (i+1) hx
      exact ⟨k+1,by simp only[cO]; rw[if_neg (by simp[e]),h1]; push_cast; omega,by simpa using h2⟩
theorem vC {o:List Int} {x:Int} (h:x∈o):o[(aW o x).toNat]?=some x:=by
  obtain ⟨k,h1,h2⟩:=Bp o 0 h
  have:aW o x=k:=by unfold aW; omega
  rw[this]; simpa using h2
theorem uS {o:List Int} (hn:o.Nodup) {k:Nat} {x:Int} (h:o[k]?=some x):aW o x=k:=by
  have hx:=List.mem_of_getElem? h
  have h1:=vC hx
  have h2:=iK hx
  obtain ⟨hk,h3⟩:=List.getElem?_eq_some_iff.1 h
  obtain ⟨hk2,h4⟩:=List.getElem?_eq_some_iff.1 h1
  have:=(List.getElem_inj hn).1 (h4.trans h3.symm)
  omega
theorem oN:∀ (l:List aT) (acc:List Int),acc.Nodup→(l.foldl cH acc).Nodup
  | [],_,h=>h
  | r :: l,acc,h=>oN l _ (w8 h)
theorem Ef (p q:List Bool) (l:List aT):(bw p q l).Nodup:=oN _ _ List.nodup_nil
theorem Hk (acc:List Int) (r:aT):∃ m,cH acc r=acc ++ m:=by
  unfold cH
  split
  · exact ⟨[],by simp⟩
  · exact ⟨_,rfl⟩
theorem qC:∀ (l:List aT) (acc:List Int),∃ m,l.foldl cH acc=acc ++ m
  | [],acc=>⟨[],by simp⟩
  | r :: l,acc=>by
    obtain ⟨m,hm⟩:=Hk acc r
    obtain ⟨k,hk⟩:=qC l (cH acc r)
    exact ⟨m ++ k,by rw[List.foldl_cons,hk,hm,List.append_assoc]⟩
theorem Hj {a b:List Int} {x:Int} (h:x∈a):aW (a ++ b) x=aW a x:=by
  unfold aW
  rw[qc _ _ _ _ (by omega)]
  have:=iK h
  unfold aW at this
  rw[if_pos this.1]
theorem rz {r:av} {o:List Int} (ho:o.Nodup) (hr:r.au.length=o.length):∀ (l:List aT) (acc:List Int),o=l.foldl cH acc→(∀ x∈l,fg r (aZ (aW o) x)=true)→eH r (l.map (aZ (aW o))) ((acc.length:Int) - 1)=true
  | [],acc,h,_=>by
    simp only[List.foldl_nil] at h
    simp[eH,hr,h]
  | x :: l,acc,h,hb=>by
    simp only[List.map_cons,eH,Bool.and_eq_true,decide_eq_true_eq]
    rw[List.foldl_cons] at h
    have h1:(aZ (aW o) x).left=aW o x.left:=rfl
    obtain ⟨m,hm⟩:=qC l (cH acc x)
    rw[← h] at hm
    by_cases hx:x.left∈acc
    · have e:cH acc x=acc:=by unfold cH; rw[if_pos hx]
      rw[e] at hm h
      have h2:=iK hx
      have h3:aW o x.left=aW acc x.left:=by rw[hm]; exact Hj hx
      rw[h1,h3,if_neg (by omega)]
      exact ⟨⟨⟨h2.1,by omega⟩,hb x (by simp)⟩,rz ho hr l acc h fun y hy=>hb y (by simp[hy])⟩
    · have e:cH acc x=acc ++ [x.left]:=by unfold cH; rw[if_neg hx]
      rw[e] at hm h
      have h3:aW o x.left=acc.length:=uS ho (by rw[hm]; simp)
      rw[h1,h3,if_pos (by omega)]
      refine ⟨⟨⟨by omega,by omega⟩,hb x (by simp)⟩,?_⟩
      have:=rz ho hr l (acc ++ [x.left]) h fun y hy=>hb y (by simp[hy])
      rw[List.length_append] at this
      simpa using this
theorem vg {g r:av} (h:r.aC=g.aC):∀ (l:List Term) (i:Int),gq r l i=gq g l i
  | [],_=>rfl
  | t :: l,i=>by
    simp only[gq,vg h l]
    congr 1
    simp only[gR,ju,nS,h]
theorem sn {o:List Int} {n:Nat} (h:o.Nodup) (hb:∀ x∈o,0≤x∧x < n):o.length≤n:=by
  have:=mJ o ((List.range n).map fun (k:Nat)=>(k:Int)) h fun x hx=>by
    have:=hb x hx
    exact List.mem_map.2 ⟨x.toNat,List.mem_range.2 (by omega),by omega⟩
  simpa using this
structure dk (g:av) (p q:List Bool) (o:List Int) (r:av):Prop where
  right:aR g=true
  pe:p=aw g true
  qe:q=aQ g
  oe:o=bw p q g.rules
  re:r=eO g (aW o) p q
  nodup:o.Nodup
  inside:∀ x∈o,0≤x∧x < g.au.length
  kept:∀ R∈g.rules,bq p q R=true→R.left∈o∧∀ s∈R.right,s < 0→-1 - s∈o
  from_:∀ x∈o,∃ R∈g.rules,bq p q R=true∧R.left=x
  start:g.start∈o
theorem Bq {g:av} (hr:aR g=true) (hp:(aw g true).getD g.start.toNat false=true):dk g (aw g true) (aQ g) (bw (aw g true) (aQ g) g.rules) (eO g (aW (bw (aw g true) (aQ g) g.rules)) (aw g true) (aQ g)):=by
  have hf:=aO hr
  refine ⟨hr,rfl,rfl,rfl,rfl,Ef _ _ _,fun x hx=>?_,fun R hm hk=>⟨oG.2 ⟨R,hm,hk,rfl⟩,fun s hs hn=>?_⟩,fun x hx=>oG.1 hx,xC hr hf.dS hp (pK hr)⟩
  · obtain ⟨R,h1,_,rfl⟩:=oG.1 hx
    exact hf.left R h1
  · refine xC hr (by omega) ?_ (rB hr hm hk hs hn)
    rw[bq,Bool.and_eq_true] at hk
    have:=hk.2
    simp only[cg,List.all_eq_true] at this
    have:=this s hs
    rwa [if_neg (by omega)] at this
section
variable {g r:av} {p q:List Bool} {o:List Int}
theorem dk.rules (h:dk g p q o r):r.rules=(g.rules.filter (bq p q)).map (aZ (aW o)):=by rw[h.re]; rfl
theorem dk.au (h:dk g p q o r):r.au=o.map fun x=>g.au.getD x.toNat ⟨#[]⟩:=by rw[h.re,h.oe]; rfl
theorem dk.aC (h:dk g p q o r):r.aC=g.aC:=by rw[h.re]; rfl
theorem dk.wj (h:dk g p q o r):r.start=aW o g.start:=by rw[h.re]; rfl
theorem dk.len (h:dk g p q o r):r.au.length=o.length:=by rw[h.au]; simp
theorem dk.fB (h:dk g p q o r):aR r=true:=by
  have hf:=aO h.right
  have hR:=h.right
  simp only[aR,gA,ik,Bool.and_eq_true,decide_eq_true_eq] at hR ⊢
  obtain ⟨⟨⟨⟨⟨⟨⟨a1,a2⟩,⟨a3,a4⟩,a5⟩,a6⟩,a7⟩,a8⟩,a9⟩,a10⟩:=hR
  have hst:=iK h.start
  have hol:o.length≤g.au.length:=sn h.nodup h.inside
  have hgn:g.au.Nodup∧∀ s∈g.au,dZ (dF s)=true∧ju g s < 0:=by
    rw[pG] at a5
    refine ⟨(pj g.au).1 fun k s hk=>?_,fun s hs=>?_⟩
    · have:=a5 k s hk
      simp only[iU,tC,Bool.and_eq_true,beq_iff_eq] at this
      have:=this.1.2
      omega
    · obtain ⟨k,hk⟩:=List.getElem?_of_mem hs
      have:=a5 k s hk
      simp only[iU,Bool.and_eq_true,decide_eq_true_eq] at this
      exact ⟨this.1.1,this.2⟩
  have hget:∀ x∈o,∃ (hx:x.toNat < g.au.length),g.au.getD x.toNat ⟨#[]⟩=g.au[x.toNat]:=fun x hx=>by
    have:=h.inside x hx
    exact ⟨by omega,by simp[List.getD_eq_getElem?_getD,List.getElem?_eq_getElem (show x.toNat < g.au.length by omega)]⟩
  have hrn:r.au.Nodup:=by
    rw[h.au,List.nodup_iff_pairwise_ne,List.pairwise_map]
    refine (List.Pairwise.and_mem.1 h.nodup).imp ?_
    rintro x y ⟨hx,hy,hne⟩ e
    obtain ⟨h1,h2⟩:=hget x hx
    obtain ⟨h3,h4⟩:=hget y hy
    rw[h2,h4] at e
    have h5:=(List.getElem_inj hgn.1).1 e
    have h6:=h.inside x hx
    have h7:=h.inside y hy
    exact hne (by omega)
  have hrules:(g.rules.filter (bq p q)).length≤g.rules.length:=List.length_filter_le _ _
  obtain ⟨R0,hR0,hk0,_⟩:=h.from_ _ h.start
  have hpos:0 < (g.rules.filter (bq p q)).length:=List.length_pos_of_mem (List.mem_filter.2 ⟨hR0,hk0⟩)
  have hrl:r.rules.length=(g.rules.filter (bq p q)).length:=by rw[h.rules]; simp
  refine ⟨⟨⟨⟨⟨⟨⟨by rw[h.aC]; exact a1,?_⟩,⟨by rw[h.len]; omega,by rw[h.len]; omega⟩,?_⟩,by omega⟩,by omega⟩,by rw[h.wj]; omega⟩,by rw[h.wj,h.len]; omega⟩,?_⟩
  · rw[h.aC,vg h.aC]; exact a2
  · rw[pG]
    intro k s hk
    have hm:=List.mem_of_getElem? hk
    have hidx:=(pj r.au).2 hrn k s hk
    rw[h.au,List.mem_map] at hm
    obtain ⟨x,hx,rfl⟩:=hm
    obtain ⟨h1,h2⟩:=hget x hx
    obtain ⟨h3,h4⟩:=hgn.2 _ (h2 ▸ List.getElem_mem h1:g.au.getD x.toNat ⟨#[]⟩∈g.au)
    simp only[iU,tC,Bool.and_eq_true,beq_iff_eq,decide_eq_true_eq]
    refine ⟨⟨h3,by rw[hidx]; omega⟩,?_⟩
    simp only[ju,h.aC] at h4 ⊢
    exact h4
  · rw[h.rules]
    have:=rz (r:=r) h.nodup h.len (g.rules.filter (bq p q)) [] (by rw[h.oe]; rfl) (fun x hx=>?_)
    · simpa using this
    obtain ⟨hm,hk⟩:=List.mem_filter.1 hx
    obtain ⟨_,hin⟩:=h.kept x hm hk
    have hb:=(tE _ _ a10).2 x hm
    have hb:=hb.2.2
    simp only[fg,Bool.and_eq_true,decide_eq_true_eq,List.all_eq_true] at hb ⊢
    obtain ⟨⟨⟨b1,b2⟩,b3⟩,b4⟩:=hb
    refine ⟨⟨⟨by simpa [aZ] using b1,b2⟩,by rw[h.aC]; exact b3⟩,fun s hs=>?_⟩
    simp only[aZ,List.mem_map] at hs
    obtain ⟨s0,hs0,rfl⟩:=hs
    have b5:=b4 s0 hs0
    by_cases hn:s0 < 0
    · rw[if_pos hn]
      have hl:=iK (hin s0 hs0 hn)
      simp only[jE,lS,Bool.and_eq_true]
      rw[if_neg (by omega),decide_eq_false (p:=0≤-1 - aW o (-1 - s0)) (by omega)]
      simp only[h.len,decide_eq_true_eq,Bool.false_and,Bool.not_false,and_true]
      omega
    · rw[if_neg hn]
      simp only[jE,lS,h.aC] at b5 ⊢
      rw[if_pos (by omega)] at b5 ⊢
      exact b5
end
end Gv
set_option linter.unusedSimpArgs false
namespace Gv
open Go Go.Proofs
inductive qL (g:av):Int→Prop
  | mk (R:aT):R∈g.rules→(∀ s∈R.right,s < 0→qL g (-1 - s))→qL g R.left
inductive mG (g:av) (p:List Bool):Int→Prop
  | start:mG g p g.start
  | next (R:aT) (s:Int):R∈g.rules→mG g p R.left→cg R.right p true=true→s∈R.right→s < 0→mG g p (-1 - s)
theorem rl {l:List Int} {p:List Bool} : cg l p true=true↔∀ s∈l,s < 0→p.getD (-1 - s).toNat false=true:=by
  simp only[cg,List.all_eq_true]
  constructor
  · intro h s hs hn
    have:=h s hs
    rwa [if_neg (by omega)] at this
  · intro h s hs
    by_cases hn:s < 0
    · rw[if_neg (by omega)]; exact h s hs hn
    · rw[if_pos (by omega)]
theorem sk {l:List Bool} {i j:Nat} (h:(l.set i true).getD j false=true):j=i∨l.getD j false=true:=by
  by_cases e:i=j
  · exact .inl e.symm
  · right
    simp only[List.getD_eq_getElem?_getD,List.getElem?_set,if_neg e] at h ⊢
    exact h
theorem rG {g:av} {i:Nat} : (bG g).getD i false=false:=by
  simp only[bG,List.getD_eq_getElem?_getD,List.getElem?_replicate]
  split <;> rfl
theorem Am {g:av} (hr:aR g=true):∀ i:Nat,(aw g true).getD i false=true→qL g i:=by
  have hf:=aO hr
  have hst:∀ (is:List Bool) (R:aT),R∈g.rules→(∀ i:Nat,is.getD i false=true→qL g i)→∀ i:Nat,(cF true is R).getD i false=true→qL g i:=by
    intro is R hR h i hi
    unfold cF at hi
    split at hi
    · rename_i ha
      rcases sk hi with rfl | hi
      · have:=hf.left R hR
        have e:((R.left.toNat:Nat):Int)=R.left:=by omega
        rw[e]
        refine .mk R hR fun s hs hn=>?_
        have:=h _ (rl.1 ha s hs hn)
        rwa [show (((-1 - s).toNat:Nat):Int) = -1 - s by omega] at this
      · exact h i hi
    · exact h i hi
  have hfold:∀ (l:List aT) (is:List Bool),(∀ R∈l,R∈g.rules)→(∀ i:Nat,is.getD i false=true→qL g i)→∀ i:Nat,(l.foldl (cF true) is).getD i false=true→qL g i:=by
    intro l
    induction l with
    | nil=>intro is _ h; exact h
    | cons R l ih=>intro is hl h; exact ih _ (fun x hx=>hl x (by simp[hx])) (hst is R (hl R (by simp)) h)
  have hit:∀ (n:Nat) (is:List Bool),(∀ i:Nat,is.getD i false=true→qL g i)→∀ i:Nat,(iter (fP g true) n is).getD i false=true→qL g i:=by
    intro n
    induction n with
    | zero=>intro is h; exact h
    | succ n ih=>intro is h; exact ih _ (hfold g.rules is (fun _ h=>h) h)
  rw[aw,if_pos hr]
  exact hit _ _ fun i hi=>by rw[rG] at hi; simp at hi
theorem yU (t:Bool) (is:List Bool) (R:aT):eF is (cF t is R):=by
  unfold cF
  split
  · exact .set _ _
  · exact .refl _
theorem yC (t:Bool):∀ (l:List aT) (is:List Bool),eF is (l.foldl (cF t) is)
  | [],is=>.refl _
  | R :: l,is=>(yU t is R).trans (yC t l _)
theorem wJ {t:Bool} : ∀ {l:List aT} {is:List Bool},l.foldl (cF t) is=is→∀ R∈l,cF t is R=is
  | [],_,_,_,h=>by simp at h
  | R :: l,is,h,x,hx=>by
    rw[List.foldl_cons] at h
    have h1:=yC t l (cF t is R)
    rw[h] at h1
    have h2:=(h1.HC (yU t is R))
    rcases List.mem_cons.1 hx with rfl | hx
    · exact h2
    · rw[h2] at h; exact wJ h x hx
theorem FI {g:av} (hr:aR g=true) (t:Bool):fP g t (aw g t)=aw g t:=by
  have hf:=aO hr
  have h:=pA (jo t) g.rules 16 (bG g) (by have:=hf.au; simp[bG]; omega)
  rw[B7,BC hr] at h
  exact h.1
theorem fM {g:av} (hr:aR g=true) {t:Bool} {R:aT} (hR:R∈g.rules) (ha:cg R.right (aw g t) t=true):(aw g t).getD R.left.toNat false=true:=by
  have h1:=wJ (FI hr t) R hR
  have hf:=aO hr
  have hl:=eT hr t
  have hb:=hf.left R hR
  unfold cF at h1
  rw[if_pos ha] at h1
  rw[← h1]
  simp only[List.getD_eq_getElem?_getD]
  rw[List.getElem?_set_self (by omega)]
  rfl
theorem tJ {g:av} (hr:aR g=true) {x:Int} (h:qL g x):(aw g true).getD x.toNat false=true:=by
  induction h with
  | mk R hR _ ih=>exact fM hr hR (rl.2 fun s hs hn=>ih s hs hn)
theorem AW {g:av} (hr:aR g=true):∀ i:Nat,(aQ g).getD i false=true→mG g (aw g true) i:=by
  have hf:=aO hr
  have hmk:∀ (R:aT),R∈g.rules→mG g (aw g true) R.left→cg R.right (aw g true) true=true→∀ (l:List Int) (is:List Bool),(∀ s∈l,s∈R.right)→(∀ i:Nat,is.getD i false=true→mG g (aw g true) i)→∀ i:Nat,(l.foldl mark is).getD i false=true→mG g (aw g true) i:=by
    intro R hR hl ha l
    induction l with
    | nil=>intro is _ h; exact h
    | cons s l ih =>
      intro is hs h
      refine ih _ (fun x hx=>hs x (by simp[hx])) fun i hi=>?_
      unfold mark at hi
      split at hi
      · rename_i hn
        rcases sk hi with rfl | hi
        · rw[show (((-1 - s).toNat:Nat):Int) = -1 - s by omega]
          exact .next R s hR hl ha (hs s (by simp)) hn
        · exact h i hi
      · exact h i hi
  have hst:∀ (is:List Bool) (R:aT),R∈g.rules→(∀ i:Nat,is.getD i false=true→mG g (aw g true) i)→∀ i:Nat,(dP (aw g true) is R).getD i false=true→mG g (aw g true) i:=by
    intro is R hR h
    unfold dP
    split
    · rename_i ha
      rw[Bool.and_eq_true] at ha
      have h1:=h _ ha.1
      have:=hf.left R hR
      rw[show ((R.left.toNat:Nat):Int)=R.left by omega] at h1
      exact hmk R hR h1 ha.2 R.right is (fun _ h=>h) h
    · exact h
  have hfold:∀ (l:List aT) (is:List Bool),(∀ R∈l,R∈g.rules)→(∀ i:Nat,is.getD i false=true→mG g (aw g true) i)→∀ i:Nat,(l.foldl (dP (aw g true)) is).getD i false=true→mG g (aw g true) i:=by
    intro l
    induction l with
    | nil=>intro is _ h; exact h
    | cons R l ih=>intro is hl h; exact ih _ (fun x hx=>hl x (by simp[hx])) (hst is R (hl R (by simp)) h)
  have hit:∀ (n:Nat) (is:List Bool),(∀ i:Nat,is.getD i false=true→mG g (aw g true) i)→∀ i:Nat,(iter (ky g (aw g true)) n is).getD i false=true→mG g (aw g true) i:=by
    intro n
    induction n with
    | zero=>intro is h; exact h
    | succ n ih=>intro is h; exact ih _ (hfold g.rules is (fun _ h=>h) h)
  rw[aQ,if_pos hr]
  refine hit _ _ fun i hi=>?_
  rcases sk hi with rfl | hi
  · have:=hf.dS
    rw[show ((g.start.toNat:Nat):Int)=g.start by omega]
    exact .start
  · rw[rG] at hi; simp at hi
theorem uu {g:av} (hr:aR g=true) {x:Int} (h:mG g (aw g true) x):(aQ g).getD x.toNat false=true:=by
  induction h with
  | start=>exact pK hr
  | next R s hR _ ha hs hn ih=>exact rB hr hR (by rw[bq,ih,ha]; rfl) hs hn
section
variable {g r:av} {p q:List Bool} {o:List Int}
theorem dk.Ks (h:dk g p q o r) {x:Int} (hd:qL g x):x∈o→qL r (aW o x):=by
  induction hd with
  | mk R hR hsub ih =>
    intro hx
    obtain ⟨R1,hR1,hk1,e1⟩:=h.from_ _ hx
    have hk:bq p q R=true:=by
      rw[bq,Bool.and_eq_true] at hk1 ⊢
      refine ⟨by rw[← e1]; exact hk1.1,?_⟩
      rw[h.pe]
      exact rl.2 fun s hs hn=>tJ h.right (hsub s hs hn)
    have hin:=(h.kept R hR hk).2
    have hm:aZ (aW o) R∈r.rules:=by rw[h.rules]; exact List.mem_map.2 ⟨R,List.mem_filter.2 ⟨hR,hk⟩,rfl⟩
    refine qL.mk (aZ (aW o) R) hm fun s' hs' hn'=>?_
    simp only[aZ,List.mem_map] at hs'
    obtain ⟨s,hs,rfl⟩:=hs'
    by_cases hn:s < 0
    · rw[if_pos hn]
      have:=ih s hs hn (hin s hs hn)
      rwa [show -1 - (-1 - aW o (-1 - s))=aW o (-1 - s) by omega]
    · rw[if_neg hn] at hn'; omega
theorem dk.JF (h:dk g p q o r) {x:Int} (hx:x∈o):(aw r true).getD (aW o x).toNat false=true:=by
  obtain ⟨R,hR,hk,rfl⟩:=h.from_ _ hx
  rw[bq,Bool.and_eq_true,h.pe] at hk
  have h1:=fM h.right hR hk.2
  have h2:=Am h.right _ h1
  have:=(h.inside _ hx)
  rw[show ((R.left.toNat:Nat):Int)=R.left by omega] at h2
  exact tJ h.fB (h.Ks h2 hx)
theorem dk.at_ (h:dk g p q o r) {k:Nat} (hk:k < o.length):∃ x∈o,aW o x=k∧o[k]?=some x:=⟨o[k],List.getElem_mem _,uS h.nodup (List.getElem?_eq_getElem hk),List.getElem?_eq_getElem hk⟩
theorem dk.yY (h:dk g p q o r) {k:Nat} (hk:k < o.length):(aw r true).getD k false=true:=by
  obtain ⟨x,hx,h1,_⟩:=h.at_ hk
  have:=h.JF hx
  rwa [h1,Int.toNat_natCast] at this
theorem dk.Eu (h:dk g p q o r) {R:aT} (hR:R∈r.rules):cg R.right (aw r true) true=true:=by
  have hf:=aO h.fB
  refine rl.2 fun s hs hn=>h.yY ?_
  have:=hf.neg hR hs hn
  rw[h.len] at this
  omega
theorem dk.Kn (h:dk g p q o r) {x:Int} (hd:mG g (aw g true) x):mG r (aw r true) (aW o x):=by
  induction hd with
  | start=>rw[← h.wj]; exact .start
  | next R s hR h1 ha hs hn ih =>
    have hk:bq p q R=true:=by
      rw[bq,h.pe,h.qe,ha,uu h.right h1]; rfl
    have hm:aZ (aW o) R∈r.rules:=by rw[h.rules]; exact List.mem_map.2 ⟨R,List.mem_filter.2 ⟨hR,hk⟩,rfl⟩
    have hin:=(h.kept R hR hk).2 s hs hn
    have h2:=iK hin
    have:=mG.next (g:=r) (p:=aw r true) (aZ (aW o) R) (-1 - aW o (-1 - s)) hm ih (h.Eu hm) (by
      simp only[aZ,List.mem_map]
      exact ⟨s,hs,by rw[if_pos hn]⟩) (by omega)
    rwa [show -1 - (-1 - aW o (-1 - s))=aW o (-1 - s) by omega] at this
theorem dk.FR (h:dk g p q o r) {k:Nat} (hk:k < o.length):(aQ r).getD k false=true:=by
  obtain ⟨x,hx,h1,_⟩:=h.at_ hk
  obtain ⟨R,hR,hkk,rfl⟩:=h.from_ _ hx
  rw[bq,Bool.and_eq_true,h.qe] at hkk
  have h2:=AW h.right _ hkk.1
  have:=(h.inside _ hx)
  rw[show ((R.left.toNat:Nat):Int)=R.left by omega] at h2
  have:=uu h.fB (h.Kn h2)
  rwa [h1,Int.toNat_natCast] at this
def iW (n:Nat):List Int:=(List.range n).map fun (k:Nat)=>(k:Int)
theorem BI (n:Nat):(iW n).length=n:=by simp[iW]
theorem vE {n k:Nat} (h:k < n):(iW n)[k]?=some (k:Int):=by simp[iW,h]
theorem DU (n:Nat):(iW n).Nodup:=by
  rw[iW,List.nodup_iff_pairwise_ne,List.pairwise_map]
  exact (List.nodup_range (n:=n)).imp fun h e=>h (by omega)
theorem vM {n:Nat} {x:Int} (h0:0≤x) (h1:x < n):aW (iW n) x=x:=by
  have:=uS (DU n) (vE (n:=n) (k:=x.toNat) (by omega))
  rw[show ((x.toNat:Nat):Int)=x by omega] at this
  exact this
theorem y5 {p q:List Bool} : ∀ (l:List aT) (i:Int),(∀ R∈l,bq p q R=true)→bO p q l i=(List.range l.length).map fun (k:Nat)=>i+(k:Int)
  | [],_,_=>rfl
  | R :: l,i,h=>by
    rw[bO,if_pos (h R (by simp)),y5 l (i+1) (fun x hx=>h x (by simp[hx])),List.length_cons,List.range_succ_eq_map,List.map_cons,List.map_map]
    congr 1
    · omega
    · apply List.map_congr_left
      intro k _
      simp only[Function.comp]
      push_cast; omega
theorem qH {f:Int→Int} {o:List Int} (hf:∀ x∈o,∀ y∈o,f x=f y→x=y):∀ (l:List aT) (acc:List Int),(∀ x∈acc,x∈o)→(∀ R∈l,R.left∈o)→(l.map (aZ f)).foldl cH (acc.map f)=(l.foldl cH acc).map f
  | [],_,_,_=>rfl
  | R :: l,acc,ha,hl=>by
    have e:cH (acc.map f) (aZ f R)=(cH acc R).map f:=by
      have h1:(aZ f R).left=f R.left:=rfl
      unfold cH
      rw[h1]
      by_cases h:R.left∈acc
      · rw[if_pos h,if_pos (List.mem_map.2 ⟨_,h,rfl⟩)]
      · rw[if_neg h,if_neg (fun hm=>by
          obtain ⟨y,hy,e⟩:=List.mem_map.1 hm
          exact h (hf y (ha y hy) _ (hl R (by simp)) e ▸ hy))]
        simp
    rw[List.map_cons,List.foldl_cons,List.foldl_cons,e]
    refine qH hf l (cH acc R) (fun x hx=>?_) (fun x hx=>hl x (by simp[hx]))
    unfold cH at hx
    split at hx
    · exact ha x hx
    · rcases List.mem_append.1 hx with hx | hx
      · exact ha x hx
      · simp at hx; subst hx; exact hl R (by simp)
theorem dk.inj (h:dk g p q o r):∀ x∈o,∀ y∈o,aW o x=aW o y→x=y:=by
  intro x hx y hy e
  have h1:=vC hx
  have h2:=vC hy
  rw[e,h2] at h1
  exact (Option.some.inj h1).symm
theorem dk.Ir (h:dk g p q o r):o.map (aW o)=iW o.length:=by
  apply List.ext_getElem?
  intro k
  rw[List.getElem?_map]
  by_cases hk:k < o.length
  · rw[vE hk,List.getElem?_eq_getElem hk,Option.map_some,uS h.nodup (List.getElem?_eq_getElem hk)]
  · rw[List.getElem?_eq_none (by omega),List.getElem?_eq_none (by rw[BI]; omega)]; rfl
theorem dk.vB (h:dk g p q o r):∀ R∈r.rules,bq (aw r true) (aQ r) R=true:=fun R hR=>by
  have hf:=aO h.fB
  have:=hf.left R hR
  rw[h.len] at this
  rw[bq,h.FR (by omega),h.Eu hR]; rfl
theorem dk.ord (h:dk g p q o r):bw (aw r true) (aQ r) r.rules=iW o.length:=by
  unfold bw
  rw[List.filter_eq_self.2 h.vB,h.rules]
  have:=qH h.inj (g.rules.filter (bq p q)) [] (by simp) (fun R hR=>by
    obtain ⟨h1,h2⟩:=List.mem_filter.1 hR
    exact (h.kept R h1 h2).1)
  rw[List.map_nil] at this
  rw[this,← h.Ir]
  congr 1
  rw[h.oe]; rfl
theorem dk.once (h:dk g p q o r):dp r=(r,iW r.rules.length,0):=by
  have hf:=aO h.fB
  have hst:=hf.start
  have hst0:=hf.dS
  rw[h.len] at hst
  rw[fa h.fB,if_pos (h.yY (by omega)),h.ord]
  have hk:bO (aw r true) (aQ r) r.rules 0=iW r.rules.length:=by
    rw[y5 _ _ h.vB]
    unfold iW
    apply List.map_congr_left
    intro k _; omega
  have hr:eO r (aW (iW o.length)) (aw r true) (aQ r)=r:=by
    unfold eO
    rw[h.ord,List.filter_eq_self.2 h.vB]
    have e1:((iW o.length).map fun x=>r.au.getD x.toNat ⟨#[]⟩)=r.au:=by
      apply List.ext_getElem?
      intro k
      rw[List.getElem?_map]
      by_cases hkk:k < o.length
      · rw[vE hkk,Option.map_some]
        simp[List.getD_eq_getElem?_getD,List.getElem?_eq_getElem (show k < r.au.length by rw[h.len]; omega)]
      · rw[List.getElem?_eq_none (by rw[BI]; omega),List.getElem?_eq_none (by rw[h.len]; omega)]; rfl
    have e2:r.rules.map (aZ (aW (iW o.length)))=r.rules:=by
      conv=>rhs; rw[← List.map_id r.rules]
      apply List.map_congr_left
      intro R hR
      have hl:=hf.left R hR
      rw[h.len] at hl
      unfold aZ
      rw[vM hl.1 hl.2]
      have e3:(R.right.map fun s=>if s < 0 then -1 - aW (iW o.length) (-1 - s) else s)=R.right:=by
        conv=>rhs; rw[← List.map_id R.right]
        apply List.map_congr_left
        intro s hs
        by_cases hn:s < 0
        · have:=hf.neg hR hs hn
          rw[h.len] at this
          rw[if_pos hn,vM (by omega) this]
          simp only[id]; omega
        · rw[if_neg hn]; rfl
      rw[e3]; rfl
    rw[e1,e2,vM hst0 hst]
  rw[hr,hk]
end
end Gv
set_option linter.unusedSimpArgs false
namespace Gv
open Go Go.Proofs
def eu (p:List Int) (i:Nat) (s:Int):Prop:=∃ c,p[i]?=some c∧(c=s∨c = -1)
inductive Sp (g:av) (p:List Int):List Int→Nat→Nat→Prop
  | nil (i:Nat):Sp g p [] i i
  | term (s:Int) (l:List Int) (i j:Nat):0≤s→eu p i s→Sp g p l (i+1) j→Sp g p (s :: l) i j
  | ca (s:Int) (l:List Int) (R:aT) (i k j:Nat):s < 0→R∈g.rules→R.left = -1 - s→Sp g p R.right i k→Sp g p l k j→Sp g p (s :: l) i j
theorem Sp.le {g:av} {p:List Int} {l:List Int} {i j:Nat} (h:Sp g p l i j):i≤j:=by
  induction h with
  | nil=>exact Nat.le_refl _
  | term _ _ _ _ _ _ _ ih=>omega
  | ca _ _ _ _ _ _ _ _ _ _ _ ih1 ih2=>omega
theorem Sp.len {g:av} {p:List Int} {l:List Int} {i j:Nat} (h:Sp g p l i j):i≤p.length→j≤p.length:=by
  induction h with
  | nil=>exact id
  | term _ _ i _ _ hf _ ih =>
    intro _
    obtain ⟨c,hc,_⟩:=hf
    have:=(List.getElem?_eq_some_iff.1 hc).1
    exact ih (by omega)
  | ca _ _ _ _ _ _ _ _ _ _ _ ih1 ih2=>exact fun h=>ih2 (ih1 h)
theorem Sp.app {g:av} {p:List Int} {a:List Int} {i k:Nat} (h:Sp g p a i k):∀ {b:List Int} {j:Nat},Sp g p b k j→Sp g p (a ++ b) i j:=by
  induction h with
  | nil=>exact fun h=>h
  | term s l i _ h0 hf _ ih=>exact fun hb=>.term s _ i _ h0 hf (ih hb)
  | ca s l R i k _ h0 hR hl h1 _ _ ih2=>exact fun hb=>.ca s _ R i k _ h0 hR hl h1 (ih2 hb)
theorem Sp.split {g:av} {p:List Int} : ∀ {a b:List Int} {i j:Nat},Sp g p (a ++ b) i j→∃ k,Sp g p a i k∧Sp g p b k j
  | [],b,i,j,h=>⟨i,.nil i,h⟩
  | s :: a,b,i,j,h=>by
    cases h with
    | term _ _ _ _ h0 hf h =>
      obtain ⟨k,h1,h2⟩:=Sp.split h
      exact ⟨k,.term s a i k h0 hf h1,h2⟩
    | ca _ _ R _ m _ h0 hR hl h1 h =>
      obtain ⟨k,h2,h3⟩:=Sp.split h
      exact ⟨k,.ca s a R i m k h0 hR hl h1 h2,h3⟩
theorem Dh {g:av} (hr:aR g=true) {p l:List Int} {i j:Nat} (h:Sp g p l i j):i=j→cg l (aw g false) false=true:=by
  induction h with
  | nil=>intro _; rfl
  | term _ _ _ _ _ _ h _=>intro e; have:=h.le; omega
  | ca s l R i k j h0 hR hl h1 h2 ih1 ih2 =>
    intro e
    have l1:=h1.le
    have l2:=h2.le
    have g1:=fM hr hR (ih1 (by omega))
    rw[hl] at g1
    have g2:=ih2 (by omega)
    simp only[cg,List.all_cons,Bool.and_eq_true] at g2 ⊢
    rw[if_neg (by omega)]
    exact ⟨g1,g2⟩
def pr (g:av) (is:List Bool):Prop:=∀ i,is.getD i false=true→∃ R∈g.rules,R.left.toNat=i∧∀ (p:List Int) (k:Nat),Sp g p R.right k k
theorem Aa {g:av} (hf:∀ r∈g.rules,0≤r.left) {is:List Bool} (h:pr g is):∀ l:List Int,cg l is false=true→∀ (p:List Int) (k:Nat),Sp g p l k k
  | [],_,p,k=>.nil k
  | s :: l,ha,p,k=>by
    simp only[cg,List.all_cons,Bool.and_eq_true] at ha
    obtain ⟨h1,h2⟩:=ha
    by_cases h0:0≤s
    · rw[if_pos h0] at h1; simp at h1
    · rw[if_neg h0] at h1
      obtain ⟨R,hR,hl,hs⟩:=h _ h1
      have:=hf R hR
      exact .ca s l R k k k (by omega) hR (by omega) (hs p k) (Aa hf h l h2 p k)
theorem D4 {g:av} (hr:aR g=true):pr g (aw g false):=by
  have hf:=aO hr
  have hl:=fun r hr'=>(hf.left r hr').1
  have hst:∀ (is:List Bool) (R:aT),R∈g.rules→pr g is→pr g (cF false is R):=by
    intro is R hR h i hi
    unfold cF at hi
    split at hi
    · rename_i ha
      rcases sk hi with rfl | hi
      · exact ⟨R,hR,rfl,Aa hl h R.right ha⟩
      · exact h i hi
    · exact h i hi
  have hfold:∀ (l:List aT) (is:List Bool),(∀ R∈l,R∈g.rules)→pr g is→pr g (l.foldl (cF false) is):=by
    intro l
    induction l with
    | nil=>intro is _ h; exact h
    | cons R l ih=>intro is hl h; exact ih _ (fun x hx=>hl x (by simp[hx])) (hst is R (hl R (by simp)) h)
  have hit:∀ (n:Nat) (is:List Bool),pr g is→pr g (iter (fP g false) n is):=by
    intro n
    induction n with
    | zero=>intro is h; exact h
    | succ n ih=>intro is h; exact ih _ (hfold g.rules is (fun _ h=>h) h)
  unfold aw
  rw[if_pos hr]
  exact hit _ _ fun i hi=>by rw[rG] at hi; simp at hi
structure Item where
  bj:Nat
  dot:Nat
  cd:Nat
  deriving DecidableEq
def Sound (g:av) (p:List Int) (at_:Nat) (x:Item):Prop:=∃ R,g.rules[x.bj]?=some R∧x.dot≤R.right.length∧x.cd≤at_∧Sp g p (R.right.take x.dot) x.cd at_
structure oC (g:av) (p:List Int) (S:Nat→List Item):Prop where
  start:∀ (i:Nat) (R:aT),g.rules[i]?=some R→R.left=g.start→⟨i,0,0⟩∈S 0
  term:∀ a x R s,x∈S a→g.rules[x.bj]?=some R→R.right[x.dot]?=some s→0≤s→eu p a s→⟨x.bj,x.dot+1,x.cd⟩∈S (a+1)
  pred:∀ a x R s i R',x∈S a→g.rules[x.bj]?=some R→R.right[x.dot]?=some s→s < 0→g.rules[i]?=some R'→R'.left = -1 - s→a≤p.length→⟨i,0,a⟩∈S a
  null:∀ a x R s,x∈S a→g.rules[x.bj]?=some R→R.right[x.dot]?=some s→s < 0→(aw g false).getD (-1 - s).toNat false=true→a≤p.length→⟨x.bj,x.dot+1,x.cd⟩∈S a
  comp:∀ a y R' x R s,y∈S a→g.rules[y.bj]?=some R'→y.dot=R'.right.length→y.cd < a→x∈S y.cd→g.rules[x.bj]?=some R→R.right[x.dot]?=some s→s < 0→R'.left = -1 - s→a≤p.length→⟨x.bj,x.dot+1,x.cd⟩∈S a
theorem wc {g:av} (hr:aR g=true) {p:List Int} {S:Nat→List Item} (hc:oC g p S) {l:List Int} {a j:Nat} (h:Sp g p l a j) :
    ∀ (x:Item) (R:aT),x∈S a→g.rules[x.bj]?=some R→R.right.drop x.dot=l→x.dot≤R.right.length→a≤p.length→⟨x.bj,R.right.length,x.cd⟩∈S j:=by
  induction h with
  | nil i =>
    intro x R hx hR hd hle _
    have:x.dot=R.right.length:=by
      have:=congrArg List.length hd
      simp at this; omega
    rw[← this]; exact hx
  | term s l i j h0 hf _ ih =>
    intro x R hx hR hd hle hp
    have hs:R.right[x.dot]?=some s:=by
      have:=congrArg (·[0]?) hd
      simpa using this
    have hlt:=(List.getElem?_eq_some_iff.1 hs).1
    have h1:=hc.term i x R s hx hR hs h0 hf
    obtain ⟨c,hc',_⟩:=hf
    have hpl:=(List.getElem?_eq_some_iff.1 hc').1
    refine ih ⟨x.bj,x.dot+1,x.cd⟩ R h1 hR ?_ hlt (by omega)
    have:=congrArg List.tail hd
    simpa using this
  | ca s l Q i k j h0 hQ hl hs1 hs2 ih1 ih2 =>
    intro x R hx hR hd hle hp
    have hs:R.right[x.dot]?=some s:=by
      have:=congrArg (·[0]?) hd
      simpa using this
    have hlt:=(List.getElem?_eq_some_iff.1 hs).1
    obtain ⟨q,hq,hqe⟩:=List.getElem_of_mem hQ
    have hq':g.rules[q]?=some Q:=by rw[List.getElem?_eq_getElem hq,hqe]
    have hpr:=hc.pred i x R s q Q hx hR hs h0 hq' hl hp
    have hdone:=ih1 ⟨q,0,i⟩ Q hpr hq' (by simp) (by simp) hp
    have hk:=hs1.len hp
    have hadv:⟨x.bj,x.dot+1,x.cd⟩∈S k:=by
      rcases Nat.lt_or_eq_of_le hs1.le with e | e
      · exact hc.comp k ⟨q,Q.right.length,i⟩ Q x R s hdone hq' rfl e hx hR hs h0 hl hk
      · subst e
        have:=fM hr hQ (Dh hr hs1 rfl)
        rw[hl] at this
        exact hc.null i x R s hx hR hs h0 this hp
    refine ih2 ⟨x.bj,x.dot+1,x.cd⟩ R hadv hR ?_ hlt hk
    have:=congrArg List.tail hd
    simpa using this
theorem E2 {g:av} (hr:aR g=true) {p:List Int} {S:Nat→List Item} (hc:oC g p S) (hs:∀ a x,x∈S a→Sound g p a x) :
    (∃ x∈S p.length,∃ R,g.rules[x.bj]?=some R∧R.left=g.start∧x.cd=0∧x.dot=R.right.length)↔Sp g p [-1 - g.start] 0 p.length:=by
  have hf:=aO hr
  have h0:=hf.dS
  constructor
  · rintro ⟨x,hx,R,hR,hl,hfr,hd⟩
    obtain ⟨R',hR',_,_,hsp⟩:=hs _ x hx
    rw[hR] at hR'; simp at hR'; subst hR'
    rw[hd,List.take_length,hfr] at hsp
    exact .ca _ _ R 0 p.length p.length (by omega) (List.mem_of_getElem? hR) (by omega) hsp (.nil _)
  · intro h
    cases h with
    | term _ _ _ _ h1 _ _=>omega
    | ca _ _ R _ k _ h1 hR hl hsp hn =>
      cases hn
      obtain ⟨q,hq,hqe⟩:=List.getElem_of_mem hR
      have hq':g.rules[q]?=some R:=by rw[List.getElem?_eq_getElem hq,hqe]
      have:=wc hr hc hsp ⟨q,0,0⟩ R (hc.start q R hq' (by omega)) hq' (by simp) (by simp) (by omega)
      exact ⟨_,this,R,hq',by omega,rfl,rfl⟩
inductive In (p:List Int) (T:Nat→Nat→Nat→Prop):List Int→Nat→Nat→Prop
  | nil (i:Nat):In p T [] i i
  | term (s:Int) (l:List Int) (i j:Nat):0≤s→eu p i s→In p T l (i+1) j→In p T (s :: l) i j
  | ca (s:Int) (l:List Int) (i k j:Nat):s < 0→T (-1 - s).toNat i k→In p T l k j→In p T (s :: l) i j
theorem zN {g:av} {p:List Int} {T:Nat→Nat→Nat→Prop} (hT:∀ n i j,T n i j→Sp g p [-1 - (n:Int)] i j) {l:List Int} {i j:Nat} (h:In p T l i j):Sp g p l i j:=by
  induction h with
  | nil i=>exact .nil i
  | term s l i j h0 hf _ ih=>exact .term s l i j h0 hf ih
  | ca s l i k j h0 h1 _ ih =>
    have:=hT _ _ _ h1
    rw[show -1 - (((-1 - s).toNat:Nat):Int)=s by omega] at this
    exact Sp.app this ih
theorem zX {g:av} (hf:∀ r∈g.rules,0≤r.left) {p:List Int} {T:Nat→Nat→Nat→Prop} (hT:∀ R∈g.rules,∀ i j,i≤p.length→In p T R.right i j→T R.left.toNat i j) {l:List Int} {i j:Nat} (h:Sp g p l i j):i≤p.length→In p T l i j:=by
  induction h with
  | nil i=>intro _; exact .nil i
  | term s l i j h0 hfi _ ih =>
    intro _
    obtain ⟨c,hc,hcs⟩:=hfi
    have:=(List.getElem?_eq_some_iff.1 hc).1
    exact .term s l i j h0 ⟨c,hc,hcs⟩ (ih (by omega))
  | ca s l R i k j h0 hR hl h1 _ ih1 ih2 =>
    intro hp
    have:=hT R hR i k hp (ih1 hp)
    rw[hl] at this
    exact .ca s l i k j h0 this (ih2 (h1.len hp))
theorem EM {g:av} (hf:∀ r∈g.rules,0≤r.left) {p:List Int} {T:Nat→Nat→Nat→Prop} (hs:∀ n i j,T n i j→Sp g p [-1 - (n:Int)] i j) (hc:∀ R∈g.rules,∀ i j,i≤p.length→In p T R.right i j→T R.left.toNat i j) {n i j:Nat} (hi:i≤p.length) :
    T n i j↔Sp g p [-1 - (n:Int)] i j:=by
  refine ⟨hs n i j,fun h=>?_⟩
  cases h with
  | term _ _ _ _ h0 _ _=>omega
  | ca _ _ R _ k _ h0 hR hl h1 h2 =>
    cases h2
    have:=hc R hR i _ hi (zX hf hc h1 hi)
    rw[show R.left.toNat=n by omega] at this
    exact this
end Gv
set_option linter.unusedSimpArgs false
namespace Gv
open Go Go.Proofs
theorem In.app {p:List Int} {T:Nat→Nat→Nat→Prop} {a:List Int} {i k:Nat} (h:In p T a i k):∀ {b:List Int} {j:Nat},In p T b k j→In p T (a ++ b) i j:=by
  induction h with
  | nil=>exact fun h=>h
  | term s l i _ h0 hf _ ih=>exact fun hb=>.term s _ i _ h0 hf (ih hb)
  | ca s l i k _ h0 h1 _ ih=>exact fun hb=>.ca s _ i k _ h0 h1 (ih hb)
theorem In.split {p:List Int} {T:Nat→Nat→Nat→Prop} : ∀ {a b:List Int} {i j:Nat},In p T (a ++ b) i j→∃ k,In p T a i k∧In p T b k j
  | [],b,i,j,h=>⟨i,.nil i,h⟩
  | s :: a,b,i,j,h=>by
    cases h with
    | term _ _ _ _ h0 hf h =>
      obtain ⟨k,h1,h2⟩:=In.split h
      exact ⟨k,.term s a i k h0 hf h1,h2⟩
    | ca _ _ _ m _ h0 h1 h =>
      obtain ⟨k,h2,h3⟩:=In.split h
      exact ⟨k,.ca s a i m k h0 h1 h2,h3⟩
theorem In.le {p:List Int} {T:Nat→Nat→Nat→Prop} (hT:∀ n i j,T n i j→i≤j) {l:List Int} {i j:Nat} (h:In p T l i j):i≤j:=by
  induction h with
  | nil=>exact Nat.le_refl _
  | term _ _ _ _ _ _ _ ih=>omega
  | ca _ _ _ _ _ _ h1 _ ih=>have:=hT _ _ _ h1; omega
def stepT (p:List Int) (T:Nat→Nat→Nat→Prop) (s:Int) (i j:Nat):Prop:=if 0≤s then eu p i s∧j=i+1 else T (-1 - s).toNat i j
theorem In.one {p:List Int} {T:Nat→Nat→Nat→Prop} {s:Int} {i j:Nat} : In p T [s] i j↔stepT p T s i j:=by
  unfold stepT
  constructor
  · intro h
    cases h with
    | term _ _ _ _ h0 hf h=>cases h; rw[if_pos h0]; exact ⟨hf,rfl⟩
    | ca _ _ _ _ _ h0 h1 h=>cases h; rw[if_neg (by omega)]; exact h1
  · intro h
    by_cases h0:0≤s
    · rw[if_pos h0] at h
      obtain ⟨hf,rfl⟩:=h
      exact .term s [] i _ h0 hf (.nil _)
    · rw[if_neg h0] at h
      exact .ca s [] i j j (by omega) h (.nil _)
theorem In.snoc {p:List Int} {T:Nat→Nat→Nat→Prop} {a:List Int} {s:Int} {i j:Nat} : In p T (a ++ [s]) i j↔∃ k,In p T a i k∧stepT p T s k j :=
  ⟨fun h=>by obtain ⟨k,h1,h2⟩:=h.split; exact ⟨k,h1,In.one.1 h2⟩,fun ⟨k,h1,h2⟩=>h1.app (In.one.2 h2)⟩
abbrev Tb:=List (List (List Bool))
def c8 (T:Tb) (n i j:Nat):Bool:=((T.getD n []).getD i []).getD j false
def dz (T:Tb) (N M:Nat):Prop:=T.length=N∧∀ r∈T,r.length=M∧∀ c∈r,c.length=M
theorem dz.row {T:Tb} {N M n:Nat} (h:dz T N M) (hn:n < N):∃ r,T[n]?=some r∧r.length=M∧T.getD n []=r:=by
  have:n < T.length:=by rw[h.1]; exact hn
  exact ⟨T[n],List.getElem?_eq_getElem this,(h.2 _ (List.getElem_mem _)).1,by simp[List.getD_eq_getElem?_getD,this]⟩
theorem dz.cell {T:Tb} {N M n i:Nat} (h:dz T N M) (hn:n < N) (hi:i < M):∃ r c,T[n]?=some r∧r[i]?=some c∧c.length=M∧(T.getD n []).getD i []=c:=by
  obtain ⟨r,hr,hl,hg⟩:=h.row hn
  have h1:i < r.length:=by omega
  refine ⟨r,r[i],hr,List.getElem?_eq_getElem h1,(h.2 r (List.mem_of_getElem? hr)).2 _ (List.getElem_mem _),?_⟩
  rw[hg]; simp[List.getD_eq_getElem?_getD,h1]
def kL (T:Tb) (n i j:Nat):Tb:=T.set n ((T.getD n []).set i (((T.getD n []).getD i []).set j true))
def tI (N M:Nat):Tb:=List.replicate N (List.replicate M (List.replicate M false))
theorem Cx (N M:Nat):dz (tI N M) N M:=by
  refine ⟨by simp[tI],fun r hr=>?_⟩
  simp only[tI,List.mem_replicate] at hr
  obtain ⟨_,rfl⟩:=hr
  refine ⟨by simp,fun c hc=>?_⟩
  simp only[List.mem_replicate] at hc
  obtain ⟨_,rfl⟩:=hc
  simp
theorem Ii (N M n i j:Nat):c8 (tI N M) n i j=false:=by
  simp only[c8,tI,List.getD_eq_getElem?_getD,List.getElem?_replicate]
  split
  · simp only[Option.getD_some,List.getElem?_replicate]
    split
    · simp only[Option.getD_some,List.getElem?_replicate]
      split <;> rfl
    · rfl
  · rfl
theorem GS {T:Tb} {N M n i j:Nat} (h:dz T N M) (hn:n < N) (hi:i < M):dz (kL T n i j) N M:=by
  obtain ⟨r,c,hr,hc,hcl,hg⟩:=h.cell hn hi
  obtain ⟨r',hr',hrl,hg'⟩:=h.row hn
  rw[hr] at hr'; simp at hr'; subst hr'
  refine ⟨by simp[kL,h.1],fun x hx=>?_⟩
  rw[kL,hg',] at hx
  rcases List.mem_or_eq_of_mem_set hx with hx | rfl
  · exact h.2 x hx
  · refine ⟨by simp[hrl],fun y hy=>?_⟩
    rcases List.mem_or_eq_of_mem_set hy with hy | rfl
    · exact (h.2 r (List.mem_of_getElem? hr)).2 y hy
    · rw[hg'] at hg
      rw[hg]; simp[hcl]
theorem Hz {T:Tb} {N M n i j n' i' j':Nat} (h:dz T N M) (hn:n < N) (hi:i < M) (hj:j < M):c8 (kL T n i j) n' i' j'=if n'=n∧i'=i∧j'=j then true else c8 T n' i' j':=by
  obtain ⟨r,c,hr,hc,hcl,hg⟩:=h.cell hn hi
  obtain ⟨r',hr',hrl,hg'⟩:=h.row hn
  rw[hr] at hr'; simp at hr'; subst hr'
  have hT:n < T.length:=by rw[h.1]; exact hn
  have hi':i < r.length:=by omega
  have hj':j < c.length:=by omega
  rw[hg'] at hg
  have hcc:r.getD i []=c:=hg
  simp only[c8,kL,hg',hcc]
  by_cases e1:n'=n
  · subst e1
    have a1:(T.set n' (r.set i (c.set j true))).getD n' []=r.set i (c.set j true):=by simp[List.getD_eq_getElem?_getD,hT]
    rw[a1,hg']
    by_cases e2:i'=i
    · subst e2
      have a2:(r.set i' (c.set j true)).getD i' []=c.set j true:=by simp[List.getD_eq_getElem?_getD,hi']
      rw[a2,hcc]
      by_cases e3:j'=j
      · subst e3
        rw[if_pos ⟨rfl,rfl,rfl⟩]
        simp[List.getD_eq_getElem?_getD,hj']
      · rw[if_neg (fun e=>e3 e.2.2)]
        simp[List.getD_eq_getElem?_getD,List.getElem?_set,Ne.symm e3]
    · rw[if_neg (fun e=>e2 e.2.1)]
      simp[List.getD_eq_getElem?_getD,List.getElem?_set,Ne.symm e2]
  · rw[if_neg (fun e=>e1 e.1)]
    simp[List.getD_eq_getElem?_getD,List.getElem?_set,Ne.symm e1]
end Gv
set_option linter.unusedSimpArgs false
set_option maxRecDepth 100000
namespace Gv
open Go Go.Proofs
def fK (p:List Int) (T:Tb) (s:Int) (a j:Nat):Bool :=
  if 0≤s then decide (a < p.length) && (p.getD a 0 == s || p.getD a 0 == -1) && decide (j=a+1) else decide (a≤j) && c8 T (-1 - s).toNat a j
def c9 (p:List Int) (T:Tb) (s:Int) (now:List Bool) (f a0 j:Nat):Bool:=(List.range a0).any fun a=>decide (f≤a) && now.getD a false && fK p T s a j
def dH (M:Nat) (F:Nat→Bool):List Bool:=(List.range M).map F
def jv (p:List Int) (T:Tb) (f:Nat) (now:List Bool) (s:Int):List Bool:=dH (p.length+1) (c9 p T s now f (p.length+1))
def dQ (p:List Int) (T:Tb) (l:List Int) (f:Nat):List Bool:=l.foldl (jv p T f) (dH (p.length+1) fun j=>decide (j=f))
theorem gD (M:Nat) (F:Nat→Bool):(dH M F).length=M:=by simp[dH]
theorem AU {M j:Nat} {F:Nat→Bool} (h:j < M):(dH M F).getD j false=F j:=by simp[dH,List.getD_eq_getElem?_getD,h]
theorem Dn {M i:Nat} {F:Nat→Bool} (v:Bool):(dH M F).set i v=dH M fun j=>if j=i then v else F j:=by
  apply List.ext_getElem (by simp[dH])
  intro j h1 h2
  simp only[dH,List.length_map,List.length_range] at h2
  simp only[dH,List.getElem_set,List.getElem_map,List.getElem_range]
  by_cases e:i=j
  · subst e; simp
  · rw[if_neg e,if_neg (Ne.symm e)]
theorem ir {M:Nat} {F G:Nat→Bool} (h:∀ j,j < M→F j=G j):dH M F=dH M G:=by
  unfold dH
  apply List.map_congr_left
  intro j hj
  exact h j (by simpa using hj)
theorem tS (p:List Int) (T:Tb) (f:Nat):∀ (l:List Int) (now:List Bool),now.length=p.length+1→(l.foldl (jv p T f) now).length=p.length+1
  | [],_,h=>h
  | s :: l,now,_=>tS p T f l _ (by rw[jv,gD])
theorem tZ (p:List Int) (T:Tb) (l:List Int) (f:Nat):(dQ p T l f).length=p.length+1:=tS p T f l _ (gD _ _)
theorem Dw (p:List Int) (T:Tb) (s:Int) (now:List Bool) (f a j:Nat):c9 p T s now f (a+1) j=(c9 p T s now f a j || (decide (f≤a) && now.getD a false && fK p T s a j)):=by
  simp[c9,List.range_succ]
theorem BP (p:List Int) (T:Tb) (s:Int) (now:List Bool) (f j:Nat):c9 p T s now f f j=false:=by
  simp only[c9,List.any_eq_false,List.mem_range]
  intro a ha
  rw[decide_eq_false (by omega)]; simp
def eL (T:Tb):V:=.bc (T.map fun r=>[.bc (r.map fun c=>[bk c])])
theorem q8 (T:Tb):Tree (eL T):=fX _ _ fun r _ v hv=>by
  simp at hv; subst hv
  exact fX _ _ fun c _ v hv=>by simp at hv; subst hv; exact eQ c
def kp:SC :=
  .seq (.seq (al [aa 75 13,aa 76 1,aL 77 76,bb 78 .leq 75 77]) <|
  .cond (.tmp 78) (.skip) (.exit 4)) <|
  .seq (.block 5 (.region false [⟨none,[aa 81 11,aa 82 13,aa 83 11,aa 84 13,aN 85 1 83 84,an 86 85,aa 87 86]⟩,⟨(some (87,false)),[aa 88 2,aa 89 0,aa 90 10,aN 91 1 89 90,an 92 91,((some 93),.op (.arith .sub (.val (.val (.int .i64 (-1)))) (.tmp 92))),aN 94 1 88 93,an 95 94,aa 96 12,aN 97 1 95 96,an 98 97,aa 99 13,aN 100 1 98 99,an 101 100]⟩,⟨none,[bt 102 87 101,aN 103 1 81 82,(none,.op (.store 1 (.tmp 103) (.tmp 102)))]⟩])) <|
  al [aa 79 13,ay 80 .add 79 1,aa 13 80]
def kz:SC :=
  .seq (.seq (al [aa 32 12,aa 33 1,aL 34 33,bb 35 .leq 32 34]) <|
  .cond (.tmp 35) (.skip) (.exit 2)) <|
  .seq (.block 3 (.seq (.seq (al [aa 38 9,aa 39 12,aN 40 1 38 39,an 41 40,bL 42 41]) <|
  .cond (.tmp 42) (.exit 3) (.skip)) <|
  .seq (.seq (al [aa 43 0,aa 44 10,aN 45 1 43 44,an 46 45,ay 47 .geq 46 0]) <|
  .cond (.tmp 47) (.seq (.seq (.region false [⟨none,[aa 48 12,aa 49 1,aL 50 49,bb 51 .lss 48 50,aa 52 51]⟩,⟨(some (52,true)),[aa 53 1,aa 54 12,aN 55 1 53 54,an 56 55,aa 57 0,aa 58 10,aN 59 1 57 58,an 60 59,bb 61 .eql 56 60,aa 62 61]⟩,⟨(some (62,false)),[aa 63 1,aa 64 12,aN 65 1 63 64,an 66 65,ay 67 .eql 66 (-1)]⟩,⟨(some (52,true)),[bt 68 62 67]⟩,⟨none,[br 69 52 68]⟩]) <|
  .cond (.tmp 69) (al [aa 70 11,aa 71 12,ay 72 .add 71 1,aN 73 1 70 72,(none,.op (.store 1 (.tmp 73) (.val (.val (.bool true)))))]) (.skip)) <|
  .exit 3) (.skip)) <|
  .seq (al [aa 74 12,aa 13 74]) <|
  .block 4 (.loop kp))) <|
  al [aa 36 12,ay 37 .add 36 1,aa 12 37]
def km:SC :=
  .seq (.seq (al [aa 21 10,aa 22 0,aL 23 22,bb 24 .lss 21 23]) <|
  .cond (.tmp 24) (.skip) (.exit 0)) <|
  .seq (.block 1 (.seq (al [aa 27 1,aL 28 27,ay 29 .add 28 1,((some 30),.op (.make 1 1 [(.val (.bool false))] (.tmp 29) (.tmp 29))),aa 11 30]) <|
  .seq (.seq (al [aa 31 3,aa 12 31]) <|
  .block 2 (.loop kz)) <|
  al [aa 104 11,aa 9 104])) <|
  al [aa 25 10,ay 26 .add 25 1,aa 10 26]
def mE:SF:=⟨.seq (al [((some 8),.op (.bu (.val (.emp 1))))]) <|
  .seq (al [aa 14 1,aL 15 14,ay 16 .add 15 1,((some 17),.op (.make 1 1 [(.val (.bool false))] (.tmp 16) (.tmp 16))),aa 9 17]) <|
  .seq (al [aa 18 9,aa 19 3,aN 20 1 18 19,(none,.op (.store 1 (.tmp 20) (.val (.val (.bool true)))))]) <|
  .seq (.seq (al [aH 10 0]) <|
  .block 0 (.loop km)) <|
  .seq (al [aa 105 9,aa 8 105]) <|
  .ret,
  [.tmp 8],106⟩
theorem qQ:aX Tryz.prog 71 []=some mE:=by kernel_rfl
theorem iy {l:List Bool} {i:Nat} (h:i < l.length):(bB l).getD i []=[gb (l.getD i false)]:=by simp[List.getD_eq_getElem?_getD,h]
set_option maxHeartbeats 4000000 in
theorem Dq (l p:List Int) (T:Tb) (f N:Nat) (hl:aP l) (hp:p.length≤1000) (hT:dz T N (p.length+1)) (hf:f≤p.length) (hn:∀ x∈l,bF x∧(x < 0→-1 - x < N)) :
    cx Tryz.prog 71 [encI l,encI p,eL T,gi f] (bk (dQ p T l f)):=by
  unfold aP at hl
  have hM:((p.length:Int)+1).toNat=p.length+1:=by omega
  refine cx.of (by
    intro v hv; simp at hv
    rcases hv with rfl | rfl | rfl | rfl
    · exact cz l
    · exact cz p
    · exact q8 T
    · exact .val _) ?_
  refine aD.of mixed qQ ?_
  simp (disch:=omega) only [↓wr,↓reduceIte,wq,ai,ah,ak,ae,af,ag,aj,isNil,Nat.reduceEqDiff,Nat.reduceAdd,Nat.reduceLT,Nat.reduceLeDiff,Int.reduceNeg,Int.reduceToNat,reduceCtorEq,mE,encI]
  refine ⟨⟨by omega,by unfold aI; omega,by unfold aI; omega⟩,fun h=>by omega,?_⟩
  intro _ b
  try simp (disch:=omega) only [↓wr,↓reduceIte,wq,ai,ah,ak,ae,af,ag,aj,isNil,Nat.reduceEqDiff,Nat.reduceAdd,Nat.reduceLT,Nat.reduceLeDiff,Int.reduceNeg,Int.reduceToNat,reduceCtorEq,encI]
  refine ⟨by omega,by simp; omega,?_⟩
  have hinit:(List.replicate (p.length+1) [gb false]).set f [gb true]=bB (dH (p.length+1) fun j=>decide (j=f)):=by
    rw[show List.replicate (p.length+1) [gb false]=bB (List.replicate (p.length+1) false) by simp,dM]
    congr 1
    apply List.ext_getElem (by simp[dH])
    intro j h1 h2
    simp only[dH,List.getElem_set,List.getElem_replicate,List.getElem_map,List.getElem_range]
    by_cases e:f=j
    · subst e; simp
    · rw[if_neg e]; simp[Ne.symm e]
  refine bo.up l.length (fun q T' H'=>∃ (b:Nat),T' 9=.sl b 0 (p.length+1) 1∧H' b=.arr 1 (bB ((l.take q).foldl (jv p T f) (dH (p.length+1) fun j=>decide (j=f))))∧T' 0=encI l∧T' 1=encI p∧T' 2=eL T∧T' 3=gi f∧T' 10=gi q) ?_ ?_
  · refine ⟨b,rfl,?_,rfl,rfl,rfl,rfl,rfl⟩
    simp only[View.set,if_true]
    rw[List.getD_eq_getElem?_getD,List.getElem?_replicate,if_pos (by omega)]
    rw[List.take_zero,List.foldl_nil,← hinit]; rfl
  rintro q k T' H hk ⟨b,t9,hb,t0,t1,t2,t3,t10⟩
  have hnl:=tS p T f (l.take q) (dH (p.length+1) fun j=>decide (j=f)) (gD _ _)
  have hfold:∀ x,l[q]?=some x→(l.take (q+1)).foldl (jv p T f) (dH (p.length+1) fun j=>decide (j=f))=jv p T f ((l.take q).foldl (jv p T f) (dH (p.length+1) fun j=>decide (j=f))) x:=fun x hx=>by
    rw[List.take_add_one,hx,List.foldl_append]; rfl
  simp (disch:=omega) only [↓wr,↓reduceIte,wq,ai,ah,ak,ae,af,ag,aj,isNil,Nat.reduceEqDiff,Nat.reduceAdd,Nat.reduceLT,Nat.reduceLeDiff,Int.reduceNeg,Int.reduceToNat,reduceCtorEq,km,t0,t1,t2,t3,t9,t10,encI]
  refine aq.dec (fun hc=>?_) (fun hc=>?_)
  · have hg:l[q]?=some (l[q]'(by omega)):=List.getElem?_eq_getElem (by omega)
    have hmem:l[q]'(by omega)∈l:=List.getElem_mem _
    have hf2:=hfold _ hg
    generalize l[q]'(by omega)=s at hg hmem hf2
    generalize (l.take q).foldl (jv p T f) (dH (p.length+1) fun j=>decide (j=f))=now at hb hnl hf2
    obtain ⟨⟨hs1,hs2⟩,hs3⟩:=hn s hmem
    simp (disch:=omega) only [↓wr,↓reduceIte,wq,ai,ah,ak,ae,af,ag,aj,isNil,Nat.reduceEqDiff,Nat.reduceAdd,Nat.reduceLT,Nat.reduceLeDiff,Int.reduceNeg,Int.reduceToNat,reduceCtorEq,t0,t1,t2,t3,t9,t10,encI]
    refine ⟨⟨by omega,by unfold aI; omega,by unfold aI; omega⟩,fun h=>by omega,?_⟩
    intro _ d hd
    have hbd:b≠d:=by rintro rfl; rw[hb] at hd; simp at hd
    try simp (disch:=omega) only [↓wr,↓reduceIte,wq,ai,ah,ak,ae,af,ag,aj,isNil,Nat.reduceEqDiff,Nat.reduceAdd,Nat.reduceLT,Nat.reduceLeDiff,Int.reduceNeg,Int.reduceToNat,reduceCtorEq,t0,t1,t2,t3,t9,t10,encI]
    refine bo.up (p.length+1 - f) (fun i T' H'=>H' b=.arr 1 (bB now)∧H' d=.arr 1 (bB (dH (p.length+1) (c9 p T s now f (f+i))))∧T' 9=.sl b 0 (p.length+1) 1∧T' 11=.sl d 0 (p.length+1) 1∧T' 0=encI l∧T' 1=encI p∧T' 2=eL T∧T' 3=gi f∧T' 10=gi q∧T' 12=gi ((f+i:Nat):Int)) ?_ ?_
    · refine ⟨by simp[View.set,hbd,hb],?_,t9,rfl,t0,t1,t2,t3,t10,rfl⟩
      simp only[View.set,if_true]
      rw[hM,show List.replicate (p.length+1) [V.val (Value.bool false)]=bB (List.replicate (p.length+1) false) by simp]
      congr 2
      apply List.ext_getElem (by simp[dH])
      intro j h1 h2
      simp only[dH,List.getElem_replicate,List.getElem_map,List.getElem_range]
      rw[Nat.add_zero,BP]
    clear hd hb t0 t1 t2 t3 t9 t10
    rintro i m T' H hm ⟨hb,hd,t9,t11,t0,t1,t2,t3,t10,t12⟩
    simp (disch:=omega) only [↓wr,↓reduceIte,wq,ai,ah,ak,ae,af,ag,aj,isNil,Nat.reduceEqDiff,Nat.reduceAdd,Nat.reduceLT,Nat.reduceLeDiff,Int.reduceNeg,Int.reduceToNat,reduceCtorEq,kz,t0,t1,t2,t3,t9,t10,t11,t12,encI]
    refine aq.dec (fun hc2=>?_) (fun hc2=>?_)
    · have hgn:=iy (l:=now) (i:=f+i) (by omega)
      simp (disch:=omega) only [↓wr,↓reduceIte,wq,ai,ah,ak,ae,af,ag,aj,isNil,Nat.reduceEqDiff,Nat.reduceAdd,Nat.reduceLT,Nat.reduceLeDiff,Int.reduceNeg,Int.reduceToNat,reduceCtorEq,t0,t1,t2,t3,t9,t10,t11,t12,hb,hgn]
      refine ⟨by omega,by omega,?_⟩
      have hpb:=Dw p T s now f (f+i)
      rw[decide_eq_true (show f≤f+i by omega),Bool.true_and] at hpb
      have hdd:∀ j,(fun j=>c9 p T s now f (f+i) j) j=c9 p T s now f (f+i) j:=fun _=>rfl
      generalize now.getD (f+i) false=bn at hpb
      refine aq.split (fun hbn=>?_) (fun hbn=>?_)
      · subst hbn
        simp only[Bool.true_and] at hpb
        simp (disch:=omega) only [↓wr,↓reduceIte,wq,ai,ah,ak,ae,af,ag,aj,isNil,Nat.reduceEqDiff,Nat.reduceAdd,Nat.reduceLT,Nat.reduceLeDiff,Int.reduceNeg,Int.reduceToNat,reduceCtorEq,t0,t1,t2,t3,t9,t10,t11,t12,encI,List.getElem?_map,hg]
        refine aq.dec (fun hs0=>?_) (fun hs0=>?_)
        · have hst:∀ j,fK p T s (f+i) j=(decide (f+i < p.length) && (p.getD (f+i) 0 == s || p.getD (f+i) 0 == -1) && decide (j=f+i+1)):=fun j=>by rw[fK,if_pos (show 0≤s from hs0)]
          simp (disch:=omega) only [↓wr,↓reduceIte,wq,ai,ah,ak,ae,af,ag,aj,isNil,Nat.reduceEqDiff,Nat.reduceAdd,Nat.reduceLT,Nat.reduceLeDiff,Int.reduceNeg,Int.reduceToNat,reduceCtorEq,t0,t1,t2,t3,t9,t10,t11,t12,encI]
          refine aq.dec (fun ha=>?_) (fun ha=>?_)
          · have hgp:p[f+i]?=some (p.getD (f+i) 0):=by simp[List.getD_eq_getElem?_getD,show f+i < p.length by omega]
            generalize p.getD (f+i) 0=c at hgp hst
            have hset:∀ v:Bool,(bB (dH (p.length+1) (c9 p T s now f (f+i)))).set (f+i+1) [gb v]=bB (dH (p.length+1) fun j=>if j=f+i+1 then v else c9 p T s now f (f+i) j):=fun v=>by rw[dM,Dn]
            have hgd:=iy (l:=dH (p.length+1) (c9 p T s now f (f+i))) (i:=f+i+1) (by rw[gD]; omega)
            have hup:(c=s∨c = -1)→bB (dH (p.length+1) (c9 p T s now f (f+(i+1))))=bB (dH (p.length+1) fun j=>if j=f+i+1 then true else c9 p T s now f (f+i) j):=fun hcs=>by
              congr 1
              refine ir fun j _=>?_
              rw[← Nat.add_assoc,hpb,hst]
              by_cases e:j=f+i+1
              · rw[if_pos e,decide_eq_true (show f+i < p.length by omega),decide_eq_true e]
                rcases hcs with h | h <;> simp[h]
              · rw[if_neg e,decide_eq_false e]; simp
            have hno:¬ (c=s∨c = -1)→bB (dH (p.length+1) (c9 p T s now f (f+(i+1))))=bB (dH (p.length+1) (c9 p T s now f (f+i))):=fun hcs=>by
              congr 1
              refine ir fun j _=>?_
              rw[← Nat.add_assoc,hpb,hst,show (c == s || c == -1)=false by simp; omega]; simp
            have eat:((f+i:Nat):Int)+1=((f+i+1:Nat):Int):=by omega
            have ga:∀ {T2:Env} {H2:View},T2 9=.sl b 0 (p.length+1) 1→T2 11=.sl d 0 (p.length+1) 1→T2 0=encI l→T2 1=encI p→T2 2=eL T→T2 3=gi f→T2 10=gi q→T2 12=gi (((f+i:Nat):Int)+1)→H2 b=.arr 1 (bB now)→H2 d=.arr 1 (bB (dH (p.length+1) (c9 p T s now f (f+(i+1))))) →
                ∃ k',k' < m∧yB (p.length+1 - f) k' (fun i T' H'=>H' b=.arr 1 (bB now)∧H' d=.arr 1 (bB (dH (p.length+1) (c9 p T s now f (f+i))))∧T' 9=.sl b 0 (p.length+1) 1∧T' 11=.sl d 0 (p.length+1) 1∧T' 0=encI l∧T' 1=encI p∧T' 2=eL T∧T' 3=gi f∧T' 10=gi q∧T' 12=gi ((f+i:Nat):Int)) T2 H2:=fun a9 a11 a0 a1 a2 a3 a10 a12 ab ad=>aV hm (by omega) ⟨ab,ad,a9,a11,a0,a1,a2,a3,a10,by rw[a12]; rfl⟩
            simp (disch:=omega) only [↓wr,↓reduceIte,wq,ai,ah,ak,ae,af,ag,aj,isNil,Nat.reduceEqDiff,Nat.reduceAdd,Nat.reduceLT,Nat.reduceLeDiff,Int.reduceNeg,Int.reduceToNat,reduceCtorEq,t0,t1,t2,t3,t9,t10,t11,t12,encI,List.getElem?_map,hg,hgp]
            refine aq.eq (fun hcs=>?_) (fun hcs=>?_)
            · simp (disch:=omega) only [↓wr,↓reduceIte,wq,ai,ah,ak,ae,af,ag,aj,isNil,Nat.reduceEqDiff,Nat.reduceAdd,Nat.reduceLT,Nat.reduceLeDiff,Int.reduceNeg,Int.reduceToNat,reduceCtorEq,t0,t1,t2,t3,t9,t10,t11,t12,eat,hd]
              refine ⟨by omega,by rw[gD]; omega,?_⟩
              refine ga t9 t11 t0 t1 t2 t3 t10 rfl (by simp[View.set,hbd,hb]) ?_
              simp only[View.set,if_true]
              rw[hgd,hup (.inl hcs),← hset true]; rfl
            · simp (disch:=omega) only [↓wr,↓reduceIte,wq,ai,ah,ak,ae,af,ag,aj,isNil,Nat.reduceEqDiff,Nat.reduceAdd,Nat.reduceLT,Nat.reduceLeDiff,Int.reduceNeg,Int.reduceToNat,reduceCtorEq,t0,t1,t2,t3,t9,t10,t11,t12,encI,List.getElem?_map,hg,hgp]
              refine aq.eq (fun hcm=>?_) (fun hcm=>?_)
              · simp (disch:=omega) only [↓wr,↓reduceIte,wq,ai,ah,ak,ae,af,ag,aj,isNil,Nat.reduceEqDiff,Nat.reduceAdd,Nat.reduceLT,Nat.reduceLeDiff,Int.reduceNeg,Int.reduceToNat,reduceCtorEq,t0,t1,t2,t3,t9,t10,t11,t12,eat,hd]
                refine ⟨by omega,by rw[gD]; omega,?_⟩
                refine ga t9 t11 t0 t1 t2 t3 t10 rfl (by simp[View.set,hbd,hb]) ?_
                simp only[View.set,if_true]
                rw[hgd,hup (.inr hcm),← hset true]; rfl
              · simp (disch:=omega) only [↓wr,↓reduceIte,wq,ai,ah,ak,ae,af,ag,aj,isNil,Nat.reduceEqDiff,Nat.reduceAdd,Nat.reduceLT,Nat.reduceLeDiff,Int.reduceNeg,Int.reduceToNat,reduceCtorEq,t0,t1,t2,t3,t9,t10,t11,t12]
                exact ga t9 t11 t0 t1 t2 t3 t10 rfl hb (by rw[hno (by omega)]; exact hd)
          · simp (disch:=omega) only [↓wr,↓reduceIte,wq,ai,ah,ak,ae,af,ag,aj,isNil,Nat.reduceEqDiff,Nat.reduceAdd,Nat.reduceLT,Nat.reduceLeDiff,Int.reduceNeg,Int.reduceToNat,reduceCtorEq,t0,t1,t2,t3,t9,t10,t11,t12]
            refine aV hm (by omega) ⟨hb,?_,t9,t11,t0,t1,t2,t3,t10,rfl⟩
            rw[hd,← Nat.add_assoc]
            refine congrArg (fun l=>bE.arr 1 (bB l)) (ir fun j _=>?_)
            rw[hpb,hst,decide_eq_false (show ¬ f+i < p.length by omega)]; simp
        · have hsn : -1 - s < N:=hs3 (by omega)
          obtain ⟨row,cell,hrow,hcell,hcl,hcg⟩:=hT.cell (n:=(-1 - s).toNat) (i:=f+i) (by omega) (by omega)
          have hst:∀ j,fK p T s (f+i) j=(decide (f+i≤j) && cell.getD j false):=fun j=>by
            rw[fK,if_neg (show ¬ 0≤s from hs0),c8,hcg]
          simp (disch:=omega) only [↓wr,↓reduceIte,wq,ai,ah,ak,ae,af,ag,aj,isNil,Nat.reduceEqDiff,Nat.reduceAdd,Nat.reduceLT,Nat.reduceLeDiff,Int.reduceNeg,Int.reduceToNat,reduceCtorEq,t0,t1,t2,t3,t9,t10,t11,t12]
          refine bo.up (p.length+1 - (f+i)) (fun r T' H'=>H' b=.arr 1 (bB now)∧H' d=.arr 1 (bB (dH (p.length+1) fun j=>c9 p T s now f (f+i) j || (decide (j < f+i+r) && fK p T s (f+i) j)))∧T' 9=.sl b 0 (p.length+1) 1∧T' 11=.sl d 0 (p.length+1) 1∧T' 0=encI l∧T' 1=encI p∧T' 2=eL T∧T' 3=gi f∧T' 10=gi q∧T' 12=gi ((f+i:Nat):Int)∧T' 13=gi ((f+i+r:Nat):Int)) ?_ ?_
          · refine ⟨hb,?_,t9,t11,t0,t1,t2,t3,t10,t12,rfl⟩
            rw[hd]
            refine congrArg (fun l=>bE.arr 1 (bB l)) (ir fun j _=>?_)
            rw[hst]
            by_cases e:j < f+i
            · rw[decide_eq_false (show ¬ f+i≤j by omega)]; simp
            · rw[decide_eq_false (show ¬ j < f+i+0 by omega)]; simp
          clear hd hb t0 t1 t2 t3 t9 t10 t11 t12
          rintro r u T' H hu ⟨hb,hd,t9,t11,t0,t1,t2,t3,t10,t12,t13⟩
          simp (disch:=omega) only [↓wr,↓reduceIte,wq,ai,ah,ak,ae,af,ag,aj,isNil,Nat.reduceEqDiff,Nat.reduceAdd,Nat.reduceLT,Nat.reduceLeDiff,Int.reduceNeg,Int.reduceToNat,reduceCtorEq,kp,t0,t1,t2,t3,t9,t10,t11,t12,t13,encI]
          refine aq.dec (fun hc3=>?_) (fun hc3=>?_)
          · have hF:∀ j,(c9 p T s now f (f+i) j || (decide (j < f+i+(r+1)) && fK p T s (f+i) j))=if j=f+i+r then (c9 p T s now f (f+i) j || fK p T s (f+i) j) else (c9 p T s now f (f+i) j || (decide (j < f+i+r) && fK p T s (f+i) j)):=fun j=>by
              by_cases e:j=f+i+r
              · rw[if_pos e,decide_eq_true (show j < f+i+(r+1) by omega),Bool.true_and]
              · rw[if_neg e]
                congr 2
                simp only[decide_eq_decide]; omega
            have hgd:=iy (l:=dH (p.length+1) fun j=>c9 p T s now f (f+i) j || (decide (j < f+i+r) && fK p T s (f+i) j)) (i:=f+i+r) (by rw[gD]; omega)
            rw[AU (by omega),decide_eq_false (show ¬ f+i+r < f+i+r by omega),Bool.false_and,Bool.or_false] at hgd
            have hsb:=hst (f+i+r)
            rw[decide_eq_true (show f+i≤f+i+r by omega),Bool.true_and] at hsb
            have hcr:cell[f+i+r]?=some (cell.getD (f+i+r) false):=by simp[List.getD_eq_getElem?_getD,show f+i+r < cell.length by omega]
            have hset:∀ v,v=(c9 p T s now f (f+i) (f+i+r) || fK p T s (f+i) (f+i+r))→(bB (dH (p.length+1) fun j=>c9 p T s now f (f+i) j || (decide (j < f+i+r) && fK p T s (f+i) j))).set (f+i+r) [gb v]=bB (dH (p.length+1) fun j=>c9 p T s now f (f+i) j || (decide (j < f+i+(r+1)) && fK p T s (f+i) j)):=fun v hv=>by
              rw[dM,Dn]
              refine congrArg bB (ir fun j _=>?_)
              rw[hF]
              by_cases e:j=f+i+r
              · subst e; rw[if_pos rfl,if_pos rfl,hv]
              · rw[if_neg e,if_neg e]
            rw[hsb] at hset
            generalize cell.getD (f+i+r) false=cv at hcr hset
            generalize c9 p T s now f (f+i) (f+i+r)=pv at hgd hset
            simp (disch:=omega) only [↓wr,↓reduceIte,wq,ai,ah,ak,ae,af,ag,aj,isNil,Nat.reduceEqDiff,Nat.reduceAdd,Nat.reduceLT,Nat.reduceLeDiff,Int.reduceNeg,Int.reduceToNat,reduceCtorEq,t0,t1,t2,t3,t9,t10,t11,t12,t13,hd,hgd]
            refine ⟨by omega,by rw[gD]; omega,?_⟩
            refine aq.split (fun hpv=>?_) (fun hpv=>?_)
            · simp (disch:=omega) only [↓wr,↓reduceIte,wq,ai,ah,ak,ae,af,ag,aj,isNil,Nat.reduceEqDiff,Nat.reduceAdd,Nat.reduceLT,Nat.reduceLeDiff,Int.reduceNeg,Int.reduceToNat,reduceCtorEq,t0,t1,t2,t3,t9,t10,t11,t12,t13,hd]
              refine ⟨by omega,by rw[gD]; omega,aV hu (by omega) ⟨by simp[View.set,hbd,hb],?_,t9,t11,t0,t1,t2,t3,t10,t12,rfl⟩⟩
              simp only[View.set,if_true]
              rw[hgd,← hset true (by rw[hpv]; rfl)]; rfl
            · simp (disch:=omega) only [↓wr,↓reduceIte,wq,ai,ah,ak,ae,af,ag,aj,isNil,Nat.reduceEqDiff,Nat.reduceAdd,Nat.reduceLT,Nat.reduceLeDiff,Int.reduceNeg,Int.reduceToNat,reduceCtorEq,t0,t1,t2,t3,t9,t10,t11,t12,t13,encI,eL,bk,List.getElem?_map,hg,hrow,hcell,hcr,hd]
              refine ⟨by omega,by rw[gD]; omega,aV hu (by omega) ⟨by simp[View.set,hbd,hb],?_,t9,t11,t0,t1,t2,t3,t10,t12,rfl⟩⟩
              simp only[View.set,if_true]
              rw[hgd,← hset cv (by rw[hpv]; rfl)]; rfl
          · simp (disch:=omega) only [↓wr,↓reduceIte,wq,ai,ah,ak,ae,af,ag,aj,isNil,Nat.reduceEqDiff,Nat.reduceAdd,Nat.reduceLT,Nat.reduceLeDiff,Int.reduceNeg,Int.reduceToNat,reduceCtorEq,t0,t1,t2,t3,t9,t10,t11,t12,t13]
            have hr:f+i+r=p.length+1:=by omega
            refine aV hm (by omega) ⟨hb,?_,t9,t11,t0,t1,t2,t3,t10,rfl⟩
            rw[hd,← Nat.add_assoc]
            refine congrArg (fun l=>bE.arr 1 (bB l)) (ir fun j hj=>?_)
            rw[hpb,hr,decide_eq_true hj,Bool.true_and]
      · subst hbn
        simp only[Bool.false_and,Bool.or_false] at hpb
        simp (disch:=omega) only [↓wr,↓reduceIte,wq,ai,ah,ak,ae,af,ag,aj,isNil,Nat.reduceEqDiff,Nat.reduceAdd,Nat.reduceLT,Nat.reduceLeDiff,Int.reduceNeg,Int.reduceToNat,reduceCtorEq,t0,t1,t2,t3,t9,t10,t11,t12]
        refine aV hm (by omega) ⟨hb,?_,t9,t11,t0,t1,t2,t3,t10,by rfl⟩
        rw[hd,← Nat.add_assoc]
        exact congrArg (fun l=>bE.arr 1 (bB l)) (ir fun j _=>(hpb j).symm)
    · have hi:f+i=p.length+1:=by omega
      rw[hi] at hd
      simp (disch:=omega) only [↓wr,↓reduceIte,wq,ai,ah,ak,ae,af,ag,aj,isNil,Nat.reduceEqDiff,Nat.reduceAdd,Nat.reduceLT,Nat.reduceLeDiff,Int.reduceNeg,Int.reduceToNat,reduceCtorEq,t0,t1,t2,t3,t9,t10,t11,t12]
      refine aV hk (by omega) ⟨d,rfl,?_,t0,t1,t2,t3,rfl⟩
      rw[hf2]; exact hd
  · have e:q=l.length:=by omega
    subst e
    rw[List.take_length] at hb hnl
    simp (disch:=omega) only [↓wr,↓reduceIte,wq,ai,ah,ak,ae,af,ag,aj,isNil,Nat.reduceEqDiff,Nat.reduceAdd,Nat.reduceLT,Nat.reduceLeDiff,Int.reduceNeg,Int.reduceToNat,reduceCtorEq,t0,t1,t2,t3,t9,t10]
    intro h' hh
    have:=jT (h:=h') (id:=b) (is:=dQ p T l f) (by rw[hh]; exact hb)
    rwa [tZ] at this
end Gv
set_option linter.unusedSimpArgs false
set_option maxRecDepth 100000
namespace Gv
open Go Go.Proofs
def sE (T:Tb) (n i j:Nat):Prop:=i≤j∧c8 T n i j=true
theorem yE {p:List Int} {T:Tb} {s:Int} {a j:Nat} : fK p T s a j=true↔stepT p (sE T) s a j:=by
  unfold fK stepT
  split
  · simp only[Bool.and_eq_true,decide_eq_true_eq,Bool.or_eq_true,beq_iff_eq]
    constructor
    · rintro ⟨⟨h1,h2⟩,h3⟩
      exact ⟨⟨p.getD a 0,by simp[List.getD_eq_getElem?_getD,h1],h2⟩,h3⟩
    · rintro ⟨⟨c,hc,h2⟩,h3⟩
      have h1:=(List.getElem?_eq_some_iff.1 hc).1
      have:p.getD a 0=c:=by simp[List.getD_eq_getElem?_getD,hc]
      exact ⟨⟨h1,by rw[this]; exact h2⟩,h3⟩
  · simp only[Bool.and_eq_true,decide_eq_true_eq]; rfl
theorem wy {T:Tb} : ∀ n i j,sE T n i j→i≤j:=fun _ _ _ h=>h.1
theorem zZ {p:List Int} {T:Tb} {f:Nat} (hf:f≤p.length):∀ (l pre:List Int) (now:List Bool),(∀ j,j≤p.length→(now.getD j false=true↔In p (sE T) pre f j)) →
    ∀ j,j≤p.length→((l.foldl (jv p T f) now).getD j false=true↔In p (sE T) (pre ++ l) f j)
  | [],pre,now,h,j,hj=>by rw[List.append_nil]; exact h j hj
  | s :: l,pre,now,h,j,hj=>by
    have h2:∀ j,j≤p.length→((jv p T f now s).getD j false=true↔In p (sE T) (pre ++ [s]) f j):=fun j hj=>by
      rw[jv,AU (by omega),In.snoc]
      simp only[c9,List.any_eq_true,List.mem_range,Bool.and_eq_true,decide_eq_true_eq]
      constructor
      · rintro ⟨a,ha,⟨_,h3⟩,h4⟩
        exact ⟨a,(h a (by omega)).1 h3,yE.1 h4⟩
      · rintro ⟨a,h3,h4⟩
        have hle:=h3.le wy
        have ha:a≤p.length:=by
          have h5:=h4
          unfold stepT at h5
          split at h5
          · omega
          · have:=h5.1; omega
        exact ⟨a,by omega,⟨hle,(h a ha).2 h3⟩,yE.2 h4⟩
    have:=zZ hf l (pre ++ [s]) (jv p T f now s) h2 j hj
    rwa [List.append_assoc] at this
theorem oo {p:List Int} {T:Tb} {l:List Int} {f:Nat} (hf:f≤p.length) {j:Nat} (hj:j≤p.length):(dQ p T l f).getD j false=true↔In p (sE T) l f j:=by
  have:=zZ (T:=T) hf l [] (dH (p.length+1) fun j=>decide (j=f)) (fun j hj=>by
    rw[AU (by omega),decide_eq_true_eq]
    constructor
    · rintro rfl; exact .nil _
    · intro h; cases h; rfl) j hj
  exact this
open Classical in
noncomputable def fy (g:av) (p:List Int):Tb:=(List.range g.au.length).map fun (n:Nat)=>(List.range (p.length+1)).map fun (i:Nat)=>(List.range (p.length+1)).map fun (j:Nat)=>decide (Sp g p [-1 - (n:Int)] i j)
theorem A0 (g:av) (p:List Int):dz (fy g p) g.au.length (p.length+1):=by
  refine ⟨by simp[fy],fun r hr=>?_⟩
  simp only[fy,List.mem_map] at hr
  obtain ⟨n,_,rfl⟩:=hr
  refine ⟨by simp,fun c hc=>?_⟩
  simp only[List.mem_map] at hc
  obtain ⟨i,_,rfl⟩:=hc
  simp
theorem xI {g:av} {p:List Int} {n i j:Nat} (hn:n < g.au.length) (hi:i≤p.length) (hj:j≤p.length):c8 (fy g p) n i j=true↔Sp g p [-1 - (n:Int)] i j:=by
  simp[c8,fy,List.getD_eq_getElem?_getD,hn,show i < p.length+1 by omega,show j < p.length+1 by omega]
theorem Jq {S T:Tb} {N M:Nat} (hS:dz S N M) (hT:dz T N M) (h:∀ n i j,n < N→i < M→j < M→c8 S n i j=c8 T n i j):S=T:=by
  apply List.ext_getElem (by rw[hS.1,hT.1])
  intro n h1 h2
  have hn:n < N:=by rw[← hS.1]; exact h1
  have a1:=(hS.2 _ (List.getElem_mem h1)).1
  have a2:=(hT.2 _ (List.getElem_mem h2)).1
  apply List.ext_getElem (by rw[a1,a2])
  intro i h3 h4
  have hi:i < M:=by omega
  have b1:=(hS.2 _ (List.getElem_mem h1)).2 _ (List.getElem_mem h3)
  have b2:=(hT.2 _ (List.getElem_mem h2)).2 _ (List.getElem_mem h4)
  apply List.ext_getElem (by rw[b1,b2])
  intro j h5 h6
  have:=h n i j hn hi (by omega)
  simpa [c8,List.getD_eq_getElem?_getD,h1,h2,h3,h4,h5,h6] using this
theorem Jm {g:av} {p:List Int} {T:Tb} (hf:∀ r∈g.rules,0≤r.left) (hl:∀ r∈g.rules,r.left < g.au.length) (hT:dz T g.au.length (p.length+1)) (hs:∀ n i j,sE T n i j→Sp g p [-1 - (n:Int)] i j)
    (ht:∀ n i j,c8 T n i j=true→i≤j) (hc:∀ R∈g.rules,∀ i j,i≤j→j≤p.length→(dQ p T R.right i).getD j false=true→c8 T R.left.toNat i j=true):T=fy g p:=by
  refine Jq hT (A0 g p) fun n i j hn hi hj=>?_
  rw[Bool.eq_iff_iff,xI hn (by omega) (by omega)]
  have hc':∀ R∈g.rules,∀ i j,i≤p.length→In p (sE T) R.right i j→sE T R.left.toNat i j:=fun R hR i j hi h=>by
    have hle:=h.le wy
    have hlen:=(zN hs h).len hi
    exact ⟨hle,hc R hR i j hle hlen ((oo hi hlen).2 h)⟩
  rw[← EM hf hs hc' (by omega)]
  exact ⟨fun h=>⟨ht n i j h,h⟩,fun h=>h.2⟩
end Gv
set_option linter.unusedSimpArgs false
set_option maxRecDepth 100000
namespace Gv
open Go Go.Proofs
structure kq (H:View) (I N M:Nat) (R:Nat→Nat) (C:Nat→Nat→Nat) (T:Tb):Prop where
  top:H I=.arr 1 ((List.range N).map fun n=>[.sl (R n) 0 M 1])
  row:∀ n,n < N→H (R n)=.arr 1 ((List.range M).map fun i=>[.sl (C n i) 0 M 1])
  cell:∀ n i,n < N→i < M→H (C n i)=.arr 1 (bB ((T.getD n []).getD i []))
  inj:∀ n i n' i',n < N→i < M→n' < N→i' < M→C n i=C n' i'→n=n'∧i=i'
theorem vA {c:List Bool} {k:Nat} {F:Nat→List V} (hc:0 < c.length) (h:bB c=(List.range k).map F) (hF:∀ n x,F n≠[gb x]):False:=by
  cases c with
  | nil=>simp at hc
  | cons x c =>
    cases k with
    | zero=>simp at h
    | succ k =>
      rw[List.range_succ_eq_map] at h
      simp only[List.map_cons,List.cons.injEq] at h
      exact hF 0 x h.1.symm
theorem kq.keep {H H':View} {I N M:Nat} {R:Nat→Nat} {C:Nat→Nat→Nat} {T:Tb} (h:kq H I N M R C T) (hk:∀ id,H id≠.dead→H' id=H id):kq H' I N M R C T :=
  ⟨by rw[hk _ (by rw[h.top]; simp)]; exact h.top,fun n hn=>by rw[hk _ (by rw[h.row n hn]; simp)]; exact h.row n hn,fun n i hn hi=>by rw[hk _ (by rw[h.cell n i hn hi]; simp)]; exact h.cell n i hn hi,h.inj⟩
theorem kq.put {H:View} {I N M:Nat} {R:Nat→Nat} {C:Nat→Nat→Nat} {T:Tb} (h:kq H I N M R C T) (hT:dz T N M) {n i j:Nat} (hn:n < N) (hi:i < M) (hj:j < M) :
    kq (H.set (C n i) (.arr 1 (bB (((T.getD n []).getD i []).set j true)))) I N M R C (kL T n i j):=by
  obtain ⟨r,c,hr,hc,hcl,hg⟩:=hT.cell hn hi
  have hcell:=h.cell n i hn hi
  rw[hg] at hcell
  have e1:I≠C n i:=fun e=>by
    have:=h.top
    rw[e,hcell] at this
    simp only[bE.arr.injEq,true_and] at this
    exact vA (by omega) this fun _ _=>by simp
  have e2:∀ m,m < N→R m≠C n i:=fun m hm e=>by
    have:=h.row m hm
    rw[e,hcell] at this
    simp only[bE.arr.injEq,true_and] at this
    exact vA (by omega) this fun _ _=>by simp
  refine ⟨by simp only[View.set,if_neg e1]; exact h.top,fun m hm=>by simp only[View.set,if_neg (e2 m hm)]; exact h.row m hm,fun m q hm hq=>?_,h.inj⟩
  obtain ⟨r',hr',hrl,hg'⟩:=hT.row hn
  rw[hr] at hr'; simp at hr'; subst hr'
  have hnl:n < T.length:=by rw[hT.1]; exact hn
  by_cases e:C m q=C n i
  · obtain ⟨rfl,rfl⟩:=h.inj m q n i hm hq hn hi e
    simp only[View.set,if_true]
    congr 2
    rw[kL]
    simp[List.getD_eq_getElem?_getD,hnl]
    rw[List.getElem?_set]
    have:q < T[m].length:=by
      have:=(List.getElem?_eq_some_iff.1 hr).2
      rw[this,hrl]; exact hq
    simp[this]
  · simp only[View.set,if_neg e]
    rw[h.cell m q hm hq]
    congr 2
    rw[kL]
    by_cases em:n=m
    · subst em
      have eq:i≠q:=fun e'=>e (by rw[e'])
      simp[List.getD_eq_getElem?_getD,hnl,List.getElem?_set,eq]
    · simp[List.getD_eq_getElem?_getD,List.getElem?_set,em]
theorem kq.JZ {h:aF} {I N M:Nat} {R:Nat→Nat} {C:Nat→Nat→Nat} {T:Tb} (hG:kq h.view I N M R C T) (hT:dz T N M):dW h (.sl I 0 N 1) (eL T):=by
  refine .sl I 0 N 1 1 _ _ hG.top (by simp) (by simp[hT.1]) (fun n hn=>?_) (fun n j hn hj=>?_)
  · obtain ⟨r,hr,_⟩:=hT.row hn
    simp[List.getD_eq_getElem?_getD,hr,hn]
  · obtain ⟨r,hr,hrl,hrg⟩:=hT.row hn
    have e1:((T.map fun r=>[V.bc (r.map fun c=>[bk c])]).getD n [])=[V.bc (r.map fun c=>[bk c])]:=by simp[List.getD_eq_getElem?_getD,hr]
    have e2:(((List.range N).map fun n=>[V.sl (R n) 0 M 1]).getD (0+n) [])=[V.sl (R n) 0 M 1]:=by simp[List.getD_eq_getElem?_getD,hn]
    rw[e1] at hj ⊢
    rw[e2]
    have:j=0:=by simp at hj; omega
    subst this
    simp only[List.getD_cons_zero]
    refine .sl (R n) 0 M 1 1 _ _ (hG.row n hn) (by simp) (by simp[hrl]) (fun i hi=>?_) (fun i q hi hq=>?_)
    · simp[List.getD_eq_getElem?_getD,hi,show i < r.length by omega]
    · have hic:i < r.length:=by omega
      have f1:((r.map fun c=>[bk c]).getD i [])=[bk r[i]]:=by simp[List.getD_eq_getElem?_getD,hic]
      have f2:(((List.range M).map fun i=>[V.sl (C n i) 0 M 1]).getD (0+i) [])=[V.sl (C n i) 0 M 1]:=by simp[List.getD_eq_getElem?_getD,hi]
      rw[f1] at hq ⊢
      rw[f2]
      have:q=0:=by simp at hq; omega
      subst this
      simp only[List.getD_cons_zero]
      have hcell:=hG.cell n i hn hi
      have e3:(T.getD n []).getD i []=r[i]:=by rw[hrg]; simp[List.getD_eq_getElem?_getD,hic]
      rw[e3] at hcell
      have hcl:=(hT.2 r (List.mem_of_getElem? hr)).2 _ (List.getElem_mem hic)
      have:=jT (h:=h) (id:=C n i) (is:=r[i]) hcell
      rwa [hcl] at this
theorem dW.Jv {h:aF} {v t:V} (f:dW h v t):Fr h v t:=by
  induction f with
  | val v=>exact .tree _ (.val v)
  | emp k=>exact .emp k
  | sl id off len esz z es es' hH hle hlen hl _ ih=>exact .sl id off len esz z es es' hH hle hlen hl ih
  | agg cs cs' hl _ ih=>exact .agg cs cs' hl ih
  | bz cs cs' hl _ ih=>exact .bz cs cs' hl ih
theorem kq.HD {H:View} {I N M:Nat} {R:Nat→Nat} {C:Nat→Nat→Nat} {T:Tb} (hG:kq H I N M R C T) (hT:dz T N M):bW H (.sl I 0 N 1) (eL T):=by
  rintro h rfl
  exact (hG.JZ hT).Jv
end Gv
set_option linter.unusedSimpArgs false
set_option maxRecDepth 100000
namespace Gv
open Go Go.Proofs
structure HO (H:View) (I N M k:Nat) (R:Nat→Nat) (C:Nat→Nat→Nat):Prop where
  top:H I=.arr 1 ((List.range N).map fun n=>[if n < k then .sl (R n) 0 M 1 else .emp 1])
  row:∀ n,n < k→H (R n)=.arr 1 ((List.range M).map fun i=>[.sl (C n i) 0 M 1])
  cell:∀ n i,n < k→i < M→H (C n i)=.arr 1 (List.replicate M [gb false])
  inj:∀ n i n' i',n < k→i < M→n' < k→i' < M→C n i=C n' i'→n=n'∧i=i'
  ne:∀ n,n < k→I≠R n
structure yo (H:View) (I N M k:Nat) (R:Nat→Nat) (C:Nat→Nat→Nat) (r i:Nat) (D:Nat→Nat):Prop where
  top:H I=.arr 1 ((List.range N).map fun n=>[if n < k then .sl (R n) 0 M 1 else if n=k then .sl r 0 M 1 else .emp 1])
  row:∀ n,n < k→H (R n)=.arr 1 ((List.range M).map fun i=>[.sl (C n i) 0 M 1])
  cell:∀ n i,n < k→i < M→H (C n i)=.arr 1 (List.replicate M [gb false])
  inj:∀ n i n' i',n < k→i < M→n' < k→i' < M→C n i=C n' i'→n=n'∧i=i'
  ne:∀ n,n < k→I≠R n
  Gt:H r=.arr 1 ((List.range M).map fun j=>[if j < i then .sl (D j) 0 M 1 else .emp 1])
  zO:∀ j,j < i→H (D j)=.arr 1 (List.replicate M [gb false])
  JC:∀ j j',j < i→j' < i→D j=D j'→j=j'
  yF:I≠r∧(∀ n,n < k→R n≠r)∧∀ n q j,n < k→q < M→j < i→C n q≠D j
theorem uP {M i:Nat} {F:Nat→List V} {v:List V} : ((List.range M).map F).set i v=(List.range M).map fun j=>if j=i then v else F j:=by
  apply List.ext_getElem (by simp)
  intro j h1 h2
  simp only[List.getElem_set,List.getElem_map,List.getElem_range]
  by_cases e:i=j
  · subst e; simp
  · rw[if_neg e,if_neg (Ne.symm e)]
theorem cY {M i:Nat} {F:Nat→List V} (h:i < M):((List.range M).map F).getD i []=F i:=by simp[List.getD_eq_getElem?_getD,h]
theorem HO.done {H:View} {I N M:Nat} {R:Nat→Nat} {C:Nat→Nat→Nat} (h:HO H I N M N R C):kq H I N M R C (tI N M):=by
  refine ⟨?_,h.row,fun n i hn hi=>?_,h.inj⟩
  · rw[h.top]
    congr 1
    apply List.map_congr_left
    intro n hn
    rw[if_pos (by simpa using hn)]
  · rw[h.cell n i hn hi]
    simp[tI,List.getD_eq_getElem?_getD,hn,hi]
theorem yo.J4 {H:View} {I N M k:Nat} {R:Nat→Nat} {C:Nat→Nat→Nat} {r:Nat} {D:Nat→Nat} (h:yo H I N M k R C r M D):HO H I N M (k+1) (fun n=>if n=k then r else R n) (fun n=>if n=k then D else C n):=by
  refine ⟨?_,fun n hn=>?_,fun n i hn hi=>?_,fun n i n' i' hn hi hn' hi' e=>?_,fun n hn=>?_⟩
  · rw[h.top]
    congr 1
    apply List.map_congr_left
    intro n _
    by_cases e1:n < k
    · rw[if_pos e1,if_pos (by omega),if_neg (by omega)]
    · by_cases e2:n=k
      · rw[if_neg e1,if_pos e2,if_pos (by omega),if_pos e2]
      · rw[if_neg e1,if_neg e2,if_neg (by omega)]
  · by_cases e:n=k
    · simp only[if_pos e]
      rw[h.Gt]
      congr 1
      apply List.map_congr_left
      intro i hi
      rw[if_pos (by simpa using hi)]
    · simp only[if_neg e]; exact h.row n (by omega)
  · by_cases e:n=k
    · simp only[if_pos e]; exact h.zO i hi
    · simp only[if_neg e]; exact h.cell n i (by omega) hi
  · by_cases e1:n=k
    · by_cases e2:n'=k
      · simp only[if_pos e1,if_pos e2] at e
        exact ⟨by omega,h.JC i i' hi hi' e⟩
      · simp only[if_pos e1,if_neg e2] at e
        exact absurd e.symm (h.yF.2.2 n' i' i (by omega) hi' hi)
    · by_cases e2:n'=k
      · simp only[if_neg e1,if_pos e2] at e
        exact absurd e (h.yF.2.2 n i i' (by omega) hi hi')
      · simp only[if_neg e1,if_neg e2] at e
        exact h.inj n i n' i' (by omega) hi (by omega) hi' e
  · by_cases e:n=k
    · simp only[if_pos e]; exact h.yF.1
    · simp only[if_neg e]; exact h.ne n (by omega)
theorem yo.next {H H':View} {I N M k:Nat} {R:Nat→Nat} {C:Nat→Nat→Nat} {r i d:Nat} {D:Nat→Nat} (h:yo H I N M k R C r i D) (hN:0 < N) (hM:0 < M) (hd:H d=.dead)
    (hr':H' r=.arr 1 (((List.range M).map fun j=>[if j < i then V.sl (D j) 0 M 1 else .emp 1]).set i [.sl d 0 M 1])) (hd':H' d=.arr 1 (List.replicate M [gb false])) (ho:∀ id,H id≠.dead→id≠r→H' id=H id) :
    yo H' I N M k R C r (i+1) (fun j=>if j=i then d else D j):=by
  have live:∀ id,H id≠.dead→id≠d:=fun id hid e=>by subst e; exact hid hd
  have boolr:∀ id,H id=.arr 1 (List.replicate M [gb false])→id≠r:=fun id hid e=>by
    rw[e,h.Gt] at hid
    simp only[bE.arr.injEq,true_and] at hid
    have:=congrArg (·[0]?) hid
    simp[hM] at this
    split at this <;> simp at this
  refine ⟨?_,fun n hn=>?_,fun n q hn hq=>?_,h.inj,h.ne,?_,fun j hj=>?_,fun j j' hj hj' e=>?_,⟨h.yF.1,h.yF.2.1,fun n q j hn hq hj=>?_⟩⟩
  · rw[ho I (by rw[h.top]; simp) h.yF.1]; exact h.top
  · rw[ho _ (by rw[h.row n hn]; simp) (h.yF.2.1 n hn)]; exact h.row n hn
  · have:=h.cell n q hn hq
    rw[ho _ (by rw[this]; simp) (boolr _ this)]; exact this
  · rw[hr',uP]
    congr 1
    apply List.map_congr_left
    intro j _
    by_cases e:j=i
    · rw[if_pos e,if_pos (by omega),if_pos e]
    · rw[if_neg e]
      by_cases e2:j < i
      · rw[if_pos e2,if_pos (by omega),if_neg e]
      · rw[if_neg e2,if_neg (by omega)]
  · by_cases e:j=i
    · simp only[if_pos e]; exact hd'
    · simp only[if_neg e]
      have:=h.zO j (by omega)
      rw[ho _ (by rw[this]; simp) (boolr _ this)]; exact this
  · by_cases e1:j=i
    · by_cases e2:j'=i
      · omega
      · simp only[if_pos e1,if_neg e2] at e
        exact absurd e.symm (live _ (by rw[h.zO j' (by omega)]; simp))
    · by_cases e2:j'=i
      · simp only[if_neg e1,if_pos e2] at e
        exact absurd e (live _ (by rw[h.zO j (by omega)]; simp))
      · simp only[if_neg e1,if_neg e2] at e
        exact h.JC j j' (by omega) (by omega) e
  · by_cases e:j=i
    · simp only[if_pos e]; exact live _ (by rw[h.cell n q hn hq]; simp)
    · simp only[if_neg e]; exact h.yF.2.2 n q j hn hq (by omega)
theorem uz:∀ (l:List Nat) (i v:Nat) (h:i < l.length),(l.set i v).sum+l[i]=l.sum+v
  | x :: l,0,v,_=>by simp; omega
  | x :: l,i+1,v,h=>by
    have:=uz l i v (by simpa using h)
    simp; omega
theorem w5:∀ (l:List Nat) (b:Nat),(∀ x∈l,x≤b)→l.sum≤l.length * b
  | [],_,_=>by simp
  | x :: l,b,h=>by
    have h1:=w5 l b fun y hy=>h y (by simp[hy])
    have h2:=h x (by simp)
    simp only[List.sum_cons,List.length_cons,Nat.add_mul]; omega
theorem tz:∀ (c:List Bool) (j:Nat),j < c.length→c.getD j false=false→bX (c.set j true)=bX c+1
  | x :: c,0,_,h=>by
    have:x=false:=by simpa using h
    subst this
    simp[bX]
  | x :: c,j+1,hj,h=>by
    have:=tz c j (by simpa using hj) (by simpa using h)
    unfold bX at this ⊢
    simp only[List.set_cons_succ,List.countP_cons,this]; omega
def gE (r:List (List Bool)):Nat:=(r.map bX).sum
def lX (T:Tb):Nat:=(T.map gE).sum
theorem AT {T:Tb} {N M:Nat} (h:dz T N M):lX T≤N * (M * M):=by
  have:=w5 (T.map gE) (M * M) (fun x hx=>by
    obtain ⟨r,hr,rfl⟩:=List.mem_map.1 hx
    have:=w5 (r.map bX) M (fun y hy=>by
      obtain ⟨c,hc,rfl⟩:=List.mem_map.1 hy
      rw[← (h.2 r hr).2 c hc]; exact oH c)
    rw[List.length_map,(h.2 r hr).1] at this
    exact this)
  rw[List.length_map,h.1] at this
  exact this
theorem Ib {T:Tb} {N M n i j:Nat} (h:dz T N M) (hn:n < N) (hi:i < M) (hj:j < M) (hf:c8 T n i j=false):lX (kL T n i j)=lX T+1:=by
  obtain ⟨r,c,hr,hc,hcl,hg⟩:=h.cell hn hi
  obtain ⟨r',hr',hrl,hg'⟩:=h.row hn
  rw[hr] at hr'; simp at hr'; subst hr'
  have hcc:r.getD i []=c:=by rw[← hg']; exact hg
  have hnl:n < T.length:=by rw[h.1]; exact hn
  have hil:i < r.length:=by omega
  have hTn:T[n]=r:=(List.getElem?_eq_some_iff.1 hr).2
  have hri:r[i]=c:=(List.getElem?_eq_some_iff.1 hc).2
  have h1:bX (c.set j true)=bX c+1:=tz c j (by omega) (by rw[← hg]; exact hf)
  have h2:gE (r.set i (c.set j true))=gE r+1:=by
    have:=uz (r.map bX) i (bX (c.set j true)) (by simpa using hil)
    unfold gE
    rw[List.map_set]
    simp only[List.getElem_map,hri] at this
    omega
  have:=uz (T.map gE) n (gE (r.set i (c.set j true))) (by simpa using hnl)
  unfold lX kL
  rw[hg',hcc,List.map_set]
  simp only[List.getElem_map,hTn] at this
  omega
def mM:SC :=
  .seq (.seq (al [aa 31 7,aa 32 1,aL 33 32,bb 34 .leq 31 33]) <|
  .cond (.tmp 34) (.skip) (.exit 2)) <|
  .seq (.block 3 (al [aa 37 5,aa 38 6,aN 39 1 37 38,an 40 39,aa 41 7,aa 42 1,aL 43 42,ay 44 .add 43 1,((some 45),.op (.make 1 1 [(.val (.bool false))] (.tmp 44) (.tmp 44))),aN 46 1 40 41,(none,.op (.store 1 (.tmp 46) (.tmp 45)))])) <|
  al [aa 35 7,ay 36 .add 35 1,aa 7 36]
def mg:SC :=
  .seq (.seq (al [aa 18 6,aa 19 5,aL 20 19,bb 21 .lss 18 20]) <|
  .cond (.tmp 21) (.skip) (.exit 0)) <|
  .seq (.block 1 (.seq (al [aa 24 5,aa 25 6,aa 26 1,aL 27 26,ay 28 .add 27 1,((some 29),.op (.make 1 24 [(.emp 1)] (.tmp 28) (.tmp 28))),aN 30 1 24 25,(none,.op (.store 1 (.tmp 30) (.tmp 29)))]) <|
  .seq (al [aH 7 0]) <|
  .block 2 (.loop mM))) <|
  al [aa 22 6,ay 23 .add 22 1,aa 6 23]
def mo:SC :=
  .seq (.seq (al [aa 73 13,aa 74 1,aL 75 74,bb 76 .leq 73 75]) <|
  .cond (.tmp 76) (.skip) (.exit 10)) <|
  .seq (.block 11 (.seq (.region false [⟨none,[aa 79 12,aa 80 13,aN 81 1 79 80,an 82 81,aa 83 82]⟩,⟨(some (83,true)),[aa 84 5,ar 85 0 10,an 86 85,aN 87 1 84 86,an 88 87,aa 89 11,aN 90 1 88 89,an 91 90,aa 92 13,aN 93 1 91 92,an 94 93,bL 95 94]⟩,⟨none,[br 96 83 95]⟩]) <|
  .cond (.tmp 96) (.seq (al [aa 97 5,ar 98 0 10,an 99 98,aN 100 1 97 99,an 101 100,aa 102 11,aN 103 1 101 102,an 104 103,aa 105 13,aN 106 1 104 105,(none,.op (.store 1 (.tmp 106) (.val (.val (.bool true)))))]) <|
  al [aU 8 true]) (.skip))) <|
  al [aa 77 13,ay 78 .add 77 1,aa 13 78]
def mP:SC :=
  .seq (.seq (al [aa 60 11,aa 61 1,aL 62 61,bb 63 .leq 60 62]) <|
  .cond (.tmp 63) (.skip) (.exit 8)) <|
  .seq (.block 9 (.seq (al [ar 66 1 10,an 67 66,aa 68 1,aa 69 5,aa 70 11,aG 71 71 [67,68,69,70],aa 12 71]) <|
  .seq (al [aa 72 11,aa 13 72]) <|
  .block 10 (.loop mo))) <|
  al [aa 64 11,ay 65 .add 64 1,aa 11 65]
def mB:SC :=
  .seq (.seq (al [aa 48 9,ar 49 2 2,an 50 49,aL 51 50,bb 52 .lss 48 51]) <|
  .cond (.tmp 52) (.skip) (.exit 6)) <|
  .seq (.block 7 (.seq (al [ar 55 2 2,an 56 55,aa 57 9,aN 58 3 56 57,aM 59 3 58,((some 10),.op (.alloc [(.val (.int .i64 0)),(.emp 1),(.val (.int .i64 0))])),(none,.op (.store 3 (.tmp 10) (.tmp 59)))]) <|
  .seq (al [aH 11 0]) <|
  .block 8 (.loop mP))) <|
  al [aa 53 9,ay 54 .add 53 1,aa 9 54]
def ia:SC :=
  .seq (.seq (al [aa 47 8]) <|
  .cond (.tmp 47) (.skip) (.exit 4)) <|
  .block 5 (.seq (al [aU 8 false]) <|
  .seq (al [aH 9 0]) <|
  .block 6 (.loop mB))
def ot:SF:=⟨.seq (al [cE 2 0,((some 4),.op (.bu (.val (.emp 1))))]) <|
  .seq (al [ar 14 1 2,an 15 14,aL 16 15,((some 17),.op (.make 1 24 [(.emp 1)] (.tmp 16) (.tmp 16))),aa 5 17]) <|
  .seq (.seq (al [aH 6 0]) <|
  .block 0 (.loop mg)) <|
  .seq (al [aU 8 true]) <|
  .seq (.block 4 (.loop ia)) <|
  .seq (al [aa 107 5,aa 4 107]) <|
  .ret,
  [.tmp 4],108⟩
theorem sW:aX Tryz.prog 42 [2]=some ot:=by kernel_rfl
def Gx (g:av) (p:List Int) (I:Nat) (R:Nat→Nat) (C:Nat→Nat→Nat) (T0:Tb) (D:Prop) (T:Env) (H:View):Prop :=
  ∃ T1,kq H I g.au.length (p.length+1) R C T1∧dz T1 g.au.length (p.length+1)∧(∀ n i j,c8 T1 n i j=true→i≤j∧Sp g p [-1 - (n:Int)] i j) ∧
    ((T 8=gb false∧T1=T0∧D)∨(T 8=gb true∧lX T0 < lX T1))∧T 1=encI p∧T 2=.aK (ao g) 0∧T 5=.sl I 0 g.au.length 1
def gz (p:List Int) (T0:Tb) (r:aT) (f:Nat):Prop:=∀ j,f≤j→j≤p.length→(dQ p T0 r.right f).getD j false=true→c8 T0 r.left.toNat f j=true
set_option maxHeartbeats 4000000 in
theorem HV (g:av) (hg:g.Ok) (hf:g.oO) (p:List Int) (hp:p.length≤1000):cx Tryz.prog 42 [.agg (ao g),encI p] (eL (fy g p)):=by
  have z1:=hf.nN
  have z2:=hf.au
  have z3:=hf.rules
  refine cx.of (by
    intro v hv; simp at hv
    rcases hv with rfl | rfl
    · exact bV _ (bK g)
    · exact cz p) ?_
  refine aD.of mixed sW ?_
  have hM:((p.length:Int)+1).toNat=p.length+1:=by omega
  simp (disch:=omega) only [↓wr,↓reduceIte,wq,ai,ah,ak,ae,af,ag,aj,isNil,Nat.reduceEqDiff,Nat.reduceAdd,Nat.reduceLT,Nat.reduceLeDiff,Int.reduceNeg,Int.reduceToNat,reduceCtorEq,ot,ao,encS]
  refine ⟨⟨by omega,by unfold aI; omega,by unfold aI; omega⟩,fun h=>by omega,?_⟩
  intro _ I
  try simp (disch:=omega) only [↓wr,↓reduceIte,wq,ai,ah,ak,ae,af,ag,aj,isNil,Nat.reduceEqDiff,Nat.reduceAdd,Nat.reduceLT,Nat.reduceLeDiff,Int.reduceNeg,Int.reduceToNat,reduceCtorEq,ao,encS]
  refine bo.up g.au.length (fun k T' H'=>(∃ R C,HO H' I g.au.length (p.length+1) k R C)∧T' 1=encI p∧T' 2=.aK (ao g) 0∧T' 5=.sl I 0 g.au.length 1∧T' 6=gi k) ?_ ?_
  · refine ⟨⟨fun _=>0,fun _ _=>0,⟨?_,fun n hn=>by omega,fun n i hn=>by omega,fun n i n' i' hn=>by omega,fun n hn=>by omega⟩⟩,rfl,rfl,rfl,rfl⟩
    simp[View.set]
    apply List.ext_getElem (by simp)
    intro n h1 h2
    simp
  rintro k m T' H hk ⟨⟨R,C,hB⟩,t1,t2,t5,t6⟩
  simp (disch:=omega) only [↓wr,↓reduceIte,wq,ai,ah,ak,ae,af,ag,aj,isNil,Nat.reduceEqDiff,Nat.reduceAdd,Nat.reduceLT,Nat.reduceLeDiff,Int.reduceNeg,Int.reduceToNat,reduceCtorEq,mg,t1,t2,t5,t6]
  refine aq.dec (fun hc=>?_) (fun hc=>?_)
  · have ht:=hB.top
    simp (disch:=omega) only [↓wr,↓reduceIte,wq,ai,ah,ak,ae,af,ag,aj,isNil,Nat.reduceEqDiff,Nat.reduceAdd,Nat.reduceLT,Nat.reduceLeDiff,Int.reduceNeg,Int.reduceToNat,reduceCtorEq,t1,t2,t5,t6,encI,ht]
    refine ⟨⟨by omega,by unfold aI; omega,by unfold aI; omega⟩,fun h=>by omega,?_⟩
    intro _ r hr
    have hIr:I≠r:=by rintro rfl; rw[ht] at hr; simp at hr
    try simp (disch:=omega) only [↓wr,↓reduceIte,wq,ai,ah,ak,ae,af,ag,aj,isNil,Nat.reduceEqDiff,Nat.reduceAdd,Nat.reduceLT,Nat.reduceLeDiff,Int.reduceNeg,Int.reduceToNat,reduceCtorEq,t1,t2,t5,t6,encI,ht,hM,hIr]
    refine ⟨by omega,by simp; omega,?_⟩
    try simp (disch:=omega) only [↓wr,↓reduceIte,wq,ai,ah,ak,ae,af,ag,aj,isNil,Nat.reduceEqDiff,Nat.reduceAdd,Nat.reduceLT,Nat.reduceLeDiff,Int.reduceNeg,Int.reduceToNat,reduceCtorEq,t1,t2,t5,t6,encI,ht,hM,hIr]
    refine bo.up (p.length+1) (fun i T' H'=>(∃ D,yo H' I g.au.length (p.length+1) k R C r i D)∧T' 1=encI p∧T' 2=.aK (ao g) 0∧T' 5=.sl I 0 g.au.length 1∧T' 6=gi k∧T' 7=gi i) ?_ ?_
    · refine ⟨⟨fun _=>0,?_⟩,t1,t2,t5,t6,rfl⟩
      have bm:∀ id,H id≠.dead→id≠I→∀ o1 o2,((H.set r o1).set I o2) id=H id:=fun id hid hI o1 o2=>by
        have:id≠r:=by rintro rfl; exact hid hr
        simp[View.set,hI,this]
      have rne:∀ n,n < k→R n≠r:=fun n hn e=>by have:=hB.row n hn; rw[e,hr] at this; simp at this
      have cI:∀ n i,n < k→i < p.length+1→C n i≠I:=fun n i hn hi e=>by
        have h1:=hB.cell n i hn hi
        rw[e,ht] at h1
        simp only[bE.arr.injEq,true_and] at h1
        have:=congrArg (·[0]?) h1
        simp[show 0 < g.au.length by omega] at this
        split at this <;> simp at this
      refine ⟨?_,fun n hn=>?_,fun n i hn hi=>?_,hB.inj,hB.ne,?_,fun j hj=>by omega,fun j j' hj=>by omega,⟨hIr,rne,fun n q j _ _ hj=>by omega⟩⟩
      · simp only[View.set,if_true]
        rw[cY (by omega)]
        simp only[List.drop_succ_cons,List.drop_nil,List.drop_zero]
        rw[uP]
        congr 1
        apply List.map_congr_left
        intro n _
        by_cases e1:n=k
        · rw[if_pos e1,if_neg (by omega),if_pos e1]
        · rw[if_neg e1]
          by_cases e2:n < k
          · rw[if_pos e2,if_pos e2]
          · rw[if_neg e2,if_neg e2,if_neg e1]
      · rw[bm _ (by rw[hB.row n hn]; simp) (hB.ne n hn).symm]; exact hB.row n hn
      · rw[bm _ (by rw[hB.cell n i hn hi]; simp) (cI n i hn hi)]; exact hB.cell n i hn hi
      · simp only[View.set,if_neg hIr.symm,if_true]
        congr 1
        apply List.ext_getElem (by simp)
        intro n h1 h2
        simp
    clear ht hr hB t1 t2 t5 t6
    rintro i q T' H hq ⟨⟨D,hB⟩,t1,t2,t5,t6,t7⟩
    simp (disch:=omega) only [↓wr,↓reduceIte,wq,ai,ah,ak,ae,af,ag,aj,isNil,Nat.reduceEqDiff,Nat.reduceAdd,Nat.reduceLT,Nat.reduceLeDiff,Int.reduceNeg,Int.reduceToNat,reduceCtorEq,mM,t1,t2,t5,t6,t7,encI]
    refine aq.dec (fun hc2=>?_) (fun hc2=>?_)
    · have ht:=hB.top
      have htg:=cY (F:=fun n=>[if n < k then V.sl (R n) 0 (p.length+1) 1 else if n=k then .sl r 0 (p.length+1) 1 else .emp 1]) (show k < g.au.length by omega)
      simp only[if_neg (show ¬ k < k by omega),if_true] at htg
      have hrr:=hB.Gt
      simp (disch:=omega) only [↓wr,↓reduceIte,wq,ai,ah,ak,ae,af,ag,aj,isNil,Nat.reduceEqDiff,Nat.reduceAdd,Nat.reduceLT,Nat.reduceLeDiff,Int.reduceNeg,Int.reduceToNat,reduceCtorEq,t1,t2,t5,t6,t7,encI,ht,htg]
      refine ⟨by omega,by simp; omega,⟨by omega,by unfold aI; omega,by unfold aI; omega⟩,fun h=>by omega,?_⟩
      intro _ d hd
      have hrd:r≠d:=by rintro rfl; rw[hrr] at hd; simp at hd
      try simp (disch:=omega) only [↓wr,↓reduceIte,wq,ai,ah,ak,ae,af,ag,aj,isNil,Nat.reduceEqDiff,Nat.reduceAdd,Nat.reduceLT,Nat.reduceLeDiff,Int.reduceNeg,Int.reduceToNat,reduceCtorEq,t1,t2,t5,t6,t7,hM,hrr,hrd]
      refine ⟨by omega,by simp; omega,aV hq (by omega) ⟨⟨_,hB.next (d:=d) (by omega) (by omega) hd ?_ ?_ ?_⟩,t1,t2,t5,t6,rfl⟩⟩
      · simp only[View.set,if_true]
        rw[cY (by omega)]; rfl
      · simp only[View.set,if_neg hrd.symm,if_true]; rfl
      · intro id hid hidr
        have:id≠d:=by rintro rfl; exact hid hd
        simp[View.set,hidr,this]
    · simp (disch:=omega) only [↓wr,↓reduceIte,wq,ai,ah,ak,ae,af,ag,aj,isNil,Nat.reduceEqDiff,Nat.reduceAdd,Nat.reduceLT,Nat.reduceLeDiff,Int.reduceNeg,Int.reduceToNat,reduceCtorEq,t1,t2,t5,t6,t7]
      have hi':i=p.length+1:=by omega
      subst hi'
      exact aV hk (by omega) ⟨⟨_,_,hB.J4⟩,t1,t2,t5,rfl⟩
  · simp (disch:=omega) only [↓wr,↓reduceIte,wq,ai,ah,ak,ae,af,ag,aj,isNil,Nat.reduceEqDiff,Nat.reduceAdd,Nat.reduceLT,Nat.reduceLeDiff,Int.reduceNeg,Int.reduceToNat,reduceCtorEq,t1,t2,t5,t6]
    have hk':k=g.au.length:=by omega
    subst hk'
    have hG:=hB.done
    refine bo.intro (fun k T' H'=>∃ T0,kq H' I g.au.length (p.length+1) R C T0∧dz T0 g.au.length (p.length+1)∧(∀ n i j,c8 T0 n i j=true→i≤j∧Sp g p [-1 - (n:Int)] i j) ∧
      ((T' 8=gb true∧k+lX T0=g.au.length * ((p.length+1) * (p.length+1))+1)∨(T' 8=gb false∧∀ r∈g.rules,∀ f,f≤p.length→gz p T0 r f))∧T' 1=encI p∧T' 2=.aK (ao g) 0∧T' 5=.sl I 0 g.au.length 1) (g.au.length * ((p.length+1) * (p.length+1))+1 - lX (tI g.au.length (p.length+1))) ?_ ?_
    · have:=AT (Cx g.au.length (p.length+1))
      exact ⟨_,hG,Cx _ _,fun n i j h=>by rw[Ii] at h; simp at h,.inl ⟨rfl,by omega⟩,t1,t2,t5⟩
    clear hB hG t1 t2 t5 t6
    rintro k T' H ⟨T0,hG,hok,hsd,h8,t1,t2,t5⟩
    rcases h8 with ⟨t8,hcnt⟩ | ⟨t8,hcl⟩
    · simp (disch:=omega) only [↓wr,↓reduceIte,wq,ai,ah,ak,ae,af,ag,aj,isNil,Nat.reduceEqDiff,Nat.reduceAdd,Nat.reduceLT,Nat.reduceLeDiff,Int.reduceNeg,Int.reduceToNat,reduceCtorEq,ia,t1,t2,t5,t8]
      refine bo.up g.rules.length (fun i T' H'=>Gx g p I R C T0 (∀ q r,q < i→g.rules[q]?=some r→∀ f,f≤p.length→gz p T0 r f) T' H'∧T' 9=gi i) ⟨⟨T0,hG,hok,hsd,.inl ⟨rfl,rfl,fun q r hq=>by omega⟩,t1,t2,t5⟩,rfl⟩ ?_
      clear hG t1 t2 t5 t8
      rintro i m T' H hm ⟨⟨T1,hG,hok1,hsd1,h8,t1,t2,t5⟩,t9⟩
      simp (disch:=omega) only [↓wr,↓reduceIte,wq,ai,ah,ak,ae,af,ag,aj,isNil,Nat.reduceEqDiff,Nat.reduceAdd,Nat.reduceLT,Nat.reduceLeDiff,Int.reduceNeg,Int.reduceToNat,reduceCtorEq,mB,t1,t2,t5,t9,ao]
      refine aq.dec (fun hc2=>?_) (fun hc2=>?_)
      · have hg2:g.rules[i]?=some (g.rules[i]'(by omega)):=List.getElem?_eq_getElem (by omega)
        have hmem:g.rules[i]'(by omega)∈g.rules:=List.getElem_mem _
        generalize g.rules[i]'(by omega)=r at hg2 hmem
        simp (disch:=omega) only [↓wr,↓reduceIte,wq,ai,ah,ak,ae,af,ag,aj,isNil,Nat.reduceEqDiff,Nat.reduceAdd,Nat.reduceLT,Nat.reduceLeDiff,Int.reduceNeg,Int.reduceToNat,reduceCtorEq,t1,t2,t5,t9,ao,aJ,encI,List.getElem?_map,hg2]
        intro b hb
        try simp (disch:=omega) only [↓wr,↓reduceIte,wq,ai,ah,ak,ae,af,ag,aj,isNil,Nat.reduceEqDiff,Nat.reduceAdd,Nat.reduceLT,Nat.reduceLeDiff,Int.reduceNeg,Int.reduceToNat,reduceCtorEq,t1,t2,t5,t9]
        have hl:=hf.left r hmem
        have hrw:=hg.bj r hmem
        refine bo.up (p.length+1) (fun f T' H'=>Gx g p I R C T0 ((∀ q r,q < i→g.rules[q]?=some r→∀ f,f≤p.length→gz p T0 r f)∧∀ f',f' < f→gz p T0 r f') T' H'∧T' 9=gi i∧T' 10=.ptr b 0 0∧H' b=.arr 3 [aJ r]∧T' 11=gi f) ?_ ?_
        · refine ⟨⟨T1,hG.keep fun id hid=>?_,hok1,hsd1,?_,t1,t2,t5⟩,t9,rfl,by simp[View.set,aJ,encI],rfl⟩
          · have:id≠b:=by rintro rfl; exact hid hb
            simp[View.set,this]
          · rcases h8 with ⟨a,b,c⟩ | h
            · exact .inl ⟨a,b,c,fun f' hf'=>by omega⟩
            · exact .inr h
        clear hG h8 t1 t2 t5 t9 hb hok1 hsd1
        rintro f u T' H hu ⟨⟨T1,hG,hok1,hsd1,h8,t1,t2,t5⟩,t9,t10,hb,t11⟩
        simp (disch:=omega) only [↓wr,↓reduceIte,wq,ai,ah,ak,ae,af,ag,aj,isNil,Nat.reduceEqDiff,Nat.reduceAdd,Nat.reduceLT,Nat.reduceLeDiff,Int.reduceNeg,Int.reduceToNat,reduceCtorEq,mP,t1,t2,t5,t9,t10,t11,encI]
        refine aq.dec (fun hc3=>?_) (fun hc3=>?_)
        · simp (disch:=omega) only [↓wr,↓reduceIte,wq,ai,ah,ak,ae,af,ag,aj,isNil,Nat.reduceEqDiff,Nat.reduceAdd,Nat.reduceLT,Nat.reduceLeDiff,Int.reduceNeg,Int.reduceToNat,reduceCtorEq,t1,t2,t5,t9,t10,t11,hb,aJ,encI]
          have hen:=Dq r.right p T1 f g.au.length hrw.2.2.1 hp hok1 (by omega) (fun x hx=>⟨hrw.2.2.2 x hx,fun hn=>hf.neg hmem hx hn⟩)
          refine az.zL hen (by kernel_rfl) ⟨bW.tree (cz r.right),bW.tree (cz p),hG.HD hok1,bW.tree (.val _),trivial⟩ ?_
          have hel:=tZ p T1 r.right f
          have hls:∀ j,j≤p.length→(dQ p T1 r.right f).getD j false=true→f≤j∧Sp g p r.right f j:=fun j hj he=>by
            have h1:=(oo (show f≤p.length by omega) hj).1 he
            exact ⟨h1.le wy,zN (fun n i j h=>(hsd1 n i j h.2).2) h1⟩
          have hl0:T1=T0→dQ p T1 r.right f=dQ p T0 r.right f:=fun e=>by rw[e]
          have h8':(T' 8=gb false∧T1=T0∧((∀ q r,q < i→g.rules[q]?=some r→∀ f,f≤p.length→gz p T0 r f)∧∀ f',f' < f→gz p T0 r f')∧dQ p T1 r.right f=dQ p T0 r.right f)∨(T' 8=gb true∧lX T0 < lX T1):=by
            rcases h8 with ⟨a,b,c⟩ | h
            · exact .inl ⟨a,b,c,hl0 b⟩
            · exact .inr h
          clear h8 hl0
          generalize dQ p T1 r.right f=lst at hel hls h8'
          simp (disch:=omega) only [↓wr,↓reduceIte,wq,ai,ah,ak,ae,af,ag,aj,isNil,Nat.reduceEqDiff,Nat.reduceAdd,Nat.reduceLT,Nat.reduceLeDiff,Int.reduceNeg,Int.reduceToNat,reduceCtorEq,t1,t2,t5,t9,t10,t11]
          refine bo.up (p.length+1 - f) (fun s T' H'=>Gx g p I R C T0 (((∀ q r,q < i→g.rules[q]?=some r→∀ f,f≤p.length→gz p T0 r f)∧∀ f',f' < f→gz p T0 r f')∧lst=dQ p T0 r.right f∧∀ j,f≤j→j < f+s→lst.getD j false=true→c8 T0 r.left.toNat f j=true) T' H'∧T' 9=gi i∧T' 10=.ptr b 0 0∧H' b=.arr 3 [aJ r]∧T' 11=gi f∧T' 12=bk lst∧T' 13=gi ((f+s:Nat):Int)) ?_ ?_
          · refine ⟨⟨T1,hG,hok1,hsd1,?_,t1,t2,t5⟩,t9,t10,hb,t11,rfl,rfl⟩
            rcases h8' with ⟨a,b,c,d⟩ | h
            · exact .inl ⟨a,b,c,d,fun j h1 h2=>by omega⟩
            · exact .inr h
          clear hG h8' t1 t2 t5 t9 t10 t11 hb hok1 hsd1
          rintro s w T' H hw ⟨⟨T1,hG,hok1,hsd1,h8,t1,t2,t5⟩,t9,t10,hb,t11,t12,t13⟩
          simp (disch:=omega) only [↓wr,↓reduceIte,wq,ai,ah,ak,ae,af,ag,aj,isNil,Nat.reduceEqDiff,Nat.reduceAdd,Nat.reduceLT,Nat.reduceLeDiff,Int.reduceNeg,Int.reduceToNat,reduceCtorEq,mo,t1,t2,t5,t9,t10,t11,t12,t13,encI]
          refine aq.dec (fun hc4=>?_) (fun hc4=>?_)
          · have hgl:lst[f+s]?=some (lst.getD (f+s) false):=by simp[List.getD_eq_getElem?_getD,show f+s < lst.length by omega]
            have hls':=hls (f+s) (by omega)
            simp (disch:=omega) only [↓wr,↓reduceIte,wq,ai,ah,ak,ae,af,ag,aj,isNil,Nat.reduceEqDiff,Nat.reduceAdd,Nat.reduceLT,Nat.reduceLeDiff,Int.reduceNeg,Int.reduceToNat,reduceCtorEq,t1,t2,t5,t9,t10,t11,t12,t13,bk,List.getElem?_map,hgl]
            generalize hlve:lst.getD (f+s) false=lv at hls'
            have hln:r.left.toNat < g.au.length:=by omega
            have ht:=hG.top
            have htg:=cY (F:=fun n=>[V.sl (R n) 0 (p.length+1) 1]) hln
            have hro:=hG.row r.left.toNat hln
            have hrg:=cY (F:=fun i=>[V.sl (C r.left.toNat i) 0 (p.length+1) 1]) (show f < p.length+1 by omega)
            have hce:=hG.cell r.left.toNat f hln (by omega)
            obtain ⟨row,cell,hrow,hcell,hcl,hcg⟩:=hok1.cell hln (show f < p.length+1 by omega)
            rw[hcg] at hce
            have hcd:=iy (l:=cell) (i:=f+s) (by omega)
            have htb:c8 T1 r.left.toNat f (f+s)=cell.getD (f+s) false:=by rw[c8,hcg]
            have hkeep:∀ (lv':Bool),(lv'=true→c8 T1 r.left.toNat f (f+s)=true)→lst.getD (f+s) false=lv'→((T' 8=gb false∧T1=T0∧((∀ q r,q < i→g.rules[q]?=some r→∀ f,f≤p.length→gz p T0 r f)∧∀ f',f' < f→gz p T0 r f')∧lst=dQ p T0 r.right f∧∀ j,f≤j→j < f+(s+1)→lst.getD j false=true→c8 T0 r.left.toNat f j=true)∨(T' 8=gb true∧lX T0 < lX T1)):=fun lv' hlv hlv2=>by
              rcases h8 with ⟨a,b,c,d,e⟩ | h
              · refine .inl ⟨a,b,c,d,fun j h1 h2 h3=>?_⟩
                by_cases ej:j=f+s
                · subst ej
                  rw[hlv2] at h3
                  rw[← b]; exact hlv h3
                · exact e j h1 (by omega) h3
              · exact .inr h
            refine aq.split (fun hlv=>?_) (fun hlv=>?_)
            · subst hlv
              obtain ⟨_,hsp⟩:=hls' rfl
              simp (disch:=omega) only [↓wr,↓reduceIte,wq,ai,ah,ak,ae,af,ag,aj,isNil,Nat.reduceEqDiff,Nat.reduceAdd,Nat.reduceLT,Nat.reduceLeDiff,Int.reduceNeg,Int.reduceToNat,reduceCtorEq,t1,t2,t5,t9,t10,t11,t12,t13,hb,aJ,ht,htg,hro,hrg,hce,hcd]
              refine ⟨by omega,by simp; omega,?_⟩
              try simp (disch:=omega) only [↓wr,↓reduceIte,wq,ai,ah,ak,ae,af,ag,aj,isNil,Nat.reduceEqDiff,Nat.reduceAdd,Nat.reduceLT,Nat.reduceLeDiff,Int.reduceNeg,Int.reduceToNat,reduceCtorEq,t1,t2,t5,t9,t10,t11,t12,t13,hb,aJ,ht,htg,hro,hrg,hce,hcd]
              refine ⟨by omega,by simp; omega,by omega,by omega,?_⟩
              refine aq.split (fun hcv=>?_) (fun hcv=>?_)
              · simp (disch:=omega) only [↓wr,↓reduceIte,wq,ai,ah,ak,ae,af,ag,aj,isNil,Nat.reduceEqDiff,Nat.reduceAdd,Nat.reduceLT,Nat.reduceLeDiff,Int.reduceNeg,Int.reduceToNat,reduceCtorEq,t1,t2,t5,t9,t10,t11,t12,t13]
                exact aV hw (by omega) ⟨⟨T1,hG,hok1,hsd1,hkeep true (fun _=>by rw[htb]; exact hcv) hlve,t1,t2,t5⟩,t9,t10,hb,t11,t12,rfl⟩
              · simp (disch:=omega) only [↓wr,↓reduceIte,wq,ai,ah,ak,ae,af,ag,aj,isNil,Nat.reduceEqDiff,Nat.reduceAdd,Nat.reduceLT,Nat.reduceLeDiff,Int.reduceNeg,Int.reduceToNat,reduceCtorEq,t1,t2,t5,t9,t10,t11,t12,t13,hb,aJ,ht,htg,hro,hrg,hce,hcd]
                refine ⟨by omega,by simp; omega,?_⟩
                try simp (disch:=omega) only [↓wr,↓reduceIte,wq,ai,ah,ak,ae,af,ag,aj,isNil,Nat.reduceEqDiff,Nat.reduceAdd,Nat.reduceLT,Nat.reduceLeDiff,Int.reduceNeg,Int.reduceToNat,reduceCtorEq,t1,t2,t5,t9,t10,t11,t12,t13,hb,aJ,ht,htg,hro,hrg,hce,hcd]
                refine ⟨by omega,by simp; omega,by omega,by omega,?_⟩
                have hput:=hG.put hok1 hln (show f < p.length+1 by omega) (show f+s < p.length+1 by omega)
                have hcs:=Ib hok1 hln (show f < p.length+1 by omega) (show f+s < p.length+1 by omega) (by rw[htb]; exact hcv)
                rw[hcg,← dM] at hput
                have hbC:b≠C r.left.toNat f:=fun e=>by rw[e,hce] at hb; simp at hb
                refine aV hw (by omega) ⟨⟨kL T1 r.left.toNat f (f+s),?_,GS hok1 hln (by omega),fun n i' j' h=>?_,.inr ⟨rfl,?_⟩,t1,t2,t5⟩,t9,t10,by simp[View.set,hbC,hb,aJ],t11,t12,rfl⟩
                · exact hput
                · rw[Hz hok1 hln (by omega) (by omega)] at h
                  split at h
                  · rename_i e
                    obtain ⟨rfl,rfl,rfl⟩:=e
                    refine ⟨by omega,?_⟩
                    exact .ca _ _ r _ _ _ (by omega) hmem (by omega) hsp (.nil _)
                  · exact hsd1 n i' j' h
                · rcases h8 with ⟨_,e,_⟩ | ⟨_,e⟩
                  · rw[hcs,e]; omega
                  · omega
            · subst hlv
              simp (disch:=omega) only [↓wr,↓reduceIte,wq,ai,ah,ak,ae,af,ag,aj,isNil,Nat.reduceEqDiff,Nat.reduceAdd,Nat.reduceLT,Nat.reduceLeDiff,Int.reduceNeg,Int.reduceToNat,reduceCtorEq,t1,t2,t5,t9,t10,t11,t12,t13]
              exact aV hw (by omega) ⟨⟨T1,hG,hok1,hsd1,hkeep false (fun h=>by simp at h) hlve,t1,t2,t5⟩,t9,t10,hb,t11,t12,rfl⟩
          · simp (disch:=omega) only [↓wr,↓reduceIte,wq,ai,ah,ak,ae,af,ag,aj,isNil,Nat.reduceEqDiff,Nat.reduceAdd,Nat.reduceLT,Nat.reduceLeDiff,Int.reduceNeg,Int.reduceToNat,reduceCtorEq,t1,t2,t5,t9,t10,t11,t12,t13]
            refine aV hu (by omega) ⟨⟨T1,hG,hok1,hsd1,?_,t1,t2,t5⟩,t9,t10,hb,rfl⟩
            rcases h8 with ⟨a,b,c,d,e⟩ | h
            · refine .inl ⟨a,b,c.1,fun f' hf'=>?_⟩
              by_cases ef:f'=f
              · subst ef
                exact fun j h1 h2 h3=>e j h1 (by omega) (by rw[d]; exact h3)
              · exact c.2 f' (by omega)
            · exact .inr h
        · simp (disch:=omega) only [↓wr,↓reduceIte,wq,ai,ah,ak,ae,af,ag,aj,isNil,Nat.reduceEqDiff,Nat.reduceAdd,Nat.reduceLT,Nat.reduceLeDiff,Int.reduceNeg,Int.reduceToNat,reduceCtorEq,t1,t2,t5,t9,t10,t11]
          refine aV hm (by omega) ⟨⟨T1,hG,hok1,hsd1,?_,t1,t2,t5⟩,rfl⟩
          rcases h8 with ⟨a,b,c,d⟩ | h
          · refine .inl ⟨a,b,fun q r' hq hr' f' hf'=>?_⟩
            by_cases eq:q=i
            · subst eq
              rw[hg2] at hr'; simp at hr'; subst hr'
              exact d f' (by omega)
            · exact c q r' (by omega) hr' f' hf'
          · exact .inr h
      · simp (disch:=omega) only [↓wr,↓reduceIte,wq,ai,ah,ak,ae,af,ag,aj,isNil,Nat.reduceEqDiff,Nat.reduceAdd,Nat.reduceLT,Nat.reduceLeDiff,Int.reduceNeg,Int.reduceToNat,reduceCtorEq,t1,t2,t5,t9]
        rcases h8 with ⟨a,b,c⟩ | ⟨a,b⟩
        · subst b
          refine ⟨0,by have:=AT hok; omega,T1,hG,hok,hsd,.inr ⟨a,fun r hr f hf'=>?_⟩,rfl⟩
          obtain ⟨q,hq,hqe⟩:=List.getElem_of_mem hr
          exact c q r (by omega) (by rw[List.getElem?_eq_getElem hq,hqe]) f hf'
        · have:=AT hok1
          exact ⟨g.au.length * ((p.length+1) * (p.length+1))+1 - lX T1,by omega,T1,hG,hok1,hsd1,.inl ⟨a,by omega⟩,rfl⟩
    · simp (disch:=omega) only [↓wr,↓reduceIte,wq,ai,ah,ak,ae,af,ag,aj,isNil,Nat.reduceEqDiff,Nat.reduceAdd,Nat.reduceLT,Nat.reduceLeDiff,Int.reduceNeg,Int.reduceToNat,reduceCtorEq,ia,t1,t2,t5,t8]
      intro h' hh
      have hT:T0=fy g p:=Jm (fun r hr=>(hf.left r hr).1) (fun r hr=>(hf.left r hr).2) hok (fun n i j h=>(hsd n i j h.2).2) (fun n i j h=>(hsd n i j h).1) fun r hr f j hfj hj he=>hcl r hr f (by omega) j hfj hj he
      rw[← hT]
      exact kq.JZ (by rw[hh]; exact hG) hok
end Gv
