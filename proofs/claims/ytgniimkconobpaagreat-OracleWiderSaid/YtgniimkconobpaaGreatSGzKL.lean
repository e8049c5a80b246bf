/-
  Part 12 of the proof: what the machine does and what the functions answer.
  Conditions: those that each lemma names.
-/
import Derived.Test.YtgniimkconobpaaGreatSGzKK
set_option linter.unusedSimpArgs false
set_option linter.unusedVariables false
set_option linter.unusedSimpArgs false
namespace Gv
open Go Go.Proofs
theorem A7 {x:Int} : ∀ (o:List Int) (i:Int),x∈o→∃ k:Nat,cF (fun y=>y == x) o i=i+k∧o[k]?=some x
  | [],_,h=>by simp at h
  | y :: o,i,h=>by
    by_cases e:y=x
    · exact ⟨0,by simp[cF,e],by simp[e]⟩
    · have hx:x∈o:=by
        rcases List.mem_cons.1 h with rfl | h
        · exact absurd rfl e
        · exact h
      obtain ⟨k,h1,h2⟩:=A7 o (i+1) hx
      exact ⟨k+1,by simp only[cF]; rw[if_neg (by simp[e]),h1]; push_cast; omega,by simpa using h2⟩
theorem vV {o:List Int} {x:Int} (h:x∈o):o[(aQ o x).toNat]?=some x:=by
  obtain ⟨k,h1,h2⟩:=A7 o 0 h
  have:aQ o x=k:=by unfold aQ; omega
  rw[this]; simpa using h2
theorem uJ {o:List Int} (hn:o.Nodup) {k:Nat} {x:Int} (h:o[k]?=some x):aQ o x=k:=by
  have hx:=List.mem_of_getElem? h
  have h1:=vV hx
  have h2:=iw hx
  obtain ⟨hk,h3⟩:=List.getElem?_eq_some_iff.1 h
  obtain ⟨hk2,h4⟩:=List.getElem?_eq_some_iff.1 h1
  have:=(List.getElem_inj hn).1 (h4.trans h3.symm)
  omega
theorem oS:∀ (l:List aO) (acc:List Int),acc.Nodup→(l.foldl cE acc).Nodup
  | [],_,h=>h
  | r :: l,acc,h=>oS l _ (xg h)
theorem Eg (p q:List Bool) (l:List aO):(br p q l).Nodup:=oS _ _ List.nodup_nil
theorem G3 (acc:List Int) (r:aO):∃ m,cE acc r=acc ++ m:=by
  unfold cE
  split
  · exact ⟨[],by simp⟩
  · exact ⟨_,rfl⟩
theorem qB:∀ (l:List aO) (acc:List Int),∃ m,l.foldl cE acc=acc ++ m
  | [],acc=>⟨[],by simp⟩
  | r :: l,acc=>by
    obtain ⟨m,hm⟩:=G3 acc r
    obtain ⟨k,hk⟩:=qB l (cE acc r)
    exact ⟨m ++ k,by rw[List.foldl_cons,hk,hm,List.append_assoc]⟩
theorem G2 {a b:List Int} {x:Int} (h:x∈a):aQ (a ++ b) x=aQ a x:=by
  unfold aQ
  rw[pT _ _ _ _ (by omega)]
  have:=iw h
  unfold aQ at this
  rw[if_pos this.1]
theorem ri {r:au} {o:List Int} (ho:o.Nodup) (hr:r.ar.length=o.length):∀ (l:List aO) (acc:List Int),o=l.foldl cE acc→(∀ x∈l,ff r (aT (aQ o) x)=true)→eE r (l.map (aT (aQ o))) ((acc.length:Int) - 1)=true
  | [],acc,h,_=>by
    simp only[List.foldl_nil] at h
    simp[eE,hr,h]
  | x :: l,acc,h,hb=>by
    simp only[List.map_cons,eE,Bool.and_eq_true,decide_eq_true_eq]
    rw[List.foldl_cons] at h
    have h1:(aT (aQ o) x).left=aQ o x.left:=rfl
    obtain ⟨m,hm⟩:=qB l (cE acc x)
    rw[← h] at hm
    by_cases hx:x.left∈acc
    · have e:cE acc x=acc:=by unfold cE; rw[if_pos hx]
      rw[e] at hm h
      have h2:=iw hx
      have h3:aQ o x.left=aQ acc x.left:=by rw[hm]; exact G2 hx
      rw[h1,h3,if_neg (by omega)]
      exact ⟨⟨⟨h2.1,by omega⟩,hb x (by simp)⟩,ri ho hr l acc h fun y hy=>hb y (by simp[hy])⟩
    · have e:cE acc x=acc ++ [x.left]:=by unfold cE; rw[if_neg hx]
      rw[e] at hm h
      have h3:aQ o x.left=acc.length:=uJ ho (by rw[hm]; simp)
      rw[h1,h3,if_pos (by omega)]
      refine ⟨⟨⟨by omega,by omega⟩,hb x (by simp)⟩,?_⟩
      have:=ri ho hr l (acc ++ [x.left]) h fun y hy=>hb y (by simp[hy])
      rw[List.length_append] at this
      simpa using this
theorem u5 {g r:au} (h:r.aA=g.aA):∀ (l:List Term) (i:Int),gn r l i=gn g l i
  | [],_=>rfl
  | t :: l,i=>by
    simp only[gn,u5 h l]
    congr 1
    simp only[gG,jw,nT,h]
theorem sE {o:List Int} {n:Nat} (h:o.Nodup) (hb:∀ x∈o,0≤x∧x < n):o.length≤n:=by
  have:=mI o ((List.range n).map fun (k:Nat)=>(k:Int)) h fun x hx=>by
    have:=hb x hx
    exact List.mem_map.2 ⟨x.toNat,List.mem_range.2 (by omega),by omega⟩
  simpa using this
structure dh (g:au) (p q:List Bool) (o:List Int) (r:au):Prop where
  right:aM g=true
  pe:p=aw g true
  qe:q=aL g
  oe:o=br p q g.rules
  re:r=eN g (aQ o) p q
  nodup:o.Nodup
  inside:∀ x∈o,0≤x∧x < g.ar.length
  kept:∀ R∈g.rules,bq p q R=true→R.left∈o∧∀ s∈R.right,s < 0→-1 - s∈o
  from_:∀ x∈o,∃ R∈g.rules,bq p q R=true∧R.left=x
  start:g.start∈o
theorem z8 {g:au} (hr:aM g=true) (hp:(aw g true).getD g.start.toNat false=true):dh g (aw g true) (aL g) (br (aw g true) (aL g) g.rules) (eN g (aQ (br (aw g true) (aL g) g.rules)) (aw g true) (aL g)):=by
  have hf:=aJ hr
  refine ⟨hr,rfl,rfl,rfl,rfl,Eg _ _ _,fun x hx=>?_,fun R hm hk=>⟨oH.2 ⟨R,hm,hk,rfl⟩,fun s hs hn=>?_⟩,fun x hx=>oH.1 hx,w6 hr hf.dR hp (qg hr)⟩
  · obtain ⟨R,h1,_,rfl⟩:=oH.1 hx
    exact hf.left R h1
  · refine w6 hr (by omega) ?_ (r8 hr hm hk hs hn)
    rw[bq,Bool.and_eq_true] at hk
    have:=hk.2
    simp only[ca,List.all_eq_true] at this
    have:=this s hs
    rwa [if_neg (by omega)] at this
section
variable {g r:au} {p q:List Bool} {o:List Int}
theorem dh.rules (h:dh g p q o r):r.rules=(g.rules.filter (bq p q)).map (aT (aQ o)):=by rw[h.re]; rfl
theorem dh.ar (h:dh g p q o r):r.ar=o.map fun x=>g.ar.getD x.toNat ⟨#[]⟩:=by rw[h.re,h.oe]; rfl
theorem dh.aA (h:dh g p q o r):r.aA=g.aA:=by rw[h.re]; rfl
theorem dh.xx (h:dh g p q o r):r.start=aQ o g.start:=by rw[h.re]; rfl
theorem dh.len (h:dh g p q o r):r.ar.length=o.length:=by rw[h.ar]; simp
theorem dh.fy (h:dh g p q o r):aM r=true:=by
  have hf:=aJ h.right
  have hR:=h.right
  simp only[aM,gA,hX,Bool.and_eq_true,decide_eq_true_eq] at hR ⊢
  obtain ⟨⟨⟨⟨⟨⟨⟨a1,a2⟩,⟨a3,a4⟩,a5⟩,a6⟩,a7⟩,a8⟩,a9⟩,a10⟩:=hR
  have hst:=iw h.start
  have hol:o.length≤g.ar.length:=sE h.nodup h.inside
  have hgn:g.ar.Nodup∧∀ s∈g.ar,dY (dD s)=true∧jw g s < 0:=by
    rw[pa] at a5
    refine ⟨(pn g.ar).1 fun k s hk=>?_,fun s hs=>?_⟩
    · have:=a5 k s hk
      simp only[iV,tT,Bool.and_eq_true,beq_iff_eq] at this
      have:=this.1.2
      omega
    · obtain ⟨k,hk⟩:=List.getElem?_of_mem hs
      have:=a5 k s hk
      simp only[iV,Bool.and_eq_true,decide_eq_true_eq] at this
      exact ⟨this.1.1,this.2⟩
  have hget:∀ x∈o,∃ (hx:x.toNat < g.ar.length),g.ar.getD x.toNat ⟨#[]⟩=g.ar[x.toNat]:=fun x hx=>by
    have:=h.inside x hx
    exact ⟨by omega,by simp[List.getD_eq_getElem?_getD,List.getElem?_eq_getElem (show x.toNat < g.ar.length by omega)]⟩
  have hrn:r.ar.Nodup:=by
    rw[h.ar,List.nodup_iff_pairwise_ne,List.pairwise_map]
    refine (List.Pairwise.and_mem.1 h.nodup).imp ?_
    rintro x y ⟨hx,hy,hne⟩ e
    obtain ⟨h1,h2⟩:=hget x hx
    obtain ⟨h3,h4⟩:=hget y hy
    rw[h2,h4] at e
    have h5:=(List.getElem_inj hgn.1).1 e
    have h6:=h.inside x hx
    have h7:=h.inside y hy
    exact hne (by omega)
  have hrules:(g.rules.filter (bq p q)).length≤g.rules.length:=List.length_filter_le _ _
  obtain ⟨R0,hR0,hk0,_⟩:=h.from_ _ h.start
  have hpos:0 < (g.rules.filter (bq p q)).length:=List.length_pos_of_mem (List.mem_filter.2 ⟨hR0,hk0⟩)
  have hrl:r.rules.length=(g.rules.filter (bq p q)).length:=by rw[h.rules]; simp
  refine ⟨⟨⟨⟨⟨⟨⟨by rw[h.aA]; exact a1,?_⟩,⟨by rw[h.len]; omega,by rw[h.len]; omega⟩,?_⟩,by omega⟩,by omega⟩,by rw[h.xx]; omega⟩,by rw[h.xx,h.len]; omega⟩,?_⟩
  · rw[h.aA,u5 h.aA]; exact a2
  · rw[pa]
    intro k s hk
    have hm:=List.mem_of_getElem? hk
    have hidx:=(pn r.ar).2 hrn k s hk
    rw[h.ar,List.mem_map] at hm
    obtain ⟨x,hx,rfl⟩:=hm
    obtain ⟨h1,h2⟩:=hget x hx
    obtain ⟨h3,h4⟩:=hgn.2 _ (h2 ▸ List.getElem_mem h1:g.ar.getD x.toNat ⟨#[]⟩∈g.ar)
    simp only[iV,tT,Bool.and_eq_true,beq_iff_eq,decide_eq_true_eq]
    refine ⟨⟨h3,by rw[hidx]; omega⟩,?_⟩
    simp only[jw,h.aA] at h4 ⊢
    exact h4
  · rw[h.rules]
    have:=ri (r:=r) h.nodup h.len (g.rules.filter (bq p q)) [] (by rw[h.oe]; rfl) (fun x hx=>?_)
    · simpa using this
    obtain ⟨hm,hk⟩:=List.mem_filter.1 hx
    obtain ⟨_,hin⟩:=h.kept x hm hk
    have hb:=(tJ _ _ a10).2 x hm
    have hb:=hb.2.2
    simp only[ff,Bool.and_eq_true,decide_eq_true_eq,List.all_eq_true] at hb ⊢
    obtain ⟨⟨⟨b1,b2⟩,b3⟩,b4⟩:=hb
    refine ⟨⟨⟨by simpa [aT] using b1,b2⟩,by rw[h.aA]; exact b3⟩,fun s hs=>?_⟩
    simp only[aT,List.mem_map] at hs
    obtain ⟨s0,hs0,rfl⟩:=hs
    have b5:=b4 s0 hs0
    by_cases hn:s0 < 0
    · rw[if_pos hn]
      have hl:=iw (hin s0 hs0 hn)
      simp only[jH,lH,Bool.and_eq_true]
      rw[if_neg (by omega),decide_eq_false (p:=0≤-1 - aQ o (-1 - s0)) (by omega)]
      simp only[h.len,decide_eq_true_eq,Bool.false_and,Bool.not_false,and_true]
      omega
    · rw[if_neg hn]
      simp only[jH,lH,h.aA] at b5 ⊢
      rw[if_pos (by omega)] at b5 ⊢
      exact b5
end
end Gv
set_option linter.unusedSimpArgs false
namespace Gv
open Go Go.Proofs
inductive qE (g:au):Int→Prop
  | mk (R:aO):R∈g.rules→(∀ s∈R.right,s < 0→qE g (-1 - s))→qE g R.left
inductive mJ (g:au) (p:List Bool):Int→Prop
  | start:mJ g p g.start
  | next (R:aO) (s:Int):R∈g.rules→mJ g p R.left→ca R.right p true=true→s∈R.right→s < 0→mJ g p (-1 - s)
theorem ry {l:List Int} {p:List Bool} : ca l p true=true↔∀ s∈l,s < 0→p.getD (-1 - s).toNat false=true:=by
  simp only[ca,List.all_eq_true]
  constructor
  · intro h s hs hn
    have:=h s hs
    rwa [if_neg (by omega)] at this
  · intro h s hs
    by_cases hn:s < 0
    · rw[if_neg (by omega)]; exact h s hs hn
    · rw[if_pos (by omega)]
theorem rF {l:List Bool} {i j:Nat} (h:(l.set i true).getD j false=true):j=i∨l.getD j false=true:=by
  by_cases e:i=j
  · exact .inl e.symm
  · right
    simp only[List.getD_eq_getElem?_getD,List.getElem?_set,if_neg e] at h ⊢
    exact h
theorem q8 {g:au} {i:Nat} : (bD g).getD i false=false:=by
  simp only[bD,List.getD_eq_getElem?_getD,List.getElem?_replicate]
  split <;> rfl
theorem AF {g:au} (hr:aM g=true):∀ i:Nat,(aw g true).getD i false=true→qE g i:=by
  have hf:=aJ hr
  have hst:∀ (is:List Bool) (R:aO),R∈g.rules→(∀ i:Nat,is.getD i false=true→qE g i)→∀ i:Nat,(cD true is R).getD i false=true→qE g i:=by
    intro is R hR h i hi
    unfold cD at hi
    split at hi
    · rename_i ha
      rcases rF hi with rfl | hi
      · have:=hf.left R hR
        have e:((R.left.toNat:Nat):Int)=R.left:=by omega
        rw[e]
        refine .mk R hR fun s hs hn=>?_
        have:=h _ (ry.1 ha s hs hn)
        rwa [show (((-1 - s).toNat:Nat):Int) = -1 - s by omega] at this
      · exact h i hi
    · exact h i hi
  have hfold:∀ (l:List aO) (is:List Bool),(∀ R∈l,R∈g.rules)→(∀ i:Nat,is.getD i false=true→qE g i)→∀ i:Nat,(l.foldl (cD true) is).getD i false=true→qE g i:=by
    intro l
    induction l with
    | nil=>intro is _ h; exact h
    | cons R l ih=>intro is hl h; exact ih _ (fun x hx=>hl x (by simp[hx])) (hst is R (hl R (by simp)) h)
  have hit:∀ (n:Nat) (is:List Bool),(∀ i:Nat,is.getD i false=true→qE g i)→∀ i:Nat,(iter (fN g true) n is).getD i false=true→qE g i:=by
    intro n
    induction n with
    | zero=>intro is h; exact h
    | succ n ih=>intro is h; exact ih _ (hfold g.rules is (fun _ h=>h) h)
  rw[aw,if_pos hr]
  exact hit _ _ fun i hi=>by rw[q8] at hi; simp at hi
theorem yy (t:Bool) (is:List Bool) (R:aO):eA is (cD t is R):=by
  unfold cD
  split
  · exact .set _ _
  · exact .refl _
theorem zx (t:Bool):∀ (l:List aO) (is:List Bool),eA is (l.foldl (cD t) is)
  | [],is=>.refl _
  | R :: l,is=>(yy t is R).trans (zx t l _)
theorem wb {t:Bool} : ∀ {l:List aO} {is:List Bool},l.foldl (cD t) is=is→∀ R∈l,cD t is R=is
  | [],_,_,_,h=>by simp at h
  | R :: l,is,h,x,hx=>by
    rw[List.foldl_cons] at h
    have h1:=zx t l (cD t is R)
    rw[h] at h1
    have h2:=(h1.GP (yy t is R))
    rcases List.mem_cons.1 hx with rfl | hx
    · exact h2
    · rw[h2] at h; exact wb h x hx
theorem F0 {g:au} (hr:aM g=true) (t:Bool):fN g t (aw g t)=aw g t:=by
  have hf:=aJ hr
  have h:=pr (jn t) g.rules 16 (bD g) (by have:=hf.ar; simp[bD]; omega)
  rw[Dq,Ax hr] at h
  exact h.1
theorem fL {g:au} (hr:aM g=true) {t:Bool} {R:aO} (hR:R∈g.rules) (ha:ca R.right (aw g t) t=true):(aw g t).getD R.left.toNat false=true:=by
  have h1:=wb (F0 hr t) R hR
  have hf:=aJ hr
  have hl:=eS hr t
  have hb:=hf.left R hR
  unfold cD at h1
  rw[if_pos ha] at h1
  rw[← h1]
  simp only[List.getD_eq_getElem?_getD]
  rw[List.getElem?_set_self (by omega)]
  rfl
theorem tv {g:au} (hr:aM g=true) {x:Int} (h:qE g x):(aw g true).getD x.toNat false=true:=by
  induction h with
  | mk R hR _ ih=>exact fL hr hR (ry.2 fun s hs hn=>ih s hs hn)
theorem AK {g:au} (hr:aM g=true):∀ i:Nat,(aL g).getD i false=true→mJ g (aw g true) i:=by
  have hf:=aJ hr
  have hmk:∀ (R:aO),R∈g.rules→mJ g (aw g true) R.left→ca R.right (aw g true) true=true→∀ (l:List Int) (is:List Bool),(∀ s∈l,s∈R.right)→(∀ i:Nat,is.getD i false=true→mJ g (aw g true) i)→∀ i:Nat,(l.foldl mark is).getD i false=true→mJ g (aw g true) i:=by
    intro R hR hl ha l
    induction l with
    | nil=>intro is _ h; exact h
    | cons s l ih =>
      intro is hs h
      refine ih _ (fun x hx=>hs x (by simp[hx])) fun i hi=>?_
      unfold mark at hi
      split at hi
      · rename_i hn
        rcases rF hi with rfl | hi
        · rw[show (((-1 - s).toNat:Nat):Int) = -1 - s by omega]
          exact .next R s hR hl ha (hs s (by simp)) hn
        · exact h i hi
      · exact h i hi
  have hst:∀ (is:List Bool) (R:aO),R∈g.rules→(∀ i:Nat,is.getD i false=true→mJ g (aw g true) i)→∀ i:Nat,(dP (aw g true) is R).getD i false=true→mJ g (aw g true) i:=by
    intro is R hR h
    unfold dP
    split
    · rename_i ha
      rw[Bool.and_eq_true] at ha
      have h1:=h _ ha.1
      have:=hf.left R hR
      rw[show ((R.left.toNat:Nat):Int)=R.left by omega] at h1
      exact hmk R hR h1 ha.2 R.right is (fun _ h=>h) h
    · exact h
  have hfold:∀ (l:List aO) (is:List Bool),(∀ R∈l,R∈g.rules)→(∀ i:Nat,is.getD i false=true→mJ g (aw g true) i)→∀ i:Nat,(l.foldl (dP (aw g true)) is).getD i false=true→mJ g (aw g true) i:=by
    intro l
    induction l with
    | nil=>intro is _ h; exact h
    | cons R l ih=>intro is hl h; exact ih _ (fun x hx=>hl x (by simp[hx])) (hst is R (hl R (by simp)) h)
  have hit:∀ (n:Nat) (is:List Bool),(∀ i:Nat,is.getD i false=true→mJ g (aw g true) i)→∀ i:Nat,(iter (kn g (aw g true)) n is).getD i false=true→mJ g (aw g true) i:=by
    intro n
    induction n with
    | zero=>intro is h; exact h
    | succ n ih=>intro is h; exact ih _ (hfold g.rules is (fun _ h=>h) h)
  rw[aL,if_pos hr]
  refine hit _ _ fun i hi=>?_
  rcases rF hi with rfl | hi
  · have:=hf.dR
    rw[show ((g.start.toNat:Nat):Int)=g.start by omega]
    exact .start
  · rw[q8] at hi; simp at hi
theorem tN {g:au} (hr:aM g=true) {x:Int} (h:mJ g (aw g true) x):(aL g).getD x.toNat false=true:=by
  induction h with
  | start=>exact qg hr
  | next R s hR _ ha hs hn ih=>exact r8 hr hR (by rw[bq,ih,ha]; rfl) hs hn
section
variable {g r:au} {p q:List Bool} {o:List Int}
theorem dh.Ko (h:dh g p q o r) {x:Int} (hd:qE g x):x∈o→qE r (aQ o x):=by
  induction hd with
  | mk R hR hsub ih =>
    intro hx
    obtain ⟨R1,hR1,hk1,e1⟩:=h.from_ _ hx
    have hk:bq p q R=true:=by
      rw[bq,Bool.and_eq_true] at hk1 ⊢
      refine ⟨by rw[← e1]; exact hk1.1,?_⟩
      rw[h.pe]
      exact ry.2 fun s hs hn=>tv h.right (hsub s hs hn)
    have hin:=(h.kept R hR hk).2
    have hm:aT (aQ o) R∈r.rules:=by rw[h.rules]; exact List.mem_map.2 ⟨R,List.mem_filter.2 ⟨hR,hk⟩,rfl⟩
    refine qE.mk (aT (aQ o) R) hm fun s' hs' hn'=>?_
    simp only[aT,List.mem_map] at hs'
    obtain ⟨s,hs,rfl⟩:=hs'
    by_cases hn:s < 0
    · rw[if_pos hn]
      have:=ih s hs hn (hin s hs hn)
      rwa [show -1 - (-1 - aQ o (-1 - s))=aQ o (-1 - s) by omega]
    · rw[if_neg hn] at hn'; omega
theorem dh.JU (h:dh g p q o r) {x:Int} (hx:x∈o):(aw r true).getD (aQ o x).toNat false=true:=by
  obtain ⟨R,hR,hk,rfl⟩:=h.from_ _ hx
  rw[bq,Bool.and_eq_true,h.pe] at hk
  have h1:=fL h.right hR hk.2
  have h2:=AF h.right _ h1
  have:=(h.inside _ hx)
  rw[show ((R.left.toNat:Nat):Int)=R.left by omega] at h2
  exact tv h.fy (h.Ko h2 hx)
theorem dh.at_ (h:dh g p q o r) {k:Nat} (hk:k < o.length):∃ x∈o,aQ o x=k∧o[k]?=some x:=⟨o[k],List.getElem_mem _,uJ h.nodup (List.getElem?_eq_getElem hk),List.getElem?_eq_getElem hk⟩
theorem dh.yP (h:dh g p q o r) {k:Nat} (hk:k < o.length):(aw r true).getD k false=true:=by
  obtain ⟨x,hx,h1,_⟩:=h.at_ hk
  have:=h.JU hx
  rwa [h1,Int.toNat_natCast] at this
theorem dh.Fm (h:dh g p q o r) {R:aO} (hR:R∈r.rules):ca R.right (aw r true) true=true:=by
  have hf:=aJ h.fy
  refine ry.2 fun s hs hn=>h.yP ?_
  have:=hf.neg hR hs hn
  rw[h.len] at this
  omega
theorem dh.Kh (h:dh g p q o r) {x:Int} (hd:mJ g (aw g true) x):mJ r (aw r true) (aQ o x):=by
  induction hd with
  | start=>rw[← h.xx]; exact .start
  | next R s hR h1 ha hs hn ih =>
    have hk:bq p q R=true:=by
      rw[bq,h.pe,h.qe,ha,tN h.right h1]; rfl
    have hm:aT (aQ o) R∈r.rules:=by rw[h.rules]; exact List.mem_map.2 ⟨R,List.mem_filter.2 ⟨hR,hk⟩,rfl⟩
    have hin:=(h.kept R hR hk).2 s hs hn
    have h2:=iw hin
    have:=mJ.next (g:=r) (p:=aw r true) (aT (aQ o) R) (-1 - aQ o (-1 - s)) hm ih (h.Fm hm) (by
      simp only[aT,List.mem_map]
      exact ⟨s,hs,by rw[if_pos hn]⟩) (by omega)
    rwa [show -1 - (-1 - aQ o (-1 - s))=aQ o (-1 - s) by omega] at this
theorem dh.Fa (h:dh g p q o r) {k:Nat} (hk:k < o.length):(aL r).getD k false=true:=by
  obtain ⟨x,hx,h1,_⟩:=h.at_ hk
  obtain ⟨R,hR,hkk,rfl⟩:=h.from_ _ hx
  rw[bq,Bool.and_eq_true,h.qe] at hkk
  have h2:=AK h.right _ hkk.1
  have:=(h.inside _ hx)
  rw[show ((R.left.toNat:Nat):Int)=R.left by omega] at h2
  have:=tN h.fy (h.Kh h2)
  rwa [h1,Int.toNat_natCast] at this
def iU (n:Nat):List Int:=(List.range n).map fun (k:Nat)=>(k:Int)
theorem Bl (n:Nat):(iU n).length=n:=by simp[iU]
theorem vS {n k:Nat} (h:k < n):(iU n)[k]?=some (k:Int):=by simp[iU,h]
theorem D6 (n:Nat):(iU n).Nodup:=by
  rw[iU,List.nodup_iff_pairwise_ne,List.pairwise_map]
  exact (List.nodup_range (n:=n)).imp fun h e=>h (by omega)
theorem vr {n:Nat} {x:Int} (h0:0≤x) (h1:x < n):aQ (iU n) x=x:=by
  have:=uJ (D6 n) (vS (n:=n) (k:=x.toNat) (by omega))
  rw[show ((x.toNat:Nat):Int)=x by omega] at this
  exact this
theorem yH {p q:List Bool} : ∀ (l:List aO) (i:Int),(∀ R∈l,bq p q R=true)→bK p q l i=(List.range l.length).map fun (k:Nat)=>i+(k:Int)
  | [],_,_=>rfl
  | R :: l,i,h=>by
    rw[bK,if_pos (h R (by simp)),yH l (i+1) (fun x hx=>h x (by simp[hx])),List.length_cons,List.range_succ_eq_map,List.map_cons,List.map_map]
    congr 1
    · omega
    · apply List.map_congr_left
      intro k _
      simp only[Function.comp]
      push_cast; omega
theorem q5 {f:Int→Int} {o:List Int} (hf:∀ x∈o,∀ y∈o,f x=f y→x=y):∀ (l:List aO) (acc:List Int),(∀ x∈acc,x∈o)→(∀ R∈l,R.left∈o)→(l.map (aT f)).foldl cE (acc.map f)=(l.foldl cE acc).map f
  | [],_,_,_=>rfl
  | R :: l,acc,ha,hl=>by
    have e:cE (acc.map f) (aT f R)=(cE acc R).map f:=by
      have h1:(aT f R).left=f R.left:=rfl
      unfold cE
      rw[h1]
      by_cases h:R.left∈acc
      · rw[if_pos h,if_pos (List.mem_map.2 ⟨_,h,rfl⟩)]
      · rw[if_neg h,if_neg (fun hm=>by
          obtain ⟨y,hy,e⟩:=List.mem_map.1 hm
          exact h (hf y (ha y hy) _ (hl R (by simp)) e ▸ hy))]
        simp
    rw[List.map_cons,List.foldl_cons,List.foldl_cons,e]
    refine q5 hf l (cE acc R) (fun x hx=>?_) (fun x hx=>hl x (by simp[hx]))
    unfold cE at hx
    split at hx
    · exact ha x hx
    · rcases List.mem_append.1 hx with hx | hx
      · exact ha x hx
      · simp at hx; subst hx; exact hl R (by simp)
theorem dh.inj (h:dh g p q o r):∀ x∈o,∀ y∈o,aQ o x=aQ o y→x=y:=by
  intro x hx y hy e
  have h1:=vV hx
  have h2:=vV hy
  rw[e,h2] at h1
  exact (Option.some.inj h1).symm
theorem dh.IE (h:dh g p q o r):o.map (aQ o)=iU o.length:=by
  apply List.ext_getElem?
  intro k
  rw[List.getElem?_map]
  by_cases hk:k < o.length
  · rw[vS hk,List.getElem?_eq_getElem hk,Option.map_some,uJ h.nodup (List.getElem?_eq_getElem hk)]
  · rw[List.getElem?_eq_none (by omega),List.getElem?_eq_none (by rw[Bl]; omega)]; rfl
theorem dh.vN (h:dh g p q o r):∀ R∈r.rules,bq (aw r true) (aL r) R=true:=fun R hR=>by
  have hf:=aJ h.fy
  have:=hf.left R hR
  rw[h.len] at this
  rw[bq,h.Fa (by omega),h.Fm hR]; rfl
theorem dh.ord (h:dh g p q o r):br (aw r true) (aL r) r.rules=iU o.length:=by
  unfold br
  rw[List.filter_eq_self.2 h.vN,h.rules]
  have:=q5 h.inj (g.rules.filter (bq p q)) [] (by simp) (fun R hR=>by
    obtain ⟨h1,h2⟩:=List.mem_filter.1 hR
    exact (h.kept R h1 h2).1)
  rw[List.map_nil] at this
  rw[this,← h.IE]
  congr 1
  rw[h.oe]; rfl
theorem dh.once (h:dh g p q o r):dk r=(r,iU r.rules.length,0):=by
  have hf:=aJ h.fy
  have hst:=hf.start
  have hst0:=hf.dR
  rw[h.len] at hst
  rw[e9 h.fy,if_pos (h.yP (by omega)),h.ord]
  have hk:bK (aw r true) (aL r) r.rules 0=iU r.rules.length:=by
    rw[yH _ _ h.vN]
    unfold iU
    apply List.map_congr_left
    intro k _; omega
  have hr:eN r (aQ (iU o.length)) (aw r true) (aL r)=r:=by
    unfold eN
    rw[h.ord,List.filter_eq_self.2 h.vN]
    have e1:((iU o.length).map fun x=>r.ar.getD x.toNat ⟨#[]⟩)=r.ar:=by
      apply List.ext_getElem?
      intro k
      rw[List.getElem?_map]
      by_cases hkk:k < o.length
      · rw[vS hkk,Option.map_some]
        simp[List.getD_eq_getElem?_getD,List.getElem?_eq_getElem (show k < r.ar.length by rw[h.len]; omega)]
      · rw[List.getElem?_eq_none (by rw[Bl]; omega),List.getElem?_eq_none (by rw[h.len]; omega)]; rfl
    have e2:r.rules.map (aT (aQ (iU o.length)))=r.rules:=by
      conv=>rhs; rw[← List.map_id r.rules]
      apply List.map_congr_left
      intro R hR
      have hl:=hf.left R hR
      rw[h.len] at hl
      unfold aT
      rw[vr hl.1 hl.2]
      have e3:(R.right.map fun s=>if s < 0 then -1 - aQ (iU o.length) (-1 - s) else s)=R.right:=by
        conv=>rhs; rw[← List.map_id R.right]
        apply List.map_congr_left
        intro s hs
        by_cases hn:s < 0
        · have:=hf.neg hR hs hn
          rw[h.len] at this
          rw[if_pos hn,vr (by omega) this]
          simp only[id]; omega
        · rw[if_neg hn]; rfl
      rw[e3]; rfl
    rw[e1,e2,vr hst0 hst]
  rw[hr,hk]
end
end Gv
set_option linter.unusedSimpArgs false
namespace Gv
open Go Go.Proofs
def eo (p:List Int) (i:Nat) (s:Int):Prop:=∃ c,p[i]?=some c∧(c=s∨c = -1)
inductive Sp (g:au) (p:List Int):List Int→Nat→Nat→Prop
  | nil (i:Nat):Sp g p [] i i
  | term (s:Int) (l:List Int) (i j:Nat):0≤s→eo p i s→Sp g p l (i+1) j→Sp g p (s :: l) i j
  | bY (s:Int) (l:List Int) (R:aO) (i k j:Nat):s < 0→R∈g.rules→R.left = -1 - s→Sp g p R.right i k→Sp g p l k j→Sp g p (s :: l) i j
theorem Sp.le {g:au} {p:List Int} {l:List Int} {i j:Nat} (h:Sp g p l i j):i≤j:=by
  induction h with
  | nil=>exact Nat.le_refl _
  | term _ _ _ _ _ _ _ ih=>omega
  | bY _ _ _ _ _ _ _ _ _ _ _ ih1 ih2=>omega
theorem Sp.len {g:au} {p:List Int} {l:List Int} {i j:Nat} (h:Sp g p l i j):i≤p.length→j≤p.length:=by
  induction h with
  | nil=>exact id
  | term _ _ i _ _ hf _ ih =>
    intro _
    obtain ⟨c,hc,_⟩:=hf
    have:=(List.getElem?_eq_some_iff.1 hc).1
    exact ih (by omega)
  | bY _ _ _ _ _ _ _ _ _ _ _ ih1 ih2=>exact fun h=>ih2 (ih1 h)
theorem Sp.app {g:au} {p:List Int} {a:List Int} {i k:Nat} (h:Sp g p a i k):∀ {b:List Int} {j:Nat},Sp g p b k j→Sp g p (a ++ b) i j:=by
  induction h with
  | nil=>exact fun h=>h
  | term s l i _ h0 hf _ ih=>exact fun hb=>.term s _ i _ h0 hf (ih hb)
  | bY s l R i k _ h0 hR hl h1 _ _ ih2=>exact fun hb=>.bY s _ R i k _ h0 hR hl h1 (ih2 hb)
theorem Sp.split {g:au} {p:List Int} : ∀ {a b:List Int} {i j:Nat},Sp g p (a ++ b) i j→∃ k,Sp g p a i k∧Sp g p b k j
  | [],b,i,j,h=>⟨i,.nil i,h⟩
  | s :: a,b,i,j,h=>by
    cases h with
    | term _ _ _ _ h0 hf h =>
      obtain ⟨k,h1,h2⟩:=Sp.split h
      exact ⟨k,.term s a i k h0 hf h1,h2⟩
    | bY _ _ R _ m _ h0 hR hl h1 h =>
      obtain ⟨k,h2,h3⟩:=Sp.split h
      exact ⟨k,.bY s a R i m k h0 hR hl h1 h2,h3⟩
theorem Da {g:au} (hr:aM g=true) {p l:List Int} {i j:Nat} (h:Sp g p l i j):i=j→ca l (aw g false) false=true:=by
  induction h with
  | nil=>intro _; rfl
  | term _ _ _ _ _ _ h _=>intro e; have:=h.le; omega
  | bY s l R i k j h0 hR hl h1 h2 ih1 ih2 =>
    intro e
    have l1:=h1.le
    have l2:=h2.le
    have g1:=fL hr hR (ih1 (by omega))
    rw[hl] at g1
    have g2:=ih2 (by omega)
    simp only[ca,List.all_cons,Bool.and_eq_true] at g2 ⊢
    rw[if_neg (by omega)]
    exact ⟨g1,g2⟩
def o8 (g:au) (is:List Bool):Prop:=∀ i,is.getD i false=true→∃ R∈g.rules,R.left.toNat=i∧∀ (p:List Int) (k:Nat),Sp g p R.right k k
theorem Bu {g:au} (hf:∀ r∈g.rules,0≤r.left) {is:List Bool} (h:o8 g is):∀ l:List Int,ca l is false=true→∀ (p:List Int) (k:Nat),Sp g p l k k
  | [],_,p,k=>.nil k
  | s :: l,ha,p,k=>by
    simp only[ca,List.all_cons,Bool.and_eq_true] at ha
    obtain ⟨h1,h2⟩:=ha
    by_cases h0:0≤s
    · rw[if_pos h0] at h1; simp at h1
    · rw[if_neg h0] at h1
      obtain ⟨R,hR,hl,hs⟩:=h _ h1
      have:=hf R hR
      exact .bY s l R k k k (by omega) hR (by omega) (hs p k) (Bu hf h l h2 p k)
theorem DB {g:au} (hr:aM g=true):o8 g (aw g false):=by
  have hf:=aJ hr
  have hl:=fun r hr'=>(hf.left r hr').1
  have hst:∀ (is:List Bool) (R:aO),R∈g.rules→o8 g is→o8 g (cD false is R):=by
    intro is R hR h i hi
    unfold cD at hi
    split at hi
    · rename_i ha
      rcases rF hi with rfl | hi
      · exact ⟨R,hR,rfl,Bu hl h R.right ha⟩
      · exact h i hi
    · exact h i hi
  have hfold:∀ (l:List aO) (is:List Bool),(∀ R∈l,R∈g.rules)→o8 g is→o8 g (l.foldl (cD false) is):=by
    intro l
    induction l with
    | nil=>intro is _ h; exact h
    | cons R l ih=>intro is hl h; exact ih _ (fun x hx=>hl x (by simp[hx])) (hst is R (hl R (by simp)) h)
  have hit:∀ (n:Nat) (is:List Bool),o8 g is→o8 g (iter (fN g false) n is):=by
    intro n
    induction n with
    | zero=>intro is h; exact h
    | succ n ih=>intro is h; exact ih _ (hfold g.rules is (fun _ h=>h) h)
  unfold aw
  rw[if_pos hr]
  exact hit _ _ fun i hi=>by rw[q8] at hi; simp at hi
structure Item where
  bg:Nat
  dot:Nat
  b6:Nat
  deriving DecidableEq
def Sound (g:au) (p:List Int) (at_:Nat) (x:Item):Prop:=∃ R,g.rules[x.bg]?=some R∧x.dot≤R.right.length∧x.b6≤at_∧Sp g p (R.right.take x.dot) x.b6 at_
structure oD (g:au) (p:List Int) (S:Nat→List Item):Prop where
  start:∀ (i:Nat) (R:aO),g.rules[i]?=some R→R.left=g.start→⟨i,0,0⟩∈S 0
  term:∀ a x R s,x∈S a→g.rules[x.bg]?=some R→R.right[x.dot]?=some s→0≤s→eo p a s→⟨x.bg,x.dot+1,x.b6⟩∈S (a+1)
  pred:∀ a x R s i R',x∈S a→g.rules[x.bg]?=some R→R.right[x.dot]?=some s→s < 0→g.rules[i]?=some R'→R'.left = -1 - s→a≤p.length→⟨i,0,a⟩∈S a
  null:∀ a x R s,x∈S a→g.rules[x.bg]?=some R→R.right[x.dot]?=some s→s < 0→(aw g false).getD (-1 - s).toNat false=true→a≤p.length→⟨x.bg,x.dot+1,x.b6⟩∈S a
  comp:∀ a y R' x R s,y∈S a→g.rules[y.bg]?=some R'→y.dot=R'.right.length→y.b6 < a→x∈S y.b6→g.rules[x.bg]?=some R→R.right[x.dot]?=some s→s < 0→R'.left = -1 - s→a≤p.length→⟨x.bg,x.dot+1,x.b6⟩∈S a
theorem wg {g:au} (hr:aM g=true) {p:List Int} {S:Nat→List Item} (hc:oD g p S) {l:List Int} {a j:Nat} (h:Sp g p l a j) :
    ∀ (x:Item) (R:aO),x∈S a→g.rules[x.bg]?=some R→R.right.drop x.dot=l→x.dot≤R.right.length→a≤p.length→⟨x.bg,R.right.length,x.b6⟩∈S j:=by
  induction h with
  | nil i =>
    intro x R hx hR hd hle _
    have:x.dot=R.right.length:=by
      have:=congrArg List.length hd
      simp at this; omega
    rw[← this]; exact hx
  | term s l i j h0 hf _ ih =>
    intro x R hx hR hd hle hp
    have hs:R.right[x.dot]?=some s:=by
      have:=congrArg (·[0]?) hd
      simpa using this
    have hlt:=(List.getElem?_eq_some_iff.1 hs).1
    have h1:=hc.term i x R s hx hR hs h0 hf
    obtain ⟨c,hc',_⟩:=hf
    have hpl:=(List.getElem?_eq_some_iff.1 hc').1
    refine ih ⟨x.bg,x.dot+1,x.b6⟩ R h1 hR ?_ hlt (by omega)
    have:=congrArg List.tail hd
    simpa using this
  | bY s l Q i k j h0 hQ hl hs1 hs2 ih1 ih2 =>
    intro x R hx hR hd hle hp
    have hs:R.right[x.dot]?=some s:=by
      have:=congrArg (·[0]?) hd
      simpa using this
    have hlt:=(List.getElem?_eq_some_iff.1 hs).1
    obtain ⟨q,hq,hqe⟩:=List.getElem_of_mem hQ
    have hq':g.rules[q]?=some Q:=by rw[List.getElem?_eq_getElem hq,hqe]
    have hpr:=hc.pred i x R s q Q hx hR hs h0 hq' hl hp
    have hdone:=ih1 ⟨q,0,i⟩ Q hpr hq' (by simp) (by simp) hp
    have hk:=hs1.len hp
    have hadv:⟨x.bg,x.dot+1,x.b6⟩∈S k:=by
      rcases Nat.lt_or_eq_of_le hs1.le with e | e
      · exact hc.comp k ⟨q,Q.right.length,i⟩ Q x R s hdone hq' rfl e hx hR hs h0 hl hk
      · subst e
        have:=fL hr hQ (Da hr hs1 rfl)
        rw[hl] at this
        exact hc.null i x R s hx hR hs h0 this hp
    refine ih2 ⟨x.bg,x.dot+1,x.b6⟩ R hadv hR ?_ hlt hk
    have:=congrArg List.tail hd
    simpa using this
theorem FR {g:au} (hr:aM g=true) {p:List Int} {S:Nat→List Item} (hc:oD g p S) (hs:∀ a x,x∈S a→Sound g p a x) :
    (∃ x∈S p.length,∃ R,g.rules[x.bg]?=some R∧R.left=g.start∧x.b6=0∧x.dot=R.right.length)↔Sp g p [-1 - g.start] 0 p.length:=by
  have hf:=aJ hr
  have h0:=hf.dR
  constructor
  · rintro ⟨x,hx,R,hR,hl,hfr,hd⟩
    obtain ⟨R',hR',_,_,hsp⟩:=hs _ x hx
    rw[hR] at hR'; simp at hR'; subst hR'
    rw[hd,List.take_length,hfr] at hsp
    exact .bY _ _ R 0 p.length p.length (by omega) (List.mem_of_getElem? hR) (by omega) hsp (.nil _)
  · intro h
    cases h with
    | term _ _ _ _ h1 _ _=>omega
    | bY _ _ R _ k _ h1 hR hl hsp hn =>
      cases hn
      obtain ⟨q,hq,hqe⟩:=List.getElem_of_mem hR
      have hq':g.rules[q]?=some R:=by rw[List.getElem?_eq_getElem hq,hqe]
      have:=wg hr hc hsp ⟨q,0,0⟩ R (hc.start q R hq' (by omega)) hq' (by simp) (by simp) (by omega)
      exact ⟨_,this,R,hq',by omega,rfl,rfl⟩
inductive In (p:List Int) (T:Nat→Nat→Nat→Prop):List Int→Nat→Nat→Prop
  | nil (i:Nat):In p T [] i i
  | term (s:Int) (l:List Int) (i j:Nat):0≤s→eo p i s→In p T l (i+1) j→In p T (s :: l) i j
  | bY (s:Int) (l:List Int) (i k j:Nat):s < 0→T (-1 - s).toNat i k→In p T l k j→In p T (s :: l) i j
theorem zM {g:au} {p:List Int} {T:Nat→Nat→Nat→Prop} (hT:∀ n i j,T n i j→Sp g p [-1 - (n:Int)] i j) {l:List Int} {i j:Nat} (h:In p T l i j):Sp g p l i j:=by
  induction h with
  | nil i=>exact .nil i
  | term s l i j h0 hf _ ih=>exact .term s l i j h0 hf ih
  | bY s l i k j h0 h1 _ ih =>
    have:=hT _ _ _ h1
    rw[show -1 - (((-1 - s).toNat:Nat):Int)=s by omega] at this
    exact Sp.app this ih
theorem zL {g:au} (hf:∀ r∈g.rules,0≤r.left) {p:List Int} {T:Nat→Nat→Nat→Prop} (hT:∀ R∈g.rules,∀ i j,i≤p.length→In p T R.right i j→T R.left.toNat i j) {l:List Int} {i j:Nat} (h:Sp g p l i j):i≤p.length→In p T l i j:=by
  induction h with
  | nil i=>intro _; exact .nil i
  | term s l i j h0 hfi _ ih =>
    intro _
    obtain ⟨c,hc,hcs⟩:=hfi
    have:=(List.getElem?_eq_some_iff.1 hc).1
    exact .term s l i j h0 ⟨c,hc,hcs⟩ (ih (by omega))
  | bY s l R i k j h0 hR hl h1 _ ih1 ih2 =>
    intro hp
    have:=hT R hR i k hp (ih1 hp)
    rw[hl] at this
    exact .bY s l i k j h0 this (ih2 (h1.len hp))
theorem Er {g:au} (hf:∀ r∈g.rules,0≤r.left) {p:List Int} {T:Nat→Nat→Nat→Prop} (hs:∀ n i j,T n i j→Sp g p [-1 - (n:Int)] i j) (hc:∀ R∈g.rules,∀ i j,i≤p.length→In p T R.right i j→T R.left.toNat i j) {n i j:Nat} (hi:i≤p.length) :
    T n i j↔Sp g p [-1 - (n:Int)] i j:=by
  refine ⟨hs n i j,fun h=>?_⟩
  cases h with
  | term _ _ _ _ h0 _ _=>omega
  | bY _ _ R _ k _ h0 hR hl h1 h2 =>
    cases h2
    have:=hc R hR i _ hi (zL hf hc h1 hi)
    rw[show R.left.toNat=n by omega] at this
    exact this
end Gv
set_option linter.unusedSimpArgs false
namespace Gv
open Go Go.Proofs
theorem In.app {p:List Int} {T:Nat→Nat→Nat→Prop} {a:List Int} {i k:Nat} (h:In p T a i k):∀ {b:List Int} {j:Nat},In p T b k j→In p T (a ++ b) i j:=by
  induction h with
  | nil=>exact fun h=>h
  | term s l i _ h0 hf _ ih=>exact fun hb=>.term s _ i _ h0 hf (ih hb)
  | bY s l i k _ h0 h1 _ ih=>exact fun hb=>.bY s _ i k _ h0 h1 (ih hb)
theorem In.split {p:List Int} {T:Nat→Nat→Nat→Prop} : ∀ {a b:List Int} {i j:Nat},In p T (a ++ b) i j→∃ k,In p T a i k∧In p T b k j
  | [],b,i,j,h=>⟨i,.nil i,h⟩
  | s :: a,b,i,j,h=>by
    cases h with
    | term _ _ _ _ h0 hf h =>
      obtain ⟨k,h1,h2⟩:=In.split h
      exact ⟨k,.term s a i k h0 hf h1,h2⟩
    | bY _ _ _ m _ h0 h1 h =>
      obtain ⟨k,h2,h3⟩:=In.split h
      exact ⟨k,.bY s a i m k h0 h1 h2,h3⟩
theorem In.le {p:List Int} {T:Nat→Nat→Nat→Prop} (hT:∀ n i j,T n i j→i≤j) {l:List Int} {i j:Nat} (h:In p T l i j):i≤j:=by
  induction h with
  | nil=>exact Nat.le_refl _
  | term _ _ _ _ _ _ _ ih=>omega
  | bY _ _ _ _ _ _ h1 _ ih=>have:=hT _ _ _ h1; omega
def stepT (p:List Int) (T:Nat→Nat→Nat→Prop) (s:Int) (i j:Nat):Prop:=if 0≤s then eo p i s∧j=i+1 else T (-1 - s).toNat i j
theorem In.one {p:List Int} {T:Nat→Nat→Nat→Prop} {s:Int} {i j:Nat} : In p T [s] i j↔stepT p T s i j:=by
  unfold stepT
  constructor
  · intro h
    cases h with
    | term _ _ _ _ h0 hf h=>cases h; rw[if_pos h0]; exact ⟨hf,rfl⟩
    | bY _ _ _ _ _ h0 h1 h=>cases h; rw[if_neg (by omega)]; exact h1
  · intro h
    by_cases h0:0≤s
    · rw[if_pos h0] at h
      obtain ⟨hf,rfl⟩:=h
      exact .term s [] i _ h0 hf (.nil _)
    · rw[if_neg h0] at h
      exact .bY s [] i j j (by omega) h (.nil _)
theorem In.snoc {p:List Int} {T:Nat→Nat→Nat→Prop} {a:List Int} {s:Int} {i j:Nat} : In p T (a ++ [s]) i j↔∃ k,In p T a i k∧stepT p T s k j :=
  ⟨fun h=>by obtain ⟨k,h1,h2⟩:=h.split; exact ⟨k,h1,In.one.1 h2⟩,fun ⟨k,h1,h2⟩=>h1.app (In.one.2 h2)⟩
abbrev Tb:=List (List (List Bool))
def c5 (T:Tb) (n i j:Nat):Bool:=((T.getD n []).getD i []).getD j false
def dx (T:Tb) (N M:Nat):Prop:=T.length=N∧∀ r∈T,r.length=M∧∀ c∈r,c.length=M
theorem dx.row {T:Tb} {N M n:Nat} (h:dx T N M) (hn:n < N):∃ r,T[n]?=some r∧r.length=M∧T.getD n []=r:=by
  have:n < T.length:=by rw[h.1]; exact hn
  exact ⟨T[n],List.getElem?_eq_getElem this,(h.2 _ (List.getElem_mem _)).1,by simp[List.getD_eq_getElem?_getD,this]⟩
theorem dx.cell {T:Tb} {N M n i:Nat} (h:dx T N M) (hn:n < N) (hi:i < M):∃ r c,T[n]?=some r∧r[i]?=some c∧c.length=M∧(T.getD n []).getD i []=c:=by
  obtain ⟨r,hr,hl,hg⟩:=h.row hn
  have h1:i < r.length:=by omega
  refine ⟨r,r[i],hr,List.getElem?_eq_getElem h1,(h.2 r (List.mem_of_getElem? hr)).2 _ (List.getElem_mem _),?_⟩
  rw[hg]; simp[List.getD_eq_getElem?_getD,h1]
def kc (T:Tb) (n i j:Nat):Tb:=T.set n ((T.getD n []).set i (((T.getD n []).getD i []).set j true))
def uv (N M:Nat):Tb:=List.replicate N (List.replicate M (List.replicate M false))
theorem Dn (N M:Nat):dx (uv N M) N M:=by
  refine ⟨by simp[uv],fun r hr=>?_⟩
  simp only[uv,List.mem_replicate] at hr
  obtain ⟨_,rfl⟩:=hr
  refine ⟨by simp,fun c hc=>?_⟩
  simp only[List.mem_replicate] at hc
  obtain ⟨_,rfl⟩:=hc
  simp
theorem Ih (N M n i j:Nat):c5 (uv N M) n i j=false:=by
  simp only[c5,uv,List.getD_eq_getElem?_getD,List.getElem?_replicate]
  split
  · simp only[Option.getD_some,List.getElem?_replicate]
    split
    · simp only[Option.getD_some,List.getElem?_replicate]
      split <;> rfl
    · rfl
  · rfl
theorem Hc {T:Tb} {N M n i j:Nat} (h:dx T N M) (hn:n < N) (hi:i < M):dx (kc T n i j) N M:=by
  obtain ⟨r,c,hr,hc,hcl,hg⟩:=h.cell hn hi
  obtain ⟨r',hr',hrl,hg'⟩:=h.row hn
  rw[hr] at hr'; simp at hr'; subst hr'
  refine ⟨by simp[kc,h.1],fun x hx=>?_⟩
  rw[kc,hg',] at hx
  rcases List.mem_or_eq_of_mem_set hx with hx | rfl
  · exact h.2 x hx
  · refine ⟨by simp[hrl],fun y hy=>?_⟩
    rcases List.mem_or_eq_of_mem_set hy with hy | rfl
    · exact (h.2 r (List.mem_of_getElem? hr)).2 y hy
    · rw[hg'] at hg
      rw[hg]; simp[hcl]
theorem GJ {T:Tb} {N M n i j n' i' j':Nat} (h:dx T N M) (hn:n < N) (hi:i < M) (hj:j < M):c5 (kc T n i j) n' i' j'=if n'=n∧i'=i∧j'=j then true else c5 T n' i' j':=by
  obtain ⟨r,c,hr,hc,hcl,hg⟩:=h.cell hn hi
  obtain ⟨r',hr',hrl,hg'⟩:=h.row hn
  rw[hr] at hr'; simp at hr'; subst hr'
  have hT:n < T.length:=by rw[h.1]; exact hn
  have hi':i < r.length:=by omega
  have hj':j < c.length:=by omega
  rw[hg'] at hg
  have hcc:r.getD i []=c:=hg
  simp only[c5,kc,hg',hcc]
  by_cases e1:n'=n
  · subst e1
    have a1:(T.set n' (r.set i (c.set j true))).getD n' []=r.set i (c.set j true):=by simp[List.getD_eq_getElem?_getD,hT]
    rw[a1,hg']
    by_cases e2:i'=i
    · subst e2
      have a2:(r.set i' (c.set j true)).getD i' []=c.set j true:=by simp[List.getD_eq_getElem?_getD,hi']
      rw[a2,hcc]
      by_cases e3:j'=j
      · subst e3
        rw[if_pos ⟨rfl,rfl,rfl⟩]
        simp[List.getD_eq_getElem?_getD,hj']
      · rw[if_neg (fun e=>e3 e.2.2)]
        simp[List.getD_eq_getElem?_getD,List.getElem?_set,Ne.symm e3]
    · rw[if_neg (fun e=>e2 e.2.1)]
      simp[List.getD_eq_getElem?_getD,List.getElem?_set,Ne.symm e2]
  · rw[if_neg (fun e=>e1 e.1)]
    simp[List.getD_eq_getElem?_getD,List.getElem?_set,Ne.symm e1]
end Gv
set_option linter.unusedSimpArgs false
set_option maxRecDepth 100000
namespace Gv
open Go Go.Proofs
def fK (p:List Int) (T:Tb) (s:Int) (a j:Nat):Bool :=
  if 0≤s then decide (a < p.length) && (p.getD a 0 == s || p.getD a 0 == -1) && decide (j=a+1) else decide (a≤j) && c5 T (-1 - s).toNat a j
def c6 (p:List Int) (T:Tb) (s:Int) (now:List Bool) (f a0 j:Nat):Bool:=(List.range a0).any fun a=>decide (f≤a) && now.getD a false && fK p T s a j
def dF (M:Nat) (F:Nat→Bool):List Bool:=(List.range M).map F
def jy (p:List Int) (T:Tb) (f:Nat) (now:List Bool) (s:Int):List Bool:=dF (p.length+1) (c6 p T s now f (p.length+1))
def dO (p:List Int) (T:Tb) (l:List Int) (f:Nat):List Bool:=l.foldl (jy p T f) (dF (p.length+1) fun j=>decide (j=f))
theorem gz (M:Nat) (F:Nat→Bool):(dF M F).length=M:=by simp[dF]
theorem zZ {M j:Nat} {F:Nat→Bool} (h:j < M):(dF M F).getD j false=F j:=by simp[dF,List.getD_eq_getElem?_getD,h]
theorem Cg {M i:Nat} {F:Nat→Bool} (v:Bool):(dF M F).set i v=dF M fun j=>if j=i then v else F j:=by
  apply List.ext_getElem (by simp[dF])
  intro j h1 h2
  simp only[dF,List.length_map,List.length_range] at h2
  simp only[dF,List.getElem_set,List.getElem_map,List.getElem_range]
  by_cases e:i=j
  · subst e; simp
  · rw[if_neg e,if_neg (Ne.symm e)]
theorem ib {M:Nat} {F G:Nat→Bool} (h:∀ j,j < M→F j=G j):dF M F=dF M G:=by
  unfold dF
  apply List.map_congr_left
  intro j hj
  exact h j (by simpa using hj)
theorem uh (p:List Int) (T:Tb) (f:Nat):∀ (l:List Int) (now:List Bool),now.length=p.length+1→(l.foldl (jy p T f) now).length=p.length+1
  | [],_,h=>h
  | s :: l,now,_=>uh p T f l _ (by rw[jy,gz])
theorem s7 (p:List Int) (T:Tb) (l:List Int) (f:Nat):(dO p T l f).length=p.length+1:=uh p T f l _ (gz _ _)
theorem D3 (p:List Int) (T:Tb) (s:Int) (now:List Bool) (f a j:Nat):c6 p T s now f (a+1) j=(c6 p T s now f a j || (decide (f≤a) && now.getD a false && fK p T s a j)):=by
  simp[c6,List.range_succ]
theorem BK (p:List Int) (T:Tb) (s:Int) (now:List Bool) (f j:Nat):c6 p T s now f f j=false:=by
  simp only[c6,List.any_eq_false,List.mem_range]
  intro a ha
  rw[decide_eq_false (by omega)]; simp
def eJ (T:Tb):V:=.aV (T.map fun r=>[.aV (r.map fun c=>[bf c])])
theorem rG (T:Tb):Tree (eJ T):=gh _ _ fun r _ v hv=>by
  simp at hv; subst hv
  exact gh _ _ fun c _ v hv=>by simp at hv; subst hv; exact eT c
def kC:SC :=
  .seq (.seq (an [aj 75 13,aj 76 1,aX 77 76,bu 78 .leq 75 77]) <|
  .cond (.tmp 78) (.skip) (.exit 4)) <|
  .seq (.block 5 (.region false [⟨none,[aj 81 11,aj 82 13,aj 83 11,aj 84 13,aW 85 1 83 84,av 86 85,aj 87 86]⟩,⟨(some (87,false)),[aj 88 2,aj 89 0,aj 90 10,aW 91 1 89 90,av 92 91,((some 93),.op (.arith .sub (.val (.val (.int .i64 (-1)))) (.tmp 92))),aW 94 1 88 93,av 95 94,aj 96 12,aW 97 1 95 96,av 98 97,aj 99 13,aW 100 1 98 99,av 101 100]⟩,⟨none,[bN 102 87 101,aW 103 1 81 82,(none,.op (.store 1 (.tmp 103) (.tmp 102)))]⟩])) <|
  an [aj 79 13,aH 80 .add 79 1,aj 13 80]
def kj:SC :=
  .seq (.seq (an [aj 32 12,aj 33 1,aX 34 33,bu 35 .leq 32 34]) <|
  .cond (.tmp 35) (.skip) (.exit 2)) <|
  .seq (.block 3 (.seq (.seq (an [aj 38 9,aj 39 12,aW 40 1 38 39,av 41 40,bP 42 41]) <|
  .cond (.tmp 42) (.exit 3) (.skip)) <|
  .seq (.seq (an [aj 43 0,aj 44 10,aW 45 1 43 44,av 46 45,aH 47 .geq 46 0]) <|
  .cond (.tmp 47) (.seq (.seq (.region false [⟨none,[aj 48 12,aj 49 1,aX 50 49,bu 51 .lss 48 50,aj 52 51]⟩,⟨(some (52,true)),[aj 53 1,aj 54 12,aW 55 1 53 54,av 56 55,aj 57 0,aj 58 10,aW 59 1 57 58,av 60 59,bu 61 .eql 56 60,aj 62 61]⟩,⟨(some (62,false)),[aj 63 1,aj 64 12,aW 65 1 63 64,av 66 65,aH 67 .eql 66 (-1)]⟩,⟨(some (52,true)),[bN 68 62 67]⟩,⟨none,[cx 69 52 68]⟩]) <|
  .cond (.tmp 69) (an [aj 70 11,aj 71 12,aH 72 .add 71 1,aW 73 1 70 72,(none,.op (.store 1 (.tmp 73) (.val (.val (.bool true)))))]) (.skip)) <|
  .exit 3) (.skip)) <|
  .seq (an [aj 74 12,aj 13 74]) <|
  .block 4 (.loop kC))) <|
  an [aj 36 12,aH 37 .add 36 1,aj 12 37]
def kd:SC :=
  .seq (.seq (an [aj 21 10,aj 22 0,aX 23 22,bu 24 .lss 21 23]) <|
  .cond (.tmp 24) (.skip) (.exit 0)) <|
  .seq (.block 1 (.seq (an [aj 27 1,aX 28 27,aH 29 .add 28 1,((some 30),.op (.make 1 1 [(.val (.bool false))] (.tmp 29) (.tmp 29))),aj 11 30]) <|
  .seq (.seq (an [aj 31 3,aj 12 31]) <|
  .block 2 (.loop kj)) <|
  an [aj 104 11,aj 9 104])) <|
  an [aj 25 10,aH 26 .add 25 1,aj 10 26]
def ml:SF:=⟨.seq (an [((some 8),.op (.ak (.val (.emp 1))))]) <|
  .seq (an [aj 14 1,aX 15 14,aH 16 .add 15 1,((some 17),.op (.make 1 1 [(.val (.bool false))] (.tmp 16) (.tmp 16))),aj 9 17]) <|
  .seq (an [aj 18 9,aj 19 3,aW 20 1 18 19,(none,.op (.store 1 (.tmp 20) (.val (.val (.bool true)))))]) <|
  .seq (.seq (an [bk 10 0]) <|
  .block 0 (.loop kd)) <|
  .seq (an [aj 105 9,aj 8 105]) <|
  .ret,
  [.tmp 8],106⟩
theorem qx:aR Tryz.prog 71 []=some ml:=by kernel_rfl
theorem iC {l:List Bool} {i:Nat} (h:i < l.length):(bw l).getD i []=[gb (l.getD i false)]:=by simp[List.getD_eq_getElem?_getD,h]
set_option maxHeartbeats 4000000 in
theorem Dk (l p:List Int) (T:Tb) (f N:Nat) (hl:aK l) (hp:p.length≤1000) (hT:dx T N (p.length+1)) (hf:f≤p.length) (hn:∀ x∈l,bB x∧(x < 0→-1 - x < N)) :
    cq Tryz.prog 71 [encI l,encI p,eJ T,gi f] (bf (dO p T l f)):=by
  unfold aK at hl
  have hM:((p.length:Int)+1).toNat=p.length+1:=by omega
  refine cq.of (by
    intro v hv; simp at hv
    rcases hv with rfl | rfl | rfl | rfl
    · exact cy l
    · exact cy p
    · exact rG T
    · exact .val _) ?_
  refine aB.of mixed qx ?_
  simp (disch:=omega) only [↓wr,↓reduceIte,wq,ah,ag,al,aa,ae,af,ai,isNil,Nat.reduceEqDiff,Nat.reduceAdd,Nat.reduceLT,Nat.reduceLeDiff,Int.reduceNeg,Int.reduceToNat,reduceCtorEq,ml,encI]
  refine ⟨⟨by omega,by unfold aF; omega,by unfold aF; omega⟩,fun h=>by omega,?_⟩
  intro _ b
  try simp (disch:=omega) only [↓wr,↓reduceIte,wq,ah,ag,al,aa,ae,af,ai,isNil,Nat.reduceEqDiff,Nat.reduceAdd,Nat.reduceLT,Nat.reduceLeDiff,Int.reduceNeg,Int.reduceToNat,reduceCtorEq,encI]
  refine ⟨by omega,by simp; omega,?_⟩
  have hinit:(List.replicate (p.length+1) [gb false]).set f [gb true]=bw (dF (p.length+1) fun j=>decide (j=f)):=by
    rw[show List.replicate (p.length+1) [gb false]=bw (List.replicate (p.length+1) false) by simp,dK]
    congr 1
    apply List.ext_getElem (by simp[dF])
    intro j h1 h2
    simp only[dF,List.getElem_set,List.getElem_replicate,List.getElem_map,List.getElem_range]
    by_cases e:f=j
    · subst e; simp
    · rw[if_neg e]; simp[Ne.symm e]
  refine bm.up l.length (fun q T' H'=>∃ (b:Nat),T' 9=.sl b 0 (p.length+1) 1∧H' b=.arr 1 (bw ((l.take q).foldl (jy p T f) (dF (p.length+1) fun j=>decide (j=f))))∧T' 0=encI l∧T' 1=encI p∧T' 2=eJ T∧T' 3=gi f∧T' 10=gi q) ?_ ?_
  · refine ⟨b,rfl,?_,rfl,rfl,rfl,rfl,rfl⟩
    simp only[View.set,if_true]
    rw[List.getD_eq_getElem?_getD,List.getElem?_replicate,if_pos (by omega)]
    rw[List.take_zero,List.foldl_nil,← hinit]; rfl
  rintro q k T' H hk ⟨b,t9,hb,t0,t1,t2,t3,t10⟩
  have hnl:=uh p T f (l.take q) (dF (p.length+1) fun j=>decide (j=f)) (gz _ _)
  have hfold:∀ x,l[q]?=some x→(l.take (q+1)).foldl (jy p T f) (dF (p.length+1) fun j=>decide (j=f))=jy p T f ((l.take q).foldl (jy p T f) (dF (p.length+1) fun j=>decide (j=f))) x:=fun x hx=>by
    rw[List.take_add_one,hx,List.foldl_append]; rfl
  simp (disch:=omega) only [↓wr,↓reduceIte,wq,ah,ag,al,aa,ae,af,ai,isNil,Nat.reduceEqDiff,Nat.reduceAdd,Nat.reduceLT,Nat.reduceLeDiff,Int.reduceNeg,Int.reduceToNat,reduceCtorEq,kd,t0,t1,t2,t3,t9,t10,encI]
  refine aq.dec (fun hc=>?_) (fun hc=>?_)
  · have hg:l[q]?=some (l[q]'(by omega)):=List.getElem?_eq_getElem (by omega)
    have hmem:l[q]'(by omega)∈l:=List.getElem_mem _
    have hf2:=hfold _ hg
    generalize l[q]'(by omega)=s at hg hmem hf2
    generalize (l.take q).foldl (jy p T f) (dF (p.length+1) fun j=>decide (j=f))=now at hb hnl hf2
    obtain ⟨⟨hs1,hs2⟩,hs3⟩:=hn s hmem
    simp (disch:=omega) only [↓wr,↓reduceIte,wq,ah,ag,al,aa,ae,af,ai,isNil,Nat.reduceEqDiff,Nat.reduceAdd,Nat.reduceLT,Nat.reduceLeDiff,Int.reduceNeg,Int.reduceToNat,reduceCtorEq,t0,t1,t2,t3,t9,t10,encI]
    refine ⟨⟨by omega,by unfold aF; omega,by unfold aF; omega⟩,fun h=>by omega,?_⟩
    intro _ d hd
    have hbd:b≠d:=by rintro rfl; rw[hb] at hd; simp at hd
    try simp (disch:=omega) only [↓wr,↓reduceIte,wq,ah,ag,al,aa,ae,af,ai,isNil,Nat.reduceEqDiff,Nat.reduceAdd,Nat.reduceLT,Nat.reduceLeDiff,Int.reduceNeg,Int.reduceToNat,reduceCtorEq,t0,t1,t2,t3,t9,t10,encI]
    refine bm.up (p.length+1 - f) (fun i T' H'=>H' b=.arr 1 (bw now)∧H' d=.arr 1 (bw (dF (p.length+1) (c6 p T s now f (f+i))))∧T' 9=.sl b 0 (p.length+1) 1∧T' 11=.sl d 0 (p.length+1) 1∧T' 0=encI l∧T' 1=encI p∧T' 2=eJ T∧T' 3=gi f∧T' 10=gi q∧T' 12=gi ((f+i:Nat):Int)) ?_ ?_
    · refine ⟨by simp[View.set,hbd,hb],?_,t9,rfl,t0,t1,t2,t3,t10,rfl⟩
      simp only[View.set,if_true]
      rw[hM,show List.replicate (p.length+1) [V.val (Value.bool false)]=bw (List.replicate (p.length+1) false) by simp]
      congr 2
      apply List.ext_getElem (by simp[dF])
      intro j h1 h2
      simp only[dF,List.getElem_replicate,List.getElem_map,List.getElem_range]
      rw[Nat.add_zero,BK]
    clear hd hb t0 t1 t2 t3 t9 t10
    rintro i m T' H hm ⟨hb,hd,t9,t11,t0,t1,t2,t3,t10,t12⟩
    simp (disch:=omega) only [↓wr,↓reduceIte,wq,ah,ag,al,aa,ae,af,ai,isNil,Nat.reduceEqDiff,Nat.reduceAdd,Nat.reduceLT,Nat.reduceLeDiff,Int.reduceNeg,Int.reduceToNat,reduceCtorEq,kj,t0,t1,t2,t3,t9,t10,t11,t12,encI]
    refine aq.dec (fun hc2=>?_) (fun hc2=>?_)
    · have hgn:=iC (l:=now) (i:=f+i) (by omega)
      simp (disch:=omega) only [↓wr,↓reduceIte,wq,ah,ag,al,aa,ae,af,ai,isNil,Nat.reduceEqDiff,Nat.reduceAdd,Nat.reduceLT,Nat.reduceLeDiff,Int.reduceNeg,Int.reduceToNat,reduceCtorEq,t0,t1,t2,t3,t9,t10,t11,t12,hb,hgn]
      refine ⟨by omega,by omega,?_⟩
      have hpb:=D3 p T s now f (f+i)
      rw[decide_eq_true (show f≤f+i by omega),Bool.true_and] at hpb
      have hdd:∀ j,(fun j=>c6 p T s now f (f+i) j) j=c6 p T s now f (f+i) j:=fun _=>rfl
      generalize now.getD (f+i) false=bn at hpb
      refine aq.split (fun hbn=>?_) (fun hbn=>?_)
      · subst hbn
        simp only[Bool.true_and] at hpb
        simp (disch:=omega) only [↓wr,↓reduceIte,wq,ah,ag,al,aa,ae,af,ai,isNil,Nat.reduceEqDiff,Nat.reduceAdd,Nat.reduceLT,Nat.reduceLeDiff,Int.reduceNeg,Int.reduceToNat,reduceCtorEq,t0,t1,t2,t3,t9,t10,t11,t12,encI,List.getElem?_map,hg]
        refine aq.dec (fun hs0=>?_) (fun hs0=>?_)
        · have hst:∀ j,fK p T s (f+i) j=(decide (f+i < p.length) && (p.getD (f+i) 0 == s || p.getD (f+i) 0 == -1) && decide (j=f+i+1)):=fun j=>by rw[fK,if_pos (show 0≤s from hs0)]
          simp (disch:=omega) only [↓wr,↓reduceIte,wq,ah,ag,al,aa,ae,af,ai,isNil,Nat.reduceEqDiff,Nat.reduceAdd,Nat.reduceLT,Nat.reduceLeDiff,Int.reduceNeg,Int.reduceToNat,reduceCtorEq,t0,t1,t2,t3,t9,t10,t11,t12,encI]
          refine aq.dec (fun ha=>?_) (fun ha=>?_)
          · have hgp:p[f+i]?=some (p.getD (f+i) 0):=by simp[List.getD_eq_getElem?_getD,show f+i < p.length by omega]
            generalize p.getD (f+i) 0=c at hgp hst
            have hset:∀ v:Bool,(bw (dF (p.length+1) (c6 p T s now f (f+i)))).set (f+i+1) [gb v]=bw (dF (p.length+1) fun j=>if j=f+i+1 then v else c6 p T s now f (f+i) j):=fun v=>by rw[dK,Cg]
            have hgd:=iC (l:=dF (p.length+1) (c6 p T s now f (f+i))) (i:=f+i+1) (by rw[gz]; omega)
            have hup:(c=s∨c = -1)→bw (dF (p.length+1) (c6 p T s now f (f+(i+1))))=bw (dF (p.length+1) fun j=>if j=f+i+1 then true else c6 p T s now f (f+i) j):=fun hcs=>by
              congr 1
              refine ib fun j _=>?_
              rw[← Nat.add_assoc,hpb,hst]
              by_cases e:j=f+i+1
              · rw[if_pos e,decide_eq_true (show f+i < p.length by omega),decide_eq_true e]
                rcases hcs with h | h <;> simp[h]
              · rw[if_neg e,decide_eq_false e]; simp
            have hno:¬ (c=s∨c = -1)→bw (dF (p.length+1) (c6 p T s now f (f+(i+1))))=bw (dF (p.length+1) (c6 p T s now f (f+i))):=fun hcs=>by
              congr 1
              refine ib fun j _=>?_
              rw[← Nat.add_assoc,hpb,hst,show (c == s || c == -1)=false by simp; omega]; simp
            have eat:((f+i:Nat):Int)+1=((f+i+1:Nat):Int):=by omega
            have ga:∀ {T2:Env} {H2:View},T2 9=.sl b 0 (p.length+1) 1→T2 11=.sl d 0 (p.length+1) 1→T2 0=encI l→T2 1=encI p→T2 2=eJ T→T2 3=gi f→T2 10=gi q→T2 12=gi (((f+i:Nat):Int)+1)→H2 b=.arr 1 (bw now)→H2 d=.arr 1 (bw (dF (p.length+1) (c6 p T s now f (f+(i+1))))) →
                ∃ k',k' < m∧zw (p.length+1 - f) k' (fun i T' H'=>H' b=.arr 1 (bw now)∧H' d=.arr 1 (bw (dF (p.length+1) (c6 p T s now f (f+i))))∧T' 9=.sl b 0 (p.length+1) 1∧T' 11=.sl d 0 (p.length+1) 1∧T' 0=encI l∧T' 1=encI p∧T' 2=eJ T∧T' 3=gi f∧T' 10=gi q∧T' 12=gi ((f+i:Nat):Int)) T2 H2:=fun a9 a11 a0 a1 a2 a3 a10 a12 ab ad=>aP hm (by omega) ⟨ab,ad,a9,a11,a0,a1,a2,a3,a10,by rw[a12]; rfl⟩
            simp (disch:=omega) only [↓wr,↓reduceIte,wq,ah,ag,al,aa,ae,af,ai,isNil,Nat.reduceEqDiff,Nat.reduceAdd,Nat.reduceLT,Nat.reduceLeDiff,Int.reduceNeg,Int.reduceToNat,reduceCtorEq,t0,t1,t2,t3,t9,t10,t11,t12,encI,List.getElem?_map,hg,hgp]
            refine aq.eq (fun hcs=>?_) (fun hcs=>?_)
            · simp (disch:=omega) only [↓wr,↓reduceIte,wq,ah,ag,al,aa,ae,af,ai,isNil,Nat.reduceEqDiff,Nat.reduceAdd,Nat.reduceLT,Nat.reduceLeDiff,Int.reduceNeg,Int.reduceToNat,reduceCtorEq,t0,t1,t2,t3,t9,t10,t11,t12,eat,hd]
              refine ⟨by omega,by rw[gz]; omega,?_⟩
              refine ga t9 t11 t0 t1 t2 t3 t10 rfl (by simp[View.set,hbd,hb]) ?_
              simp only[View.set,if_true]
              rw[hgd,hup (.inl hcs),← hset true]; rfl
            · simp (disch:=omega) only [↓wr,↓reduceIte,wq,ah,ag,al,aa,ae,af,ai,isNil,Nat.reduceEqDiff,Nat.reduceAdd,Nat.reduceLT,Nat.reduceLeDiff,Int.reduceNeg,Int.reduceToNat,reduceCtorEq,t0,t1,t2,t3,t9,t10,t11,t12,encI,List.getElem?_map,hg,hgp]
              refine aq.eq (fun hcm=>?_) (fun hcm=>?_)
              · simp (disch:=omega) only [↓wr,↓reduceIte,wq,ah,ag,al,aa,ae,af,ai,isNil,Nat.reduceEqDiff,Nat.reduceAdd,Nat.reduceLT,Nat.reduceLeDiff,Int.reduceNeg,Int.reduceToNat,reduceCtorEq,t0,t1,t2,t3,t9,t10,t11,t12,eat,hd]
                refine ⟨by omega,by rw[gz]; omega,?_⟩
                refine ga t9 t11 t0 t1 t2 t3 t10 rfl (by simp[View.set,hbd,hb]) ?_
                simp only[View.set,if_true]
                rw[hgd,hup (.inr hcm),← hset true]; rfl
              · simp (disch:=omega) only [↓wr,↓reduceIte,wq,ah,ag,al,aa,ae,af,ai,isNil,Nat.reduceEqDiff,Nat.reduceAdd,Nat.reduceLT,Nat.reduceLeDiff,Int.reduceNeg,Int.reduceToNat,reduceCtorEq,t0,t1,t2,t3,t9,t10,t11,t12]
                exact ga t9 t11 t0 t1 t2 t3 t10 rfl hb (by rw[hno (by omega)]; exact hd)
          · simp (disch:=omega) only [↓wr,↓reduceIte,wq,ah,ag,al,aa,ae,af,ai,isNil,Nat.reduceEqDiff,Nat.reduceAdd,Nat.reduceLT,Nat.reduceLeDiff,Int.reduceNeg,Int.reduceToNat,reduceCtorEq,t0,t1,t2,t3,t9,t10,t11,t12]
            refine aP hm (by omega) ⟨hb,?_,t9,t11,t0,t1,t2,t3,t10,rfl⟩
            rw[hd,← Nat.add_assoc]
            refine congrArg (fun l=>bC.arr 1 (bw l)) (ib fun j _=>?_)
            rw[hpb,hst,decide_eq_false (show ¬ f+i < p.length by omega)]; simp
        · have hsn : -1 - s < N:=hs3 (by omega)
          obtain ⟨row,cell,hrow,hcell,hcl,hcg⟩:=hT.cell (n:=(-1 - s).toNat) (i:=f+i) (by omega) (by omega)
          have hst:∀ j,fK p T s (f+i) j=(decide (f+i≤j) && cell.getD j false):=fun j=>by
            rw[fK,if_neg (show ¬ 0≤s from hs0),c5,hcg]
          simp (disch:=omega) only [↓wr,↓reduceIte,wq,ah,ag,al,aa,ae,af,ai,isNil,Nat.reduceEqDiff,Nat.reduceAdd,Nat.reduceLT,Nat.reduceLeDiff,Int.reduceNeg,Int.reduceToNat,reduceCtorEq,t0,t1,t2,t3,t9,t10,t11,t12]
          refine bm.up (p.length+1 - (f+i)) (fun r T' H'=>H' b=.arr 1 (bw now)∧H' d=.arr 1 (bw (dF (p.length+1) fun j=>c6 p T s now f (f+i) j || (decide (j < f+i+r) && fK p T s (f+i) j)))∧T' 9=.sl b 0 (p.length+1) 1∧T' 11=.sl d 0 (p.length+1) 1∧T' 0=encI l∧T' 1=encI p∧T' 2=eJ T∧T' 3=gi f∧T' 10=gi q∧T' 12=gi ((f+i:Nat):Int)∧T' 13=gi ((f+i+r:Nat):Int)) ?_ ?_
          · refine ⟨hb,?_,t9,t11,t0,t1,t2,t3,t10,t12,rfl⟩
            rw[hd]
            refine congrArg (fun l=>bC.arr 1 (bw l)) (ib fun j _=>?_)
            rw[hst]
            by_cases e:j < f+i
            · rw[decide_eq_false (show ¬ f+i≤j by omega)]; simp
            · rw[decide_eq_false (show ¬ j < f+i+0 by omega)]; simp
          clear hd hb t0 t1 t2 t3 t9 t10 t11 t12
          rintro r u T' H hu ⟨hb,hd,t9,t11,t0,t1,t2,t3,t10,t12,t13⟩
          simp (disch:=omega) only [↓wr,↓reduceIte,wq,ah,ag,al,aa,ae,af,ai,isNil,Nat.reduceEqDiff,Nat.reduceAdd,Nat.reduceLT,Nat.reduceLeDiff,Int.reduceNeg,Int.reduceToNat,reduceCtorEq,kC,t0,t1,t2,t3,t9,t10,t11,t12,t13,encI]
          refine aq.dec (fun hc3=>?_) (fun hc3=>?_)
          · have hF:∀ j,(c6 p T s now f (f+i) j || (decide (j < f+i+(r+1)) && fK p T s (f+i) j))=if j=f+i+r then (c6 p T s now f (f+i) j || fK p T s (f+i) j) else (c6 p T s now f (f+i) j || (decide (j < f+i+r) && fK p T s (f+i) j)):=fun j=>by
              by_cases e:j=f+i+r
              · rw[if_pos e,decide_eq_true (show j < f+i+(r+1) by omega),Bool.true_and]
              · rw[if_neg e]
                congr 2
                simp only[decide_eq_decide]; omega
            have hgd:=iC (l:=dF (p.length+1) fun j=>c6 p T s now f (f+i) j || (decide (j < f+i+r) && fK p T s (f+i) j)) (i:=f+i+r) (by rw[gz]; omega)
            rw[zZ (by omega),decide_eq_false (show ¬ f+i+r < f+i+r by omega),Bool.false_and,Bool.or_false] at hgd
            have hsb:=hst (f+i+r)
            rw[decide_eq_true (show f+i≤f+i+r by omega),Bool.true_and] at hsb
            have hcr:cell[f+i+r]?=some (cell.getD (f+i+r) false):=by simp[List.getD_eq_getElem?_getD,show f+i+r < cell.length by omega]
            have hset:∀ v,v=(c6 p T s now f (f+i) (f+i+r) || fK p T s (f+i) (f+i+r))→(bw (dF (p.length+1) fun j=>c6 p T s now f (f+i) j || (decide (j < f+i+r) && fK p T s (f+i) j))).set (f+i+r) [gb v]=bw (dF (p.length+1) fun j=>c6 p T s now f (f+i) j || (decide (j < f+i+(r+1)) && fK p T s (f+i) j)):=fun v hv=>by
              rw[dK,Cg]
              refine congrArg bw (ib fun j _=>?_)
              rw[hF]
              by_cases e:j=f+i+r
              · subst e; rw[if_pos rfl,if_pos rfl,hv]
              · rw[if_neg e,if_neg e]
            rw[hsb] at hset
            generalize cell.getD (f+i+r) false=cv at hcr hset
            generalize c6 p T s now f (f+i) (f+i+r)=pv at hgd hset
            simp (disch:=omega) only [↓wr,↓reduceIte,wq,ah,ag,al,aa,ae,af,ai,isNil,Nat.reduceEqDiff,Nat.reduceAdd,Nat.reduceLT,Nat.reduceLeDiff,Int.reduceNeg,Int.reduceToNat,reduceCtorEq,t0,t1,t2,t3,t9,t10,t11,t12,t13,hd,hgd]
            refine ⟨by omega,by rw[gz]; omega,?_⟩
            refine aq.split (fun hpv=>?_) (fun hpv=>?_)
            · simp (disch:=omega) only [↓wr,↓reduceIte,wq,ah,ag,al,aa,ae,af,ai,isNil,Nat.reduceEqDiff,Nat.reduceAdd,Nat.reduceLT,Nat.reduceLeDiff,Int.reduceNeg,Int.reduceToNat,reduceCtorEq,t0,t1,t2,t3,t9,t10,t11,t12,t13,hd]
              refine ⟨by omega,by rw[gz]; omega,aP hu (by omega) ⟨by simp[View.set,hbd,hb],?_,t9,t11,t0,t1,t2,t3,t10,t12,rfl⟩⟩
              simp only[View.set,if_true]
              rw[hgd,← hset true (by rw[hpv]; rfl)]; rfl
            · simp (disch:=omega) only [↓wr,↓reduceIte,wq,ah,ag,al,aa,ae,af,ai,isNil,Nat.reduceEqDiff,Nat.reduceAdd,Nat.reduceLT,Nat.reduceLeDiff,Int.reduceNeg,Int.reduceToNat,reduceCtorEq,t0,t1,t2,t3,t9,t10,t11,t12,t13,encI,eJ,bf,List.getElem?_map,hg,hrow,hcell,hcr,hd]
              refine ⟨by omega,by rw[gz]; omega,aP hu (by omega) ⟨by simp[View.set,hbd,hb],?_,t9,t11,t0,t1,t2,t3,t10,t12,rfl⟩⟩
              simp only[View.set,if_true]
              rw[hgd,← hset cv (by rw[hpv]; rfl)]; rfl
          · simp (disch:=omega) only [↓wr,↓reduceIte,wq,ah,ag,al,aa,ae,af,ai,isNil,Nat.reduceEqDiff,Nat.reduceAdd,Nat.reduceLT,Nat.reduceLeDiff,Int.reduceNeg,Int.reduceToNat,reduceCtorEq,t0,t1,t2,t3,t9,t10,t11,t12,t13]
            have hr:f+i+r=p.length+1:=by omega
            refine aP hm (by omega) ⟨hb,?_,t9,t11,t0,t1,t2,t3,t10,rfl⟩
            rw[hd,← Nat.add_assoc]
            refine congrArg (fun l=>bC.arr 1 (bw l)) (ib fun j hj=>?_)
            rw[hpb,hr,decide_eq_true hj,Bool.true_and]
      · subst hbn
        simp only[Bool.false_and,Bool.or_false] at hpb
        simp (disch:=omega) only [↓wr,↓reduceIte,wq,ah,ag,al,aa,ae,af,ai,isNil,Nat.reduceEqDiff,Nat.reduceAdd,Nat.reduceLT,Nat.reduceLeDiff,Int.reduceNeg,Int.reduceToNat,reduceCtorEq,t0,t1,t2,t3,t9,t10,t11,t12]
        refine aP hm (by omega) ⟨hb,?_,t9,t11,t0,t1,t2,t3,t10,by rfl⟩
        rw[hd,← Nat.add_assoc]
        exact congrArg (fun l=>bC.arr 1 (bw l)) (ib fun j _=>(hpb j).symm)
    · have hi:f+i=p.length+1:=by omega
      rw[hi] at hd
      simp (disch:=omega) only [↓wr,↓reduceIte,wq,ah,ag,al,aa,ae,af,ai,isNil,Nat.reduceEqDiff,Nat.reduceAdd,Nat.reduceLT,Nat.reduceLeDiff,Int.reduceNeg,Int.reduceToNat,reduceCtorEq,t0,t1,t2,t3,t9,t10,t11,t12]
      refine aP hk (by omega) ⟨d,rfl,?_,t0,t1,t2,t3,rfl⟩
      rw[hf2]; exact hd
  · have e:q=l.length:=by omega
    subst e
    rw[List.take_length] at hb hnl
    simp (disch:=omega) only [↓wr,↓reduceIte,wq,ah,ag,al,aa,ae,af,ai,isNil,Nat.reduceEqDiff,Nat.reduceAdd,Nat.reduceLT,Nat.reduceLeDiff,Int.reduceNeg,Int.reduceToNat,reduceCtorEq,t0,t1,t2,t3,t9,t10]
    intro h' hh
    have:=j9 (h:=h') (id:=b) (is:=dO p T l f) (by rw[hh]; exact hb)
    rwa [s7] at this
end Gv
set_option linter.unusedSimpArgs false
set_option maxRecDepth 100000
namespace Gv
open Go Go.Proofs
def sL (T:Tb) (n i j:Nat):Prop:=i≤j∧c5 T n i j=true
theorem zi {p:List Int} {T:Tb} {s:Int} {a j:Nat} : fK p T s a j=true↔stepT p (sL T) s a j:=by
  unfold fK stepT
  split
  · simp only[Bool.and_eq_true,decide_eq_true_eq,Bool.or_eq_true,beq_iff_eq]
    constructor
    · rintro ⟨⟨h1,h2⟩,h3⟩
      exact ⟨⟨p.getD a 0,by simp[List.getD_eq_getElem?_getD,h1],h2⟩,h3⟩
    · rintro ⟨⟨c,hc,h2⟩,h3⟩
      have h1:=(List.getElem?_eq_some_iff.1 hc).1
      have:p.getD a 0=c:=by simp[List.getD_eq_getElem?_getD,hc]
      exact ⟨⟨h1,by rw[this]; exact h2⟩,h3⟩
  · simp only[Bool.and_eq_true,decide_eq_true_eq]; rfl
theorem xG {T:Tb} : ∀ n i j,sL T n i j→i≤j:=fun _ _ _ h=>h.1
theorem A1 {p:List Int} {T:Tb} {f:Nat} (hf:f≤p.length):∀ (l pre:List Int) (now:List Bool),(∀ j,j≤p.length→(now.getD j false=true↔In p (sL T) pre f j)) →
    ∀ j,j≤p.length→((l.foldl (jy p T f) now).getD j false=true↔In p (sL T) (pre ++ l) f j)
  | [],pre,now,h,j,hj=>by rw[List.append_nil]; exact h j hj
  | s :: l,pre,now,h,j,hj=>by
    have h2:∀ j,j≤p.length→((jy p T f now s).getD j false=true↔In p (sL T) (pre ++ [s]) f j):=fun j hj=>by
      rw[jy,zZ (by omega),In.snoc]
      simp only[c6,List.any_eq_true,List.mem_range,Bool.and_eq_true,decide_eq_true_eq]
      constructor
      · rintro ⟨a,ha,⟨_,h3⟩,h4⟩
        exact ⟨a,(h a (by omega)).1 h3,zi.1 h4⟩
      · rintro ⟨a,h3,h4⟩
        have hle:=h3.le xG
        have ha:a≤p.length:=by
          have h5:=h4
          unfold stepT at h5
          split at h5
          · omega
          · have:=h5.1; omega
        exact ⟨a,by omega,⟨hle,(h a ha).2 h3⟩,zi.2 h4⟩
    have:=A1 hf l (pre ++ [s]) (jy p T f now s) h2 j hj
    rwa [List.append_assoc] at this
theorem oy {p:List Int} {T:Tb} {l:List Int} {f:Nat} (hf:f≤p.length) {j:Nat} (hj:j≤p.length):(dO p T l f).getD j false=true↔In p (sL T) l f j:=by
  have:=A1 (T:=T) hf l [] (dF (p.length+1) fun j=>decide (j=f)) (fun j hj=>by
    rw[zZ (by omega),decide_eq_true_eq]
    constructor
    · rintro rfl; exact .nil _
    · intro h; cases h; rfl) j hj
  exact this
open Classical in
noncomputable def fA (g:au) (p:List Int):Tb:=(List.range g.ar.length).map fun (n:Nat)=>(List.range (p.length+1)).map fun (i:Nat)=>(List.range (p.length+1)).map fun (j:Nat)=>decide (Sp g p [-1 - (n:Int)] i j)
theorem AT (g:au) (p:List Int):dx (fA g p) g.ar.length (p.length+1):=by
  refine ⟨by simp[fA],fun r hr=>?_⟩
  simp only[fA,List.mem_map] at hr
  obtain ⟨n,_,rfl⟩:=hr
  refine ⟨by simp,fun c hc=>?_⟩
  simp only[List.mem_map] at hc
  obtain ⟨i,_,rfl⟩:=hc
  simp
theorem wC {g:au} {p:List Int} {n i j:Nat} (hn:n < g.ar.length) (hi:i≤p.length) (hj:j≤p.length):c5 (fA g p) n i j=true↔Sp g p [-1 - (n:Int)] i j:=by
  simp[c5,fA,List.getD_eq_getElem?_getD,hn,show i < p.length+1 by omega,show j < p.length+1 by omega]
theorem Jn {S T:Tb} {N M:Nat} (hS:dx S N M) (hT:dx T N M) (h:∀ n i j,n < N→i < M→j < M→c5 S n i j=c5 T n i j):S=T:=by
  apply List.ext_getElem (by rw[hS.1,hT.1])
  intro n h1 h2
  have hn:n < N:=by rw[← hS.1]; exact h1
  have a1:=(hS.2 _ (List.getElem_mem h1)).1
  have a2:=(hT.2 _ (List.getElem_mem h2)).1
  apply List.ext_getElem (by rw[a1,a2])
  intro i h3 h4
  have hi:i < M:=by omega
  have b1:=(hS.2 _ (List.getElem_mem h1)).2 _ (List.getElem_mem h3)
  have b2:=(hT.2 _ (List.getElem_mem h2)).2 _ (List.getElem_mem h4)
  apply List.ext_getElem (by rw[b1,b2])
  intro j h5 h6
  have:=h n i j hn hi (by omega)
  simpa [c5,List.getD_eq_getElem?_getD,h1,h2,h3,h4,h5,h6] using this
theorem I1 {g:au} {p:List Int} {T:Tb} (hf:∀ r∈g.rules,0≤r.left) (hl:∀ r∈g.rules,r.left < g.ar.length) (hT:dx T g.ar.length (p.length+1)) (hs:∀ n i j,sL T n i j→Sp g p [-1 - (n:Int)] i j)
    (ht:∀ n i j,c5 T n i j=true→i≤j) (hc:∀ R∈g.rules,∀ i j,i≤j→j≤p.length→(dO p T R.right i).getD j false=true→c5 T R.left.toNat i j=true):T=fA g p:=by
  refine Jn hT (AT g p) fun n i j hn hi hj=>?_
  rw[Bool.eq_iff_iff,wC hn (by omega) (by omega)]
  have hc':∀ R∈g.rules,∀ i j,i≤p.length→In p (sL T) R.right i j→sL T R.left.toNat i j:=fun R hR i j hi h=>by
    have hle:=h.le xG
    have hlen:=(zM hs h).len hi
    exact ⟨hle,hc R hR i j hle hlen ((oy hi hlen).2 h)⟩
  rw[← Er hf hs hc' (by omega)]
  exact ⟨fun h=>⟨ht n i j h,h⟩,fun h=>h.2⟩
end Gv
set_option linter.unusedSimpArgs false
set_option maxRecDepth 100000
namespace Gv
open Go Go.Proofs
structure kG (H:View) (I N M:Nat) (R:Nat→Nat) (C:Nat→Nat→Nat) (T:Tb):Prop where
  top:H I=.arr 1 ((List.range N).map fun n=>[.sl (R n) 0 M 1])
  row:∀ n,n < N→H (R n)=.arr 1 ((List.range M).map fun i=>[.sl (C n i) 0 M 1])
  cell:∀ n i,n < N→i < M→H (C n i)=.arr 1 (bw ((T.getD n []).getD i []))
  inj:∀ n i n' i',n < N→i < M→n' < N→i' < M→C n i=C n' i'→n=n'∧i=i'
theorem v7 {c:List Bool} {k:Nat} {F:Nat→List V} (hc:0 < c.length) (h:bw c=(List.range k).map F) (hF:∀ n x,F n≠[gb x]):False:=by
  cases c with
  | nil=>simp at hc
  | cons x c =>
    cases k with
    | zero=>simp at h
    | succ k =>
      rw[List.range_succ_eq_map] at h
      simp only[List.map_cons,List.cons.injEq] at h
      exact hF 0 x h.1.symm
theorem kG.keep {H H':View} {I N M:Nat} {R:Nat→Nat} {C:Nat→Nat→Nat} {T:Tb} (h:kG H I N M R C T) (hk:∀ id,H id≠.dead→H' id=H id):kG H' I N M R C T :=
  ⟨by rw[hk _ (by rw[h.top]; simp)]; exact h.top,fun n hn=>by rw[hk _ (by rw[h.row n hn]; simp)]; exact h.row n hn,fun n i hn hi=>by rw[hk _ (by rw[h.cell n i hn hi]; simp)]; exact h.cell n i hn hi,h.inj⟩
theorem kG.put {H:View} {I N M:Nat} {R:Nat→Nat} {C:Nat→Nat→Nat} {T:Tb} (h:kG H I N M R C T) (hT:dx T N M) {n i j:Nat} (hn:n < N) (hi:i < M) (hj:j < M) :
    kG (H.set (C n i) (.arr 1 (bw (((T.getD n []).getD i []).set j true)))) I N M R C (kc T n i j):=by
  obtain ⟨r,c,hr,hc,hcl,hg⟩:=hT.cell hn hi
  have hcell:=h.cell n i hn hi
  rw[hg] at hcell
  have e1:I≠C n i:=fun e=>by
    have:=h.top
    rw[e,hcell] at this
    simp only[bC.arr.injEq,true_and] at this
    exact v7 (by omega) this fun _ _=>by simp
  have e2:∀ m,m < N→R m≠C n i:=fun m hm e=>by
    have:=h.row m hm
    rw[e,hcell] at this
    simp only[bC.arr.injEq,true_and] at this
    exact v7 (by omega) this fun _ _=>by simp
  refine ⟨by simp only[View.set,if_neg e1]; exact h.top,fun m hm=>by simp only[View.set,if_neg (e2 m hm)]; exact h.row m hm,fun m q hm hq=>?_,h.inj⟩
  obtain ⟨r',hr',hrl,hg'⟩:=hT.row hn
  rw[hr] at hr'; simp at hr'; subst hr'
  have hnl:n < T.length:=by rw[hT.1]; exact hn
  by_cases e:C m q=C n i
  · obtain ⟨rfl,rfl⟩:=h.inj m q n i hm hq hn hi e
    simp only[View.set,if_true]
    congr 2
    rw[kc]
    simp[List.getD_eq_getElem?_getD,hnl]
    rw[List.getElem?_set]
    have:q < T[m].length:=by
      have:=(List.getElem?_eq_some_iff.1 hr).2
      rw[this,hrl]; exact hq
    simp[this]
  · simp only[View.set,if_neg e]
    rw[h.cell m q hm hq]
    congr 2
    rw[kc]
    by_cases em:n=m
    · subst em
      have eq:i≠q:=fun e'=>e (by rw[e'])
      simp[List.getD_eq_getElem?_getD,hnl,List.getElem?_set,eq]
    · simp[List.getD_eq_getElem?_getD,List.getElem?_set,em]
theorem kG.JW {h:aE} {I N M:Nat} {R:Nat→Nat} {C:Nat→Nat→Nat} {T:Tb} (hG:kG h.view I N M R C T) (hT:dx T N M):dV h (.sl I 0 N 1) (eJ T):=by
  refine .sl I 0 N 1 1 _ _ hG.top (by simp) (by simp[hT.1]) (fun n hn=>?_) (fun n j hn hj=>?_)
  · obtain ⟨r,hr,_⟩:=hT.row hn
    simp[List.getD_eq_getElem?_getD,hr,hn]
  · obtain ⟨r,hr,hrl,hrg⟩:=hT.row hn
    have e1:((T.map fun r=>[V.aV (r.map fun c=>[bf c])]).getD n [])=[V.aV (r.map fun c=>[bf c])]:=by simp[List.getD_eq_getElem?_getD,hr]
    have e2:(((List.range N).map fun n=>[V.sl (R n) 0 M 1]).getD (0+n) [])=[V.sl (R n) 0 M 1]:=by simp[List.getD_eq_getElem?_getD,hn]
    rw[e1] at hj ⊢
    rw[e2]
    have:j=0:=by simp at hj; omega
    subst this
    simp only[List.getD_cons_zero]
    refine .sl (R n) 0 M 1 1 _ _ (hG.row n hn) (by simp) (by simp[hrl]) (fun i hi=>?_) (fun i q hi hq=>?_)
    · simp[List.getD_eq_getElem?_getD,hi,show i < r.length by omega]
    · have hic:i < r.length:=by omega
      have f1:((r.map fun c=>[bf c]).getD i [])=[bf r[i]]:=by simp[List.getD_eq_getElem?_getD,hic]
      have f2:(((List.range M).map fun i=>[V.sl (C n i) 0 M 1]).getD (0+i) [])=[V.sl (C n i) 0 M 1]:=by simp[List.getD_eq_getElem?_getD,hi]
      rw[f1] at hq ⊢
      rw[f2]
      have:q=0:=by simp at hq; omega
      subst this
      simp only[List.getD_cons_zero]
      have hcell:=hG.cell n i hn hi
      have e3:(T.getD n []).getD i []=r[i]:=by rw[hrg]; simp[List.getD_eq_getElem?_getD,hic]
      rw[e3] at hcell
      have hcl:=(hT.2 r (List.mem_of_getElem? hr)).2 _ (List.getElem_mem hic)
      have:=j9 (h:=h) (id:=C n i) (is:=r[i]) hcell
      rwa [hcl] at this
theorem dV.Jk {h:aE} {v t:V} (f:dV h v t):Fr h v t:=by
  induction f with
  | val v=>exact .tree _ (.val v)
  | emp k=>exact .emp k
  | sl id off len esz z es es' hH hle hlen hl _ ih=>exact .sl id off len esz z es es' hH hle hlen hl ih
  | agg cs cs' hl _ ih=>exact .agg cs cs' hl ih
  | bt cs cs' hl _ ih=>exact .bt cs cs' hl ih
theorem kG.GS {H:View} {I N M:Nat} {R:Nat→Nat} {C:Nat→Nat→Nat} {T:Tb} (hG:kG H I N M R C T) (hT:dx T N M):bS H (.sl I 0 N 1) (eJ T):=by
  rintro h rfl
  exact (hG.JW hT).Jk
end Gv
set_option linter.unusedSimpArgs false
set_option maxRecDepth 100000
namespace Gv
open Go Go.Proofs
structure HM (H:View) (I N M k:Nat) (R:Nat→Nat) (C:Nat→Nat→Nat):Prop where
  top:H I=.arr 1 ((List.range N).map fun n=>[if n < k then .sl (R n) 0 M 1 else .emp 1])
  row:∀ n,n < k→H (R n)=.arr 1 ((List.range M).map fun i=>[.sl (C n i) 0 M 1])
  cell:∀ n i,n < k→i < M→H (C n i)=.arr 1 (List.replicate M [gb false])
  inj:∀ n i n' i',n < k→i < M→n' < k→i' < M→C n i=C n' i'→n=n'∧i=i'
  ne:∀ n,n < k→I≠R n
structure ym (H:View) (I N M k:Nat) (R:Nat→Nat) (C:Nat→Nat→Nat) (r i:Nat) (D:Nat→Nat):Prop where
  top:H I=.arr 1 ((List.range N).map fun n=>[if n < k then .sl (R n) 0 M 1 else if n=k then .sl r 0 M 1 else .emp 1])
  row:∀ n,n < k→H (R n)=.arr 1 ((List.range M).map fun i=>[.sl (C n i) 0 M 1])
  cell:∀ n i,n < k→i < M→H (C n i)=.arr 1 (List.replicate M [gb false])
  inj:∀ n i n' i',n < k→i < M→n' < k→i' < M→C n i=C n' i'→n=n'∧i=i'
  ne:∀ n,n < k→I≠R n
  Ha:H r=.arr 1 ((List.range M).map fun j=>[if j < i then .sl (D j) 0 M 1 else .emp 1])
  zU:∀ j,j < i→H (D j)=.arr 1 (List.replicate M [gb false])
  IV:∀ j j',j < i→j' < i→D j=D j'→j=j'
  yG:I≠r∧(∀ n,n < k→R n≠r)∧∀ n q j,n < k→q < M→j < i→C n q≠D j
theorem uG {M i:Nat} {F:Nat→List V} {v:List V} : ((List.range M).map F).set i v=(List.range M).map fun j=>if j=i then v else F j:=by
  apply List.ext_getElem (by simp)
  intro j h1 h2
  simp only[List.getElem_set,List.getElem_map,List.getElem_range]
  by_cases e:i=j
  · subst e; simp
  · rw[if_neg e,if_neg (Ne.symm e)]
theorem cU {M i:Nat} {F:Nat→List V} (h:i < M):((List.range M).map F).getD i []=F i:=by simp[List.getD_eq_getElem?_getD,h]
theorem HM.done {H:View} {I N M:Nat} {R:Nat→Nat} {C:Nat→Nat→Nat} (h:HM H I N M N R C):kG H I N M R C (uv N M):=by
  refine ⟨?_,h.row,fun n i hn hi=>?_,h.inj⟩
  · rw[h.top]
    congr 1
    apply List.map_congr_left
    intro n hn
    rw[if_pos (by simpa using hn)]
  · rw[h.cell n i hn hi]
    simp[uv,List.getD_eq_getElem?_getD,hn,hi]
theorem ym.J7 {H:View} {I N M k:Nat} {R:Nat→Nat} {C:Nat→Nat→Nat} {r:Nat} {D:Nat→Nat} (h:ym H I N M k R C r M D):HM H I N M (k+1) (fun n=>if n=k then r else R n) (fun n=>if n=k then D else C n):=by
  refine ⟨?_,fun n hn=>?_,fun n i hn hi=>?_,fun n i n' i' hn hi hn' hi' e=>?_,fun n hn=>?_⟩
  · rw[h.top]
    congr 1
    apply List.map_congr_left
    intro n _
    by_cases e1:n < k
    · rw[if_pos e1,if_pos (by omega),if_neg (by omega)]
    · by_cases e2:n=k
      · rw[if_neg e1,if_pos e2,if_pos (by omega),if_pos e2]
      · rw[if_neg e1,if_neg e2,if_neg (by omega)]
  · by_cases e:n=k
    · simp only[if_pos e]
      rw[h.Ha]
      congr 1
      apply List.map_congr_left
      intro i hi
      rw[if_pos (by simpa using hi)]
    · simp only[if_neg e]; exact h.row n (by omega)
  · by_cases e:n=k
    · simp only[if_pos e]; exact h.zU i hi
    · simp only[if_neg e]; exact h.cell n i (by omega) hi
  · by_cases e1:n=k
    · by_cases e2:n'=k
      · simp only[if_pos e1,if_pos e2] at e
        exact ⟨by omega,h.IV i i' hi hi' e⟩
      · simp only[if_pos e1,if_neg e2] at e
        exact absurd e.symm (h.yG.2.2 n' i' i (by omega) hi' hi)
    · by_cases e2:n'=k
      · simp only[if_neg e1,if_pos e2] at e
        exact absurd e (h.yG.2.2 n i i' (by omega) hi hi')
      · simp only[if_neg e1,if_neg e2] at e
        exact h.inj n i n' i' (by omega) hi (by omega) hi' e
  · by_cases e:n=k
    · simp only[if_pos e]; exact h.yG.1
    · simp only[if_neg e]; exact h.ne n (by omega)
theorem ym.next {H H':View} {I N M k:Nat} {R:Nat→Nat} {C:Nat→Nat→Nat} {r i d:Nat} {D:Nat→Nat} (h:ym H I N M k R C r i D) (hN:0 < N) (hM:0 < M) (hd:H d=.dead)
    (hr':H' r=.arr 1 (((List.range M).map fun j=>[if j < i then V.sl (D j) 0 M 1 else .emp 1]).set i [.sl d 0 M 1])) (hd':H' d=.arr 1 (List.replicate M [gb false])) (ho:∀ id,H id≠.dead→id≠r→H' id=H id) :
    ym H' I N M k R C r (i+1) (fun j=>if j=i then d else D j):=by
  have live:∀ id,H id≠.dead→id≠d:=fun id hid e=>by subst e; exact hid hd
  have boolr:∀ id,H id=.arr 1 (List.replicate M [gb false])→id≠r:=fun id hid e=>by
    rw[e,h.Ha] at hid
    simp only[bC.arr.injEq,true_and] at hid
    have:=congrArg (·[0]?) hid
    simp[hM] at this
    split at this <;> simp at this
  refine ⟨?_,fun n hn=>?_,fun n q hn hq=>?_,h.inj,h.ne,?_,fun j hj=>?_,fun j j' hj hj' e=>?_,⟨h.yG.1,h.yG.2.1,fun n q j hn hq hj=>?_⟩⟩
  · rw[ho I (by rw[h.top]; simp) h.yG.1]; exact h.top
  · rw[ho _ (by rw[h.row n hn]; simp) (h.yG.2.1 n hn)]; exact h.row n hn
  · have:=h.cell n q hn hq
    rw[ho _ (by rw[this]; simp) (boolr _ this)]; exact this
  · rw[hr',uG]
    congr 1
    apply List.map_congr_left
    intro j _
    by_cases e:j=i
    · rw[if_pos e,if_pos (by omega),if_pos e]
    · rw[if_neg e]
      by_cases e2:j < i
      · rw[if_pos e2,if_pos (by omega),if_neg e]
      · rw[if_neg e2,if_neg (by omega)]
  · by_cases e:j=i
    · simp only[if_pos e]; exact hd'
    · simp only[if_neg e]
      have:=h.zU j (by omega)
      rw[ho _ (by rw[this]; simp) (boolr _ this)]; exact this
  · by_cases e1:j=i
    · by_cases e2:j'=i
      · omega
      · simp only[if_pos e1,if_neg e2] at e
        exact absurd e.symm (live _ (by rw[h.zU j' (by omega)]; simp))
    · by_cases e2:j'=i
      · simp only[if_neg e1,if_pos e2] at e
        exact absurd e (live _ (by rw[h.zU j (by omega)]; simp))
      · simp only[if_neg e1,if_neg e2] at e
        exact h.IV j j' (by omega) (by omega) e
  · by_cases e:j=i
    · simp only[if_pos e]; exact live _ (by rw[h.cell n q hn hq]; simp)
    · simp only[if_neg e]; exact h.yG.2.2 n q j hn hq (by omega)
theorem uE:∀ (l:List Nat) (i v:Nat) (h:i < l.length),(l.set i v).sum+l[i]=l.sum+v
  | x :: l,0,v,_=>by simp; omega
  | x :: l,i+1,v,h=>by
    have:=uE l i v (by simpa using h)
    simp; omega
theorem wY:∀ (l:List Nat) (b:Nat),(∀ x∈l,x≤b)→l.sum≤l.length * b
  | [],_,_=>by simp
  | x :: l,b,h=>by
    have h1:=wY l b fun y hy=>h y (by simp[hy])
    have h2:=h x (by simp)
    simp only[List.sum_cons,List.length_cons,Nat.add_mul]; omega
theorem tP:∀ (c:List Bool) (j:Nat),j < c.length→c.getD j false=false→bU (c.set j true)=bU c+1
  | x :: c,0,_,h=>by
    have:x=false:=by simpa using h
    subst this
    simp[bU]
  | x :: c,j+1,hj,h=>by
    have:=tP c j (by simpa using hj) (by simpa using h)
    unfold bU at this ⊢
    simp only[List.set_cons_succ,List.countP_cons,this]; omega
def gE (r:List (List Bool)):Nat:=(r.map bU).sum
def lD (T:Tb):Nat:=(T.map gE).sum
theorem BH {T:Tb} {N M:Nat} (h:dx T N M):lD T≤N * (M * M):=by
  have:=wY (T.map gE) (M * M) (fun x hx=>by
    obtain ⟨r,hr,rfl⟩:=List.mem_map.1 hx
    have:=wY (r.map bU) M (fun y hy=>by
      obtain ⟨c,hc,rfl⟩:=List.mem_map.1 hy
      rw[← (h.2 r hr).2 c hc]; exact om c)
    rw[List.length_map,(h.2 r hr).1] at this
    exact this)
  rw[List.length_map,h.1] at this
  exact this
theorem Iy {T:Tb} {N M n i j:Nat} (h:dx T N M) (hn:n < N) (hi:i < M) (hj:j < M) (hf:c5 T n i j=false):lD (kc T n i j)=lD T+1:=by
  obtain ⟨r,c,hr,hc,hcl,hg⟩:=h.cell hn hi
  obtain ⟨r',hr',hrl,hg'⟩:=h.row hn
  rw[hr] at hr'; simp at hr'; subst hr'
  have hcc:r.getD i []=c:=by rw[← hg']; exact hg
  have hnl:n < T.length:=by rw[h.1]; exact hn
  have hil:i < r.length:=by omega
  have hTn:T[n]=r:=(List.getElem?_eq_some_iff.1 hr).2
  have hri:r[i]=c:=(List.getElem?_eq_some_iff.1 hc).2
  have h1:bU (c.set j true)=bU c+1:=tP c j (by omega) (by rw[← hg]; exact hf)
  have h2:gE (r.set i (c.set j true))=gE r+1:=by
    have:=uE (r.map bU) i (bU (c.set j true)) (by simpa using hil)
    unfold gE
    rw[List.map_set]
    simp only[List.getElem_map,hri] at this
    omega
  have:=uE (T.map gE) n (gE (r.set i (c.set j true))) (by simpa using hnl)
  unfold lD kc
  rw[hg',hcc,List.map_set]
  simp only[List.getElem_map,hTn] at this
  omega
def mw:SC :=
  .seq (.seq (an [aj 31 7,aj 32 1,aX 33 32,bu 34 .leq 31 33]) <|
  .cond (.tmp 34) (.skip) (.exit 2)) <|
  .seq (.block 3 (an [aj 37 5,aj 38 6,aW 39 1 37 38,av 40 39,aj 41 7,aj 42 1,aX 43 42,aH 44 .add 43 1,((some 45),.op (.make 1 1 [(.val (.bool false))] (.tmp 44) (.tmp 44))),aW 46 1 40 41,(none,.op (.store 1 (.tmp 46) (.tmp 45)))])) <|
  an [aj 35 7,aH 36 .add 35 1,aj 7 36]
def mS:SC :=
  .seq (.seq (an [aj 18 6,aj 19 5,aX 20 19,bu 21 .lss 18 20]) <|
  .cond (.tmp 21) (.skip) (.exit 0)) <|
  .seq (.block 1 (.seq (an [aj 24 5,aj 25 6,aj 26 1,aX 27 26,aH 28 .add 27 1,((some 29),.op (.make 1 24 [(.emp 1)] (.tmp 28) (.tmp 28))),aW 30 1 24 25,(none,.op (.store 1 (.tmp 30) (.tmp 29)))]) <|
  .seq (an [bk 7 0]) <|
  .block 2 (.loop mw))) <|
  an [aj 22 6,aH 23 .add 22 1,aj 6 23]
def mM:SC :=
  .seq (.seq (an [aj 73 13,aj 74 1,aX 75 74,bu 76 .leq 73 75]) <|
  .cond (.tmp 76) (.skip) (.exit 10)) <|
  .seq (.block 11 (.seq (.region false [⟨none,[aj 79 12,aj 80 13,aW 81 1 79 80,av 82 81,aj 83 82]⟩,⟨(some (83,true)),[aj 84 5,aD 85 0 10,av 86 85,aW 87 1 84 86,av 88 87,aj 89 11,aW 90 1 88 89,av 91 90,aj 92 13,aW 93 1 91 92,av 94 93,bP 95 94]⟩,⟨none,[cx 96 83 95]⟩]) <|
  .cond (.tmp 96) (.seq (an [aj 97 5,aD 98 0 10,av 99 98,aW 100 1 97 99,av 101 100,aj 102 11,aW 103 1 101 102,av 104 103,aj 105 13,aW 106 1 104 105,(none,.op (.store 1 (.tmp 106) (.val (.val (.bool true)))))]) <|
  an [bb 8 true]) (.skip))) <|
  an [aj 77 13,aH 78 .add 77 1,aj 13 78]
def mq:SC :=
  .seq (.seq (an [aj 60 11,aj 61 1,aX 62 61,bu 63 .leq 60 62]) <|
  .cond (.tmp 63) (.skip) (.exit 8)) <|
  .seq (.block 9 (.seq (an [aD 66 1 10,av 67 66,aj 68 1,aj 69 5,aj 70 11,aY 71 71 [67,68,69,70],aj 12 71]) <|
  .seq (an [aj 72 11,aj 13 72]) <|
  .block 10 (.loop mM))) <|
  an [aj 64 11,aH 65 .add 64 1,aj 11 65]
def mR:SC :=
  .seq (.seq (an [aj 48 9,aD 49 2 2,av 50 49,aX 51 50,bu 52 .lss 48 51]) <|
  .cond (.tmp 52) (.skip) (.exit 6)) <|
  .seq (.block 7 (.seq (an [aD 55 2 2,av 56 55,aj 57 9,aW 58 3 56 57,bo 59 3 58,((some 10),.op (.alloc [(.val (.int .i64 0)),(.emp 1),(.val (.int .i64 0))])),(none,.op (.store 3 (.tmp 10) (.tmp 59)))]) <|
  .seq (an [bk 11 0]) <|
  .block 8 (.loop mq))) <|
  an [aj 53 9,aH 54 .add 53 1,aj 9 54]
def ie:SC :=
  .seq (.seq (an [aj 47 8]) <|
  .cond (.tmp 47) (.skip) (.exit 4)) <|
  .block 5 (.seq (an [bb 8 false]) <|
  .seq (an [bk 9 0]) <|
  .block 6 (.loop mR))
def oO:SF:=⟨.seq (an [da 2 0,((some 4),.op (.ak (.val (.emp 1))))]) <|
  .seq (an [aD 14 1 2,av 15 14,aX 16 15,((some 17),.op (.make 1 24 [(.emp 1)] (.tmp 16) (.tmp 16))),aj 5 17]) <|
  .seq (.seq (an [bk 6 0]) <|
  .block 0 (.loop mS)) <|
  .seq (an [bb 8 true]) <|
  .seq (.block 4 (.loop ie)) <|
  .seq (an [aj 107 5,aj 4 107]) <|
  .ret,
  [.tmp 4],108⟩
theorem sX:aR Tryz.prog 42 [2]=some oO:=by kernel_rfl
def GG (g:au) (p:List Int) (I:Nat) (R:Nat→Nat) (C:Nat→Nat→Nat) (T0:Tb) (D:Prop) (T:Env) (H:View):Prop :=
  ∃ T1,kG H I g.ar.length (p.length+1) R C T1∧dx T1 g.ar.length (p.length+1)∧(∀ n i j,c5 T1 n i j=true→i≤j∧Sp g p [-1 - (n:Int)] i j) ∧
    ((T 8=gb false∧T1=T0∧D)∨(T 8=gb true∧lD T0 < lD T1))∧T 1=encI p∧T 2=.aI (ao g) 0∧T 5=.sl I 0 g.ar.length 1
def gw (p:List Int) (T0:Tb) (r:aO) (f:Nat):Prop:=∀ j,f≤j→j≤p.length→(dO p T0 r.right f).getD j false=true→c5 T0 r.left.toNat f j=true
set_option maxHeartbeats 4000000 in
theorem HZ (g:au) (hg:g.Ok) (hf:g.oU) (p:List Int) (hp:p.length≤1000):cq Tryz.prog 42 [.agg (ao g),encI p] (eJ (fA g p)):=by
  have z1:=hf.nS
  have z2:=hf.ar
  have z3:=hf.rules
  refine cq.of (by
    intro v hv; simp at hv
    rcases hv with rfl | rfl
    · exact bT _ (bH g)
    · exact cy p) ?_
  refine aB.of mixed sX ?_
  have hM:((p.length:Int)+1).toNat=p.length+1:=by omega
  simp (disch:=omega) only [↓wr,↓reduceIte,wq,ah,ag,al,aa,ae,af,ai,isNil,Nat.reduceEqDiff,Nat.reduceAdd,Nat.reduceLT,Nat.reduceLeDiff,Int.reduceNeg,Int.reduceToNat,reduceCtorEq,oO,ao,encS]
  refine ⟨⟨by omega,by unfold aF; omega,by unfold aF; omega⟩,fun h=>by omega,?_⟩
  intro _ I
  try simp (disch:=omega) only [↓wr,↓reduceIte,wq,ah,ag,al,aa,ae,af,ai,isNil,Nat.reduceEqDiff,Nat.reduceAdd,Nat.reduceLT,Nat.reduceLeDiff,Int.reduceNeg,Int.reduceToNat,reduceCtorEq,ao,encS]
  refine bm.up g.ar.length (fun k T' H'=>(∃ R C,HM H' I g.ar.length (p.length+1) k R C)∧T' 1=encI p∧T' 2=.aI (ao g) 0∧T' 5=.sl I 0 g.ar.length 1∧T' 6=gi k) ?_ ?_
  · refine ⟨⟨fun _=>0,fun _ _=>0,⟨?_,fun n hn=>by omega,fun n i hn=>by omega,fun n i n' i' hn=>by omega,fun n hn=>by omega⟩⟩,rfl,rfl,rfl,rfl⟩
    simp[View.set]
    apply List.ext_getElem (by simp)
    intro n h1 h2
    simp
  rintro k m T' H hk ⟨⟨R,C,hB⟩,t1,t2,t5,t6⟩
  simp (disch:=omega) only [↓wr,↓reduceIte,wq,ah,ag,al,aa,ae,af,ai,isNil,Nat.reduceEqDiff,Nat.reduceAdd,Nat.reduceLT,Nat.reduceLeDiff,Int.reduceNeg,Int.reduceToNat,reduceCtorEq,mS,t1,t2,t5,t6]
  refine aq.dec (fun hc=>?_) (fun hc=>?_)
  · have ht:=hB.top
    simp (disch:=omega) only [↓wr,↓reduceIte,wq,ah,ag,al,aa,ae,af,ai,isNil,Nat.reduceEqDiff,Nat.reduceAdd,Nat.reduceLT,Nat.reduceLeDiff,Int.reduceNeg,Int.reduceToNat,reduceCtorEq,t1,t2,t5,t6,encI,ht]
    refine ⟨⟨by omega,by unfold aF; omega,by unfold aF; omega⟩,fun h=>by omega,?_⟩
    intro _ r hr
    have hIr:I≠r:=by rintro rfl; rw[ht] at hr; simp at hr
    try simp (disch:=omega) only [↓wr,↓reduceIte,wq,ah,ag,al,aa,ae,af,ai,isNil,Nat.reduceEqDiff,Nat.reduceAdd,Nat.reduceLT,Nat.reduceLeDiff,Int.reduceNeg,Int.reduceToNat,reduceCtorEq,t1,t2,t5,t6,encI,ht,hM,hIr]
    refine ⟨by omega,by simp; omega,?_⟩
    try simp (disch:=omega) only [↓wr,↓reduceIte,wq,ah,ag,al,aa,ae,af,ai,isNil,Nat.reduceEqDiff,Nat.reduceAdd,Nat.reduceLT,Nat.reduceLeDiff,Int.reduceNeg,Int.reduceToNat,reduceCtorEq,t1,t2,t5,t6,encI,ht,hM,hIr]
    refine bm.up (p.length+1) (fun i T' H'=>(∃ D,ym H' I g.ar.length (p.length+1) k R C r i D)∧T' 1=encI p∧T' 2=.aI (ao g) 0∧T' 5=.sl I 0 g.ar.length 1∧T' 6=gi k∧T' 7=gi i) ?_ ?_
    · refine ⟨⟨fun _=>0,?_⟩,t1,t2,t5,t6,rfl⟩
      have bj:∀ id,H id≠.dead→id≠I→∀ o1 o2,((H.set r o1).set I o2) id=H id:=fun id hid hI o1 o2=>by
        have:id≠r:=by rintro rfl; exact hid hr
        simp[View.set,hI,this]
      have rne:∀ n,n < k→R n≠r:=fun n hn e=>by have:=hB.row n hn; rw[e,hr] at this; simp at this
      have cI:∀ n i,n < k→i < p.length+1→C n i≠I:=fun n i hn hi e=>by
        have h1:=hB.cell n i hn hi
        rw[e,ht] at h1
        simp only[bC.arr.injEq,true_and] at h1
        have:=congrArg (·[0]?) h1
        simp[show 0 < g.ar.length by omega] at this
        split at this <;> simp at this
      refine ⟨?_,fun n hn=>?_,fun n i hn hi=>?_,hB.inj,hB.ne,?_,fun j hj=>by omega,fun j j' hj=>by omega,⟨hIr,rne,fun n q j _ _ hj=>by omega⟩⟩
      · simp only[View.set,if_true]
        rw[cU (by omega)]
        simp only[List.drop_succ_cons,List.drop_nil,List.drop_zero]
        rw[uG]
        congr 1
        apply List.map_congr_left
        intro n _
        by_cases e1:n=k
        · rw[if_pos e1,if_neg (by omega),if_pos e1]
        · rw[if_neg e1]
          by_cases e2:n < k
          · rw[if_pos e2,if_pos e2]
          · rw[if_neg e2,if_neg e2,if_neg e1]
      · rw[bj _ (by rw[hB.row n hn]; simp) (hB.ne n hn).symm]; exact hB.row n hn
      · rw[bj _ (by rw[hB.cell n i hn hi]; simp) (cI n i hn hi)]; exact hB.cell n i hn hi
      · simp only[View.set,if_neg hIr.symm,if_true]
        congr 1
        apply List.ext_getElem (by simp)
        intro n h1 h2
        simp
    clear ht hr hB t1 t2 t5 t6
    rintro i q T' H hq ⟨⟨D,hB⟩,t1,t2,t5,t6,t7⟩
    simp (disch:=omega) only [↓wr,↓reduceIte,wq,ah,ag,al,aa,ae,af,ai,isNil,Nat.reduceEqDiff,Nat.reduceAdd,Nat.reduceLT,Nat.reduceLeDiff,Int.reduceNeg,Int.reduceToNat,reduceCtorEq,mw,t1,t2,t5,t6,t7,encI]
    refine aq.dec (fun hc2=>?_) (fun hc2=>?_)
    · have ht:=hB.top
      have htg:=cU (F:=fun n=>[if n < k then V.sl (R n) 0 (p.length+1) 1 else if n=k then .sl r 0 (p.length+1) 1 else .emp 1]) (show k < g.ar.length by omega)
      simp only[if_neg (show ¬ k < k by omega),if_true] at htg
      have hrr:=hB.Ha
      simp (disch:=omega) only [↓wr,↓reduceIte,wq,ah,ag,al,aa,ae,af,ai,isNil,Nat.reduceEqDiff,Nat.reduceAdd,Nat.reduceLT,Nat.reduceLeDiff,Int.reduceNeg,Int.reduceToNat,reduceCtorEq,t1,t2,t5,t6,t7,encI,ht,htg]
      refine ⟨by omega,by simp; omega,⟨by omega,by unfold aF; omega,by unfold aF; omega⟩,fun h=>by omega,?_⟩
      intro _ d hd
      have hrd:r≠d:=by rintro rfl; rw[hrr] at hd; simp at hd
      try simp (disch:=omega) only [↓wr,↓reduceIte,wq,ah,ag,al,aa,ae,af,ai,isNil,Nat.reduceEqDiff,Nat.reduceAdd,Nat.reduceLT,Nat.reduceLeDiff,Int.reduceNeg,Int.reduceToNat,reduceCtorEq,t1,t2,t5,t6,t7,hM,hrr,hrd]
      refine ⟨by omega,by simp; omega,aP hq (by omega) ⟨⟨_,hB.next (d:=d) (by omega) (by omega) hd ?_ ?_ ?_⟩,t1,t2,t5,t6,rfl⟩⟩
      · simp only[View.set,if_true]
        rw[cU (by omega)]; rfl
      · simp only[View.set,if_neg hrd.symm,if_true]; rfl
      · intro id hid hidr
        have:id≠d:=by rintro rfl; exact hid hd
        simp[View.set,hidr,this]
    · simp (disch:=omega) only [↓wr,↓reduceIte,wq,ah,ag,al,aa,ae,af,ai,isNil,Nat.reduceEqDiff,Nat.reduceAdd,Nat.reduceLT,Nat.reduceLeDiff,Int.reduceNeg,Int.reduceToNat,reduceCtorEq,t1,t2,t5,t6,t7]
      have hi':i=p.length+1:=by omega
      subst hi'
      exact aP hk (by omega) ⟨⟨_,_,hB.J7⟩,t1,t2,t5,rfl⟩
  · simp (disch:=omega) only [↓wr,↓reduceIte,wq,ah,ag,al,aa,ae,af,ai,isNil,Nat.reduceEqDiff,Nat.reduceAdd,Nat.reduceLT,Nat.reduceLeDiff,Int.reduceNeg,Int.reduceToNat,reduceCtorEq,t1,t2,t5,t6]
    have hk':k=g.ar.length:=by omega
    subst hk'
    have hG:=hB.done
    refine bm.intro (fun k T' H'=>∃ T0,kG H' I g.ar.length (p.length+1) R C T0∧dx T0 g.ar.length (p.length+1)∧(∀ n i j,c5 T0 n i j=true→i≤j∧Sp g p [-1 - (n:Int)] i j) ∧
      ((T' 8=gb true∧k+lD T0=g.ar.length * ((p.length+1) * (p.length+1))+1)∨(T' 8=gb false∧∀ r∈g.rules,∀ f,f≤p.length→gw p T0 r f))∧T' 1=encI p∧T' 2=.aI (ao g) 0∧T' 5=.sl I 0 g.ar.length 1) (g.ar.length * ((p.length+1) * (p.length+1))+1 - lD (uv g.ar.length (p.length+1))) ?_ ?_
    · have:=BH (Dn g.ar.length (p.length+1))
      exact ⟨_,hG,Dn _ _,fun n i j h=>by rw[Ih] at h; simp at h,.inl ⟨rfl,by omega⟩,t1,t2,t5⟩
    clear hB hG t1 t2 t5 t6
    rintro k T' H ⟨T0,hG,hok,hsd,h8,t1,t2,t5⟩
    rcases h8 with ⟨t8,hcnt⟩ | ⟨t8,hcl⟩
    · simp (disch:=omega) only [↓wr,↓reduceIte,wq,ah,ag,al,aa,ae,af,ai,isNil,Nat.reduceEqDiff,Nat.reduceAdd,Nat.reduceLT,Nat.reduceLeDiff,Int.reduceNeg,Int.reduceToNat,reduceCtorEq,ie,t1,t2,t5,t8]
      refine bm.up g.rules.length (fun i T' H'=>GG g p I R C T0 (∀ q r,q < i→g.rules[q]?=some r→∀ f,f≤p.length→gw p T0 r f) T' H'∧T' 9=gi i) ⟨⟨T0,hG,hok,hsd,.inl ⟨rfl,rfl,fun q r hq=>by omega⟩,t1,t2,t5⟩,rfl⟩ ?_
      clear hG t1 t2 t5 t8
      rintro i m T' H hm ⟨⟨T1,hG,hok1,hsd1,h8,t1,t2,t5⟩,t9⟩
      simp (disch:=omega) only [↓wr,↓reduceIte,wq,ah,ag,al,aa,ae,af,ai,isNil,Nat.reduceEqDiff,Nat.reduceAdd,Nat.reduceLT,Nat.reduceLeDiff,Int.reduceNeg,Int.reduceToNat,reduceCtorEq,mR,t1,t2,t5,t9,ao]
      refine aq.dec (fun hc2=>?_) (fun hc2=>?_)
      · have hg2:g.rules[i]?=some (g.rules[i]'(by omega)):=List.getElem?_eq_getElem (by omega)
        have hmem:g.rules[i]'(by omega)∈g.rules:=List.getElem_mem _
        generalize g.rules[i]'(by omega)=r at hg2 hmem
        simp (disch:=omega) only [↓wr,↓reduceIte,wq,ah,ag,al,aa,ae,af,ai,isNil,Nat.reduceEqDiff,Nat.reduceAdd,Nat.reduceLT,Nat.reduceLeDiff,Int.reduceNeg,Int.reduceToNat,reduceCtorEq,t1,t2,t5,t9,ao,aG,encI,List.getElem?_map,hg2]
        intro b hb
        try simp (disch:=omega) only [↓wr,↓reduceIte,wq,ah,ag,al,aa,ae,af,ai,isNil,Nat.reduceEqDiff,Nat.reduceAdd,Nat.reduceLT,Nat.reduceLeDiff,Int.reduceNeg,Int.reduceToNat,reduceCtorEq,t1,t2,t5,t9]
        have hl:=hf.left r hmem
        have hrw:=hg.bg r hmem
        refine bm.up (p.length+1) (fun f T' H'=>GG g p I R C T0 ((∀ q r,q < i→g.rules[q]?=some r→∀ f,f≤p.length→gw p T0 r f)∧∀ f',f' < f→gw p T0 r f') T' H'∧T' 9=gi i∧T' 10=.ptr b 0 0∧H' b=.arr 3 [aG r]∧T' 11=gi f) ?_ ?_
        · refine ⟨⟨T1,hG.keep fun id hid=>?_,hok1,hsd1,?_,t1,t2,t5⟩,t9,rfl,by simp[View.set,aG,encI],rfl⟩
          · have:id≠b:=by rintro rfl; exact hid hb
            simp[View.set,this]
          · rcases h8 with ⟨a,b,c⟩ | h
            · exact .inl ⟨a,b,c,fun f' hf'=>by omega⟩
            · exact .inr h
        clear hG h8 t1 t2 t5 t9 hb hok1 hsd1
        rintro f u T' H hu ⟨⟨T1,hG,hok1,hsd1,h8,t1,t2,t5⟩,t9,t10,hb,t11⟩
        simp (disch:=omega) only [↓wr,↓reduceIte,wq,ah,ag,al,aa,ae,af,ai,isNil,Nat.reduceEqDiff,Nat.reduceAdd,Nat.reduceLT,Nat.reduceLeDiff,Int.reduceNeg,Int.reduceToNat,reduceCtorEq,mq,t1,t2,t5,t9,t10,t11,encI]
        refine aq.dec (fun hc3=>?_) (fun hc3=>?_)
        · simp (disch:=omega) only [↓wr,↓reduceIte,wq,ah,ag,al,aa,ae,af,ai,isNil,Nat.reduceEqDiff,Nat.reduceAdd,Nat.reduceLT,Nat.reduceLeDiff,Int.reduceNeg,Int.reduceToNat,reduceCtorEq,t1,t2,t5,t9,t10,t11,hb,aG,encI]
          have hen:=Dk r.right p T1 f g.ar.length hrw.2.2.1 hp hok1 (by omega) (fun x hx=>⟨hrw.2.2.2 x hx,fun hn=>hf.neg hmem hx hn⟩)
          refine ax.zR hen (by kernel_rfl) ⟨bS.tree (cy r.right),bS.tree (cy p),hG.GS hok1,bS.tree (.val _),trivial⟩ ?_
          have hel:=s7 p T1 r.right f
          have hls:∀ j,j≤p.length→(dO p T1 r.right f).getD j false=true→f≤j∧Sp g p r.right f j:=fun j hj he=>by
            have h1:=(oy (show f≤p.length by omega) hj).1 he
            exact ⟨h1.le xG,zM (fun n i j h=>(hsd1 n i j h.2).2) h1⟩
          have hl0:T1=T0→dO p T1 r.right f=dO p T0 r.right f:=fun e=>by rw[e]
          have h8':(T' 8=gb false∧T1=T0∧((∀ q r,q < i→g.rules[q]?=some r→∀ f,f≤p.length→gw p T0 r f)∧∀ f',f' < f→gw p T0 r f')∧dO p T1 r.right f=dO p T0 r.right f)∨(T' 8=gb true∧lD T0 < lD T1):=by
            rcases h8 with ⟨a,b,c⟩ | h
            · exact .inl ⟨a,b,c,hl0 b⟩
            · exact .inr h
          clear h8 hl0
          generalize dO p T1 r.right f=lst at hel hls h8'
          simp (disch:=omega) only [↓wr,↓reduceIte,wq,ah,ag,al,aa,ae,af,ai,isNil,Nat.reduceEqDiff,Nat.reduceAdd,Nat.reduceLT,Nat.reduceLeDiff,Int.reduceNeg,Int.reduceToNat,reduceCtorEq,t1,t2,t5,t9,t10,t11]
          refine bm.up (p.length+1 - f) (fun s T' H'=>GG g p I R C T0 (((∀ q r,q < i→g.rules[q]?=some r→∀ f,f≤p.length→gw p T0 r f)∧∀ f',f' < f→gw p T0 r f')∧lst=dO p T0 r.right f∧∀ j,f≤j→j < f+s→lst.getD j false=true→c5 T0 r.left.toNat f j=true) T' H'∧T' 9=gi i∧T' 10=.ptr b 0 0∧H' b=.arr 3 [aG r]∧T' 11=gi f∧T' 12=bf lst∧T' 13=gi ((f+s:Nat):Int)) ?_ ?_
          · refine ⟨⟨T1,hG,hok1,hsd1,?_,t1,t2,t5⟩,t9,t10,hb,t11,rfl,rfl⟩
            rcases h8' with ⟨a,b,c,d⟩ | h
            · exact .inl ⟨a,b,c,d,fun j h1 h2=>by omega⟩
            · exact .inr h
          clear hG h8' t1 t2 t5 t9 t10 t11 hb hok1 hsd1
          rintro s w T' H hw ⟨⟨T1,hG,hok1,hsd1,h8,t1,t2,t5⟩,t9,t10,hb,t11,t12,t13⟩
          simp (disch:=omega) only [↓wr,↓reduceIte,wq,ah,ag,al,aa,ae,af,ai,isNil,Nat.reduceEqDiff,Nat.reduceAdd,Nat.reduceLT,Nat.reduceLeDiff,Int.reduceNeg,Int.reduceToNat,reduceCtorEq,mM,t1,t2,t5,t9,t10,t11,t12,t13,encI]
          refine aq.dec (fun hc4=>?_) (fun hc4=>?_)
          · have hgl:lst[f+s]?=some (lst.getD (f+s) false):=by simp[List.getD_eq_getElem?_getD,show f+s < lst.length by omega]
            have hls':=hls (f+s) (by omega)
            simp (disch:=omega) only [↓wr,↓reduceIte,wq,ah,ag,al,aa,ae,af,ai,isNil,Nat.reduceEqDiff,Nat.reduceAdd,Nat.reduceLT,Nat.reduceLeDiff,Int.reduceNeg,Int.reduceToNat,reduceCtorEq,t1,t2,t5,t9,t10,t11,t12,t13,bf,List.getElem?_map,hgl]
            generalize hlve:lst.getD (f+s) false=lv at hls'
            have hln:r.left.toNat < g.ar.length:=by omega
            have ht:=hG.top
            have htg:=cU (F:=fun n=>[V.sl (R n) 0 (p.length+1) 1]) hln
            have hro:=hG.row r.left.toNat hln
            have hrg:=cU (F:=fun i=>[V.sl (C r.left.toNat i) 0 (p.length+1) 1]) (show f < p.length+1 by omega)
            have hce:=hG.cell r.left.toNat f hln (by omega)
            obtain ⟨row,cell,hrow,hcell,hcl,hcg⟩:=hok1.cell hln (show f < p.length+1 by omega)
            rw[hcg] at hce
            have hcd:=iC (l:=cell) (i:=f+s) (by omega)
            have htb:c5 T1 r.left.toNat f (f+s)=cell.getD (f+s) false:=by rw[c5,hcg]
            have hkeep:∀ (lv':Bool),(lv'=true→c5 T1 r.left.toNat f (f+s)=true)→lst.getD (f+s) false=lv'→((T' 8=gb false∧T1=T0∧((∀ q r,q < i→g.rules[q]?=some r→∀ f,f≤p.length→gw p T0 r f)∧∀ f',f' < f→gw p T0 r f')∧lst=dO p T0 r.right f∧∀ j,f≤j→j < f+(s+1)→lst.getD j false=true→c5 T0 r.left.toNat f j=true)∨(T' 8=gb true∧lD T0 < lD T1)):=fun lv' hlv hlv2=>by
              rcases h8 with ⟨a,b,c,d,e⟩ | h
              · refine .inl ⟨a,b,c,d,fun j h1 h2 h3=>?_⟩
                by_cases ej:j=f+s
                · subst ej
                  rw[hlv2] at h3
                  rw[← b]; exact hlv h3
                · exact e j h1 (by omega) h3
              · exact .inr h
            refine aq.split (fun hlv=>?_) (fun hlv=>?_)
            · subst hlv
              obtain ⟨_,hsp⟩:=hls' rfl
              simp (disch:=omega) only [↓wr,↓reduceIte,wq,ah,ag,al,aa,ae,af,ai,isNil,Nat.reduceEqDiff,Nat.reduceAdd,Nat.reduceLT,Nat.reduceLeDiff,Int.reduceNeg,Int.reduceToNat,reduceCtorEq,t1,t2,t5,t9,t10,t11,t12,t13,hb,aG,ht,htg,hro,hrg,hce,hcd]
              refine ⟨by omega,by simp; omega,?_⟩
              try simp (disch:=omega) only [↓wr,↓reduceIte,wq,ah,ag,al,aa,ae,af,ai,isNil,Nat.reduceEqDiff,Nat.reduceAdd,Nat.reduceLT,Nat.reduceLeDiff,Int.reduceNeg,Int.reduceToNat,reduceCtorEq,t1,t2,t5,t9,t10,t11,t12,t13,hb,aG,ht,htg,hro,hrg,hce,hcd]
              refine ⟨by omega,by simp; omega,by omega,by omega,?_⟩
              refine aq.split (fun hcv=>?_) (fun hcv=>?_)
              · simp (disch:=omega) only [↓wr,↓reduceIte,wq,ah,ag,al,aa,ae,af,ai,isNil,Nat.reduceEqDiff,Nat.reduceAdd,Nat.reduceLT,Nat.reduceLeDiff,Int.reduceNeg,Int.reduceToNat,reduceCtorEq,t1,t2,t5,t9,t10,t11,t12,t13]
                exact aP hw (by omega) ⟨⟨T1,hG,hok1,hsd1,hkeep true (fun _=>by rw[htb]; exact hcv) hlve,t1,t2,t5⟩,t9,t10,hb,t11,t12,rfl⟩
              · simp (disch:=omega) only [↓wr,↓reduceIte,wq,ah,ag,al,aa,ae,af,ai,isNil,Nat.reduceEqDiff,Nat.reduceAdd,Nat.reduceLT,Nat.reduceLeDiff,Int.reduceNeg,Int.reduceToNat,reduceCtorEq,t1,t2,t5,t9,t10,t11,t12,t13,hb,aG,ht,htg,hro,hrg,hce,hcd]
                refine ⟨by omega,by simp; omega,?_⟩
                try simp (disch:=omega) only [↓wr,↓reduceIte,wq,ah,ag,al,aa,ae,af,ai,isNil,Nat.reduceEqDiff,Nat.reduceAdd,Nat.reduceLT,Nat.reduceLeDiff,Int.reduceNeg,Int.reduceToNat,reduceCtorEq,t1,t2,t5,t9,t10,t11,t12,t13,hb,aG,ht,htg,hro,hrg,hce,hcd]
                refine ⟨by omega,by simp; omega,by omega,by omega,?_⟩
                have hput:=hG.put hok1 hln (show f < p.length+1 by omega) (show f+s < p.length+1 by omega)
                have hcs:=Iy hok1 hln (show f < p.length+1 by omega) (show f+s < p.length+1 by omega) (by rw[htb]; exact hcv)
                rw[hcg,← dK] at hput
                have hbC:b≠C r.left.toNat f:=fun e=>by rw[e,hce] at hb; simp at hb
                refine aP hw (by omega) ⟨⟨kc T1 r.left.toNat f (f+s),?_,Hc hok1 hln (by omega),fun n i' j' h=>?_,.inr ⟨rfl,?_⟩,t1,t2,t5⟩,t9,t10,by simp[View.set,hbC,hb,aG],t11,t12,rfl⟩
                · exact hput
                · rw[GJ hok1 hln (by omega) (by omega)] at h
                  split at h
                  · rename_i e
                    obtain ⟨rfl,rfl,rfl⟩:=e
                    refine ⟨by omega,?_⟩
                    exact .bY _ _ r _ _ _ (by omega) hmem (by omega) hsp (.nil _)
                  · exact hsd1 n i' j' h
                · rcases h8 with ⟨_,e,_⟩ | ⟨_,e⟩
                  · rw[hcs,e]; omega
                  · omega
            · subst hlv
              simp (disch:=omega) only [↓wr,↓reduceIte,wq,ah,ag,al,aa,ae,af,ai,isNil,Nat.reduceEqDiff,Nat.reduceAdd,Nat.reduceLT,Nat.reduceLeDiff,Int.reduceNeg,Int.reduceToNat,reduceCtorEq,t1,t2,t5,t9,t10,t11,t12,t13]
              exact aP hw (by omega) ⟨⟨T1,hG,hok1,hsd1,hkeep false (fun h=>by simp at h) hlve,t1,t2,t5⟩,t9,t10,hb,t11,t12,rfl⟩
          · simp (disch:=omega) only [↓wr,↓reduceIte,wq,ah,ag,al,aa,ae,af,ai,isNil,Nat.reduceEqDiff,Nat.reduceAdd,Nat.reduceLT,Nat.reduceLeDiff,Int.reduceNeg,Int.reduceToNat,reduceCtorEq,t1,t2,t5,t9,t10,t11,t12,t13]
            refine aP hu (by omega) ⟨⟨T1,hG,hok1,hsd1,?_,t1,t2,t5⟩,t9,t10,hb,rfl⟩
            rcases h8 with ⟨a,b,c,d,e⟩ | h
            · refine .inl ⟨a,b,c.1,fun f' hf'=>?_⟩
              by_cases ef:f'=f
              · subst ef
                exact fun j h1 h2 h3=>e j h1 (by omega) (by rw[d]; exact h3)
              · exact c.2 f' (by omega)
            · exact .inr h
        · simp (disch:=omega) only [↓wr,↓reduceIte,wq,ah,ag,al,aa,ae,af,ai,isNil,Nat.reduceEqDiff,Nat.reduceAdd,Nat.reduceLT,Nat.reduceLeDiff,Int.reduceNeg,Int.reduceToNat,reduceCtorEq,t1,t2,t5,t9,t10,t11]
          refine aP hm (by omega) ⟨⟨T1,hG,hok1,hsd1,?_,t1,t2,t5⟩,rfl⟩
          rcases h8 with ⟨a,b,c,d⟩ | h
          · refine .inl ⟨a,b,fun q r' hq hr' f' hf'=>?_⟩
            by_cases eq:q=i
            · subst eq
              rw[hg2] at hr'; simp at hr'; subst hr'
              exact d f' (by omega)
            · exact c q r' (by omega) hr' f' hf'
          · exact .inr h
      · simp (disch:=omega) only [↓wr,↓reduceIte,wq,ah,ag,al,aa,ae,af,ai,isNil,Nat.reduceEqDiff,Nat.reduceAdd,Nat.reduceLT,Nat.reduceLeDiff,Int.reduceNeg,Int.reduceToNat,reduceCtorEq,t1,t2,t5,t9]
        rcases h8 with ⟨a,b,c⟩ | ⟨a,b⟩
        · subst b
          refine ⟨0,by have:=BH hok; omega,T1,hG,hok,hsd,.inr ⟨a,fun r hr f hf'=>?_⟩,rfl⟩
          obtain ⟨q,hq,hqe⟩:=List.getElem_of_mem hr
          exact c q r (by omega) (by rw[List.getElem?_eq_getElem hq,hqe]) f hf'
        · have:=BH hok1
          exact ⟨g.ar.length * ((p.length+1) * (p.length+1))+1 - lD T1,by omega,T1,hG,hok1,hsd1,.inl ⟨a,by omega⟩,rfl⟩
    · simp (disch:=omega) only [↓wr,↓reduceIte,wq,ah,ag,al,aa,ae,af,ai,isNil,Nat.reduceEqDiff,Nat.reduceAdd,Nat.reduceLT,Nat.reduceLeDiff,Int.reduceNeg,Int.reduceToNat,reduceCtorEq,ie,t1,t2,t5,t8]
      intro h' hh
      have hT:T0=fA g p:=I1 (fun r hr=>(hf.left r hr).1) (fun r hr=>(hf.left r hr).2) hok (fun n i j h=>(hsd n i j h.2).2) (fun n i j h=>(hsd n i j h).1) fun r hr f j hfj hj he=>hcl r hr f (by omega) j hfj hj he
      rw[← hT]
      exact kG.JW (by rw[hh]; exact hG) hok
end Gv
