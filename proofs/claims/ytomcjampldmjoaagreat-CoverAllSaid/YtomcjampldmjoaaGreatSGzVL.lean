/-
  Part 12 of the proof: what the machine does and what the functions answer.
  Conditions: those that each lemma names.
-/
import Derived.Test.YtomcjampldmjoaaGreatSGzVK
set_option linter.unusedSimpArgs false
set_option linter.unusedVariables false
set_option maxRecDepth 100000
namespace Gv
open Go Go.Proofs
theorem C3 {x:Int} : ∀ (o:List Int) (i:Int),x∈o→∃ k:Nat,cK (fun y=>y == x) o i=i+k∧o[k]?=some x
  | [],_,h=>by simp at h
  | y :: o,i,h=>by
    by_cases e:y=x
    · exact ⟨0,by simp[cK,e],by simp[e]⟩
    · have hx:x∈o:=by
        rcases List.mem_cons.1 h with rfl | h
        · exact absurd rfl e
        · exact h
      obtain ⟨k,h1,h2⟩:=C3 o (i+1) hx
      exact ⟨k+1,by simp only[cK]; rw[if_neg (by simp[e]),h1]; push_cast; omega,by simpa using h2⟩
theorem yH {o:List Int} {x:Int} (h:x∈o):o[(bh o x).toNat]?=some x:=by
  obtain ⟨k,h1,h2⟩:=C3 o 0 h
  have:bh o x=k:=by unfold bh; omega
  rw[this]; simpa using h2
theorem xT {o:List Int} (hn:o.Nodup) {k:Nat} {x:Int} (h:o[k]?=some x):bh o x=k:=by
  have hx:=List.mem_of_getElem? h
  have h1:=yH hx
  have h2:=jT hx
  obtain ⟨hk,h3⟩:=List.getElem?_eq_some_iff.1 h
  obtain ⟨hk2,h4⟩:=List.getElem?_eq_some_iff.1 h1
  have:=(List.getElem_inj hn).1 (h4.trans h3.symm)
  omega
theorem qR:∀ (l:List aQ) (acc:List Int),acc.Nodup→(l.foldl dd acc).Nodup
  | [],_,h=>h
  | r :: l,acc,h=>qR l _ (zN h)
theorem GZ (p q:List Bool) (l:List aQ):(bL p q l).Nodup:=qR _ _ List.nodup_nil
theorem Kh (acc:List Int) (r:aQ):∃ m,dd acc r=acc ++ m:=by
  unfold dd
  split
  · exact ⟨[],by simp⟩
  · exact ⟨_,rfl⟩
theorem sW:∀ (l:List aQ) (acc:List Int),∃ m,l.foldl dd acc=acc ++ m
  | [],acc=>⟨[],by simp⟩
  | r :: l,acc=>by
    obtain ⟨m,hm⟩:=Kh acc r
    obtain ⟨k,hk⟩:=sW l (dd acc r)
    exact ⟨m ++ k,by rw[List.foldl_cons,hk,hm,List.append_assoc]⟩
theorem JQ {a b:List Int} {x:Int} (h:x∈a):bh (a ++ b) x=bh a x:=by
  unfold bh
  rw[sm _ _ _ _ (by omega)]
  have:=jT h
  unfold bh at this
  rw[if_pos this.1]
theorem tY {r:an} {o:List Int} (ho:o.Nodup) (hr:r.av.length=o.length):∀ (l:List aQ) (acc:List Int),o=l.foldl dd acc→(∀ x∈l,gm r (bf (bh o) x)=true)→fA r (l.map (bf (bh o))) ((acc.length:Int) - 1)=true
  | [],acc,h,_=>by
    simp only[List.foldl_nil] at h
    simp[fA,hr,h]
  | x :: l,acc,h,hb=>by
    simp only[List.map_cons,fA,Bool.and_eq_true,decide_eq_true_eq]
    rw[List.foldl_cons] at h
    have h1:(bf (bh o) x).left=bh o x.left:=rfl
    obtain ⟨m,hm⟩:=sW l (dd acc x)
    rw[← h] at hm
    by_cases hx:x.left∈acc
    · have e:dd acc x=acc:=by unfold dd; rw[if_pos hx]
      rw[e] at hm h
      have h2:=jT hx
      have h3:bh o x.left=bh acc x.left:=by rw[hm]; exact JQ hx
      rw[h1,h3,if_neg (by omega)]
      exact ⟨⟨⟨h2.1,by omega⟩,hb x (by simp)⟩,tY ho hr l acc h fun y hy=>hb y (by simp[hy])⟩
    · have e:dd acc x=acc ++ [x.left]:=by unfold dd; rw[if_neg hx]
      rw[e] at hm h
      have h3:bh o x.left=acc.length:=xT ho (by rw[hm]; simp)
      rw[h1,h3,if_pos (by omega)]
      refine ⟨⟨⟨by omega,by omega⟩,hb x (by simp)⟩,?_⟩
      have:=tY ho hr l (acc ++ [x.left]) h fun y hy=>hb y (by simp[hy])
      rw[List.length_append] at this
      simpa using this
theorem x5 {g r:an} (h:r.ax=g.ax):∀ (l:List Term) (i:Int),iF r l i=iF g l i
  | [],_=>rfl
  | t :: l,i=>by
    simp only[iF,x5 h l]
    congr 1
    simp only[jo,kN,qj,h]
theorem pC {o:List Int} {n:Nat} (h:o.Nodup) (hb:∀ x∈o,0≤x∧x < n):o.length≤n:=by
  have:=po o ((List.range n).map fun (k:Nat)=>(k:Int)) h fun x hx=>by
    have:=hb x hx
    exact List.mem_map.2 ⟨x.toNat,List.mem_range.2 (by omega),by omega⟩
  simpa using this
structure dR (g:an) (p q:List Bool) (o:List Int) (r:an):Prop where
  right:bp g=true
  pe:p=aJ g true
  qe:q=bu g
  oe:o=bL p q g.rules
  re:r=iX g (bh o) p q
  nodup:o.Nodup
  inside:∀ x∈o,0≤x∧x < g.av.length
  kept:∀ R∈g.rules,bD p q R=true→R.left∈o∧∀ s∈R.right,s < 0→-1 - s∈o
  from_:∀ x∈o,∃ R∈g.rules,bD p q R=true∧R.left=x
  start:g.start∈o
theorem OG {g:an} (hr:bp g=true) (hp:(aJ g true).getD g.start.toNat false=true):dR g (aJ g true) (bu g) (bL (aJ g true) (bu g) g.rules) (iX g (bh (bL (aJ g true) (bu g) g.rules)) (aJ g true) (bu g)):=by
  have hf:=aZ hr
  refine ⟨hr,rfl,rfl,rfl,rfl,GZ _ _ _,fun x hx=>?_,fun R hm hk=>⟨q8.2 ⟨R,hm,hk,rfl⟩,fun s hs hn=>?_⟩,fun x hx=>q8.1 hx,zt hr hf.dW hp (sB hr)⟩
  · obtain ⟨R,h1,_,rfl⟩:=q8.1 hx
    exact hf.left R h1
  · refine zt hr (by omega) ?_ (ue hr hm hk hs hn)
    rw[bD,Bool.and_eq_true] at hk
    have:=hk.2
    simp only[dt,List.all_eq_true] at this
    have:=this s hs
    rwa [if_neg (by omega)] at this
section
variable {g r:an} {p q:List Bool} {o:List Int}
theorem dR.rules (h:dR g p q o r):r.rules=(g.rules.filter (bD p q)).map (bf (bh o)):=by rw[h.re]; rfl
theorem dR.av (h:dR g p q o r):r.av=o.map fun x=>g.av.getD x.toNat ⟨#[]⟩:=by rw[h.re,h.oe]; rfl
theorem dR.ax (h:dR g p q o r):r.ax=g.ax:=by rw[h.re]; rfl
theorem dR.DZ (h:dR g p q o r):r.start=bh o g.start:=by rw[h.re]; rfl
theorem dR.len (h:dR g p q o r):r.av.length=o.length:=by rw[h.av]; simp
theorem dR.lz (h:dR g p q o r):bp r=true:=by
  have hf:=aZ h.right
  have hR:=h.right
  simp only[bp,iR,jD,Bool.and_eq_true,decide_eq_true_eq] at hR ⊢
  obtain ⟨⟨⟨⟨⟨⟨⟨a1,a2⟩,⟨a3,a4⟩,a5⟩,a6⟩,a7⟩,a8⟩,a9⟩,a10⟩:=hR
  have hst:=jT h.start
  have hol:o.length≤g.av.length:=pC h.nodup h.inside
  have hgn:g.av.Nodup∧∀ s∈g.av,eS (ed s)=true∧kN g s < 0:=by
    rw[rM] at a5
    refine ⟨(sd g.av).1 fun k s hk=>?_,fun s hs=>?_⟩
    · have:=a5 k s hk
      simp only[ko,wk,Bool.and_eq_true,beq_iff_eq] at this
      have:=this.1.2
      omega
    · obtain ⟨k,hk⟩:=List.getElem?_of_mem hs
      have:=a5 k s hk
      simp only[ko,Bool.and_eq_true,decide_eq_true_eq] at this
      exact ⟨this.1.1,this.2⟩
  have hget:∀ x∈o,∃ (hx:x.toNat < g.av.length),g.av.getD x.toNat ⟨#[]⟩=g.av[x.toNat]:=fun x hx=>by
    have:=h.inside x hx
    exact ⟨by omega,by simp[List.getD_eq_getElem?_getD,List.getElem?_eq_getElem (show x.toNat < g.av.length by omega)]⟩
  have hrn:r.av.Nodup:=by
    rw[h.av,List.nodup_iff_pairwise_ne,List.pairwise_map]
    refine (List.Pairwise.and_mem.1 h.nodup).imp ?_
    rintro x y ⟨hx,hy,hne⟩ e
    obtain ⟨h1,h2⟩:=hget x hx
    obtain ⟨h3,h4⟩:=hget y hy
    rw[h2,h4] at e
    have h5:=(List.getElem_inj hgn.1).1 e
    have h6:=h.inside x hx
    have h7:=h.inside y hy
    exact hne (by omega)
  have hrules:(g.rules.filter (bD p q)).length≤g.rules.length:=List.length_filter_le _ _
  obtain ⟨R0,hR0,hk0,_⟩:=h.from_ _ h.start
  have hpos:0 < (g.rules.filter (bD p q)).length:=List.length_pos_of_mem (List.mem_filter.2 ⟨hR0,hk0⟩)
  have hrl:r.rules.length=(g.rules.filter (bD p q)).length:=by rw[h.rules]; simp
  refine ⟨⟨⟨⟨⟨⟨⟨by rw[h.ax]; exact a1,?_⟩,⟨by rw[h.len]; omega,by rw[h.len]; omega⟩,?_⟩,by omega⟩,by omega⟩,by rw[h.DZ]; omega⟩,by rw[h.DZ,h.len]; omega⟩,?_⟩
  · rw[h.ax,x5 h.ax]; exact a2
  · rw[rM]
    intro k s hk
    have hm:=List.mem_of_getElem? hk
    have hidx:=(sd r.av).2 hrn k s hk
    rw[h.av,List.mem_map] at hm
    obtain ⟨x,hx,rfl⟩:=hm
    obtain ⟨h1,h2⟩:=hget x hx
    obtain ⟨h3,h4⟩:=hgn.2 _ (h2 ▸ List.getElem_mem h1:g.av.getD x.toNat ⟨#[]⟩∈g.av)
    simp only[ko,wk,Bool.and_eq_true,beq_iff_eq,decide_eq_true_eq]
    refine ⟨⟨h3,by rw[hidx]; omega⟩,?_⟩
    simp only[kN,h.ax] at h4 ⊢
    exact h4
  · rw[h.rules]
    have:=tY (r:=r) h.nodup h.len (g.rules.filter (bD p q)) [] (by rw[h.oe]; rfl) (fun x hx=>?_)
    · simpa using this
    obtain ⟨hm,hk⟩:=List.mem_filter.1 hx
    obtain ⟨_,hin⟩:=h.kept x hm hk
    have hb:=(wh _ _ a10).2 x hm
    have hb:=hb.2.2
    simp only[gm,Bool.and_eq_true,decide_eq_true_eq,List.all_eq_true] at hb ⊢
    obtain ⟨⟨⟨b1,b2⟩,b3⟩,b4⟩:=hb
    refine ⟨⟨⟨by simpa [bf] using b1,b2⟩,by rw[h.ax]; exact b3⟩,fun s hs=>?_⟩
    simp only[bf,List.mem_map] at hs
    obtain ⟨s0,hs0,rfl⟩:=hs
    have b5:=b4 s0 hs0
    by_cases hn:s0 < 0
    · rw[if_pos hn]
      have hl:=jT (hin s0 hs0 hn)
      simp only[kW,gu,Bool.and_eq_true]
      rw[if_neg (by omega),decide_eq_false (p:=0≤-1 - bh o (-1 - s0)) (by omega)]
      simp only[h.len,decide_eq_true_eq,Bool.false_and,Bool.not_false,and_true]
      omega
    · rw[if_neg hn]
      simp only[kW,gu,h.ax] at b5 ⊢
      rw[if_pos (by omega)] at b5 ⊢
      exact b5
end
inductive td (g:an):Int→Prop
  | mk (R:aQ):R∈g.rules→(∀ s∈R.right,s < 0→td g (-1 - s))→td g R.left
inductive m4 (g:an) (p:List Bool):Int→Prop
  | start:m4 g p g.start
  | next (R:aQ) (s:Int):R∈g.rules→m4 g p R.left→dt R.right p true=true→s∈R.right→s < 0→m4 g p (-1 - s)
theorem uG {l:List Int} {p:List Bool} : dt l p true=true↔∀ s∈l,s < 0→p.getD (-1 - s).toNat false=true:=by
  simp only[dt,List.all_eq_true]
  constructor
  · intro h s hs hn
    have:=h s hs
    rwa [if_neg (by omega)] at this
  · intro h s hs
    by_cases hn:s < 0
    · rw[if_neg (by omega)]; exact h s hs hn
    · rw[if_pos (by omega)]
theorem yN {l:List Bool} {i j:Nat} (h:(l.set i true).getD j false=true):j=i∨l.getD j false=true:=by
  by_cases e:i=j
  · exact .inl e.symm
  · right
    simp only[List.getD_eq_getElem?_getD,List.getElem?_set,if_neg e] at h ⊢
    exact h
theorem zm {g:an} {i:Nat} : (bV g).getD i false=false:=by
  simp only[bV,List.getD_eq_getElem?_getD,List.getElem?_replicate]
  split <;> rfl
theorem EA {g:an} (hr:bp g=true):∀ i:Nat,(aJ g true).getD i false=true→td g i:=by
  have hf:=aZ hr
  have hst:∀ (is:List Bool) (R:aQ),R∈g.rules→(∀ i:Nat,is.getD i false=true→td g i)→∀ i:Nat,(dx true is R).getD i false=true→td g i:=by
    intro is R hR h i hi
    unfold dx at hi
    split at hi
    · rename_i ha
      rcases yN hi with rfl | hi
      · have:=hf.left R hR
        have e:((R.left.toNat:Nat):Int)=R.left:=by omega
        rw[e]
        refine .mk R hR fun s hs hn=>?_
        have:=h _ (uG.1 ha s hs hn)
        rwa [show (((-1 - s).toNat:Nat):Int) = -1 - s by omega] at this
      · exact h i hi
    · exact h i hi
  have hfold:∀ (l:List aQ) (is:List Bool),(∀ R∈l,R∈g.rules)→(∀ i:Nat,is.getD i false=true→td g i)→∀ i:Nat,(l.foldl (dx true) is).getD i false=true→td g i:=by
    intro l
    induction l with
    | nil=>intro is _ h; exact h
    | cons R l ih=>intro is hl h; exact ih _ (fun x hx=>hl x (by simp[hx])) (hst is R (hl R (by simp)) h)
  have hit:∀ (n:Nat) (is:List Bool),(∀ i:Nat,is.getD i false=true→td g i)→∀ i:Nat,(iter (iO g true) n is).getD i false=true→td g i:=by
    intro n
    induction n with
    | zero=>intro is h; exact h
    | succ n ih=>intro is h; exact ih _ (hfold g.rules is (fun _ h=>h) h)
  rw[aJ,if_pos hr]
  exact hit _ _ fun i hi=>by rw[zm] at hi; simp at hi
theorem Ct (t:Bool) (is:List Bool) (R:aQ):fq is (dx t is R):=by
  unfold dx
  split
  · exact .set _ _
  · exact .refl _
theorem B6 (t:Bool):∀ (l:List aQ) (is:List Bool),fq is (l.foldl (dx t) is)
  | [],is=>.refl _
  | R :: l,is=>(Ct t is R).trans (B6 t l _)
theorem Ak {t:Bool} : ∀ {l:List aQ} {is:List Bool},l.foldl (dx t) is=is→∀ R∈l,dx t is R=is
  | [],_,_,_,h=>by simp at h
  | R :: l,is,h,x,hx=>by
    rw[List.foldl_cons] at h
    have h1:=B6 t l (dx t is R)
    rw[h] at h1
    have h2:=(h1.Ki (Ct t is R))
    rcases List.mem_cons.1 hx with rfl | hx
    · exact h2
    · rw[h2] at h; exact Ak h x hx
theorem Jo {g:an} (hr:bp g=true) (t:Bool):iO g t (aJ g t)=aJ g t:=by
  have hf:=aZ hr
  have h:=rC (qD t) g.rules 16 (bV g) (by have:=hf.av; simp[bV]; omega)
  rw[Fa,II hr] at h
  exact h.1
theorem q5 {g:an} (hr:bp g=true) {t:Bool} {R:aQ} (hR:R∈g.rules) (ha:dt R.right (aJ g t) t=true):(aJ g t).getD R.left.toNat false=true:=by
  have h1:=Ak (Jo hr t) R hR
  have hf:=aZ hr
  have hl:=iN hr t
  have hb:=hf.left R hR
  unfold dx at h1
  rw[if_pos ha] at h1
  rw[← h1]
  simp only[List.getD_eq_getElem?_getD]
  rw[List.getElem?_set_self (by omega)]
  rfl
theorem wV {g:an} (hr:bp g=true) {x:Int} (h:td g x):(aJ g true).getD x.toNat false=true:=by
  induction h with
  | mk R hR _ ih=>exact q5 hr hR (uG.2 fun s hs hn=>ih s hs hn)
theorem wg {g:an} (hr:bp g=true):∀ i:Nat,(bu g).getD i false=true→m4 g (aJ g true) i:=by
  have hf:=aZ hr
  have hmk:∀ (R:aQ),R∈g.rules→m4 g (aJ g true) R.left→dt R.right (aJ g true) true=true→∀ (l:List Int) (is:List Bool),(∀ s∈l,s∈R.right)→(∀ i:Nat,is.getD i false=true→m4 g (aJ g true) i)→∀ i:Nat,(l.foldl mark is).getD i false=true→m4 g (aJ g true) i:=by
    intro R hR hl ha l
    induction l with
    | nil=>intro is _ h; exact h
    | cons s l ih =>
      intro is hs h
      refine ih _ (fun x hx=>hs x (by simp[hx])) fun i hi=>?_
      unfold mark at hi
      split at hi
      · rename_i hn
        rcases yN hi with rfl | hi
        · rw[show (((-1 - s).toNat:Nat):Int) = -1 - s by omega]
          exact .next R s hR hl ha (hs s (by simp)) hn
        · exact h i hi
      · exact h i hi
  have hst:∀ (is:List Bool) (R:aQ),R∈g.rules→(∀ i:Nat,is.getD i false=true→m4 g (aJ g true) i)→∀ i:Nat,(eE (aJ g true) is R).getD i false=true→m4 g (aJ g true) i:=by
    intro is R hR h
    unfold eE
    split
    · rename_i ha
      rw[Bool.and_eq_true] at ha
      have h1:=h _ ha.1
      have:=hf.left R hR
      rw[show ((R.left.toNat:Nat):Int)=R.left by omega] at h1
      exact hmk R hR h1 ha.2 R.right is (fun _ h=>h) h
    · exact h
  have hfold:∀ (l:List aQ) (is:List Bool),(∀ R∈l,R∈g.rules)→(∀ i:Nat,is.getD i false=true→m4 g (aJ g true) i)→∀ i:Nat,(l.foldl (eE (aJ g true)) is).getD i false=true→m4 g (aJ g true) i:=by
    intro l
    induction l with
    | nil=>intro is _ h; exact h
    | cons R l ih=>intro is hl h; exact ih _ (fun x hx=>hl x (by simp[hx])) (hst is R (hl R (by simp)) h)
  have hit:∀ (n:Nat) (is:List Bool),(∀ i:Nat,is.getD i false=true→m4 g (aJ g true) i)→∀ i:Nat,(iter (mq g (aJ g true)) n is).getD i false=true→m4 g (aJ g true) i:=by
    intro n
    induction n with
    | zero=>intro is h; exact h
    | succ n ih=>intro is h; exact ih _ (hfold g.rules is (fun _ h=>h) h)
  rw[bu,if_pos hr]
  refine hit _ _ fun i hi=>?_
  rcases yN hi with rfl | hi
  · have:=hf.dW
    rw[show ((g.start.toNat:Nat):Int)=g.start by omega]
    exact .start
  · rw[zm] at hi; simp at hi
theorem xq {g:an} (hr:bp g=true) {x:Int} (h:m4 g (aJ g true) x):(bu g).getD x.toNat false=true:=by
  induction h with
  | start=>exact sB hr
  | next R s hR _ ha hs hn ih=>exact ue hr hR (by rw[bD,ih,ha]; rfl) hs hn
section
variable {g r:an} {p q:List Bool} {o:List Int}
theorem dR.Qi (h:dR g p q o r) {x:Int} (hd:td g x):x∈o→td r (bh o x):=by
  induction hd with
  | mk R hR hsub ih =>
    intro hx
    obtain ⟨R1,hR1,hk1,e1⟩:=h.from_ _ hx
    have hk:bD p q R=true:=by
      rw[bD,Bool.and_eq_true] at hk1 ⊢
      refine ⟨by rw[← e1]; exact hk1.1,?_⟩
      rw[h.pe]
      exact uG.2 fun s hs hn=>wV h.right (hsub s hs hn)
    have hin:=(h.kept R hR hk).2
    have hm:bf (bh o) R∈r.rules:=by rw[h.rules]; exact List.mem_map.2 ⟨R,List.mem_filter.2 ⟨hR,hk⟩,rfl⟩
    refine td.mk (bf (bh o) R) hm fun s' hs' hn'=>?_
    simp only[bf,List.mem_map] at hs'
    obtain ⟨s,hs,rfl⟩:=hs'
    by_cases hn:s < 0
    · rw[if_pos hn]
      have:=ih s hs hn (hin s hs hn)
      rwa [show -1 - (-1 - bh o (-1 - s))=bh o (-1 - s) by omega]
    · rw[if_neg hn] at hn'; omega
theorem dR.PT (h:dR g p q o r) {x:Int} (hx:x∈o):(aJ r true).getD (bh o x).toNat false=true:=by
  obtain ⟨R,hR,hk,rfl⟩:=h.from_ _ hx
  rw[bD,Bool.and_eq_true,h.pe] at hk
  have h1:=q5 h.right hR hk.2
  have h2:=EA h.right _ h1
  have:=(h.inside _ hx)
  rw[show ((R.left.toNat:Nat):Int)=R.left by omega] at h2
  exact wV h.lz (h.Qi h2 hx)
theorem dR.at_ (h:dR g p q o r) {k:Nat} (hk:k < o.length):∃ x∈o,bh o x=k∧o[k]?=some x:=⟨o[k],List.getElem_mem _,xT h.nodup (List.getElem?_eq_getElem hk),List.getElem?_eq_getElem hk⟩
theorem dR.Cd (h:dR g p q o r) {k:Nat} (hk:k < o.length):(aJ r true).getD k false=true:=by
  obtain ⟨x,hx,h1,_⟩:=h.at_ hk
  have:=h.PT hx
  rwa [h1,Int.toNat_natCast] at this
theorem dR.IE (h:dR g p q o r) {R:aQ} (hR:R∈r.rules):dt R.right (aJ r true) true=true:=by
  have hf:=aZ h.lz
  refine uG.2 fun s hs hn=>h.Cd ?_
  have:=hf.neg hR hs hn
  rw[h.len] at this
  omega
theorem dR.Qj (h:dR g p q o r) {x:Int} (hd:m4 g (aJ g true) x):m4 r (aJ r true) (bh o x):=by
  induction hd with
  | start=>rw[← h.DZ]; exact .start
  | next R s hR h1 ha hs hn ih =>
    have hk:bD p q R=true:=by
      rw[bD,h.pe,h.qe,ha,xq h.right h1]; rfl
    have hm:bf (bh o) R∈r.rules:=by rw[h.rules]; exact List.mem_map.2 ⟨R,List.mem_filter.2 ⟨hR,hk⟩,rfl⟩
    have hin:=(h.kept R hR hk).2 s hs hn
    have h2:=jT hin
    have:=m4.next (g:=r) (p:=aJ r true) (bf (bh o) R) (-1 - bh o (-1 - s)) hm ih (h.IE hm) (by
      simp only[bf,List.mem_map]
      exact ⟨s,hs,by rw[if_pos hn]⟩) (by omega)
    rwa [show -1 - (-1 - bh o (-1 - s))=bh o (-1 - s) by omega] at this
theorem dR.Cj (h:dR g p q o r) {k:Nat} (hk:k < o.length):(bu r).getD k false=true:=by
  obtain ⟨x,hx,h1,_⟩:=h.at_ hk
  obtain ⟨R,hR,hkk,rfl⟩:=h.from_ _ hx
  rw[bD,Bool.and_eq_true,h.qe] at hkk
  have h2:=wg h.right _ hkk.1
  have:=(h.inside _ hx)
  rw[show ((R.left.toNat:Nat):Int)=R.left by omega] at h2
  have:=xq h.lz (h.Qj h2)
  rwa [h1,Int.toNat_natCast] at this
def kq (n:Nat):List Int:=(List.range n).map fun (k:Nat)=>(k:Int)
theorem Ea (n:Nat):(kq n).length=n:=by simp[kq]
theorem yR {n k:Nat} (h:k < n):(kq n)[k]?=some (k:Int):=by simp[kq,h]
theorem F9 (n:Nat):(kq n).Nodup:=by
  rw[kq,List.nodup_iff_pairwise_ne,List.pairwise_map]
  exact (List.nodup_range (n:=n)).imp fun h e=>h (by omega)
theorem yO {n:Nat} {x:Int} (h0:0≤x) (h1:x < n):bh (kq n) x=x:=by
  have:=xT (F9 n) (yR (n:=n) (k:=x.toNat) (by omega))
  rw[show ((x.toNat:Nat):Int)=x by omega] at this
  exact this
theorem BT {p q:List Bool} : ∀ (l:List aQ) (i:Int),(∀ R∈l,bD p q R=true)→cq p q l i=(List.range l.length).map fun (k:Nat)=>i+(k:Int)
  | [],_,_=>rfl
  | R :: l,i,h=>by
    rw[cq,if_pos (h R (by simp)),BT l (i+1) (fun x hx=>h x (by simp[hx])),List.length_cons,List.range_succ_eq_map,List.map_cons,List.map_map]
    congr 1
    · omega
    · apply List.map_congr_left
      intro k _
      simp only[Function.comp]
      push_cast; omega
theorem tq {f:Int→Int} {o:List Int} (hf:∀ x∈o,∀ y∈o,f x=f y→x=y):∀ (l:List aQ) (acc:List Int),(∀ x∈acc,x∈o)→(∀ R∈l,R.left∈o)→(l.map (bf f)).foldl dd (acc.map f)=(l.foldl dd acc).map f
  | [],_,_,_=>rfl
  | R :: l,acc,ha,hl=>by
    have e:dd (acc.map f) (bf f R)=(dd acc R).map f:=by
      have h1:(bf f R).left=f R.left:=rfl
      unfold dd
      rw[h1]
      by_cases h:R.left∈acc
      · rw[if_pos h,if_pos (List.mem_map.2 ⟨_,h,rfl⟩)]
      · rw[if_neg h,if_neg (fun hm=>by
          obtain ⟨y,hy,e⟩:=List.mem_map.1 hm
          exact h (hf y (ha y hy) _ (hl R (by simp)) e ▸ hy))]
        simp
    rw[List.map_cons,List.foldl_cons,List.foldl_cons,e]
    refine tq hf l (dd acc R) (fun x hx=>?_) (fun x hx=>hl x (by simp[hx]))
    unfold dd at hx
    split at hx
    · exact ha x hx
    · rcases List.mem_append.1 hx with hx | hx
      · exact ha x hx
      · simp at hx; subst hx; exact hl R (by simp)
theorem dR.inj (h:dR g p q o r):∀ x∈o,∀ y∈o,bh o x=bh o y→x=y:=by
  intro x hx y hy e
  have h1:=yH hx
  have h2:=yH hy
  rw[e,h2] at h1
  exact (Option.some.inj h1).symm
theorem dR.MD (h:dR g p q o r):o.map (bh o)=kq o.length:=by
  apply List.ext_getElem?
  intro k
  rw[List.getElem?_map]
  by_cases hk:k < o.length
  · rw[yR hk,List.getElem?_eq_getElem hk,Option.map_some,xT h.nodup (List.getElem?_eq_getElem hk)]
  · rw[List.getElem?_eq_none (by omega),List.getElem?_eq_none (by rw[Ea]; omega)]; rfl
theorem dR.zh (h:dR g p q o r):∀ R∈r.rules,bD (aJ r true) (bu r) R=true:=fun R hR=>by
  have hf:=aZ h.lz
  have:=hf.left R hR
  rw[h.len] at this
  rw[bD,h.Cj (by omega),h.IE hR]; rfl
theorem dR.ord (h:dR g p q o r):bL (aJ r true) (bu r) r.rules=kq o.length:=by
  unfold bL
  rw[List.filter_eq_self.2 h.zh,h.rules]
  have:=tq h.inj (g.rules.filter (bD p q)) [] (by simp) (fun R hR=>by
    obtain ⟨h1,h2⟩:=List.mem_filter.1 hR
    exact (h.kept R h1 h2).1)
  rw[List.map_nil] at this
  rw[this,← h.MD]
  congr 1
  rw[h.oe]; rfl
theorem dR.once (h:dR g p q o r):eP r=(r,kq r.rules.length,0):=by
  have hf:=aZ h.lz
  have hst:=hf.start
  have hst0:=hf.dW
  rw[h.len] at hst
  rw[mC h.lz,if_pos (h.Cd (by omega)),h.ord]
  have hk:cq (aJ r true) (bu r) r.rules 0=kq r.rules.length:=by
    rw[BT _ _ h.zh]
    unfold kq
    apply List.map_congr_left
    intro k _; omega
  have hr:iX r (bh (kq o.length)) (aJ r true) (bu r)=r:=by
    unfold iX
    rw[h.ord,List.filter_eq_self.2 h.zh]
    have e1:((kq o.length).map fun x=>r.av.getD x.toNat ⟨#[]⟩)=r.av:=by
      apply List.ext_getElem?
      intro k
      rw[List.getElem?_map]
      by_cases hkk:k < o.length
      · rw[yR hkk,Option.map_some]
        simp[List.getD_eq_getElem?_getD,List.getElem?_eq_getElem (show k < r.av.length by rw[h.len]; omega)]
      · rw[List.getElem?_eq_none (by rw[Ea]; omega),List.getElem?_eq_none (by rw[h.len]; omega)]; rfl
    have e2:r.rules.map (bf (bh (kq o.length)))=r.rules:=by
      conv=>rhs; rw[← List.map_id r.rules]
      apply List.map_congr_left
      intro R hR
      have hl:=hf.left R hR
      rw[h.len] at hl
      unfold bf
      rw[yO hl.1 hl.2]
      have e3:(R.right.map fun s=>if s < 0 then -1 - bh (kq o.length) (-1 - s) else s)=R.right:=by
        conv=>rhs; rw[← List.map_id R.right]
        apply List.map_congr_left
        intro s hs
        by_cases hn:s < 0
        · have:=hf.neg hR hs hn
          rw[h.len] at this
          rw[if_pos hn,yO (by omega) this]
          simp only[id]; omega
        · rw[if_neg hn]; rfl
      rw[e3]; rfl
    rw[e1,e2,yO hst0 hst]
  rw[hr,hk]
end
def isRed (g:an):Bool:=(eP g).2.2 == 0 && decide (g=(eP g).1)
structure bk where
  bd:Int
  bE:Int
  rules:Int
  ax:Int
def ic:bk:=⟨(-1),0,0,0⟩
def bz:bk:=⟨0,0,0,0⟩
def bj (P:List bk) (m:Nat):bk:=P.getD m ic
abbrev bS (x:Int):Nat:=(-1 - x).toNat
def bK (P:List bk):List Int→bk→bk × Bool
  | [],s=>(s,true)
  | x :: l,s=>if 0≤x then bK P l ⟨s.bd,s.bE,s.rules,min 1048576 (s.ax+1)⟩
    else if (bj P (bS x)).bd < 0 then (s,false)
    else bK P l ⟨s.bd,max s.bE (bj P (bS x)).bE,min 1048576 (s.rules+(bj P (bS x)).rules),min 1048576 (s.ax+(bj P (bS x)).ax)⟩
def bt (P:List bk) (m:Nat):Prop:=0≤(bj P m).bd
def kp (P:List bk) (l:List Int):Prop:=∀ x∈l,x < 0→bt P (bS x)
theorem lr (P:List bk):∀ (l:List Int) (s:bk),(bK P l s).2=true↔kp P l
  | [],s=>by simp[bK,kp]
  | x :: l,s=>by
    simp only[bK,kp,List.mem_cons]
    by_cases h:0≤x
    · rw[if_pos h,lr P l]
      refine ⟨fun k y hy hn=>?_,fun k y hy=>k y (.inr hy)⟩
      rcases hy with rfl | hy
      · omega
      · exact k y hy hn
    · rw[if_neg h]
      by_cases h2:(bj P (bS x)).bd < 0
      · rw[if_pos h2]
        simp only[Bool.false_eq_true,false_iff]
        intro k
        have:=k x (.inl rfl) (by omega)
        unfold bt at this; omega
      · rw[if_neg h2,lr P l]
        refine ⟨fun k y hy hn=>?_,fun k y hy=>k y (.inr hy)⟩
        rcases hy with rfl | hy
        · unfold bt; omega
        · exact k y hy hn
theorem gH (P:List bk) (k:Int):∀ (l:List Int) (s:bk),kp P l→((bK P l s).1.bE≤k↔s.bE≤k∧∀ x∈l,x < 0→(bj P (bS x)).bE≤k)
  | [],s,_=>by simp[bK]
  | x :: l,s,h=>by
    have hl:kp P l:=fun y hy=>h y (by simp[hy])
    simp only[bK,List.mem_cons]
    by_cases h0:0≤x
    · rw[if_pos h0,gH P k l _ hl]
      refine ⟨fun ⟨a,b⟩=>⟨a,fun y hy hn=>?_⟩,fun ⟨a,b⟩=>⟨a,fun y hy=>b y (.inr hy)⟩⟩
      rcases hy with rfl | hy
      · omega
      · exact b y hy hn
    · have:=h x (by simp) (by omega)
      unfold bt at this
      rw[if_neg h0,if_neg (by omega),gH P k l _ hl]
      refine ⟨fun ⟨a,b⟩=>⟨by simp only at a; omega,fun y hy hn=>?_⟩,fun ⟨a,b⟩=>⟨by have:=b x (.inl rfl) (by omega); simp only; omega,fun y hy=>b y (.inr hy)⟩⟩
      rcases hy with rfl | hy
      · simp only at a; omega
      · exact b y hy hn
theorem Ag {P P':List bk} : ∀ (l:List Int) (s:bk),(∀ x∈l,x < 0→bj P (bS x)=bj P' (bS x))→bK P l s=bK P' l s
  | [],s,_=>rfl
  | x :: l,s,h=>by
    have hl:=fun s=>Ag (P:=P) (P':=P') l s fun y hy=>h y (by simp[hy])
    simp only[bK]
    by_cases h0:0≤x
    · rw[if_pos h0,if_pos h0,hl]
    · rw[if_neg h0,if_neg h0,h x (by simp) (by omega),hl]
theorem rm (P:List bk):∀ (l:List Int) (s:bk),s.bE≤(bK P l s).1.bE
  | [],s=>Int.le_refl _
  | x :: l,s=>by
    simp only[bK]
    split
    · exact rm P l _
    · split
      · exact Int.le_refl _
      · have:=rm P l ⟨s.bd,max s.bE (bj P (bS x)).bE,min 1048576 (s.rules+(bj P (bS x)).rules),min 1048576 (s.ax+(bj P (bS x)).ax)⟩
        simp only at this ⊢; omega
def fD (P:List bk) (i:Nat) (r:aQ):bk:=⟨i,(bK P r.right bz).1.bE+1,min 1048576 ((bK P r.right bz).1.rules+1),(bK P r.right bz).1.ax⟩
def og (P:List bk) (i:Nat) (N:List bk) (r:aQ):List bk :=
  if 0≤(bj N r.left.toNat).bd then N else if (bK P r.right bz).2=true then N.set r.left.toNat (fD P i r) else N
def kM (P:List bk):Nat→List bk→List aQ→List bk
  | _,N,[]=>N
  | i,N,r :: l=>kM P (i+1) (og P i N r) l
def we (rules:List aQ) (P:List bk):List bk:=kM P 0 P rules
def k6 (P:List bk) (m:Nat):Nat→List aQ→Option bk
  | _,[]=>none
  | i,r :: l=>if r.left.toNat=m∧(bK P r.right bz).2=true then some (fD P i r) else k6 P m (i+1) l
theorem xJ {N:List bk} {i m:Nat} {p:bk} (hm:m < N.length):bj (N.set i p) m=if i=m then p else bj N m:=by
  simp only[bj,List.getD_eq_getElem?_getD,List.getElem?_set]
  split
  · rename_i e; subst e; simp[hm]
  · rfl
theorem B4 (P:List bk) (i:Nat) (N:List bk) (r:aQ):(og P i N r).length=N.length:=by
  unfold og; split; · rfl
  split <;> simp
theorem Bz (P:List bk):∀ (l:List aQ) (i:Nat) (N:List bk),(kM P i N l).length=N.length
  | [],_,_=>rfl
  | r :: l,i,N=>by rw[kM,Bz P l,B4]
theorem Dc (P:List bk) (m:Nat):∀ (l:List aQ) (i:Nat) (N:List bk),m < N.length→bj (kM P i N l) m=if 0≤(bj N m).bd then bj N m else (k6 P m i l).getD (bj N m)
  | [],i,N,hm=>by simp[kM,k6]
  | r :: l,i,N,hm=>by
    rw[kM,Dc P m l (i+1) _ (by rw[B4]; exact hm),k6]
    unfold og
    by_cases h1:0≤(bj N r.left.toNat).bd
    · rw[if_pos h1]
      by_cases h2:r.left.toNat=m
      · subst h2
        rw[if_pos h1,if_pos h1]
      · rw[if_neg (c:=r.left.toNat=m∧_) (fun e=>h2 e.1)]
    · rw[if_neg h1]
      by_cases h3:(bK P r.right bz).2=true
      · rw[if_pos h3]
        by_cases h2:r.left.toNat=m
        · subst h2
          rw[xJ hm,if_pos rfl,if_neg h1,if_pos (show (0:Int)≤(fD P i r).bd by simp only[fD]; omega),if_pos (c:=r.left.toNat=r.left.toNat∧_) (And.intro rfl h3)]
          rfl
        · rw[xJ hm,if_neg h2,if_neg (c:=r.left.toNat=m∧_) (fun e=>h2 e.1)]
      · rw[if_neg h3,if_neg (c:=r.left.toNat=m∧_) (fun e=>h3 e.2)]
theorem jC {P:List bk} {m:Nat} : ∀ {l:List aQ} {i:Nat} {p:bk},k6 P m i l=some p→∃ (j:Nat) (r:aQ),l[j]?=some r∧r.left.toNat=m∧kp P r.right∧p=fD P (i+j) r∧∀ (j':Nat) (r':aQ),j' < j→l[j']?=some r'→r'.left.toNat=m→¬ kp P r'.right
  | [],i,p,h=>by simp[k6] at h
  | r :: l,i,p,h=>by
    rw[k6] at h
    by_cases hc:r.left.toNat=m∧(bK P r.right bz).2=true
    · rw[if_pos hc] at h
      exact ⟨0,r,rfl,hc.1,(lr P _ _).1 hc.2,by simpa using h.symm,fun j' r' hj=>by omega⟩
    · rw[if_neg hc] at h
      obtain ⟨j,r2,a,b,c,d,e⟩:=jC h
      refine ⟨j+1,r2,by simpa using a,b,c,by rw[d]; congr 1; omega,fun j' r' hj hr hl hk=>?_⟩
      cases j' with
      | zero =>
        simp at hr; subst hr
        exact hc ⟨hl,(lr P _ _).2 hk⟩
      | succ j'=>exact e j' r' (by omega) (by simpa using hr) hl hk
theorem BM {P:List bk} {m:Nat} : ∀ {l:List aQ} {i:Nat},k6 P m i l=none→∀ r∈l,r.left.toNat=m→¬ kp P r.right
  | [],i,h,r,hr,_,_=>by simp at hr
  | r :: l,i,h,r',hr,hl,hk=>by
    rw[k6] at h
    by_cases hc:r.left.toNat=m∧(bK P r.right bz).2=true
    · rw[if_pos hc] at h; simp at h
    · rw[if_neg hc] at h
      rcases List.mem_cons.1 hr with rfl | hr
      · exact hc ⟨hl,(lr P _ _).2 hk⟩
      · exact BM h r' hr hl hk
def aG (g:an) (k:Nat):List bk:=iter (we g.rules) k (List.replicate g.av.length ic)
theorem Cp {α:Type} (f:α→α):∀ (k:Nat) (x:α),iter f (k+1) x=f (iter f k x)
  | 0,x=>rfl
  | k+1,x=>by rw[iter,Cp f k,iter]
theorem l8 (g:an) (k:Nat):aG g (k+1)=we g.rules (aG g k):=Cp _ _ _
theorem fi (g:an):∀ k,(aG g k).length=g.av.length
  | 0=>by simp[aG,iter]
  | k+1=>by rw[l8,we,Bz,fi g k]
theorem tI {P:List bk} {m:Nat} (h:P.length≤m):bj P m=ic:=by simp[bj,List.getD_eq_getElem?_getD,List.getElem?_eq_none h]
theorem C2 {P:List bk} {m:Nat} (h:bt P m):m < P.length:=by
  rcases Nat.lt_or_ge m P.length with h1 | h1
  · exact h1
  · unfold bt at h; rw[tI h1] at h; simp[ic] at h
theorem qN (g:an) (k m:Nat):bj (aG g (k+1)) m=if 0≤(bj (aG g k) m).bd then bj (aG g k) m else if m < g.av.length then (k6 (aG g k) m 0 g.rules).getD (bj (aG g k) m) else bj (aG g k) m:=by
  by_cases hm:m < g.av.length
  · rw[l8,we,Dc _ _ _ _ _ (by rw[fi]; exact hm),if_pos hm]
  · rw[if_neg hm,tI (by rw[fi]; omega),tI (by rw[fi]; omega)]
    simp
theorem Az {g:an} {k m:Nat} (h:bt (aG g k) m):bj (aG g (k+1)) m=bj (aG g k) m:=by
  rw[qN]; unfold bt at h; rw[if_pos h]
theorem yw {g:an} {k m:Nat} (h:bt (aG g k) m):∀ d,bj (aG g (k+d)) m=bj (aG g k) m
  | 0=>rfl
  | d+1=>by
    have ih:=yw h d
    have:bt (aG g (k+d)) m:=by unfold bt at h ⊢; rw[ih]; exact h
    rw[← ih,← Az this]; rfl
theorem fJ {g:an} {k m j:Nat} (h:bt (aG g k) m) (hj:k≤j):bj (aG g j) m=bj (aG g k) m∧bt (aG g j) m:=by
  obtain ⟨d,rfl⟩:∃ d,j=k+d:=⟨j - k,by omega⟩
  have:=yw h d
  exact ⟨this,by unfold bt at h ⊢; rw[this]; exact h⟩
theorem vT {g:an} {k m:Nat} (h0:¬ bt (aG g k) m) (h:bt (aG g (k+1)) m):k6 (aG g k) m 0 g.rules=some (bj (aG g (k+1)) m):=by
  unfold bt at h h0
  rw[qN,if_neg h0] at h
  rw[qN,if_neg h0]
  split at h
  · rename_i hm
    rw[if_pos hm]
    cases hc:k6 (aG g k) m 0 g.rules with
    | none=>rw[hc] at h; exact absurd h h0
    | some p=>rfl
  · exact absurd h h0
theorem kY {g:an} {m:Nat} : ∀ {k:Nat},¬ bt (aG g k) m→bj (aG g k) m=ic
  | 0,_=>by
    simp only[aG,iter,bj,List.getD_eq_getElem?_getD,List.getElem?_replicate]
    split <;> rfl
  | k+1,h=>by
    have h0:¬ bt (aG g k) m:=fun e=>h (fJ e (by omega)).2
    unfold bt at h h0
    rw[qN,if_neg h0] at h ⊢
    split
    · rename_i hm
      rw[if_pos hm] at h
      cases hc:k6 (aG g k) m 0 g.rules with
      | none=>exact kY (k:=k) h0
      | some p =>
        rw[hc] at h
        obtain ⟨j,r,_,_,_,rfl,_⟩:=jC hc
        simp only[Option.getD_some,fD] at h; omega
    · exact kY (k:=k) h0
theorem fj (g:an):∀ k:Nat,∀ m,bt (aG g k) m→1≤(bj (aG g k) m).bE∧(bj (aG g k) m).bE≤k∧∀ j:Nat,j≤k→(bj (aG g k) m).bE≤j→bt (aG g j) m
  | 0,m,h=>by
    unfold bt at h
    have:bj (aG g 0) m=ic:=by
      simp only[aG,iter,bj,List.getD_eq_getElem?_getD,List.getElem?_replicate]
      split <;> rfl
    rw[this] at h; simp[ic] at h
  | k+1,m,h=>by
    have ih:=fj g k
    by_cases h0:bt (aG g k) m
    · obtain ⟨a,b,c⟩:=ih m h0
      rw[(fJ h0 (Nat.le_succ k)).1]
      refine ⟨a,by push_cast; omega,fun j hj hh=>?_⟩
      rcases Nat.lt_or_ge k j with e | e
      · exact (fJ h0 (by omega)).2
      · exact c j e hh
    · have hc:=vT h0 h
      obtain ⟨i,r,hr,hl,hk,hp,_⟩:=jC hc
      have hh:(bj (aG g (k+1)) m).bE=(bK (aG g k) r.right bz).1.bE+1:=by rw[hp]; rfl
      have h1:=rm (aG g k) r.right bz
      have h2:=(gH (aG g k) k r.right bz hk).2 ⟨by simp[bz],fun x hx hn=>(ih _ (hk x hx hn)).2.1⟩
      have h3:¬ (bK (aG g k) r.right bz).1.bE≤(k:Int) - 1:=by
        intro hle
        have hz:(0:Int)≤(bK (aG g k) r.right bz).1.bE:=h1
        obtain ⟨d,rfl⟩:∃ d,k=d+1:=⟨k - 1,by omega⟩
        have h4:=((gH (aG g (d+1)) _ r.right bz hk).1 hle).2
        have h5:kp (aG g d) r.right:=fun x hx hn=>(ih _ (hk x hx hn)).2.2 d (by omega) (by have:=h4 x hx hn; push_cast at this; omega)
        apply h0
        by_cases h6:bt (aG g d) m
        · exact (fJ h6 (by omega)).2
        · unfold bt at h6 ⊢
          have hm:=C2 h
          rw[fi] at hm
          rw[qN,if_neg h6,if_pos hm]
          cases hc2:k6 (aG g d) m 0 g.rules with
          | none=>exact absurd h5 (BM hc2 r (List.mem_of_getElem? hr) hl)
          | some p =>
            obtain ⟨j,r2,_,_,_,rfl,_⟩:=jC hc2
            simp only[Option.getD_some,fD]; omega
      have hz:(0:Int)≤(bK (aG g k) r.right bz).1.bE:=h1
      refine ⟨by omega,by push_cast; omega,fun j hj hle=>?_⟩
      have:j=k+1:=by omega
      subst this; exact h
theorem ui {g:an} {m:Nat} : ∀ {k:Nat},bt (aG g k) m→∃ j,j < k∧¬ bt (aG g j) m∧(bj (aG g k) m).bE=j+1∧k6 (aG g j) m 0 g.rules=some (bj (aG g k) m)
  | 0,h=>by
    have:=(fj g 0 m h)
    simp at this; omega
  | k+1,h=>by
    by_cases h0:bt (aG g k) m
    · obtain ⟨j,a,b,c,d⟩:=ui h0
      rw[(fJ h0 (Nat.le_succ k)).1]
      exact ⟨j,by omega,b,c,d⟩
    · refine ⟨k,by omega,h0,?_,vT h0 h⟩
      obtain ⟨a,b,c⟩:=fj g (k+1) m h
      rcases Int.lt_or_le (k:Int) (bj (aG g (k+1)) m).bE with e | e
      · push_cast at b; omega
      · exact absurd (c k (by omega) e) h0
def qU (P:List bk):List Bool:=P.map fun p=>decide (0≤p.bd)
theorem zB (P:List bk) (m:Nat):(qU P).getD m false=true↔bt P m:=by
  simp only[qU,bt,bj,List.getD_eq_getElem?_getD,List.getElem?_map]
  cases P[m]? with
  | none=>simp[ic]
  | some p=>simp
theorem O7 (g:an) (k:Nat):fq (qU (aG g k)) (qU (aG g (k+1))) :=
  ⟨by simp[qU,fi],fun i h=>(zB _ _).2 (fJ ((zB _ _).1 h) (by omega)).2⟩
theorem OH {g:an} {k:Nat} (h:qU (aG g k)=qU (aG g (k+1))):aG g (k+1)=aG g k:=by
  have hp:∀ m,bj (aG g (k+1)) m=bj (aG g k) m:=fun m=>by
    by_cases h0:bt (aG g k) m
    · exact Az h0
    · have h1:¬ bt (aG g (k+1)) m:=fun e=>h0 ((zB _ _).1 (by rw[h]; exact (zB _ _).2 e))
      rw[kY h0,kY h1]
  apply List.ext_getElem (by rw[fi,fi])
  intro m h1 h2
  have:=hp m
  simpa [bj,List.getD_eq_getElem?_getD,h1,h2] using this
theorem FU {g:an} {k:Nat} (hk:k≤cr (qU (aG g k))):aG g (k+1)=aG g k∨k+1≤cr (qU (aG g (k+1))):=by
  have:=(O7 g k).cr
  by_cases e:cr (qU (aG g k))=cr (qU (aG g (k+1)))
  · exact .inl (OH (this.2 e))
  · exact .inr (by omega)
theorem EN (g:an) (k:Nat):cr (qU (aG g k))≤g.av.length:=by
  have:=qY (qU (aG g k))
  simpa [qU,fi] using this
theorem An {g:an} {k:Nat} (h:aG g (k+1)=aG g k):∀ d,aG g (k+d)=aG g k
  | 0=>rfl
  | d+1=>by
    have ih:=An h d
    rw[← Nat.add_assoc,l8,ih,← l8,h]
def aw (g:an):List bk:=aG g g.av.length
theorem lq (g:an):(aw g).length=g.av.length:=fi _ _
theorem Lo {g:an} {k:Nat} (hk:k≤g.av.length) (h:aG g (k+1)=aG g k):aG g k=aw g:=by
  obtain ⟨d,hd⟩:∃ d,g.av.length=k+d:=⟨g.av.length - k,by omega⟩
  rw[aw,hd,An h d]
theorem iP {g:an} {m:Nat} (h:bt (aw g) m):1≤(bj (aw g) m).bE∧(bj (aw g) m).bE≤g.av.length:=⟨(fj g _ m h).1,(fj g _ m h).2.1⟩
theorem EE {g:an} {m:Nat} (h:¬ bt (aw g) m):bj (aw g) m=ic:=kY h
theorem x7 {g:an} {m:Nat} (h:bt (aw g) m):∃ (i:Nat) (r:aQ),g.rules[i]?=some r∧r.left.toNat=m∧kp (aw g) r.right∧bj (aw g) m=fD (aw g) i r ∧
    ∀ (j:Nat) (r':aQ),j < i→g.rules[j]?=some r'→r'.left.toNat=m→kp (aw g) r'.right→(bK (aw g) r'.right bz).1.bE+1≠(bj (aw g) m).bE:=by
  obtain ⟨k,hk,hn,hh,hc⟩:=ui h
  obtain ⟨i,r,hr,hl,ha,hp,hmin⟩:=jC hc
  have hsame:∀ x∈r.right,x < 0→bj (aG g k) (bS x)=bj (aw g) (bS x):=fun x hx hn=>((fJ (ha x hx hn) (by omega)).1).symm
  have hs:bK (aG g k) r.right bz=bK (aw g) r.right bz:=Ag _ _ hsame
  refine ⟨i,r,hr,hl,fun x hx hn=>(fJ (ha x hx hn) (by omega)).2,?_,fun j r' hj hr' hl' ha' he=>?_⟩
  · show bj (aG g g.av.length) m=_
    rw[hp]; unfold fD; rw[hs,Nat.zero_add]
  · have h1:(bj (aw g) m).bE=k+1:=hh
    refine hmin j r' hj hr' hl' fun x hx hn=>?_
    have h2:=((gH (aw g) k r'.right bz ha').1 (by omega)).2 x hx hn
    exact (fj g _ _ (ha' x hx hn)).2.2 k (by omega) h2
def Pn (h:List Int) (m:Nat):Int:=h.getD m 0
abbrev OX (P:List bk):List Int:=P.map bk.bE
theorem Mr (P:List bk) (m:Nat):Pn (OX P) m=(bj P m).bE:=by
  simp only[Pn,bj,List.getD_eq_getElem?_getD,List.getElem?_map]
  cases P[m]? <;> rfl
def Mb (P:List bk):Prop:=∀ m,(bt P m→1≤(bj P m).bE)∧(¬ bt P m→bj P m=ic)
theorem Mb.zero {P:List bk} (h:Mb P) (m:Nat):Pn (OX P) m=0↔¬ bt P m:=by
  rw[Mr]
  constructor
  · intro e k; have:=(h m).1 k; omega
  · intro k; rw[(h m).2 k]; rfl
theorem Cq {P:List bk} {x:Int} {l:List Int} {s:bk} (h:0≤x):bK P (x :: l) s=bK P l ⟨s.bd,s.bE,s.rules,min 1048576 (s.ax+1)⟩:=by rw[bK,if_pos h]
theorem yD {P:List bk} {x:Int} {l:List Int} {s:bk} (h:¬ 0≤x) (hk:¬ (bj P (bS x)).bd < 0):bK P (x :: l) s=bK P l ⟨s.bd,max s.bE (bj P (bS x)).bE,min 1048576 (s.rules+(bj P (bS x)).rules),min 1048576 (s.ax+(bj P (bS x)).ax)⟩:=by rw[bK,if_neg h,if_neg hk]
theorem Jd {P:List bk} {x:Int} {l:List Int} {s:bk} (h:¬ 0≤x) (hk:(bj P (bS x)).bd < 0):bK P (x :: l) s=(s,false):=by rw[bK,if_neg h,if_pos hk]
def qT (S:List (Int × Int)) (m:Nat):Int × Int:=S.getD m (0,0)
def vQ (p:bk):Int × Int:=(min 1000 p.rules,min 1000 p.ax)
def dL (p:bk):Prop:=(0≤p.rules∧p.rules≤1048576)∧(0≤p.ax∧p.ax≤1048576)
theorem qK {P:List bk} (hP:∀ m,dL (bj P m)):∀ (l:List Int) (s:bk),dL s→dL (bK P l s).1
  | [],s,h=>h
  | x :: l,s,h=>by
    have hx:=hP (bS x)
    unfold dL at h hx
    simp only[bK]
    split
    · exact qK hP l _ (by unfold dL; simp only; omega)
    · split
      · exact h
      · exact qK hP l _ (by unfold dL; simp only; omega)
theorem nQ:dL bz:=by unfold dL; simp[bz]
theorem IC:dL ic:=by unfold dL; simp[ic]
theorem ie (g:an):∀ k m,dL (bj (aG g k) m)
  | 0,m=>by
    have:bj (aG g 0) m=ic:=by
      simp only[aG,iter,bj,List.getD_eq_getElem?_getD,List.getElem?_replicate]
      split <;> rfl
    rw[this]; exact IC
  | k+1,m=>by
    by_cases h:bt (aG g (k+1)) m
    · by_cases h0:bt (aG g k) m
      · rw[(fJ h0 (Nat.le_succ k)).1]; exact ie g k m
      · obtain ⟨i,r,_,_,_,hp,_⟩:=jC (vT h0 h)
        rw[hp]
        have:=qK (ie g k) r.right bz nQ
        unfold dL at this ⊢
        simp only[fD]; omega
    · rw[kY h]; exact IC
def rz (g:an) (i:Int):List Int:=(g.rules.getD i.toNat ⟨0,[],0⟩).right
def dy (g:an) (P:List bk):Nat→List Int→List Int
  | 0,l=>l.flatMap fun x=>if 0≤x then [x] else []
  | f+1,l=>l.flatMap fun x=>if 0≤x then [x] else dy g P f (rz g (bj P (bS x)).bd)
def c8 (g:an) (P:List bk):Nat→List Int→List Int
  | 0,_=>[]
  | f+1,l=>l.flatMap fun x=>if 0≤x then [] else (bj P (bS x)).bd :: c8 g P f (rz g (bj P (bS x)).bd)
def zH (P:List bk) (f:Nat) (l:List Int):Prop:=∀ x∈l,x < 0→bt P (bS x)∧(bj P (bS x)).bE≤f
theorem oD (g:an) (P:List bk) (f:Nat):dy g P f []=[]:=by cases f <;> rfl
theorem rn (g:an) (P:List bk) (f:Nat):c8 g P f []=[]:=by cases f <;> rfl
theorem ib (g:an) (P:List bk) (f:Nat) (a b:List Int):dy g P f (a ++ b)=dy g P f a ++ dy g P f b:=by cases f <;> simp[dy]
theorem ik (g:an) (P:List bk) (f:Nat) (a b:List Int):c8 g P f (a ++ b)=c8 g P f a ++ c8 g P f b:=by cases f <;> simp[c8]
theorem jX {g:an} {P:List bk} {f:Nat} {x:Int} (h:0≤x):dy g P f [x]=[x]:=by cases f <;> simp[dy,h]
theorem l9 {g:an} {P:List bk} {f:Nat} {x:Int} (h:0≤x):c8 g P f [x]=[]:=by cases f <;> simp[c8,h]
theorem lJ {g:an} {P:List bk} {f:Nat} {x:Int} (h:x < 0):dy g P (f+1) [x]=dy g P f (rz g (bj P (bS x)).bd):=by
  simp[dy,show ¬ 0≤x by omega]
theorem ld {g:an} {P:List bk} {f:Nat} {x:Int} (h:x < 0):c8 g P (f+1) [x]=(bj P (bS x)).bd :: c8 g P f (rz g (bj P (bS x)).bd):=by
  simp[c8,show ¬ 0≤x by omega]
theorem AG {g:an} {l:List Int} (h:zH (aw g) 0 l):∀ x∈l,0≤x:=fun x hx=>by
  rcases Int.lt_or_le x 0 with h1 | h1
  · obtain ⟨a,b⟩:=h x hx h1
    have:=(iP a).1
    simp at b; omega
  · exact h1
theorem uz {g:an} {f:Nat} {m:Nat} (h:bt (aw g) m) (hh:(bj (aw g) m).bE≤(f:Int)+1):∃ (i:Nat) (r:aQ),(bj (aw g) m).bd=i∧g.rules[i]?=some r∧rz g (bj (aw g) m).bd=r.right∧zH (aw g) f r.right∧bj (aw g) m=fD (aw g) i r:=by
  obtain ⟨i,r,hr,hl,ha,hp,_⟩:=x7 h
  have hi:(bj (aw g) m).bd=i:=by rw[hp]; rfl
  have h2:(bj (aw g) m).bE=(bK (aw g) r.right bz).1.bE+1:=by rw[hp]; rfl
  have h1:=((gH (aw g) f r.right bz ha).1 (by omega)).2
  refine ⟨i,r,hi,hr,?_,fun x hx hn=>⟨ha x hx hn,h1 x hx hn⟩,hp⟩
  rw[hi]; simp[rz,List.getD_eq_getElem?_getD,hr]
theorem j4 {g:an} {f:Nat} (hc:∀ x,x < 0→bt (aw g) (bS x)→(bj (aw g) (bS x)).bE≤f→(bj (aw g) (bS x)).rules=min 1048576 ((c8 g (aw g) f [x]).length:Int)∧(bj (aw g) (bS x)).ax=min 1048576 ((dy g (aw g) f [x]).length:Int)) :
    ∀ (l:List Int) (s:bk),zH (aw g) f l→dL s→(bK (aw g) l s).1.rules=min 1048576 (s.rules+(c8 g (aw g) f l).length)∧(bK (aw g) l s).1.ax=min 1048576 (s.ax+(dy g (aw g) f l).length)
  | [],s,_,hs=>by
    unfold dL at hs
    rw[oD,rn]
    simp only[bK,List.length_nil]; omega
  | x :: l,s,hu,hs=>by
    have hu':zH (aw g) f l:=fun y hy=>hu y (by simp[hy])
    have e1:=ib g (aw g) f [x] l
    have e2:=ik g (aw g) f [x] l
    rw[List.singleton_append] at e1 e2
    rw[e1,e2,List.length_append,List.length_append]
    have hx:dL (bj (aw g) (bS x)):=ie g g.av.length (bS x)
    unfold dL at hs hx
    by_cases h0:0≤x
    · obtain ⟨i1,i2⟩:=j4 hc l ⟨s.bd,s.bE,s.rules,min 1048576 (s.ax+1)⟩ hu' (by unfold dL; simp only; omega)
      rw[Cq h0,i1,i2,jX h0,l9 h0]
      simp only[List.length_cons,List.length_nil]
      omega
    · obtain ⟨hk,hh⟩:=hu x (by simp) (by omega)
      obtain ⟨k1,k2⟩:=hc x (by omega) hk hh
      obtain ⟨i1,i2⟩:=j4 hc l ⟨s.bd,max s.bE (bj (aw g) (bS x)).bE,min 1048576 (s.rules+(bj (aw g) (bS x)).rules),min 1048576 (s.ax+(bj (aw g) (bS x)).ax)⟩ hu' (by unfold dL; simp only; omega)
      unfold bt at hk
      rw[yD h0 (by omega),i1,i2,k1,k2]
      push_cast
      omega
theorem wE (g:an):∀ (f:Nat) (l:List Int) (s:bk),zH (aw g) f l→dL s →
    (bK (aw g) l s).1.rules=min 1048576 (s.rules+(c8 g (aw g) f l).length)∧(bK (aw g) l s).1.ax=min 1048576 (s.ax+(dy g (aw g) f l).length)
  | 0,l,s,hu,hs=>j4 (fun x hx hk hh=>by have:=(iP hk).1; simp only[Int.natCast_zero] at hh; omega) l s hu hs
  | f+1,l,s,hu,hs=>j4 (fun x hx hk hh=>by
      obtain ⟨i,r,hi,hr,hra,hur,hp⟩:=uz (f:=f) hk (by push_cast at hh; exact hh)
      obtain ⟨j1,j2⟩:=wE g f r.right bz hur nQ
      have k1:(bj (aw g) (bS x)).rules=min 1048576 ((bK (aw g) r.right bz).1.rules+1):=by rw[hp]; rfl
      have k2:(bj (aw g) (bS x)).ax=(bK (aw g) r.right bz).1.ax:=by rw[hp]; rfl
      rw[lJ hx,ld hx,hra,k1,k2,j1,j2]
      simp only[List.length_cons,bz]
      push_cast
      omega) l s hu hs
theorem oc {g:an} {f:Nat} (hc:∀ x,x < 0→(dy g (aw g) f [x]).length≤6 * (c8 g (aw g) f [x]).length):∀ (l:List Int),(dy g (aw g) f l).length≤l.length+6 * (c8 g (aw g) f l).length
  | []=>by rw[oD]; simp
  | x :: l=>by
    have e1:=ib g (aw g) f [x] l
    have e2:=ik g (aw g) f [x] l
    rw[List.singleton_append] at e1 e2
    rw[e1,e2,List.length_append,List.length_append]
    have ih:=oc hc l
    by_cases h0:0≤x
    · rw[jX h0,l9 h0]
      simp only[List.length_cons,List.length_nil]; omega
    · have:=hc x (by omega)
      simp only[List.length_cons]; omega
theorem Mo {g:an} (hg:∀ r∈g.rules,r.right.length≤6) (i:Int):(rz g i).length≤6:=by
  simp only[rz,List.getD_eq_getElem?_getD]
  cases hr:g.rules[i.toNat]? with
  | none=>simp
  | some r=>simpa using hg r (List.mem_of_getElem? hr)
theorem BW {g:an} (hg:∀ r∈g.rules,r.right.length≤6):∀ (f:Nat) (l:List Int),(dy g (aw g) f l).length≤l.length+6 * (c8 g (aw g) f l).length
  | 0,l=>oc (fun x hx=>by simp[dy,show ¬ 0≤x by omega]) l
  | f+1,l=>oc (fun x hx=>by
      have i2:=BW hg f (rz g (bj (aw g) (bS x)).bd)
      have:=Mo hg (bj (aw g) (bS x)).bd
      rw[lJ hx,ld hx]
      simp only[List.length_cons]; omega) l
def gO (g:an) (n:Int):List Int × Int :=
  if (bp g && decide (0≤n) && decide (n < g.av.length))=true then
    (if (bj (aw g) n.toNat).bd < 0 then ([],9) else if 300 < (bj (aw g) n.toNat).rules then ([],13) else (c8 g (aw g) g.av.length [-1 - n],0))
  else ([],1)
def oZ (p:List Int) (i:Nat) (s:Int):Prop:=∃ c,p[i]?=some c∧(c=s∨c = -1)
inductive Sp (g:an) (p:List Int):List Int→Nat→Nat→Prop
  | nil (i:Nat):Sp g p [] i i
  | term (s:Int) (l:List Int) (i j:Nat):0≤s→oZ p i s→Sp g p l (i+1) j→Sp g p (s :: l) i j
  | bU (s:Int) (l:List Int) (R:aQ) (i k j:Nat):s < 0→R∈g.rules→R.left = -1 - s→Sp g p R.right i k→Sp g p l k j→Sp g p (s :: l) i j
theorem Sp.le {g:an} {p:List Int} {l:List Int} {i j:Nat} (h:Sp g p l i j):i≤j:=by
  induction h with
  | nil=>exact Nat.le_refl _
  | term _ _ _ _ _ _ _ ih=>omega
  | bU _ _ _ _ _ _ _ _ _ _ _ ih1 ih2=>omega
theorem Sp.len {g:an} {p:List Int} {l:List Int} {i j:Nat} (h:Sp g p l i j):i≤p.length→j≤p.length:=by
  induction h with
  | nil=>exact id
  | term _ _ i _ _ hf _ ih =>
    intro _
    obtain ⟨c,hc,_⟩:=hf
    have:=(List.getElem?_eq_some_iff.1 hc).1
    exact ih (by omega)
  | bU _ _ _ _ _ _ _ _ _ _ _ ih1 ih2=>exact fun h=>ih2 (ih1 h)
theorem Sp.app {g:an} {p:List Int} {a:List Int} {i k:Nat} (h:Sp g p a i k):∀ {b:List Int} {j:Nat},Sp g p b k j→Sp g p (a ++ b) i j:=by
  induction h with
  | nil=>exact fun h=>h
  | term s l i _ h0 hf _ ih=>exact fun hb=>.term s _ i _ h0 hf (ih hb)
  | bU s l R i k _ h0 hR hl h1 _ _ ih2=>exact fun hb=>.bU s _ R i k _ h0 hR hl h1 (ih2 hb)
theorem Sp.split {g:an} {p:List Int} : ∀ {a b:List Int} {i j:Nat},Sp g p (a ++ b) i j→∃ k,Sp g p a i k∧Sp g p b k j
  | [],b,i,j,h=>⟨i,.nil i,h⟩
  | s :: a,b,i,j,h=>by
    cases h with
    | term _ _ _ _ h0 hf h =>
      obtain ⟨k,h1,h2⟩:=Sp.split h
      exact ⟨k,.term s a i k h0 hf h1,h2⟩
    | bU _ _ R _ m _ h0 hR hl h1 h =>
      obtain ⟨k,h2,h3⟩:=Sp.split h
      exact ⟨k,.bU s a R i m k h0 hR hl h1 h2,h3⟩
structure Item where
  bd:Nat
  dot:Nat
  k9:Nat
  deriving DecidableEq
def Sound (g:an) (p:List Int) (at_:Nat) (x:Item):Prop:=∃ R,g.rules[x.bd]?=some R∧x.dot≤R.right.length∧x.k9≤at_∧Sp g p (R.right.take x.dot) x.k9 at_
structure Ql (g:an) (p:List Int) (S:Nat→List Item):Prop where
  start:∀ (i:Nat) (R:aQ),g.rules[i]?=some R→R.left=g.start→⟨i,0,0⟩∈S 0
  term:∀ a x R s,x∈S a→g.rules[x.bd]?=some R→R.right[x.dot]?=some s→0≤s→oZ p a s→⟨x.bd,x.dot+1,x.k9⟩∈S (a+1)
  pred:∀ a x R s i R',x∈S a→g.rules[x.bd]?=some R→R.right[x.dot]?=some s→s < 0→g.rules[i]?=some R'→R'.left = -1 - s→a≤p.length→⟨i,0,a⟩∈S a
  null:∀ a x R s,x∈S a→g.rules[x.bd]?=some R→R.right[x.dot]?=some s→s < 0→(aJ g false).getD (-1 - s).toNat false=true→a≤p.length→⟨x.bd,x.dot+1,x.k9⟩∈S a
  comp:∀ a y R' x R s,y∈S a→g.rules[y.bd]?=some R'→y.dot=R'.right.length→y.k9 < a→x∈S y.k9→g.rules[x.bd]?=some R→R.right[x.dot]?=some s→s < 0→R'.left = -1 - s→a≤p.length→⟨x.bd,x.dot+1,x.k9⟩∈S a
inductive In (p:List Int) (T:Nat→Nat→Nat→Prop):List Int→Nat→Nat→Prop
  | nil (i:Nat):In p T [] i i
  | term (s:Int) (l:List Int) (i j:Nat):0≤s→oZ p i s→In p T l (i+1) j→In p T (s :: l) i j
  | bU (s:Int) (l:List Int) (i k j:Nat):s < 0→T (-1 - s).toNat i k→In p T l k j→In p T (s :: l) i j
theorem L0 {g:an} {p:List Int} {T:Nat→Nat→Nat→Prop} (hT:∀ n i j,T n i j→Sp g p [-1 - (n:Int)] i j) {l:List Int} {i j:Nat} (h:In p T l i j):Sp g p l i j:=by
  induction h with
  | nil i=>exact .nil i
  | term s l i j h0 hf _ ih=>exact .term s l i j h0 hf ih
  | bU s l i k j h0 h1 _ ih =>
    have:=hT _ _ _ h1
    rw[show -1 - (((-1 - s).toNat:Nat):Int)=s by omega] at this
    exact Sp.app this ih
theorem PB {g:an} (hf:∀ r∈g.rules,0≤r.left) {p:List Int} {T:Nat→Nat→Nat→Prop} (hT:∀ R∈g.rules,∀ i j,i≤p.length→In p T R.right i j→T R.left.toNat i j) {l:List Int} {i j:Nat} (h:Sp g p l i j):i≤p.length→In p T l i j:=by
  induction h with
  | nil i=>intro _; exact .nil i
  | term s l i j h0 hfi _ ih =>
    intro _
    obtain ⟨c,hc,hcs⟩:=hfi
    have:=(List.getElem?_eq_some_iff.1 hc).1
    exact .term s l i j h0 ⟨c,hc,hcs⟩ (ih (by omega))
  | bU s l R i k j h0 hR hl h1 _ ih1 ih2 =>
    intro hp
    have:=hT R hR i k hp (ih1 hp)
    rw[hl] at this
    exact .bU s l i k j h0 this (ih2 (h1.len hp))
theorem Hv {g:an} (hf:∀ r∈g.rules,0≤r.left) {p:List Int} {T:Nat→Nat→Nat→Prop} (hs:∀ n i j,T n i j→Sp g p [-1 - (n:Int)] i j) (hc:∀ R∈g.rules,∀ i j,i≤p.length→In p T R.right i j→T R.left.toNat i j) {n i j:Nat} (hi:i≤p.length) :
    T n i j↔Sp g p [-1 - (n:Int)] i j:=by
  refine ⟨hs n i j,fun h=>?_⟩
  cases h with
  | term _ _ _ _ h0 _ _=>omega
  | bU _ _ R _ k _ h0 hR hl h1 h2 =>
    cases h2
    have:=hc R hR i _ hi (PB hf hc h1 hi)
    rw[show R.left.toNat=n by omega] at this
    exact this
inductive gJ (g:an):List Int→List Int→List Int→Prop
  | nil:gJ g [] [] []
  | term (s:Int) (l t w:List Int):0≤s→gJ g l t w→gJ g (s :: l) t (s :: w)
  | bU (s:Int) (l:List Int) (k:Nat) (R:aQ) (t1 w1 t w:List Int):s < 0→g.rules[k]?=some R→R.left = -1 - s→gJ g R.right t1 w1→gJ g l t w→gJ g (s :: l) (((k:Int) :: t1) ++ t) (w1 ++ w)
theorem gJ.app {g:an} {a t w:List Int} (h:gJ g a t w) {b t' w':List Int} (k:gJ g b t' w'):gJ g (a ++ b) (t ++ t') (w ++ w'):=by
  induction h with
  | nil=>exact k
  | term s l t w h0 _ ih=>exact .term s _ _ _ h0 ih
  | bU s l k R t1 w1 t w h0 hR hl h1 _ _ ih =>
    have:=gJ.bU s _ k R t1 w1 _ _ h0 hR hl h1 ih
    simpa using this
structure Wk where
  rest:List Int
  word:List Int
  post:List Int
  high:Nat
def qP (s:Int) (x:Wk):Wk:=⟨x.rest,s :: x.word,x.post,x.high⟩
def pt (t:Int) (x y:Wk):Wk:=⟨y.rest,x.word ++ y.word,x.post ++ (t :: y.post),max (x.high+1) y.high⟩
def dK (g:an) (t:Int):Option aQ:=if 0≤t then g.rules[t.toNat]? else none
def bF (g:an):Nat→List Int→List Int→Option Wk
  | _,[],rest=>some ⟨rest,[],[],0⟩
  | f,s :: l,rest=>if 0≤s then (bF g f l rest).map (qP s) else
    match f,rest with
    | f+1,t :: rest=>match dK g t with
      | some R=>if R.left = -1 - s then (match bF g f R.right rest with
        | some x=>(bF g (f+1) l x.rest).map (pt t x)
        | none=>none) else none
      | none=>none
    | _,_=>none
termination_by f l _=>(f,l.length)
theorem dO (g:an) (f:Nat) (rest:List Int):bF g f [] rest=some ⟨rest,[],[],0⟩:=by rw[bF.eq_def]
theorem fG {g:an} {f:Nat} {s:Int} {l rest:List Int} (h:0≤s):bF g f (s :: l) rest=(bF g f l rest).map (qP s):=by
  rw[bF.eq_def]; simp only[if_pos h]
theorem j0 {g:an} {s:Int} {l rest:List Int} (h:s < 0):bF g 0 (s :: l) rest=none:=by
  rw[bF.eq_def]; simp only[if_neg (show ¬ 0≤s by omega)]
theorem fT {g:an} {f:Nat} {s:Int} {l:List Int} (h:s < 0):bF g f (s :: l) []=none:=by
  rw[bF.eq_def]; simp only[if_neg (show ¬ 0≤s by omega)]
theorem dU {g:an} {f:Nat} {s t:Int} {l rest:List Int} (h:s < 0):bF g (f+1) (s :: l) (t :: rest)=match dK g t with
      | some R=>if R.left = -1 - s then (match bF g f R.right rest with
        | some x=>(bF g (f+1) l x.rest).map (pt t x)
        | none=>none) else none
      | none=>none:=by
  rw[bF.eq_def]; simp only[if_neg (show ¬ 0≤s by omega)]
def nR (x y:Wk):Wk:=⟨y.rest,x.word ++ y.word,x.post ++ y.post,max x.high y.high⟩
theorem lF (g:an) (f:Nat):∀ (a b rest:List Int),bF g f (a ++ b) rest=match bF g f a rest with
    | some x=>(bF g f b x.rest).map (nR x)
    | none=>none
  | [],b,rest=>by
    rw[dO]
    simp only[List.nil_append]
    cases bF g f b rest <;> simp[nR]
  | s :: a,b,rest=>by
    by_cases h:0≤s
    · rw[List.cons_append,fG h,fG h,lF g f a b rest]
      cases bF g f a rest with
      | none=>rfl
      | some x =>
        simp only[Option.map_some,qP]
        cases bF g f b x.rest <;> simp[nR,qP]
    · cases f with
      | zero=>rw[List.cons_append,j0 (by omega),j0 (by omega)]
      | succ f =>
        cases rest with
        | nil=>rw[List.cons_append,fT (by omega),fT (by omega)]
        | cons t rest =>
          rw[List.cons_append,dU (by omega),dU (by omega)]
          cases dK g t with
          | none=>rfl
          | some R =>
            simp only
            split
            · cases bF g f R.right rest with
              | none=>rfl
              | some x =>
                simp only
                rw[lF g (f+1) a b x.rest]
                cases bF g (f+1) a x.rest with
                | none=>rfl
                | some y =>
                  simp only[Option.map_some,pt]
                  cases bF g (f+1) b y.rest <;> simp[pt,nR,Nat.max_assoc]
            · rfl
theorem qa {g:an} (hg:∀ r∈g.rules,r.right.length≤6):∀ (f:Nat) (l rest:List Int) (x:Wk),bF g f l rest=some x→x.rest.length≤rest.length∧x.post.length+x.rest.length=rest.length∧x.word.length+6 * x.rest.length≤l.length+6 * rest.length∧x.high≤f:=by
  intro f
  induction f with
  | zero =>
    intro l
    induction l with
    | nil=>intro rest x h; rw[dO] at h; simp at h; subst h; simp
    | cons s l ih =>
      intro rest x h
      by_cases hs:0≤s
      · rw[fG hs] at h
        cases hw:bF g 0 l rest with
        | none=>rw[hw] at h; simp at h
        | some y =>
          rw[hw] at h; simp at h; subst h
          have:=ih rest y hw
          simp[qP]; omega
      · rw[j0 (by omega)] at h; simp at h
  | succ f ihf =>
    intro l
    induction l with
    | nil=>intro rest x h; rw[dO] at h; simp at h; subst h; simp
    | cons s l ih =>
      intro rest x h
      by_cases hs:0≤s
      · rw[fG hs] at h
        cases hw:bF g (f+1) l rest with
        | none=>rw[hw] at h; simp at h
        | some y =>
          rw[hw] at h; simp at h; subst h
          have:=ih rest y hw
          simp[qP]; omega
      · cases rest with
        | nil=>rw[fT (by omega)] at h; simp at h
        | cons t rest =>
          rw[dU (by omega)] at h
          cases hr:dK g t with
          | none=>rw[hr] at h; simp at h
          | some R =>
            rw[hr] at h
            simp only at h
            split at h
            · cases hw:bF g f R.right rest with
              | none=>rw[hw] at h; simp at h
              | some y =>
                rw[hw] at h
                simp only at h
                cases hz:bF g (f+1) l y.rest with
                | none=>rw[hz] at h; simp at h
                | some z =>
                  rw[hz] at h; simp at h; subst h
                  have h1:=ihf R.right rest y hw
                  have h2:=ih y.rest z hz
                  have h3:R.right.length≤6:=by
                    unfold dK at hr
                    split at hr
                    · exact hg R (List.mem_of_getElem? hr)
                    · simp at hr
                  simp[pt]; omega
            · simp at h
theorem KJ {g:an} {l t w:List Int} (h:gJ g l t w):∀ (f:Nat) (rest:List Int),t.length≤f→∃ x,bF g f l (t ++ rest)=some x∧x.rest=rest∧x.word=w:=by
  induction h with
  | nil=>exact fun f rest _=>⟨_,dO _ _ _,rfl,rfl⟩
  | term s l t w h0 _ ih =>
    intro f rest hf
    obtain ⟨x,h1,h2,h3⟩:=ih f rest hf
    exact ⟨qP s x,by rw[fG h0,h1]; rfl,h2,by rw[qP,h3]⟩
  | bU s l k R t1 w1 t w h0 hR hl _ _ ih1 ih2 =>
    intro f rest hf
    obtain ⟨f,rfl⟩:∃ f',f=f'+1:=⟨f - 1,by simp at hf; omega⟩
    obtain ⟨x,h1,h2,h3⟩:=ih1 f (t ++ rest) (by simp at hf; omega)
    obtain ⟨y,h4,h5,h6⟩:=ih2 (f+1) rest (by simp at hf; omega)
    refine ⟨pt k x y,?_,h5,by rw[pt,h3,h6]⟩
    rw[List.cons_append,List.cons_append,List.append_assoc,dU h0]
    have:dK g (k:Int)=some R:=by rw[dK,if_pos (by omega)]; simpa using hR
    rw[this]
    simp only
    rw[if_pos hl,h1]
    simp only
    rw[h2,h4]; rfl
theorem Pb {g:an} {l t w:List Int} (h:gJ g l t w):∀ (a b:List Int),Sp g (a ++ w ++ b) l a.length (a.length+w.length):=by
  induction h with
  | nil=>exact fun a b=>.nil _
  | term s l t w h0 _ ih =>
    intro a b
    refine .term s l a.length _ h0 ⟨s,by simp,.inl rfl⟩ ?_
    have:=ih (a ++ [s]) b
    simp only[List.length_append,List.length_cons,List.length_nil,Nat.zero_add,List.append_assoc,List.cons_append,List.nil_append] at this ⊢
    rw[show a.length+(w.length+1)=a.length+1+w.length by omega]
    exact this
  | bU s l k R t1 w1 t w h0 hR hl _ _ ih1 ih2 =>
    intro a b
    have e1:=ih1 a (w ++ b)
    have e2:=ih2 (a ++ w1) b
    simp only[List.length_append,List.append_assoc] at e1 e2 ⊢
    rw[← Nat.add_assoc]
    exact .bU s l R a.length (a.length+w1.length) _ h0 (List.mem_of_getElem? hR) hl e1 e2
theorem IJ {g:an} (hleft:∀ r∈g.rules,0≤r.left):∀ (f:Nat) (l:List Int),zH (aw g) f l→gJ g l (c8 g (aw g) f l) (dy g (aw g) f l):=by
  intro f
  induction f with
  | zero =>
    intro l
    induction l with
    | nil=>intro _; rw[rn,oD]; exact .nil
    | cons s l ih =>
      intro h
      have h0:=AG h s (by simp)
      have e1:=ik g (aw g) 0 [s] l
      have e2:=ib g (aw g) 0 [s] l
      rw[List.singleton_append] at e1 e2
      rw[e1,e2,l9 h0,jX h0]
      exact .term s l _ _ h0 (ih fun x hx=>h x (by simp[hx]))
  | succ f ihf =>
    intro l
    induction l with
    | nil=>intro _; rw[rn,oD]; exact .nil
    | cons s l ih =>
      intro h
      have hl:=ih fun x hx=>h x (by simp[hx])
      have e1:=ik g (aw g) (f+1) [s] l
      have e2:=ib g (aw g) (f+1) [s] l
      rw[List.singleton_append] at e1 e2
      rw[e1,e2]
      by_cases h0:0≤s
      · rw[l9 h0,jX h0]
        exact .term s l _ _ h0 hl
      · obtain ⟨hk,hh⟩:=h s (by simp) (by omega)
        obtain ⟨i,R,hi,hR,hra,hur,hlf⟩:=uz (f:=f) hk (by push_cast at hh; exact hh)
        rw[ld (by omega),lJ (by omega),hra,hi]
        have hRl:R.left = -1 - s:=by
          obtain ⟨i',r',hr',hl',_,hp',_⟩:=x7 hk
          have:(i':Int)=i:=by rw[← hi,hp']; rfl
          have:i'=i:=by omega
          subst this
          rw[hR] at hr'
          simp at hr'; subst hr'
          have:=hleft R (List.mem_of_getElem? hR)
          unfold bS at hl'
          omega
        exact .bU s l i R _ _ _ _ (by omega) hR hRl (ihf R.right hur) hl
structure Way where
  bU:Int
  bd:Int
  place:Int
def bR (F:List Way):List Int:=F.map Way.bU
def ks (k j s:Int) (F:List Way):List Way:=if s < 0∧-1 - s ∉ bR F then F ++ [⟨-1 - s,k,j⟩] else F
def ji (k:Int):Int→List Int→List Way→List Way
  | _,[],F=>F
  | j,s :: l,F=>ji k (j+1) l (ks k j s F)
def ml (n k:Int) (R:aQ) (F:List Way):List Way:=if R.left=n then ji k 0 R.right F else F
def fW (n:Int):Int→List aQ→List Way→List Way
  | _,[],F=>F
  | k,R :: l,F=>fW n (k+1) l (ml n k R F)
def eH (g:an):Nat→List Way
  | 0=>[⟨g.start,-1,0⟩]
  | i+1=>match (eH g i)[i]? with
    | some x=>fW x.bU 0 g.rules (eH g i)
    | none=>eH g i
def fH (g:an):List Way:=eH g g.av.length
theorem Ax (k s:Int):∀ (l:List Int) (j:Int) (F:List Way),ji k j (l ++ [s]) F=ks k (j+l.length) s (ji k j l F)
  | [],j,F=>by simp[ji]
  | x :: l,j,F=>by
    rw[List.cons_append,ji,Ax k s l,ji,List.length_cons]
    congr 1
    push_cast; omega
theorem xY (n:Int) (R:aQ):∀ (l:List aQ) (k:Int) (F:List Way),fW n k (l ++ [R]) F=ml n (k+l.length) R (fW n k l F)
  | [],k,F=>by simp[fW]
  | x :: l,k,F=>by
    rw[List.cons_append,fW,xY n R l,fW,List.length_cons]
    congr 1
    push_cast; omega
structure du (g:an) (F:List Way):Prop where
  first:F[0]?=some ⟨g.start,-1,0⟩
  nodup:(bR F).Nodup
  from_:∀ i x,F[i]?=some x→0 < i→∃ (k j:Nat) (R:aQ),x.bd=(k:Int)∧x.place=(j:Int)∧g.rules[k]?=some R∧R.right[j]?=some (-1 - x.bU)∧0≤x.bU∧∃ m y,m < i∧F[m]?=some y∧y.bU=R.left
theorem du.pre {g:an} {F:List Way} (h:du g F) {i m:Nat} {x:Way} (hx:F[i]?=some x) (w:Way):(F ++ [w])[i]?=some x:=by
  rw[List.getElem?_append_left (List.getElem?_eq_some_iff.1 hx).1]; exact hx
theorem E3 {g:an} {F:List Way} {k j m:Nat} {R:aQ} {s:Int} {y:Way} (h:du g F) (hR:g.rules[k]?=some R) (hs:R.right[j]?=some s) (hm:F[m]?=some y) (hy:y.bU=R.left):du g (ks k j s F):=by
  unfold ks
  split
  · rename_i hc
    refine ⟨?_,?_,fun i x hx hi=>?_⟩
    · rw[List.getElem?_append_left (List.getElem?_eq_some_iff.1 h.first).1]; exact h.first
    · rw[bR,List.map_append,List.nodup_append]
      refine ⟨h.nodup,by simp,fun a ha b hb e=>?_⟩
      simp at hb
      subst hb; subst e
      exact hc.2 ha
    · by_cases hl:i < F.length
      · rw[List.getElem?_append_left hl] at hx
        obtain ⟨k',j',R',h1,h2,h3,h4,h5,m',y',h6,h7,h8⟩:=h.from_ i x hx hi
        exact ⟨k',j',R',h1,h2,h3,h4,h5,m',y',h6,by rw[List.getElem?_append_left (by omega)]; exact h7,h8⟩
      · have hi':i=F.length:=by
          have:=(List.getElem?_eq_some_iff.1 hx).1
          simp at this; omega
        subst hi'
        simp at hx; subst hx
        have hml:=(List.getElem?_eq_some_iff.1 hm).1
        exact ⟨k,j,R,rfl,rfl,hR,by rw[hs]; congr 1; simp only; omega,by simp only; omega,m,y,hml,by rw[List.getElem?_append_left hml]; exact hm,hy⟩
  · exact h
theorem JN (k j s:Int) (F:List Way):∃ l,ks k j s F=F ++ l:=by
  unfold ks
  split
  · exact ⟨_,rfl⟩
  · exact ⟨[],by simp⟩
theorem LB (k j s:Int) (F:List Way) (hs:s < 0) : -1 - s∈bR (ks k j s F):=by
  unfold ks
  split
  · simp[bR]
  · rename_i hc
    apply Decidable.byContradiction
    intro h
    exact hc ⟨hs,h⟩
theorem xP {F l:List Way} {i:Nat} {x:Way} (h:F[i]?=some x):(F ++ l)[i]?=some x:=by
  rw[List.getElem?_append_left (List.getElem?_eq_some_iff.1 h).1]; exact h
theorem yL {F l:List Way} {n:Int} (h:n∈bR F):n∈bR (F ++ l):=by
  simp only[bR,List.map_append,List.mem_append]
  exact .inl h
theorem Dr {g:an} {k m:Nat} {R:aQ} {y:Way} (hR:g.rules[k]?=some R) (hy:y.bU=R.left):∀ (l:List Int) (j:Nat) (F:List Way),R.right.drop j=l→du g F→F[m]?=some y →
    du g (ji k j l F)∧(∃ e,ji k j l F=F ++ e)∧∀ s∈l,s < 0→-1 - s∈bR (ji k j l F)
  | [],j,F,_,h,_=>⟨h,⟨[],by simp[ji]⟩,by simp⟩
  | s :: l,j,F,hd,h,hm=>by
    have hs:R.right[j]?=some s:=by
      have:=List.getElem?_drop (xs:=R.right) (i:=j) (j:=0)
      rw[hd] at this
      simpa using this.symm
    have hd':R.right.drop (j+1)=l:=by rw[← List.drop_drop,hd]; rfl
    obtain ⟨e1,h1⟩:=JN k j s F
    have ho:=E3 h hR hs hm hy
    have hm':(ks k j s F)[m]?=some y:=by rw[h1]; exact xP hm
    obtain ⟨a,⟨e2,b⟩,c⟩:=Dr hR hy l (j+1) (ks k j s F) hd' ho hm'
    rw[ji]
    push_cast at a b c
    refine ⟨a,⟨e1 ++ e2,by rw[b,h1,List.append_assoc]⟩,fun x hx hn=>?_⟩
    rcases List.mem_cons.1 hx with rfl | hx
    · rw[b]
      exact yL (LB _ _ _ _ hn)
    · exact c x hx hn
theorem CB {g:an} {m:Nat} {y:Way} : ∀ (l:List aQ) (k:Nat) (F:List Way),g.rules.drop k=l→du g F→F[m]?=some y →
    du g (fW y.bU k l F)∧(∃ e,fW y.bU k l F=F ++ e)∧∀ R∈l,R.left=y.bU→∀ s∈R.right,s < 0→-1 - s∈bR (fW y.bU k l F)
  | [],k,F,_,h,_=>⟨h,⟨[],by simp[fW]⟩,by simp⟩
  | R :: l,k,F,hd,h,hm=>by
    have hR:g.rules[k]?=some R:=by
      have:=List.getElem?_drop (xs:=g.rules) (i:=k) (j:=0)
      rw[hd] at this
      simpa using this.symm
    have hd':g.rules.drop (k+1)=l:=by rw[← List.drop_drop,hd]; rfl
    have h0:du g (ml y.bU k R F)∧(∃ e,ml y.bU k R F=F ++ e)∧(R.left=y.bU→∀ s∈R.right,s < 0→-1 - s∈bR (ml y.bU k R F)):=by
      unfold ml
      split
      · rename_i hl
        have:=Dr hR hl.symm R.right 0 F (by simp) h hm
        exact ⟨this.1,this.2.1,fun _=>this.2.2⟩
      · rename_i hl
        exact ⟨h,⟨[],by simp⟩,fun e=>absurd e hl⟩
    obtain ⟨ho,⟨e1,h1⟩,hk⟩:=h0
    have hm':(ml y.bU k R F)[m]?=some y:=by rw[h1]; exact xP hm
    obtain ⟨a,⟨e2,b⟩,c⟩:=CB l (k+1) (ml y.bU k R F) hd' ho hm'
    rw[fW]
    push_cast at a b c
    refine ⟨a,⟨e1 ++ e2,by rw[b,h1,List.append_assoc]⟩,fun x hx hl s hs hn=>?_⟩
    rcases List.mem_cons.1 hx with rfl | hx
    · rw[b]
      exact yL (hk hl s hs hn)
    · exact c x hx hl s hs hn
def AQ (g:an) (F:List Way) (i:Nat):Prop:=∀ m y,m < i→F[m]?=some y→∀ R∈g.rules,R.left=y.bU→∀ s∈R.right,s < 0→-1 - s∈bR F
theorem EB (g:an):∀ i,du g (eH g i)∧AQ g (eH g i) i
  | 0=>⟨⟨rfl,by simp[eH,bR],fun i x hx hi=>by
      cases i with
      | zero=>omega
      | succ i=>simp[eH] at hx⟩,fun m y hm=>by omega⟩
  | i+1=>by
    obtain ⟨h1,h2⟩:=EB g i
    rw[eH]
    cases hx:(eH g i)[i]? with
    | none =>
      simp only
      refine ⟨h1,fun m y hm hy=>?_⟩
      have:=(List.getElem?_eq_some_iff.1 hy).1
      have:=List.getElem?_eq_none_iff.1 hx
      exact h2 m y (by omega) hy
    | some x =>
      simp only
      obtain ⟨a,⟨e,b⟩,c⟩:=CB (g:=g) g.rules 0 (eH g i) (by simp) h1 hx
      simp only[Int.natCast_zero] at a b c
      refine ⟨a,fun m y hm hy R hR hl s hs hn=>?_⟩
      by_cases hmi:m=i
      · subst hmi
        rw[b,xP hx] at hy
        simp at hy; subst hy
        exact c R hR hl s hs hn
      · have hml:m < (eH g i).length:=by
          have:=(List.getElem?_eq_some_iff.1 hx).1
          omega
        have hy':(eH g i)[m]?=some y:=by
          rw[b,List.getElem?_append_left hml] at hy; exact hy
        rw[b]
        exact yL (h2 m y (by omega) hy' R hR hl s hs hn)
theorem DR {g:an} {i:Nat} (h:(eH g i).length≤i):∀ d,eH g (i+d)=eH g i
  | 0=>rfl
  | d+1=>by
    have ih:=DR h d
    rw[← Nat.add_assoc,eH,ih,List.getElem?_eq_none (by omega)]
theorem du.inside {g:an} {F:List Way} (h:du g F) (h0:0≤g.start∧g.start < g.av.length) (hs:∀ R∈g.rules,∀ s∈R.right,s < 0→-1 - s < g.av.length):∀ n∈bR F,0≤n∧n < g.av.length:=by
  intro n hn
  simp only[bR,List.mem_map] at hn
  obtain ⟨x,hx,rfl⟩:=hn
  obtain ⟨i,hi⟩:=List.mem_iff_getElem?.1 hx
  by_cases hi0:i=0
  · subst hi0
    rw[h.first] at hi
    simp at hi; subst hi
    exact h0
  · obtain ⟨k,j,R,_,_,h3,h4,h5,_⟩:=h.from_ i x hi (by omega)
    have:=hs R (List.mem_of_getElem? h3) _ (List.mem_of_getElem? h4) (by omega)
    omega
theorem du.len {g:an} {F:List Way} (h:du g F) (h0:0≤g.start∧g.start < g.av.length) (hs:∀ R∈g.rules,∀ s∈R.right,s < 0→-1 - s < g.av.length):F.length≤g.av.length:=by
  have:=pC h.nodup (h.inside h0 hs)
  simpa [bR] using this
theorem Mn {g:an} (h0:0≤g.start∧g.start < g.av.length) (hs:∀ R∈g.rules,∀ s∈R.right,s < 0→-1 - s < g.av.length):du g (fH g)∧AQ g (fH g) (fH g).length:=by
  obtain ⟨h1,h2⟩:=EB g g.av.length
  refine ⟨h1,fun m y hm hy=>?_⟩
  have:=h1.len h0 hs
  exact h2 m y (by unfold fH at hm; omega) hy
def lookW (F:List Way) (n:Int):Option Way:=F.find? fun x=>x.bU == n
def dF (F:List Way) (n:Int):Nat:=F.findIdx fun x=>x.bU == n
theorem E8 {F:List Way} {n:Int} (h:n∈bR F):∃ x,lookW F n=some x∧F[dF F n]?=some x∧x.bU=n:=by
  induction F with
  | nil=>simp[bR] at h
  | cons y F ih =>
    by_cases e:y.bU=n
    · exact ⟨y,by simp[lookW,e],by simp[dF,List.findIdx_cons,e],e⟩
    · have h':n∈bR F:=by
        simp only[bR,List.map_cons,List.mem_cons] at h ⊢
        rcases h with h | h
        · exact absurd h.symm e
        · exact h
      obtain ⟨x,h1,h2,h3⟩:=ih h'
      refine ⟨x,by simpa [lookW,e] using h1,?_,h3⟩
      have:dF (y :: F) n=dF F n+1:=by simp[dF,List.findIdx_cons,show (y.bU == n)=false by simpa using e]
      rw[this]; simpa using h2
theorem O6 {F:List Way} {n:Int} {m:Nat} {y:Way} (h:F[m]?=some y) (hy:y.bU=n):dF F n≤m:=by
  induction F generalizing m with
  | nil=>simp at h
  | cons x F ih =>
    by_cases e:x.bU=n
    · simp[dF,List.findIdx_cons,e]
    · cases m with
      | zero=>simp at h; subst h; exact absurd hy e
      | succ m =>
        have:=ih (m:=m) (by simpa using h)
        have:dF (x :: F) n=dF F n+1:=by simp[dF,List.findIdx_cons,show (x.bU == n)=false by simpa using e]
        omega
theorem wW {g:an} {F:List Way} (h:du g F) {n:Int} (hn:n∈bR F) (hs:n≠g.start):∃ (k j:Nat) (R:aQ),lookW F n=some ⟨n,k,j⟩∧g.rules[k]?=some R∧R.right[j]?=some (-1 - n)∧0≤n∧R.left∈bR F∧dF F R.left < dF F n:=by
  obtain ⟨x,h1,h2,h3⟩:=E8 hn
  have hi:0 < dF F n:=by
    apply Nat.pos_of_ne_zero
    intro e
    rw[e,h.first] at h2
    simp at h2; subst h2
    exact hs h3.symm
  obtain ⟨k,j,R,a,b,c,d,e,m,y,f1,f2,f3⟩:=h.from_ _ x h2 hi
  refine ⟨k,j,R,?_,c,by rw[d,h3],by omega,?_,?_⟩
  · rw[h1]
    cases x
    simp at a b h3
    subst a; subst b; subst h3; rfl
  · rw[← f3]
    exact List.mem_map.2 ⟨y,List.mem_of_getElem? f2,rfl⟩
  · exact Nat.lt_of_le_of_lt (O6 f2 f3) f1
theorem mU {g:an} {F:List Way} (h:du g F):lookW F g.start=some ⟨g.start,-1,0⟩:=by
  have:=h.first
  cases F with
  | nil=>simp at this
  | cons y F=>simp at this; subst this; simp[lookW]
theorem Ni {g:an} {F:List Way} (h:du g F) (hc:AQ g F F.length) {p:List Bool} {n:Int} (hr:m4 g p n):n∈bR F:=by
  induction hr with
  | start=>exact List.mem_map.2 ⟨_,List.mem_of_getElem? h.first,rfl⟩
  | next R s hR _ _ hs hn ih =>
    simp only[bR,List.mem_map] at ih
    obtain ⟨y,hy,e⟩:=ih
    obtain ⟨m,hm⟩:=List.mem_iff_getElem?.1 hy
    exact hc m y (List.getElem?_eq_some_iff.1 hm).1 hm R hR e.symm s hs hn
def cD (g:an) (place:Int) (inner:List Int):Int→List Int→Option (List Int)
  | _,[]=>some []
  | i,s :: l=>if 0≤s then cD g place inner (i+1) l
    else if i=place then (cD g place inner (i+1) l).map (inner ++ ·)
    else if (gO g (-1 - s)).2=0 then (cD g place inner (i+1) l).map ((gO g (-1 - s)).1 ++ ·) else none
def eU (g:an) (bd place:Int) (inner:List Int):List Int × Bool:=match cD g place inner 0 (rz g bd) with
  | some l=>(bd :: l,decide ((bd :: l).length≤300))
  | none=>([],false)
def w5 (g:an) (k:Int):Int:=(g.rules.getD k.toNat ⟨0,[],0⟩).left
def cy (g:an) (F:List Way):Nat→Int→List Int × Bool→List Int × Bool
  | 0,_,x=>x
  | f+1,n,x=>if x.2=true then (match lookW F n with
    | some w=>if 0≤w.bd then cy g F f (w5 g w.bd) (eU g w.bd w.place x.1) else x
    | none=>x) else x
def eF (g:an) (t:List Int):Option Wk:=if bp g=true∧t.length≤300 then (match bF g t.length [-1 - g.start] t with
    | some x=>if x.rest=[] then some x else none
    | none=>none) else none
def iY (g:an) (t:List Int):List Int × Int:=match eF g t with
  | some x=>(x.word,0)
  | none=>([],1)
def eD (g:an) (i:Int):List Int × Bool:=cy g (fH g) (dF (fH g) (w5 g i)) (w5 g i) (eU g i (-1) [])
def dT (g:an) (i:Int):List Int × Int:=if (eD g i).2=false then ([],13) else if 60 < (iY g (eD g i).1).1.length then ([],13) else ((eD g i).1,0)
def ov (g:an) (i:Int):List Int × Int:=if (isRed g && decide (0≤i) && decide (i < g.rules.length))=true then dT g i else ([],1)
def bP (g:an):Nat→List (List Int) × Int
  | 0=>([],0)
  | i+1=>if (bP g i).2≠0 then bP g i else if (bP g i).1.any (fun t=>decide ((i:Int)∈t))=true then bP g i
    else if (dT g i).2=0 then ((bP g i).1 ++ [(dT g i).1],0) else ([],(dT g i).2)
def iJ (g:an):List (List Int) × Int:=if isRed g=true then bP g g.rules.length else ([],1)
def AD (g:an) (l:List (List Int)):List Bool:=if bp g=true then (List.range g.rules.length).map fun (i:Nat)=>l.any fun t=>decide ((i:Int)∈t) else []
theorem Hy {g:an} (hleft:∀ r∈g.rules,0≤r.left) {n:Int} (h:(gO g n).2=0):∃ w,gJ g [-1 - n] (gO g n).1 w:=by
  unfold gO at h ⊢
  split at h
  · rename_i hc
    rw[if_pos hc]
    simp only[Bool.and_eq_true,decide_eq_true_eq] at hc
    split at h
    · simp at h
    · rename_i hk
      rw[if_neg hk]
      split at h
      · simp at h
      · rename_i h3
        rw[if_neg h3]
        refine ⟨_,IJ hleft _ _ fun x hx hn=>?_⟩
        simp at hx; subst hx
        have e:bS (-1 - n)=n.toNat:=by unfold bS; omega
        rw[e]
        have hkn:bt (aw g) n.toNat:=by unfold bt; omega
        exact ⟨hkn,(iP hkn).2⟩
  · simp at h
theorem B5 {g:an} (hleft:∀ r∈g.rules,0≤r.left) {place:Int} {inner:List Int} : ∀ (l:List Int) (i:Int) (t:List Int),(∀ s,l[(place - i).toNat]?=some s→i≤place→s < 0→∃ w,gJ g [s] inner w)→cD g place inner i l=some t→∃ w,gJ g l t w
  | [],i,t,_,h=>by
    rw[cD] at h; simp at h; subst h
    exact ⟨[],.nil⟩
  | s :: l,i,t,hin,h=>by
    have hrec:∀ t',cD g place inner (i+1) l=some t'→∃ w,gJ g l t' w:=fun t' h'=>B5 hleft l (i+1) t' (fun s' hs' hi hn=>hin s' (by
      have:(place - i).toNat=(place - (i+1)).toNat+1:=by omega
      rw[this]; simpa using hs') (by omega) hn) h'
    rw[cD] at h
    split at h
    · rename_i h0
      obtain ⟨w,hw⟩:=hrec t h
      exact ⟨s :: w,.term s l t w h0 hw⟩
    · rename_i h0
      split at h
      · rename_i hp
        cases hr:cD g place inner (i+1) l with
        | none=>rw[hr] at h; simp at h
        | some t' =>
          rw[hr] at h; simp at h; subst h
          obtain ⟨w1,hw1⟩:=hin s (by rw[hp]; simp) (by omega) (by omega)
          obtain ⟨w2,hw2⟩:=hrec t' hr
          exact ⟨w1 ++ w2,by have:=hw1.app hw2; simpa using this⟩
      · split at h
        · rename_i ht
          cases hr:cD g place inner (i+1) l with
          | none=>rw[hr] at h; simp at h
          | some t' =>
            rw[hr] at h; simp at h; subst h
            obtain ⟨w1,hw1⟩:=Hy hleft ht
            rw[show -1 - (-1 - s)=s by omega] at hw1
            obtain ⟨w2,hw2⟩:=hrec t' hr
            exact ⟨w1 ++ w2,by have:=hw1.app hw2; simpa using this⟩
        · simp at h
theorem kc {g:an} {k:Nat} {R:aQ} (h:g.rules[k]?=some R):rz g (k:Int)=R.right∧w5 g (k:Int)=R.left:=by
  simp[rz,w5,List.getD_eq_getElem?_getD,h]
theorem D7 {g:an} (hleft:∀ r∈g.rules,0≤r.left) {k:Nat} {R:aQ} (hR:g.rules[k]?=some R) {place:Int} {inner:List Int} (hin:∀ s,R.right[place.toNat]?=some s→0≤place→s < 0→∃ w,gJ g [s] inner w) (h:(eU g k place inner).2=true) :
    ∃ w,gJ g [-1 - R.left] (eU g k place inner).1 w∧(eU g k place inner).1.length≤300:=by
  unfold eU at h ⊢
  rw[(kc hR).1] at h ⊢
  cases hp:cD g place inner 0 R.right with
  | none=>rw[hp] at h; simp at h
  | some t =>
    rw[hp] at h
    simp only[decide_eq_true_eq] at h
    simp only
    obtain ⟨w,hw⟩:=B5 hleft R.right 0 t (fun s hs h0 hn=>hin s (by simpa using hs) h0 hn) hp
    have:=hleft R (List.mem_of_getElem? hR)
    refine ⟨w,?_,h⟩
    have:=gJ.bU (-1 - R.left) [] k R t w [] [] (by omega) hR (by omega) hw .nil
    simpa using this
theorem Dp {g:an} {k place:Int} {inner:List Int} (h:(eU g k place inner).2=true):(eU g k place inner).1.length≤300:=by
  unfold eU at h ⊢
  split at h
  · rename_i l hl
    rw[hl] at *
    simpa using h
  · simp at h
theorem B9 {g:an} {F:List Way} (hF:du g F) (hleft:∀ r∈g.rules,0≤r.left):∀ (f:Nat) (n:Int) (x:List Int × Bool),n∈bR F→dF F n≤f→(x.2=true→∃ w,gJ g [-1 - n] x.1 w∧x.1.length≤300)→(cy g F f n x).2=true →
    ∃ w,gJ g [-1 - g.start] (cy g F f n x).1 w∧(cy g F f n x).1.length≤300
  | 0,n,x,hn,hf,hx,h=>by
    rw[cy] at h ⊢
    by_cases e:n=g.start
    · rw[← e]; exact hx h
    · obtain ⟨_,_,_,_,_,_,_,_,h6⟩:=wW hF hn e
      omega
  | f+1,n,x,hn,hf,hx,h=>by
    rw[cy] at h ⊢
    split at h
    · rename_i hx2
      rw[if_pos hx2]
      by_cases e:n=g.start
      · subst e
        rw[mU hF] at h ⊢
        simp only at h ⊢
        rw[if_neg (by omega)] at h ⊢
        exact hx h
      · obtain ⟨k,j,R,h1,h2,h3,h4,h5,h6⟩:=wW hF hn e
        rw[h1] at h ⊢
        simp only at h ⊢
        rw[if_pos (by omega),(kc h2).2] at h ⊢
        refine B9 hF hleft f R.left _ h5 (by omega) (fun hg=>?_) h
        refine D7 hleft h2 (fun s hs _ _=>?_) hg
        rw[Int.toNat_natCast,h3] at hs
        simp at hs; subst hs
        obtain ⟨w,hw,_⟩:=hx hx2
        exact ⟨w,hw⟩
    · rename_i hx2
      rw[if_neg hx2]
      exact absurd h hx2
theorem iv {g:an} (h:isRed g=true):bp g=true∧du g (fH g)∧∀ k:Nat,k < g.av.length→(k:Int)∈bR (fH g):=by
  unfold isRed at h
  simp only[Bool.and_eq_true,beq_iff_eq,decide_eq_true_eq] at h
  obtain ⟨h1,h2⟩:=h
  have hr:bp g=true:=by
    apply Decidable.byContradiction
    intro hn
    unfold eP at h1
    simp[hn] at h1
  have hf:=aZ hr
  have hp:(aJ g true).getD g.start.toNat false=true:=by
    apply Decidable.byContradiction
    intro hn
    rw[mC hr,if_neg hn] at h1
    simp at h1
  have hred:=OG hr hp
  have e:iX g (bh (bL (aJ g true) (bu g) g.rules)) (aJ g true) (bu g)=g:=by
    rw[mC hr,if_pos hp] at h2
    exact h2.symm
  rw[e] at hred
  have hW:=Mn (g:=g) ⟨hf.dW,hf.start⟩ (fun R hR s hs hn=>by
    have:=hf.sym R hR s hs
    unfold gu at this
    rw[if_neg (by omega)] at this
    simpa using this)
  refine ⟨hr,hW.1,fun k hk=>?_⟩
  rw[hred.len] at hk
  exact Ni hW.1 hW.2 (wg hr k (hred.Cj hk))
theorem DV {g:an} (h:isRed g=true) {i:Nat} (hi:i < g.rules.length) (hc:(eD g i).2=true):∃ w,gJ g [-1 - g.start] (eD g i).1 w∧(eD g i).1.length≤300:=by
  obtain ⟨hr,hW,hall⟩:=iv h
  have hf:=aZ hr
  have hleft:=fun r hr=>(hf.left r hr).1
  have hR:g.rules[i]?=some (g.rules[i]):=List.getElem?_eq_getElem hi
  have hb:=hf.left _ (List.getElem_mem hi)
  unfold eD at hc ⊢
  rw[(kc hR).2] at hc ⊢
  have hk:=hall (g.rules[i]).left.toNat (by omega)
  rw[show (((g.rules[i]).left.toNat:Nat):Int)=(g.rules[i]).left by omega] at hk
  exact B9 hW hleft _ _ _ hk (Nat.le_refl _) (fun hg=>D7 hleft hR (fun s _ h0 _=>absurd h0 (by decide)) hg) hc
theorem B1 {g:an} (hr:bp g=true) {t w:List Int} (h:gJ g [-1 - g.start] t w) (hl:t.length≤300):∃ x,eF g t=some x∧x.word=w:=by
  obtain ⟨x,h1,h2,h3⟩:=KJ h t.length [] (Nat.le_refl _)
  rw[List.append_nil] at h1
  exact ⟨x,by rw[eF,if_pos ⟨hr,hl⟩,h1]; simp[h2],h3⟩
theorem Iv {g:an} {l t w:List Int} (h:gJ g l t w):∀ x∈t,0≤x∧x < g.rules.length:=by
  induction h with
  | nil=>simp
  | term _ _ _ _ _ _ ih=>exact ih
  | bU s l k R t1 w1 t w h0 hR hl _ _ ih1 ih2 =>
    intro x hx
    have hk:=(List.getElem?_eq_some_iff.1 hR).1
    simp only[List.cons_append,List.mem_cons,List.mem_append] at hx
    rcases hx with rfl | hx | hx
    · omega
    · exact ih1 x hx
    · exact ih2 x hx
theorem Is {g:an} (hs:∀ r∈g.rules,∀ s∈r.right,gu g s=true) {l t w:List Int} (h:gJ g l t w):(∀ s∈l,gu g s=true)→∀ x∈w,0≤x∧x < g.ax.length:=by
  induction h with
  | nil=>simp
  | term s l t w h0 _ ih =>
    intro hl x hx
    rcases List.mem_cons.1 hx with rfl | hx
    · have:=hl x (by simp)
      unfold gu at this
      rw[if_pos h0] at this
      exact ⟨h0,by simpa using this⟩
    · exact ih (fun s hs=>hl s (by simp[hs])) x hx
  | bU s l k R t1 w1 t w h0 hR hl _ _ ih1 ih2 =>
    intro hl x hx
    rcases List.mem_append.1 hx with hx | hx
    · exact ih1 (fun s' hs'=>hs R (List.mem_of_getElem? hR) s' hs') x hx
    · exact ih2 (fun s' hs'=>hl s' (by simp[hs'])) x hx
theorem xf {g:an} {place:Int} {inner:List Int} : ∀ (l:List Int) (i:Int) (t:List Int) (s:Int),l[(place - i).toNat]?=some s→i≤place→s < 0→cD g place inner i l=some t→∀ x∈inner,x∈t
  | [],i,t,s,hs,_,_,_=>by simp at hs
  | c :: l,i,t,s,hs,hi,hn,h=>by
    rw[cD] at h
    by_cases e:i=place
    · subst e
      simp at hs; subst hs
      rw[if_neg (by omega),if_pos rfl] at h
      intro x hx
      cases hr:cD g i inner (i+1) l with
      | none=>rw[hr] at h; simp at h
      | some t'=>rw[hr] at h; simp at h; subst h; simp[hx]
    · have hs':l[(place - (i+1)).toNat]?=some s:=by
        have:(place - i).toNat=(place - (i+1)).toNat+1:=by omega
        rw[this] at hs
        simpa using hs
      split at h
      · exact xf l (i+1) t s hs' (by omega) hn h
      · try rw[if_neg e] at h
        split at h
        · cases hr:cD g place inner (i+1) l with
          | none=>rw[hr] at h; simp at h
          | some t' =>
            rw[hr] at h; simp at h; subst h
            intro x hx
            have:=xf l (i+1) t' s hs' (by omega) hn hr x hx
            simp[this]
        · simp at h
theorem BX {g:an} {F:List Way} (hF:du g F):∀ (f:Nat) (n:Int) (x:List Int × Bool) (y:Int),n∈bR F→y∈x.1→(cy g F f n x).2=true→y∈(cy g F f n x).1
  | 0,n,x,y,_,hy,_=>by rw[cy]; exact hy
  | f+1,n,x,y,hn,hy,h=>by
    rw[cy] at h ⊢
    split at h
    · rename_i hx2
      rw[if_pos hx2]
      by_cases e:n=g.start
      · subst e
        rw[mU hF] at h ⊢
        simp only at h ⊢
        rw[if_neg (by omega)]
        exact hy
      · obtain ⟨k,j,R,h1,h2,h3,h4,h5,h6⟩:=wW hF hn e
        rw[h1] at h ⊢
        simp only at h ⊢
        rw[if_pos (by omega),(kc h2).2] at h ⊢
        by_cases hg:(eU g k j x.1).2=true
        · refine BX hF f R.left _ y h5 ?_ h
          unfold eU at hg ⊢
          rw[(kc h2).1] at hg ⊢
          cases hp:cD g j x.1 0 R.right with
          | none=>rw[hp] at hg; simp at hg
          | some t =>
            simp only
            exact List.mem_cons_of_mem _ (xf R.right 0 t (-1 - n) (by simpa using h3) (by omega) (by omega) hp y hy)
        · cases f with
          | zero=>rw[cy] at h; exact absurd h hg
          | succ f=>rw[cy,if_neg hg] at h; exact absurd h hg
    · rename_i hx2
      exact absurd h hx2
theorem Ky {g:an} (h:isRed g=true) {i:Nat} (hi:i < g.rules.length) (hc:(eD g i).2=true):(i:Int)∈(eD g i).1:=by
  obtain ⟨hr,hW,hall⟩:=iv h
  have hf:=aZ hr
  have hR:g.rules[i]?=some (g.rules[i]):=List.getElem?_eq_getElem hi
  have hb:=hf.left _ (List.getElem_mem hi)
  have hk:=hall (g.rules[i]).left.toNat (by omega)
  rw[show (((g.rules[i]).left.toNat:Nat):Int)=(g.rules[i]).left by omega] at hk
  unfold eD at hc ⊢
  rw[(kc hR).2] at hc ⊢
  have hg:(eU g i (-1) []).2=true:=by
    apply Decidable.byContradiction
    intro hn
    cases hx:dF (fH g) (g.rules[i]).left with
    | zero=>rw[hx,cy] at hc; exact hn hc
    | succ f=>rw[hx,cy,if_neg hn] at hc; exact hn hc
  refine BX hW _ _ _ _ hk ?_ hc
  unfold eU at hg ⊢
  split
  · simp
  · rename_i hp
    rw[hp] at hg; simp at hg
theorem Lg {g:an} {i:Int} (h:(dT g i).2=0):(eD g i).2=true∧(dT g i).1=(eD g i).1∧(iY g (eD g i).1).1.length≤60:=by
  unfold dT at h ⊢
  split at h
  · simp at h
  · rename_i h1
    rw[if_neg h1]
    split at h
    · simp at h
    · rename_i h2
      rw[if_neg h2]
      exact ⟨by simpa using h1,rfl,by omega⟩
theorem HR {g:an} {i:Int} (h:(dT g i).2≠0):(dT g i).2=13∧(dT g i).1=[]:=by
  unfold dT at h ⊢
  split
  · exact ⟨rfl,rfl⟩
  · rename_i h1
    rw[if_neg h1] at h
    split
    · exact ⟨rfl,rfl⟩
    · rename_i h2
      rw[if_neg h2] at h
      simp at h
def L4 (g:an) (t:List Int):Prop:=∃ w,gJ g [-1 - g.start] t w∧t.length≤300∧iY g t=(w,0)∧w.length≤60
theorem Gn {g:an} (h:isRed g=true) {i:Nat} (hi:i < g.rules.length) (hu:(dT g i).2=0):L4 g (dT g i).1∧(i:Int)∈(dT g i).1:=by
  obtain ⟨h1,h2,h3⟩:=Lg hu
  obtain ⟨w,h4,h5⟩:=DV h hi h1
  obtain ⟨x,h6,h7⟩:=B1 (iv h).1 h4 h5
  rw[h2]
  refine ⟨⟨w,h4,h5,?_,?_⟩,Ky h hi h1⟩
  · rw[iY,h6,← h7]
  · rw[iY,h6] at h3
    simp only at h3
    rw[← h7]; exact h3
theorem xp {g:an} (h:isRed g=true):∀ i,i≤g.rules.length→(bP g i).1.length≤i∧(∀ t∈(bP g i).1,L4 g t)∧((bP g i).2=0→∀ k:Nat,k < i→∃ t∈(bP g i).1,(k:Int)∈t)∧((bP g i).2≠0→(bP g i).2=13∧(bP g i).1=[])
  | 0,_=>⟨by simp[bP],by simp[bP],fun _ k hk=>by omega,fun hn=>by simp[bP] at hn⟩
  | i+1,hi=>by
    obtain ⟨h1,h2,h3,h4⟩:=xp h i (by omega)
    rw[bP]
    split
    · rename_i he
      exact ⟨by omega,h2,fun h0=>absurd h0 he,h4⟩
    · rename_i he
      have he:(bP g i).2=0:=by simpa using he
      split
      · rename_i ha
        refine ⟨by omega,h2,fun h0 k hk=>?_,h4⟩
        by_cases hki:k=i
        · subst hki
          obtain ⟨t,ht,hm⟩:=List.any_eq_true.1 ha
          exact ⟨t,ht,by simpa using hm⟩
        · exact h3 h0 k (by omega)
      · split
        · rename_i hu
          obtain ⟨hg,hm⟩:=Gn h (i:=i) (by omega) hu
          refine ⟨by simp; omega,fun t ht=>?_,fun _ k hk=>?_,fun hn=>by simp at hn⟩
          · rcases List.mem_append.1 ht with ht | ht
            · exact h2 t ht
            · simp at ht; subst ht; exact hg
          · by_cases hki:k=i
            · subst hki
              exact ⟨_,by simp,hm⟩
            · obtain ⟨t,ht,hkt⟩:=h3 he k (by omega)
              exact ⟨t,by simp[ht],hkt⟩
        · rename_i hu
          obtain ⟨a,b⟩:=HR hu
          exact ⟨by simp,by simp,fun h0=>absurd h0 hu,fun _=>⟨a,rfl⟩⟩
def lZ:SC :=
  .seq (al [aR 66 .lss 65 64]) <|
  .seq (.cond (.tmp 66) (.skip) (.exit 0)) <|
  .seq (.block 1 (.seq (al [aP 67 1 63 65,ao 68 67,ae 8 68]) <|
  .seq (.seq (al [ae 69 8,az 70 .geq 69 0]) <|
  .cond (.tmp 70) (.seq (al [ae 71 0,ae 72 0,bG 73 72,au 74 5 73,ao 75 74,ae 76 8,((some 77),.op (.bJ 1 1 [(.val (.int .i64 0))] [(0,(.tmp 76))])),((some 78),.op (.app 1 8 (.tmp 75) (.tmp 77))),bG 79 71,au 80 5 79,(none,.op (.store 1 (.tmp 80) (.tmp 78)))]) <|
  .exit 1) (.skip)) <|
  .seq (al [ae 81 0,ae 82 8,((some 83),.op (.arith .sub (.val (.val (.int .i64 (-1)))) (.tmp 82))),aN 84 210 [81,83],ae 9 84]) <|
  .seq (.seq (al [ae 85 9,az 86 .eql 85 0]) <|
  .cond (.tmp 86) (.seq (al [aH 4 0]) <|
  .ret) (.skip)) <|
  al [ae 87 6,ae 88 9,((some 89),.op (.mm true (.tmp 87) (.tmp 88))),ae 6 89])) <|
  al [az 90 .add 65 1,ae 65 90]
def gz:SF:=⟨.seq (al [aH 4 0]) <|
  .seq (.seq (al [ae 10 0,bG 11 10,au 12 4 11,ao 13 12,aL 14 13,az 15 .eql 14 0]) <|
  .cond (.tmp 15) (.seq (al [aH 4 0]) <|
  .ret) (.skip)) <|
  .seq (al [ae 16 0,bG 17 16,au 18 4 17,ao 19 18,((some 20),.op (.idx 1 (.tmp 19) (.val (.val (.int .i64 0))))),ao 21 20,ae 5 21]) <|
  .seq (.seq (.region false [⟨none,[ae 22 5,az 23 .lss 22 0,ae 24 23]⟩,⟨(some (24,false)),[ae 25 5,ae 26 0,bG 27 26,au 28 0 27,au 29 2 28,ao 30 29,aL 31 30,aR 32 .geq 25 31]⟩,⟨none,[bC 33 24 32,ae 34 33]⟩,⟨(some (34,false)),[ae 35 0,bG 36 35,au 37 0 36,au 38 2 37,ao 39 38,ae 40 5,aP 41 3 39 40,au 42 0 41,ao 43 42,ae 44 1,aR 45 .neq 43 44]⟩,⟨none,[bC 46 34 45]⟩]) <|
  .cond (.tmp 46) (.seq (al [aH 4 0]) <|
  .ret) (.skip)) <|
  .seq (al [ae 47 0,ae 48 0,bG 49 48,au 50 4 49,ao 51 50,((some 52),.op (.slice 1 (.tmp 51) (some (.val (.val (.int .i64 1)))) none)),bG 53 47,au 54 4 53,(none,.op (.store 1 (.tmp 54) (.tmp 52)))]) <|
  .seq (al [aH 6 0]) <|
  .seq (.seq (al [ae 55 0,bG 56 55,au 57 0 56,au 58 2 57,ao 59 58,ae 60 5,aP 61 3 59 60,au 62 1 61,ao 63 62,aL 64 63,aH 65 0]) <|
  .block 0 (.loop lZ)) <|
  .seq (al [ae 91 0,ae 92 0,bG 93 92,au 94 6 93,ao 95 94,ae 96 5,((some 97),.op (.bJ 1 1 [(.val (.int .i64 0))] [(0,(.tmp 96))])),((some 98),.op (.app 1 8 (.tmp 95) (.tmp 97))),bG 99 91,au 100 6 99,(none,.op (.store 1 (.tmp 100) (.tmp 98)))]) <|
  .seq (al [ae 101 6,az 102 .add 101 1,ae 4 102]) <|
  .ret,
  [.tmp 4],103⟩
theorem hO:aW Tryz.prog 210 []=some gz:=by kernel_rfl
def yz:SF:=⟨.seq (al [cM 2 0,((some 4),.op (.bc (.val (.val (.pointer none))))),aH 5 0]) <|
  .seq (.seq (.region false [⟨none,[aU 8 4 2,aN 9 45 [8],bZ 10 9,ae 11 10]⟩,⟨(some (11,false)),[ae 12 1,aL 13 12,az 14 .gtr 13 300]⟩,⟨none,[bC 15 11 14]⟩]) <|
  .cond (.tmp 15) (.seq (al [((some 4),.op (.bc (.val (.val (.pointer none))))),aH 5 0]) <|
  .ret) (.skip)) <|
  .seq (al [aU 16 4 2,ae 17 1,((some 18),.op (.build [(.emp 1),(.emp 1),(.emp 1),(.val (.int .i64 0)),(.emp 1),(.emp 1),(.emp 1)] [(0,4,(.tmp 16)),(4,1,(.tmp 17))])),((some 19),.op (.box (.tmp 18))),ae 6 19]) <|
  .seq (al [ae 20 6,au 21 3 2,ao 22 21,aN 23 210 [20,22],ae 7 23]) <|
  .seq (.seq (al [ae 24 6,bG 25 24,au 26 4 25,ao 27 26,aL 28 27,az 29 .gtr 28 0]) <|
  .cond (.tmp 29) (.seq (al [((some 4),.op (.bc (.val (.val (.pointer none))))),aH 5 0]) <|
  .ret) (.skip)) <|
  .seq (al [ae 30 6,ae 31 7,ae 4 30,ae 5 31]) <|
  .ret,
  [.tmp 4,.tmp 5],32⟩
theorem AX:aW Tryz.prog 170 [2]=some yz:=by kernel_rfl
def x8:SF:=⟨.seq (al [cM 2 0,((some 4),.op (.bc (.val (.emp 1)))),aH 5 0]) <|
  .seq (al [aU 9 4 2,ae 10 1,aN 11 170 [9,10],ae 8 11,bY 12 0 8,bY 13 1 8,ae 6 12,ae 7 13]) <|
  .seq (.seq (al [ae 14 7,az 15 .eql 14 0]) <|
  .cond (.tmp 15) (.seq (al [((some 4),.op (.bc (.val (.emp 1)))),aH 5 1]) <|
  .ret) (.skip)) <|
  .seq (al [ae 16 6,bG 17 16,au 18 5 17,ao 19 18,ae 4 19,aH 5 0]) <|
  .ret,
  [.tmp 4,.tmp 5],20⟩
theorem A9:aW Tryz.prog 111 [2]=some x8:=by kernel_rfl
def fI (g:an) (rest:List Int) (uw up:V):List V:=[.aY (g.ax.map ct),.aY (g.av.map fun s=>[gs s]),.aY (g.rules.map aO),gi g.start,encI rest,uw,up]
def Ey (g:an) (b:Nat) (rest W Po:List Int) (H:View):Prop:=∃ uw up,bI H [(.sl b 0 1 7,7,[fI g rest uw up]),(uw,1,bq W),(up,1,bq Po)]
theorem uS {g:an} {f:Nat} {n:Int} {rest:List Int} {x:Wk} (hn:n < 0) (h:bF g f [n] rest=some x):1≤x.high:=by
  cases f with
  | zero=>rw[j0 hn] at h; simp at h
  | succ f =>
    cases rest with
    | nil=>rw[fT hn] at h; simp at h
    | cons t rest =>
      rw[dU hn] at h
      cases hr:dK g t with
      | none=>rw[hr] at h; simp at h
      | some R =>
        rw[hr] at h
        simp only at h
        split at h
        · cases hw:bF g f R.right rest with
          | none=>rw[hw] at h; simp at h
          | some y =>
            rw[hw] at h
            simp only[dO] at h
            simp at h; subst h
            simp[pt]
        · simp at h
theorem GL (k:Int) (rest:List Int):hE 1 (.aY ([gi k] :: rest.map fun x=>[gi x])) (some (.val (.int .i64 1))) none=some (.aY (rest.map fun x=>[gi x]),.none,[]):=by
  have:asNat (.val (.int .i64 1))=some 1:=rfl
  simp[hE,bound,this,List.all_map]
  rw[List.take_of_length_le (by simp)]
def CV (g:an) (b:Nat) (o:Option Wk) (W Po:List Int) (r:V) (H:View):Prop:=match o with
  | some x=>r=gi x.high∧Ey g b x.rest (W ++ x.word) (Po ++ x.post) H
  | none=>r=gi 0∧∃ rest W Po,rest.length≤300∧Ey g b rest W Po H
theorem CV.bad {g:an} {b:Nat} {W Po W' Po' rest:List Int} {H:View} (hl:rest.length≤300) (h:Ey g b rest W' Po' H):CV g b none W Po (gi 0) H:=⟨rfl,rest,W',Po',hl,h⟩
set_option maxHeartbeats 4000000 in
theorem M7 (g:an) (hg:g.Ok) (hf:g.iw) (b:Nat):∀ (f:Nat) (n:Int) (rest W Po:List Int) (H:View),f≤300→0≤n→n < g.av.length→rest.length≤f→W.length+6 * rest.length≤10000→Po.length+rest.length≤10000→Ey g b rest W Po H →
    aA Tryz.prog 210 [.ptr b 0 0,gi n] H fun r H'=>CV g b (bF g f [-1 - n] rest) W Po r H':=by
  intro f
  induction f with
  | zero =>
    intro n rest W Po H0 hf3 hn0 hn1 hl hW hP hw
    have hrest:rest=[]:=List.length_eq_zero_iff.1 (by omega)
    subst hrest
    have hw0:=hw
    obtain ⟨uw,up,ho⟩:=hw
    have hb:=ho.is 0 rfl (by simp)
    refine aA.of mixed hO ?_
    simp (disch:=omega) only [↓wr,↓reduceIte,wq,ai,ah,ak,Nat.reduceAdd,Nat.reduceLT,Nat.reduceLeDiff,Int.reduceNeg,reduceCtorEq,gz,hb,fI,encI]
    refine aq.eq (fun _=>?_) (fun e=>absurd rfl e)
    simp (disch:=omega) only [↓wr,↓reduceIte,wq,Int.reduceNeg,reduceCtorEq]
    rw[fT (by omega)]
    exact .bad (by simp) hw0
  | succ f ih =>
    intro n rest W Po H0 hf3 hn0 hn1 hl hW hP hw
    have hw0:=hw
    obtain ⟨uw,up,ho⟩:=hw
    have hb:=ho.is 0 rfl (by simp)
    cases rest with
    | nil =>
      refine aA.of mixed hO ?_
      simp (disch:=omega) only [↓wr,↓reduceIte,wq,ai,ah,ak,Nat.reduceAdd,Nat.reduceLT,Nat.reduceLeDiff,Int.reduceNeg,reduceCtorEq,gz,hb,fI,encI]
      refine aq.eq (fun _=>?_) (fun e=>absurd rfl e)
      simp (disch:=omega) only [↓wr,↓reduceIte,wq,Int.reduceNeg,reduceCtorEq]
      rw[fT (by omega)]
      exact .bad (by simp) hw0
    | cons t rest =>
      simp only[List.length_cons] at hl hW hP
      have bad:(∀ R,dK g t=some R→R.left≠n)→CV g b (bF g (f+1) [-1 - n] (t :: rest)) W Po (gi 0) H0:=fun h=>by
        have:bF g (f+1) [-1 - n] (t :: rest)=none:=by
          rw[dU (by omega)]
          cases hr:dK g t with
          | none=>rfl
          | some R =>
            simp only
            rw[if_neg (by have:=h R hr; omega)]
        rw[this]
        exact .bad (by simp; omega) hw0
      refine aA.of mixed hO ?_
      simp (disch:=omega) only [↓wr,↓reduceIte,wq,ai,ah,ak,Nat.reduceAdd,Nat.reduceLT,Nat.reduceLeDiff,Int.reduceNeg,reduceCtorEq,gz,hb,fI,encI]
      refine aq.eq (fun e=>absurd e (by omega)) (fun _=>?_)
      simp (disch:=omega) only [↓wr,↓reduceIte,wq,ah,Nat.reduceAdd,Nat.reduceLT,Int.reduceNeg,Int.reduceToNat,reduceCtorEq,hb,fI,encI,List.getElem?_cons_zero]
      refine aq.dec (fun ht=>?_) (fun ht=>?_)
      · simp (disch:=omega) only [↓wr,↓reduceIte,wq,Nat.reduceEqDiff,Int.reduceNeg,reduceCtorEq]
        exact bad fun R hR=>by unfold dK at hR; rw[if_neg (by omega)] at hR; simp at hR
      · obtain ⟨k,rfl⟩:∃ k:Nat,t=k:=⟨t.toNat,by omega⟩
        simp (disch:=omega) only [↓wr,↓reduceIte,wq,ah,ak,Nat.reduceEqDiff,Nat.reduceAdd,Nat.reduceLT,Int.reduceNeg,reduceCtorEq,hb,fI,encI]
        refine aq.dec (fun hk=>?_) (fun hk=>?_)
        · simp (disch:=omega) only [↓wr,↓reduceIte,wq,Nat.reduceEqDiff,Int.reduceNeg,reduceCtorEq]
          exact bad fun R hR=>by
            unfold dK at hR
            rw[if_pos (by omega),Int.toNat_natCast] at hR
            have:=(List.getElem?_eq_some_iff.1 hR).1
            omega
        · have hR:g.rules[k]?=some (g.rules[k]'(by omega)):=List.getElem?_eq_getElem (by omega)
          have hmr:=List.mem_of_getElem? hR
          generalize g.rules[k]'(by omega)=R at hR hmr
          have hra:dK g (k:Int)=some R:=by rw[dK,if_pos (by omega),Int.toNat_natCast]; exact hR
          have hrw:=hg.bd R hmr
          have hr6:=hf.right R hmr
          simp (disch:=omega) only [↓wr,↓reduceIte,wq,ah,Nat.reduceEqDiff,Nat.reduceAdd,Nat.reduceLT,Int.reduceNeg,reduceCtorEq,hb,fI,encI,List.getElem?_map,hR,aO]
          refine aq.ne (fun he=>?_) (fun he=>?_)
          · simp (disch:=omega) only [↓wr,↓reduceIte,wq,Int.reduceNeg,reduceCtorEq]
            exact bad fun R' hR'=>by rw[hra] at hR'; simp at hR'; subst hR'; exact he
          · simp (disch:=omega) only [↓wr,↓reduceIte,wq,ak,aa,Nat.reduceEqDiff,Nat.reduceAdd,Nat.reduceLT,Nat.reduceLeDiff,Int.reduceNeg,reduceCtorEq,hb,fI,encI,List.getElem?_map,hR,aO,GL]
            have o1:=ho.put (es':=[fI g rest uw up]) rfl rfl
            have hnone:∀ i,bF g f (R.right.take i) rest=none→bF g (f+1) [-1 - n] ((k:Int) :: rest)=none:=fun i h=>by
              rw[dU (by omega),hra]
              simp only
              rw[if_pos (by omega)]
              have e:=lF g f (R.right.take i) (R.right.drop i) rest
              rw[List.take_append_drop,h] at e
              rw[e]
            refine bb.up R.right.length (fun i T H'=>∃ x,bF g f (R.right.take i) rest=some x∧Ey g b x.rest (W ++ x.word) (Po ++ x.post) H'∧T 0=.ptr b 0 0∧T 5=gi k∧T 6=gi x.high∧T 63=encI R.right∧T 64=gi R.right.length∧T 65=gi i)
              ⟨_,dO _ _ _,⟨uw,up,by simpa [fI,encI] using o1⟩,rfl,rfl,rfl,rfl,rfl,rfl⟩ ?_
            clear hb o1 ho hw0 bad
            rintro i j T H1 hj ⟨x,hx,hw1,t0,t5,t6,t63,t64,t65⟩
            obtain ⟨z1,z2,z3,z4⟩:=qa hf.right f _ _ x hx
            simp (disch:=omega) only [↓wr,↓reduceIte,wq,ah,Int.reduceNeg,reduceCtorEq,lZ,t64,t65,encI]
            refine aq.dec (fun hi=>?_) (fun hi=>?_)
            · have hg1:R.right[i]?=some (R.right[i]'(by omega)):=List.getElem?_eq_getElem (by omega)
              have hmem:R.right[i]'(by omega)∈R.right:=List.getElem_mem _
              have htk:R.right.take (i+1)=R.right.take i ++ [R.right[i]'(by omega)]:=by rw[List.take_add_one,hg1]; rfl
              have hap:=lF g f (R.right.take i) [R.right[i]'(by omega)] rest
              rw[← htk,hx] at hap
              generalize R.right[i]'(by omega)=s at hg1 hmem htk hap
              simp only at hap
              have hs64:=hrw.2.2.2 s hmem
              unfold bW at hs64
              simp only[List.length_take] at z3
              simp (disch:=omega) only [↓wr,↓reduceIte,wq,ah,Nat.reduceEqDiff,Nat.reduceLT,Int.reduceNeg,t63,t65,encI,List.getElem?_map,hg1]
              refine aq.dec (fun hs=>?_) (fun hs=>?_)
              · obtain ⟨uw1,up1,o1⟩:=hw1
                have hb1:=o1.is 0 rfl (by simp)
                simp (disch:=omega) only [↓wr,↓reduceIte,wq,ag,Nat.reduceEqDiff,Nat.reduceAdd,Nat.reduceLT,Int.reduceNeg,reduceCtorEq,t0,hb1,fI]
                intro m hm
                rw[cp]
                simp (disch:=omega) only [↓wr,↓reduceIte,wq,Nat.reduceEqDiff,Int.reduceNeg]
                refine cH ((o1.at 1 (by simp)).fresh hm) (by simp[aT]) (by unfold aI; simp; omega) (by unfold aI; simp; omega) ?_
                intro u2 H2 o2 _
                simp only[List.eraseIdx_cons_succ,List.eraseIdx_cons_zero] at o2
                have hb2:=o2.is 1 rfl (by simp)
                have c2:=o2.head.cells
                have k2:=o2.head.gL
                simp (disch:=omega) only [↓wr,↓reduceIte,wq,ah,aa,ag,Nat.reduceEqDiff,Nat.reduceAdd,Nat.reduceLT,Nat.reduceLeDiff,Int.reduceNeg,reduceCtorEq,t0,t5,t65,hb2,fI,c2,k2]
                have o3:=(o2.at 1 (by simp)).put (es':=[fI g x.rest u2 up1]) rfl rfl
                simp only[List.eraseIdx_cons_succ,List.eraseIdx_cons_zero] at o3
                rw[fG hs,dO] at hap
                simp only[Option.map_some] at hap
                refine aK hj (by omega) ⟨_,hap,⟨u2,up1,?_⟩,t0,t5,?_,t63,t64,rfl⟩
                · simpa [fI,nR,qP] using o3
                · exact t6.trans (by simp[nR,qP])
              · simp (disch:=omega) only [↓wr,↓reduceIte,wq,ah,Nat.reduceEqDiff,Int.reduceNeg,reduceCtorEq,t0]
                have hcall:=ih (-1 - s) x.rest (W ++ x.word) (Po ++ x.post) H1 (by omega) (by omega) (by
                  have:=hf.sym R hmr s hmem
                  unfold gu at this
                  rw[if_neg (by omega)] at this
                  simpa using this) (by omega) (by simp; omega) (by simp; omega) hw1
                rw[show -1 - (-1 - s)=s by omega] at hcall
                refine aF.iy (hcall.mono ?_)
                intro r H2 hr
                cases hy:bF g f [s] x.rest with
                | none =>
                  rw[hy] at hr hap
                  obtain ⟨rfl,rest',W',Po',hl',hw'⟩:=hr
                  simp (disch:=omega) only [↓wr,↓reduceIte,wq,ah,Int.reduceNeg]
                  refine aq.eq (fun _=>?_) (fun e=>absurd rfl e)
                  simp (disch:=omega) only [↓wr,↓reduceIte,wq,ah,Nat.reduceEqDiff,Int.reduceNeg,reduceCtorEq]
                  rw[hnone (i+1) hap]
                  exact .bad hl' hw'
                | some y =>
                  rw[hy] at hr hap
                  obtain ⟨rfl,hw2⟩:=hr
                  have hyh:=uS (by omega) hy
                  simp (disch:=omega) only [↓wr,↓reduceIte,wq,ah,Int.reduceNeg]
                  refine aq.eq (fun e=>absurd e (by omega)) (fun _=>?_)
                  simp (disch:=omega) only [↓wr,↓reduceIte,wq,ah,Nat.reduceEqDiff,Int.reduceNeg,reduceCtorEq,t0,t6,t65]
                  simp only[Option.map_some] at hap
                  refine aK hj (by omega) ⟨_,hap,?_,t0,t5,?_,t63,t64,rfl⟩
                  · simpa [nR] using hw2
                  · show gi (if (y.high:Int) > x.high then (y.high:Int) else x.high)=gi ((nR x y).high:Nat)
                    congr 2
                    simp only[nR]
                    split <;> omega
            · rw[List.take_of_length_le (by omega)] at hx
              obtain ⟨uw1,up1,o1⟩:=hw1
              have hb1:=o1.is 0 rfl (by simp)
              simp (disch:=omega) only [↓wr,↓reduceIte,wq,ag,Nat.reduceEqDiff,Nat.reduceAdd,Nat.reduceLT,Int.reduceNeg,reduceCtorEq,t0,t5,hb1,fI]
              intro m hm
              rw[cp]
              simp (disch:=omega) only [↓wr,↓reduceIte,wq,Nat.reduceEqDiff,Int.reduceNeg]
              refine cH ((o1.at 2 (by simp)).fresh hm) (by simp[aT]) (by unfold aI; simp; omega) (by unfold aI; simp; omega) ?_
              intro u2 H2 o2 _
              simp only[List.eraseIdx_cons_succ,List.eraseIdx_cons_zero] at o2
              have hb2:=o2.is 1 rfl (by simp)
              have c2:=o2.head.cells
              have k2:=o2.head.gL
              simp (disch:=omega) only [↓wr,↓reduceIte,wq,ah,aa,Nat.reduceEqDiff,Nat.reduceAdd,Nat.reduceLT,Nat.reduceLeDiff,Int.reduceNeg,reduceCtorEq,t0,t6,hb2,fI,c2,k2]
              have o3:=(o2.at 1 (by simp)).put (es':=[fI g x.rest uw1 u2]) rfl rfl
              simp only[List.eraseIdx_cons_succ,List.eraseIdx_cons_zero] at o3
              have hfin:bF g (f+1) [-1 - n] ((k:Int) :: rest)=some ⟨x.rest,x.word ++ [],x.post ++ [(k:Int)],max (x.high+1) 0⟩:=by
                rw[dU (by omega),hra]
                simp only
                rw[if_pos (by omega),hx]
                simp only[dO,Option.map_some,pt]
              rw[hfin]
              refine ⟨?_,uw1,u2,?_⟩
              · simp
              · have o4:=o3.perm (.cons _ (.swap _ _ _))
                simpa [fI] using o4
theorem Pr:q6.Ok:=by
  refine ⟨by unfold aM; decide,by unfold aM; decide,by unfold aM; decide,by unfold bW; decide,?_,?_⟩
  · intro t ht; simp[q6] at ht
  · intro r hr; simp[q6] at hr
theorem tG:∀ (l:List aQ) (acc:List Int),(l.foldl dd acc).length≤acc.length+l.length
  | [],acc=>by simp
  | r :: l,acc=>by
    have h1:=tG l (dd acc r)
    have h2:(dd acc r).length≤acc.length+1:=by unfold dd; split <;> simp
    simp only[List.foldl_cons,List.length_cons]
    omega
theorem Kq (p q:List Bool) (l:List aQ):(bL p q l).length≤l.length:=by
  have h1:=tG (l.filter (bD p q)) []
  have h2:=List.length_filter_le (bD p q) l
  unfold bL
  simp only[List.length_nil] at h1
  omega
theorem Mt {g:an} (hg:g.Ok) (p q:List Bool):(iX g (bh (bL p q g.rules)) p q).Ok:=by
  have ho:=Kq p q g.rules
  have h3:=hg.rules
  unfold aM at h3
  have hb:∀ x,bW (bh (bL p q g.rules) x):=fun x=>by
    have:=AJ (bL p q g.rules) x
    unfold bW; omega
  have hb2:∀ x,bW (-1 - bh (bL p q g.rules) x):=fun x=>by
    have:=AJ (bL p q g.rules) x
    unfold bW; omega
  refine ⟨hg.ax,?_,?_,hb _,hg.term,fun r hr=>?_⟩
  · unfold aM; simp only[iX,List.length_map]; omega
  · have:=List.length_filter_le (bD p q) g.rules
    unfold aM; simp only[iX,List.length_map]; omega
  · simp only[iX,List.mem_map,List.mem_filter] at hr
    obtain ⟨r0,⟨h0,_⟩,rfl⟩:=hr
    obtain ⟨_,i2,i3,i4⟩:=hg.bd r0 h0
    refine ⟨hb _,i2,by unfold aM at i3 ⊢; simpa [bf] using i3,fun x hx=>?_⟩
    simp only[bf,List.mem_map] at hx
    obtain ⟨s,hs,rfl⟩:=hx
    split
    · exact hb2 _
    · exact i4 s hs
section
variable {g r:an} {p q:List Bool} {o:List Int}
theorem dR.ok (h:dR g p q o r) (hg:g.Ok):r.Ok:=by
  have:=Mt hg p q
  rw[← h.oe,← h.re] at this
  exact this
theorem dR.small (h:dR g p q o r) (hs:g.Small):r.Small:=by
  have:=pC h.nodup h.inside
  have:=hs.names
  exact ⟨by rw[h.len,h.ax]; omega⟩
end
end Gv
