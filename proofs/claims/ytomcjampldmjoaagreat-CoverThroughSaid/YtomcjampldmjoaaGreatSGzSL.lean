/-
  Part 12 of the proof: what the machine does and what the functions answer.
  Conditions: those that each lemma names.
-/
import Derived.Test.YtomcjampldmjoaaGreatSGzSK
set_option linter.unusedSimpArgs false
set_option linter.unusedVariables false
set_option maxRecDepth 100000
namespace Gv
open Go Go.Proofs
theorem EJ {x:Int} : ∀ (o:List Int) (i:Int),x∈o→∃ k:Nat,cI (fun y=>y == x) o i=i+k∧o[k]?=some x
  | [],_,h=>by simp at h
  | y :: o,i,h=>by
    by_cases e:y=x
    · exact ⟨0,by simp[cI,e],by simp[e]⟩
    · have hx:x∈o:=by
        rcases List.mem_cons.1 h with rfl | h
        · exact absurd rfl e
        · exact h
      obtain ⟨k,h1,h2⟩:=EJ o (i+1) hx
      exact ⟨k+1,by simp only[cI]; rw[if_neg (by simp[e]),h1]; push_cast; omega,by simpa using h2⟩
theorem zg {o:List Int} {x:Int} (h:x∈o):o[(bo o x).toNat]?=some x:=by
  obtain ⟨k,h1,h2⟩:=EJ o 0 h
  have:bo o x=k:=by unfold bo; omega
  rw[this]; simpa using h2
theorem yd {o:List Int} (hn:o.Nodup) {k:Nat} {x:Int} (h:o[k]?=some x):bo o x=k:=by
  have hx:=List.mem_of_getElem? h
  have h1:=zg hx
  have h2:=kj hx
  obtain ⟨hk,h3⟩:=List.getElem?_eq_some_iff.1 h
  obtain ⟨hk2,h4⟩:=List.getElem?_eq_some_iff.1 h1
  have:=(List.getElem_inj hn).1 (h4.trans h3.symm)
  omega
theorem rq:∀ (l:List aM) (acc:List Int),acc.Nodup→(l.foldl di acc).Nodup
  | [],_,h=>h
  | r :: l,acc,h=>rq l _ (AR h)
theorem He (p q:List Bool) (l:List aM):(bL p q l).Nodup:=rq _ _ List.nodup_nil
theorem LZ (acc:List Int) (r:aM):∃ m,di acc r=acc ++ m:=by
  unfold di
  split
  · exact ⟨[],by simp⟩
  · exact ⟨_,rfl⟩
theorem tQ:∀ (l:List aM) (acc:List Int),∃ m,l.foldl di acc=acc ++ m
  | [],acc=>⟨[],by simp⟩
  | r :: l,acc=>by
    obtain ⟨m,hm⟩:=LZ acc r
    obtain ⟨k,hk⟩:=tQ l (di acc r)
    exact ⟨m ++ k,by rw[List.foldl_cons,hk,hm,List.append_assoc]⟩
theorem Km {a b:List Int} {x:Int} (h:x∈a):bo (a ++ b) x=bo a x:=by
  unfold bo
  rw[ta _ _ _ _ (by omega)]
  have:=kj h
  unfold bo at this
  rw[if_pos this.1]
theorem uW {r:ao} {o:List Int} (ho:o.Nodup) (hr:r.au.length=o.length):∀ (l:List aM) (acc:List Int),o=l.foldl di acc→(∀ x∈l,gv r (bj (bo o) x)=true)→fI r (l.map (bj (bo o))) ((acc.length:Int) - 1)=true
  | [],acc,h,_=>by
    simp only[List.foldl_nil] at h
    simp[fI,hr,h]
  | x :: l,acc,h,hb=>by
    simp only[List.map_cons,fI,Bool.and_eq_true,decide_eq_true_eq]
    rw[List.foldl_cons] at h
    have h1:(bj (bo o) x).left=bo o x.left:=rfl
    obtain ⟨m,hm⟩:=tQ l (di acc x)
    rw[← h] at hm
    by_cases hx:x.left∈acc
    · have e:di acc x=acc:=by unfold di; rw[if_pos hx]
      rw[e] at hm h
      have h2:=kj hx
      have h3:bo o x.left=bo acc x.left:=by rw[hm]; exact Km hx
      rw[h1,h3,if_neg (by omega)]
      exact ⟨⟨⟨h2.1,by omega⟩,hb x (by simp)⟩,uW ho hr l acc h fun y hy=>hb y (by simp[hy])⟩
    · have e:di acc x=acc ++ [x.left]:=by unfold di; rw[if_neg hx]
      rw[e] at hm h
      have h3:bo o x.left=acc.length:=yd ho (by rw[hm]; simp)
      rw[h1,h3,if_pos (by omega)]
      refine ⟨⟨⟨by omega,by omega⟩,hb x (by simp)⟩,?_⟩
      have:=uW ho hr l (acc ++ [x.left]) h fun y hy=>hb y (by simp[hy])
      rw[List.length_append] at this
      simpa using this
theorem yQ {g r:ao} (h:r.ay=g.ay):∀ (l:List Term) (i:Int),iS r l i=iS g l i
  | [],_=>rfl
  | t :: l,i=>by
    simp only[iS,yQ h l]
    congr 1
    simp only[jw,lg,qC,h]
theorem pU {o:List Int} {n:Nat} (h:o.Nodup) (hb:∀ x∈o,0≤x∧x < n):o.length≤n:=by
  have:=po o ((List.range n).map fun (k:Nat)=>(k:Int)) h fun x hx=>by
    have:=hb x hx
    exact List.mem_map.2 ⟨x.toNat,List.mem_range.2 (by omega),by omega⟩
  simpa using this
structure dX (g:ao) (p q:List Bool) (o:List Int) (r:ao):Prop where
  right:bm g=true
  pe:p=aI g true
  qe:q=bz g
  oe:o=bL p q g.rules
  re:r=je g (bo o) p q
  nodup:o.Nodup
  inside:∀ x∈o,0≤x∧x < g.au.length
  kept:∀ R∈g.rules,bG p q R=true→R.left∈o∧∀ s∈R.right,s < 0→-1 - s∈o
  from_:∀ x∈o,∃ R∈g.rules,bG p q R=true∧R.left=x
  start:g.start∈o
theorem PC {g:ao} (hr:bm g=true) (hp:(aI g true).getD g.start.toNat false=true):dX g (aI g true) (bz g) (bL (aI g true) (bz g) g.rules) (je g (bo (bL (aI g true) (bz g) g.rules)) (aI g true) (bz g)):=by
  have hf:=aX hr
  refine ⟨hr,rfl,rfl,rfl,rfl,He _ _ _,fun x hx=>?_,fun R hm hk=>⟨q9.2 ⟨R,hm,hk,rfl⟩,fun s hs hn=>?_⟩,fun x hx=>q9.1 hx,AP hr hf.eA hp (tg hr)⟩
  · obtain ⟨R,h1,_,rfl⟩:=q9.1 hx
    exact hf.left R h1
  · refine AP hr (by omega) ?_ (uN hr hm hk hs hn)
    rw[bG,Bool.and_eq_true] at hk
    have:=hk.2
    simp only[dy,List.all_eq_true] at this
    have:=this s hs
    rwa [if_neg (by omega)] at this
section
variable {g r:ao} {p q:List Bool} {o:List Int}
theorem dX.rules (h:dX g p q o r):r.rules=(g.rules.filter (bG p q)).map (bj (bo o)):=by rw[h.re]; rfl
theorem dX.au (h:dX g p q o r):r.au=o.map fun x=>g.au.getD x.toNat ⟨#[]⟩:=by rw[h.re,h.oe]; rfl
theorem dX.ay (h:dX g p q o r):r.ay=g.ay:=by rw[h.re]; rfl
theorem dX.Fa (h:dX g p q o r):r.start=bo o g.start:=by rw[h.re]; rfl
theorem dX.len (h:dX g p q o r):r.au.length=o.length:=by rw[h.au]; simp
theorem dX.lD (h:dX g p q o r):bm r=true:=by
  have hf:=aX h.right
  have hR:=h.right
  simp only[bm,iY,jC,Bool.and_eq_true,decide_eq_true_eq] at hR ⊢
  obtain ⟨⟨⟨⟨⟨⟨⟨a1,a2⟩,⟨a3,a4⟩,a5⟩,a6⟩,a7⟩,a8⟩,a9⟩,a10⟩:=hR
  have hst:=kj h.start
  have hol:o.length≤g.au.length:=pU h.nodup h.inside
  have hgn:g.au.Nodup∧∀ s∈g.au,fe (ey s)=true∧lg g s < 0:=by
    rw[su] at a5
    refine ⟨(r9 g.au).1 fun k s hk=>?_,fun s hs=>?_⟩
    · have:=a5 k s hk
      simp only[kM,xu,Bool.and_eq_true,beq_iff_eq] at this
      have:=this.1.2
      omega
    · obtain ⟨k,hk⟩:=List.getElem?_of_mem hs
      have:=a5 k s hk
      simp only[kM,Bool.and_eq_true,decide_eq_true_eq] at this
      exact ⟨this.1.1,this.2⟩
  have hget:∀ x∈o,∃ (hx:x.toNat < g.au.length),g.au.getD x.toNat ⟨#[]⟩=g.au[x.toNat]:=fun x hx=>by
    have:=h.inside x hx
    exact ⟨by omega,by simp[List.getD_eq_getElem?_getD,List.getElem?_eq_getElem (show x.toNat < g.au.length by omega)]⟩
  have hrn:r.au.Nodup:=by
    rw[h.au,List.nodup_iff_pairwise_ne,List.pairwise_map]
    refine (List.Pairwise.and_mem.1 h.nodup).imp ?_
    rintro x y ⟨hx,hy,hne⟩ e
    obtain ⟨h1,h2⟩:=hget x hx
    obtain ⟨h3,h4⟩:=hget y hy
    rw[h2,h4] at e
    have h5:=(List.getElem_inj hgn.1).1 e
    have h6:=h.inside x hx
    have h7:=h.inside y hy
    exact hne (by omega)
  have hrules:(g.rules.filter (bG p q)).length≤g.rules.length:=List.length_filter_le _ _
  obtain ⟨R0,hR0,hk0,_⟩:=h.from_ _ h.start
  have hpos:0 < (g.rules.filter (bG p q)).length:=List.length_pos_of_mem (List.mem_filter.2 ⟨hR0,hk0⟩)
  have hrl:r.rules.length=(g.rules.filter (bG p q)).length:=by rw[h.rules]; simp
  refine ⟨⟨⟨⟨⟨⟨⟨by rw[h.ay]; exact a1,?_⟩,⟨by rw[h.len]; omega,by rw[h.len]; omega⟩,?_⟩,by omega⟩,by omega⟩,by rw[h.Fa]; omega⟩,by rw[h.Fa,h.len]; omega⟩,?_⟩
  · rw[h.ay,yQ h.ay]; exact a2
  · rw[su]
    intro k s hk
    have hm:=List.mem_of_getElem? hk
    have hidx:=(r9 r.au).2 hrn k s hk
    rw[h.au,List.mem_map] at hm
    obtain ⟨x,hx,rfl⟩:=hm
    obtain ⟨h1,h2⟩:=hget x hx
    obtain ⟨h3,h4⟩:=hgn.2 _ (h2 ▸ List.getElem_mem h1:g.au.getD x.toNat ⟨#[]⟩∈g.au)
    simp only[kM,xu,Bool.and_eq_true,beq_iff_eq,decide_eq_true_eq]
    refine ⟨⟨h3,by rw[hidx]; omega⟩,?_⟩
    simp only[lg,h.ay] at h4 ⊢
    exact h4
  · rw[h.rules]
    have:=uW (r:=r) h.nodup h.len (g.rules.filter (bG p q)) [] (by rw[h.oe]; rfl) (fun x hx=>?_)
    · simpa using this
    obtain ⟨hm,hk⟩:=List.mem_filter.1 hx
    obtain ⟨_,hin⟩:=h.kept x hm hk
    have hb:=(x3 _ _ a10).2 x hm
    have hb:=hb.2.2
    simp only[gv,Bool.and_eq_true,decide_eq_true_eq,List.all_eq_true] at hb ⊢
    obtain ⟨⟨⟨b1,b2⟩,b3⟩,b4⟩:=hb
    refine ⟨⟨⟨by simpa [bj] using b1,b2⟩,by rw[h.ay]; exact b3⟩,fun s hs=>?_⟩
    simp only[bj,List.mem_map] at hs
    obtain ⟨s0,hs0,rfl⟩:=hs
    have b5:=b4 s0 hs0
    by_cases hn:s0 < 0
    · rw[if_pos hn]
      have hl:=kj (hin s0 hs0 hn)
      simp only[lk,im,Bool.and_eq_true]
      rw[if_neg (by omega),decide_eq_false (p:=0≤-1 - bo o (-1 - s0)) (by omega)]
      simp only[h.len,decide_eq_true_eq,Bool.false_and,Bool.not_false,and_true]
      omega
    · rw[if_neg hn]
      simp only[lk,im,h.ay] at b5 ⊢
      rw[if_pos (by omega)] at b5 ⊢
      exact b5
end
inductive tP (g:ao):Int→Prop
  | mk (R:aM):R∈g.rules→(∀ s∈R.right,s < 0→tP g (-1 - s))→tP g R.left
inductive ni (g:ao) (p:List Bool):Int→Prop
  | start:ni g p g.start
  | next (R:aM) (s:Int):R∈g.rules→ni g p R.left→dy R.right p true=true→s∈R.right→s < 0→ni g p (-1 - s)
theorem u4 {l:List Int} {p:List Bool} : dy l p true=true↔∀ s∈l,s < 0→p.getD (-1 - s).toNat false=true:=by
  simp only[dy,List.all_eq_true]
  constructor
  · intro h s hs hn
    have:=h s hs
    rwa [if_neg (by omega)] at this
  · intro h s hs
    by_cases hn:s < 0
    · rw[if_neg (by omega)]; exact h s hs hn
    · rw[if_pos (by omega)]
theorem zG {l:List Bool} {i j:Nat} (h:(l.set i true).getD j false=true):j=i∨l.getD j false=true:=by
  by_cases e:i=j
  · exact .inl e.symm
  · right
    simp only[List.getD_eq_getElem?_getD,List.getElem?_set,if_neg e] at h ⊢
    exact h
theorem Ap {g:ao} {i:Nat} : (bZ g).getD i false=false:=by
  simp only[bZ,List.getD_eq_getElem?_getD,List.getElem?_replicate]
  split <;> rfl
theorem DQ {g:ao} (hr:bm g=true):∀ i:Nat,(aI g true).getD i false=true→tP g i:=by
  have hf:=aX hr
  have hst:∀ (is:List Bool) (R:aM),R∈g.rules→(∀ i:Nat,is.getD i false=true→tP g i)→∀ i:Nat,(dD true is R).getD i false=true→tP g i:=by
    intro is R hR h i hi
    unfold dD at hi
    split at hi
    · rename_i ha
      rcases zG hi with rfl | hi
      · have:=hf.left R hR
        have e:((R.left.toNat:Nat):Int)=R.left:=by omega
        rw[e]
        refine .mk R hR fun s hs hn=>?_
        have:=h _ (u4.1 ha s hs hn)
        rwa [show (((-1 - s).toNat:Nat):Int) = -1 - s by omega] at this
      · exact h i hi
    · exact h i hi
  have hfold:∀ (l:List aM) (is:List Bool),(∀ R∈l,R∈g.rules)→(∀ i:Nat,is.getD i false=true→tP g i)→∀ i:Nat,(l.foldl (dD true) is).getD i false=true→tP g i:=by
    intro l
    induction l with
    | nil=>intro is _ h; exact h
    | cons R l ih=>intro is hl h; exact ih _ (fun x hx=>hl x (by simp[hx])) (hst is R (hl R (by simp)) h)
  have hit:∀ (n:Nat) (is:List Bool),(∀ i:Nat,is.getD i false=true→tP g i)→∀ i:Nat,(iter (iZ g true) n is).getD i false=true→tP g i:=by
    intro n
    induction n with
    | zero=>intro is h; exact h
    | succ n ih=>intro is h; exact ih _ (hfold g.rules is (fun _ h=>h) h)
  rw[aI,if_pos hr]
  exact hit _ _ fun i hi=>by rw[Ap] at hi; simp at hi
theorem CC (t:Bool) (is:List Bool) (R:aM):fC is (dD t is R):=by
  unfold dD
  split
  · exact .set _ _
  · exact .refl _
theorem B5 (t:Bool):∀ (l:List aM) (is:List Bool),fC is (l.foldl (dD t) is)
  | [],is=>.refl _
  | R :: l,is=>(CC t is R).trans (B5 t l _)
theorem An {t:Bool} : ∀ {l:List aM} {is:List Bool},l.foldl (dD t) is=is→∀ R∈l,dD t is R=is
  | [],_,_,_,h=>by simp at h
  | R :: l,is,h,x,hx=>by
    rw[List.foldl_cons] at h
    have h1:=B5 t l (dD t is R)
    rw[h] at h1
    have h2:=(h1.Kq (CC t is R))
    rcases List.mem_cons.1 hx with rfl | hx
    · exact h2
    · rw[h2] at h; exact An h x hx
theorem II {g:ao} (hr:bm g=true) (t:Bool):iZ g t (aI g t)=aI g t:=by
  have hf:=aX hr
  have h:=rX (rA t) g.rules 16 (bZ g) (by have:=hf.au; simp[bZ]; omega)
  rw[F6,IB hr] at h
  exact h.1
theorem rv {g:ao} (hr:bm g=true) {t:Bool} {R:aM} (hR:R∈g.rules) (ha:dy R.right (aI g t) t=true):(aI g t).getD R.left.toNat false=true:=by
  have h1:=An (II hr t) R hR
  have hf:=aX hr
  have hl:=iX hr t
  have hb:=hf.left R hR
  unfold dD at h1
  rw[if_pos ha] at h1
  rw[← h1]
  simp only[List.getD_eq_getElem?_getD]
  rw[List.getElem?_set_self (by omega)]
  rfl
theorem wT {g:ao} (hr:bm g=true) {x:Int} (h:tP g x):(aI g true).getD x.toNat false=true:=by
  induction h with
  | mk R hR _ ih=>exact rv hr hR (u4.2 fun s hs hn=>ih s hs hn)
theorem wX {g:ao} (hr:bm g=true):∀ i:Nat,(bz g).getD i false=true→ni g (aI g true) i:=by
  have hf:=aX hr
  have hmk:∀ (R:aM),R∈g.rules→ni g (aI g true) R.left→dy R.right (aI g true) true=true→∀ (l:List Int) (is:List Bool),(∀ s∈l,s∈R.right)→(∀ i:Nat,is.getD i false=true→ni g (aI g true) i)→∀ i:Nat,(l.foldl mark is).getD i false=true→ni g (aI g true) i:=by
    intro R hR hl ha l
    induction l with
    | nil=>intro is _ h; exact h
    | cons s l ih =>
      intro is hs h
      refine ih _ (fun x hx=>hs x (by simp[hx])) fun i hi=>?_
      unfold mark at hi
      split at hi
      · rename_i hn
        rcases zG hi with rfl | hi
        · rw[show (((-1 - s).toNat:Nat):Int) = -1 - s by omega]
          exact .next R s hR hl ha (hs s (by simp)) hn
        · exact h i hi
      · exact h i hi
  have hst:∀ (is:List Bool) (R:aM),R∈g.rules→(∀ i:Nat,is.getD i false=true→ni g (aI g true) i)→∀ i:Nat,(eM (aI g true) is R).getD i false=true→ni g (aI g true) i:=by
    intro is R hR h
    unfold eM
    split
    · rename_i ha
      rw[Bool.and_eq_true] at ha
      have h1:=h _ ha.1
      have:=hf.left R hR
      rw[show ((R.left.toNat:Nat):Int)=R.left by omega] at h1
      exact hmk R hR h1 ha.2 R.right is (fun _ h=>h) h
    · exact h
  have hfold:∀ (l:List aM) (is:List Bool),(∀ R∈l,R∈g.rules)→(∀ i:Nat,is.getD i false=true→ni g (aI g true) i)→∀ i:Nat,(l.foldl (eM (aI g true)) is).getD i false=true→ni g (aI g true) i:=by
    intro l
    induction l with
    | nil=>intro is _ h; exact h
    | cons R l ih=>intro is hl h; exact ih _ (fun x hx=>hl x (by simp[hx])) (hst is R (hl R (by simp)) h)
  have hit:∀ (n:Nat) (is:List Bool),(∀ i:Nat,is.getD i false=true→ni g (aI g true) i)→∀ i:Nat,(iter (mq g (aI g true)) n is).getD i false=true→ni g (aI g true) i:=by
    intro n
    induction n with
    | zero=>intro is h; exact h
    | succ n ih=>intro is h; exact ih _ (hfold g.rules is (fun _ h=>h) h)
  rw[bz,if_pos hr]
  refine hit _ _ fun i hi=>?_
  rcases zG hi with rfl | hi
  · have:=hf.eA
    rw[show ((g.start.toNat:Nat):Int)=g.start by omega]
    exact .start
  · rw[Ap] at hi; simp at hi
theorem xQ {g:ao} (hr:bm g=true) {x:Int} (h:ni g (aI g true) x):(bz g).getD x.toNat false=true:=by
  induction h with
  | start=>exact tg hr
  | next R s hR _ ha hs hn ih=>exact uN hr hR (by rw[bG,ih,ha]; rfl) hs hn
section
variable {g r:ao} {p q:List Bool} {o:List Int}
theorem dX.Qx (h:dX g p q o r) {x:Int} (hd:tP g x):x∈o→tP r (bo o x):=by
  induction hd with
  | mk R hR hsub ih =>
    intro hx
    obtain ⟨R1,hR1,hk1,e1⟩:=h.from_ _ hx
    have hk:bG p q R=true:=by
      rw[bG,Bool.and_eq_true] at hk1 ⊢
      refine ⟨by rw[← e1]; exact hk1.1,?_⟩
      rw[h.pe]
      exact u4.2 fun s hs hn=>wT h.right (hsub s hs hn)
    have hin:=(h.kept R hR hk).2
    have hm:bj (bo o) R∈r.rules:=by rw[h.rules]; exact List.mem_map.2 ⟨R,List.mem_filter.2 ⟨hR,hk⟩,rfl⟩
    refine tP.mk (bj (bo o) R) hm fun s' hs' hn'=>?_
    simp only[bj,List.mem_map] at hs'
    obtain ⟨s,hs,rfl⟩:=hs'
    by_cases hn:s < 0
    · rw[if_pos hn]
      have:=ih s hs hn (hin s hs hn)
      rwa [show -1 - (-1 - bo o (-1 - s))=bo o (-1 - s) by omega]
    · rw[if_neg hn] at hn'; omega
theorem dX.P4 (h:dX g p q o r) {x:Int} (hx:x∈o):(aI r true).getD (bo o x).toNat false=true:=by
  obtain ⟨R,hR,hk,rfl⟩:=h.from_ _ hx
  rw[bG,Bool.and_eq_true,h.pe] at hk
  have h1:=rv h.right hR hk.2
  have h2:=DQ h.right _ h1
  have:=(h.inside _ hx)
  rw[show ((R.left.toNat:Nat):Int)=R.left by omega] at h2
  exact wT h.lD (h.Qx h2 hx)
theorem dX.at_ (h:dX g p q o r) {k:Nat} (hk:k < o.length):∃ x∈o,bo o x=k∧o[k]?=some x:=⟨o[k],List.getElem_mem _,yd h.nodup (List.getElem?_eq_getElem hk),List.getElem?_eq_getElem hk⟩
theorem dX.Dd (h:dX g p q o r) {k:Nat} (hk:k < o.length):(aI r true).getD k false=true:=by
  obtain ⟨x,hx,h1,_⟩:=h.at_ hk
  have:=h.P4 hx
  rwa [h1,Int.toNat_natCast] at this
theorem dX.I2 (h:dX g p q o r) {R:aM} (hR:R∈r.rules):dy R.right (aI r true) true=true:=by
  have hf:=aX h.lD
  refine u4.2 fun s hs hn=>h.Dd ?_
  have:=hf.neg hR hs hn
  rw[h.len] at this
  omega
theorem dX.Qv (h:dX g p q o r) {x:Int} (hd:ni g (aI g true) x):ni r (aI r true) (bo o x):=by
  induction hd with
  | start=>rw[← h.Fa]; exact .start
  | next R s hR h1 ha hs hn ih =>
    have hk:bG p q R=true:=by
      rw[bG,h.pe,h.qe,ha,xQ h.right h1]; rfl
    have hm:bj (bo o) R∈r.rules:=by rw[h.rules]; exact List.mem_map.2 ⟨R,List.mem_filter.2 ⟨hR,hk⟩,rfl⟩
    have hin:=(h.kept R hR hk).2 s hs hn
    have h2:=kj hin
    have:=ni.next (g:=r) (p:=aI r true) (bj (bo o) R) (-1 - bo o (-1 - s)) hm ih (h.I2 hm) (by
      simp only[bj,List.mem_map]
      exact ⟨s,hs,by rw[if_pos hn]⟩) (by omega)
    rwa [show -1 - (-1 - bo o (-1 - s))=bo o (-1 - s) by omega] at this
theorem dX.B7 (h:dX g p q o r) {k:Nat} (hk:k < o.length):(bz r).getD k false=true:=by
  obtain ⟨x,hx,h1,_⟩:=h.at_ hk
  obtain ⟨R,hR,hkk,rfl⟩:=h.from_ _ hx
  rw[bG,Bool.and_eq_true,h.qe] at hkk
  have h2:=wX h.right _ hkk.1
  have:=(h.inside _ hx)
  rw[show ((R.left.toNat:Nat):Int)=R.left by omega] at h2
  have:=xQ h.lD (h.Qv h2)
  rwa [h1,Int.toNat_natCast] at this
def kH (n:Nat):List Int:=(List.range n).map fun (k:Nat)=>(k:Int)
theorem EF (n:Nat):(kH n).length=n:=by simp[kH]
theorem zK {n k:Nat} (h:k < n):(kH n)[k]?=some (k:Int):=by simp[kH,h]
theorem HI (n:Nat):(kH n).Nodup:=by
  rw[kH,List.nodup_iff_pairwise_ne,List.pairwise_map]
  exact (List.nodup_range (n:=n)).imp fun h e=>h (by omega)
theorem zE {n:Nat} {x:Int} (h0:0≤x) (h1:x < n):bo (kH n) x=x:=by
  have:=yd (HI n) (zK (n:=n) (k:=x.toNat) (by omega))
  rw[show ((x.toNat:Nat):Int)=x by omega] at this
  exact this
theorem CM {p q:List Bool} : ∀ (l:List aM) (i:Int),(∀ R∈l,bG p q R=true)→cq p q l i=(List.range l.length).map fun (k:Nat)=>i+(k:Int)
  | [],_,_=>rfl
  | R :: l,i,h=>by
    rw[cq,if_pos (h R (by simp)),CM l (i+1) (fun x hx=>h x (by simp[hx])),List.length_cons,List.range_succ_eq_map,List.map_cons,List.map_map]
    congr 1
    · omega
    · apply List.map_congr_left
      intro k _
      simp only[Function.comp]
      push_cast; omega
theorem tK {f:Int→Int} {o:List Int} (hf:∀ x∈o,∀ y∈o,f x=f y→x=y):∀ (l:List aM) (acc:List Int),(∀ x∈acc,x∈o)→(∀ R∈l,R.left∈o)→(l.map (bj f)).foldl di (acc.map f)=(l.foldl di acc).map f
  | [],_,_,_=>rfl
  | R :: l,acc,ha,hl=>by
    have e:di (acc.map f) (bj f R)=(di acc R).map f:=by
      have h1:(bj f R).left=f R.left:=rfl
      unfold di
      rw[h1]
      by_cases h:R.left∈acc
      · rw[if_pos h,if_pos (List.mem_map.2 ⟨_,h,rfl⟩)]
      · rw[if_neg h,if_neg (fun hm=>by
          obtain ⟨y,hy,e⟩:=List.mem_map.1 hm
          exact h (hf y (ha y hy) _ (hl R (by simp)) e ▸ hy))]
        simp
    rw[List.map_cons,List.foldl_cons,List.foldl_cons,e]
    refine tK hf l (di acc R) (fun x hx=>?_) (fun x hx=>hl x (by simp[hx]))
    unfold di at hx
    split at hx
    · exact ha x hx
    · rcases List.mem_append.1 hx with hx | hx
      · exact ha x hx
      · simp at hx; subst hx; exact hl R (by simp)
theorem dX.inj (h:dX g p q o r):∀ x∈o,∀ y∈o,bo o x=bo o y→x=y:=by
  intro x hx y hy e
  have h1:=zg hx
  have h2:=zg hy
  rw[e,h2] at h1
  exact (Option.some.inj h1).symm
theorem dX.NI (h:dX g p q o r):o.map (bo o)=kH o.length:=by
  apply List.ext_getElem?
  intro k
  rw[List.getElem?_map]
  by_cases hk:k < o.length
  · rw[zK hk,List.getElem?_eq_getElem hk,Option.map_some,yd h.nodup (List.getElem?_eq_getElem hk)]
  · rw[List.getElem?_eq_none (by omega),List.getElem?_eq_none (by rw[EF]; omega)]; rfl
theorem dX.zt (h:dX g p q o r):∀ R∈r.rules,bG (aI r true) (bz r) R=true:=fun R hR=>by
  have hf:=aX h.lD
  have:=hf.left R hR
  rw[h.len] at this
  rw[bG,h.B7 (by omega),h.I2 hR]; rfl
theorem dX.ord (h:dX g p q o r):bL (aI r true) (bz r) r.rules=kH o.length:=by
  unfold bL
  rw[List.filter_eq_self.2 h.zt,h.rules]
  have:=tK h.inj (g.rules.filter (bG p q)) [] (by simp) (fun R hR=>by
    obtain ⟨h1,h2⟩:=List.mem_filter.1 hR
    exact (h.kept R h1 h2).1)
  rw[List.map_nil] at this
  rw[this,← h.NI]
  congr 1
  rw[h.oe]; rfl
theorem dX.once (h:dX g p q o r):eX r=(r,kH r.rules.length,0):=by
  have hf:=aX h.lD
  have hst:=hf.start
  have hst0:=hf.eA
  rw[h.len] at hst
  rw[m0 h.lD,if_pos (h.Dd (by omega)),h.ord]
  have hk:cq (aI r true) (bz r) r.rules 0=kH r.rules.length:=by
    rw[CM _ _ h.zt]
    unfold kH
    apply List.map_congr_left
    intro k _; omega
  have hr:je r (bo (kH o.length)) (aI r true) (bz r)=r:=by
    unfold je
    rw[h.ord,List.filter_eq_self.2 h.zt]
    have e1:((kH o.length).map fun x=>r.au.getD x.toNat ⟨#[]⟩)=r.au:=by
      apply List.ext_getElem?
      intro k
      rw[List.getElem?_map]
      by_cases hkk:k < o.length
      · rw[zK hkk,Option.map_some]
        simp[List.getD_eq_getElem?_getD,List.getElem?_eq_getElem (show k < r.au.length by rw[h.len]; omega)]
      · rw[List.getElem?_eq_none (by rw[EF]; omega),List.getElem?_eq_none (by rw[h.len]; omega)]; rfl
    have e2:r.rules.map (bj (bo (kH o.length)))=r.rules:=by
      conv=>rhs; rw[← List.map_id r.rules]
      apply List.map_congr_left
      intro R hR
      have hl:=hf.left R hR
      rw[h.len] at hl
      unfold bj
      rw[zE hl.1 hl.2]
      have e3:(R.right.map fun s=>if s < 0 then -1 - bo (kH o.length) (-1 - s) else s)=R.right:=by
        conv=>rhs; rw[← List.map_id R.right]
        apply List.map_congr_left
        intro s hs
        by_cases hn:s < 0
        · have:=hf.neg hR hs hn
          rw[h.len] at this
          rw[if_pos hn,zE (by omega) this]
          simp only[id]; omega
        · rw[if_neg hn]; rfl
      rw[e3]; rfl
    rw[e1,e2,zE hst0 hst]
  rw[hr,hk]
end
def isRed (g:ao):Bool:=(eX g).2.2 == 0 && decide (g=(eX g).1)
structure bh where
  ba:Int
  br:Int
  rules:Int
  ay:Int
def gL:bh:=⟨(-1),0,0,0⟩
def bq:bh:=⟨0,0,0,0⟩
def bb (P:List bh) (m:Nat):bh:=P.getD m gL
abbrev bD (x:Int):Nat:=(-1 - x).toNat
def bE (P:List bh):List Int→bh→bh × Bool
  | [],s=>(s,true)
  | x :: l,s=>if 0≤x then bE P l ⟨s.ba,s.br,s.rules,min 1048576 (s.ay+1)⟩
    else if (bb P (bD x)).ba < 0 then (s,false)
    else bE P l ⟨s.ba,max s.br (bb P (bD x)).br,min 1048576 (s.rules+(bb P (bD x)).rules),min 1048576 (s.ay+(bb P (bD x)).ay)⟩
def bf (P:List bh) (m:Nat):Prop:=0≤(bb P m).ba
def fG (P:List bh) (l:List Int):Prop:=∀ x∈l,x < 0→bf P (bD x)
theorem jc (P:List bh):∀ (l:List Int) (s:bh),(bE P l s).2=true↔fG P l
  | [],s=>by simp[bE,fG]
  | x :: l,s=>by
    simp only[bE,fG,List.mem_cons]
    by_cases h:0≤x
    · rw[if_pos h,jc P l]
      refine ⟨fun k y hy hn=>?_,fun k y hy=>k y (.inr hy)⟩
      rcases hy with rfl | hy
      · omega
      · exact k y hy hn
    · rw[if_neg h]
      by_cases h2:(bb P (bD x)).ba < 0
      · rw[if_pos h2]
        simp only[Bool.false_eq_true,false_iff]
        intro k
        have:=k x (.inl rfl) (by omega)
        unfold bf at this; omega
      · rw[if_neg h2,jc P l]
        refine ⟨fun k y hy hn=>?_,fun k y hy=>k y (.inr hy)⟩
        rcases hy with rfl | hy
        · unfold bf; omega
        · exact k y hy hn
theorem fS (P:List bh) (k:Int):∀ (l:List Int) (s:bh),fG P l→((bE P l s).1.br≤k↔s.br≤k∧∀ x∈l,x < 0→(bb P (bD x)).br≤k)
  | [],s,_=>by simp[bE]
  | x :: l,s,h=>by
    have hl:fG P l:=fun y hy=>h y (by simp[hy])
    simp only[bE,List.mem_cons]
    by_cases h0:0≤x
    · rw[if_pos h0,fS P k l _ hl]
      refine ⟨fun ⟨a,b⟩=>⟨a,fun y hy hn=>?_⟩,fun ⟨a,b⟩=>⟨a,fun y hy=>b y (.inr hy)⟩⟩
      rcases hy with rfl | hy
      · omega
      · exact b y hy hn
    · have:=h x (by simp) (by omega)
      unfold bf at this
      rw[if_neg h0,if_neg (by omega),fS P k l _ hl]
      refine ⟨fun ⟨a,b⟩=>⟨by simp only at a; omega,fun y hy hn=>?_⟩,fun ⟨a,b⟩=>⟨by have:=b x (.inl rfl) (by omega); simp only; omega,fun y hy=>b y (.inr hy)⟩⟩
      rcases hy with rfl | hy
      · simp only at a; omega
      · exact b y hy hn
theorem AQ {P P':List bh} : ∀ (l:List Int) (s:bh),(∀ x∈l,x < 0→bb P (bD x)=bb P' (bD x))→bE P l s=bE P' l s
  | [],s,_=>rfl
  | x :: l,s,h=>by
    have hl:=fun s=>AQ (P:=P) (P':=P') l s fun y hy=>h y (by simp[hy])
    simp only[bE]
    by_cases h0:0≤x
    · rw[if_pos h0,if_pos h0,hl]
    · rw[if_neg h0,if_neg h0,h x (by simp) (by omega),hl]
theorem pc (P:List bh):∀ (l:List Int) (s:bh),s.br≤(bE P l s).1.br
  | [],s=>Int.le_refl _
  | x :: l,s=>by
    simp only[bE]
    split
    · exact pc P l _
    · split
      · exact Int.le_refl _
      · have:=pc P l ⟨s.ba,max s.br (bb P (bD x)).br,min 1048576 (s.rules+(bb P (bD x)).rules),min 1048576 (s.ay+(bb P (bD x)).ay)⟩
        simp only at this ⊢; omega
def ef (P:List bh) (i:Nat) (r:aM):bh:=⟨i,(bE P r.right bq).1.br+1,min 1048576 ((bE P r.right bq).1.rules+1),(bE P r.right bq).1.ay⟩
def oI (P:List bh) (i:Nat) (N:List bh) (r:aM):List bh :=
  if 0≤(bb N r.left.toNat).ba then N else if (bE P r.right bq).2=true then N.set r.left.toNat (ef P i r) else N
def k6 (P:List bh):Nat→List bh→List aM→List bh
  | _,N,[]=>N
  | i,N,r :: l=>k6 P (i+1) (oI P i N r) l
def xI (rules:List aM) (P:List bh):List bh:=k6 P 0 P rules
def kN (P:List bh) (m:Nat):Nat→List aM→Option bh
  | _,[]=>none
  | i,r :: l=>if r.left.toNat=m∧(bE P r.right bq).2=true then some (ef P i r) else kN P m (i+1) l
theorem yp {N:List bh} {i m:Nat} {p:bh} (hm:m < N.length):bb (N.set i p) m=if i=m then p else bb N m:=by
  simp only[bb,List.getD_eq_getElem?_getD,List.getElem?_set]
  split
  · rename_i e; subst e; simp[hm]
  · rfl
theorem CU (P:List bh) (i:Nat) (N:List bh) (r:aM):(oI P i N r).length=N.length:=by
  unfold oI; split; · rfl
  split <;> simp
theorem Cv (P:List bh):∀ (l:List aM) (i:Nat) (N:List bh),(k6 P i N l).length=N.length
  | [],_,_=>rfl
  | r :: l,i,N=>by rw[k6,Cv P l,CU]
theorem EA (P:List bh) (m:Nat):∀ (l:List aM) (i:Nat) (N:List bh),m < N.length→bb (k6 P i N l) m=if 0≤(bb N m).ba then bb N m else (kN P m i l).getD (bb N m)
  | [],i,N,hm=>by simp[k6,kN]
  | r :: l,i,N,hm=>by
    rw[k6,EA P m l (i+1) _ (by rw[CU]; exact hm),kN]
    unfold oI
    by_cases h1:0≤(bb N r.left.toNat).ba
    · rw[if_pos h1]
      by_cases h2:r.left.toNat=m
      · subst h2
        rw[if_pos h1,if_pos h1]
      · rw[if_neg (c:=r.left.toNat=m∧_) (fun e=>h2 e.1)]
    · rw[if_neg h1]
      by_cases h3:(bE P r.right bq).2=true
      · rw[if_pos h3]
        by_cases h2:r.left.toNat=m
        · subst h2
          rw[yp hm,if_pos rfl,if_neg h1,if_pos (show (0:Int)≤(ef P i r).ba by simp only[ef]; omega),if_pos (c:=r.left.toNat=r.left.toNat∧_) (And.intro rfl h3)]
          rfl
        · rw[yp hm,if_neg h2,if_neg (c:=r.left.toNat=m∧_) (fun e=>h2 e.1)]
      · rw[if_neg h3,if_neg (c:=r.left.toNat=m∧_) (fun e=>h3 e.2)]
theorem gF {P:List bh} {m:Nat} : ∀ {l:List aM} {i:Nat} {p:bh},kN P m i l=some p→∃ (j:Nat) (r:aM),l[j]?=some r∧r.left.toNat=m∧fG P r.right∧p=ef P (i+j) r∧∀ (j':Nat) (r':aM),j' < j→l[j']?=some r'→r'.left.toNat=m→¬ fG P r'.right
  | [],i,p,h=>by simp[kN] at h
  | r :: l,i,p,h=>by
    rw[kN] at h
    by_cases hc:r.left.toNat=m∧(bE P r.right bq).2=true
    · rw[if_pos hc] at h
      exact ⟨0,r,rfl,hc.1,(jc P _ _).1 hc.2,by simpa using h.symm,fun j' r' hj=>by omega⟩
    · rw[if_neg hc] at h
      obtain ⟨j,r2,a,b,c,d,e⟩:=gF h
      refine ⟨j+1,r2,by simpa using a,b,c,by rw[d]; congr 1; omega,fun j' r' hj hr hl hk=>?_⟩
      cases j' with
      | zero =>
        simp at hr; subst hr
        exact hc ⟨hl,(jc P _ _).2 hk⟩
      | succ j'=>exact e j' r' (by omega) (by simpa using hr) hl hk
theorem wN {P:List bh} {m:Nat} : ∀ {l:List aM} {i:Nat},kN P m i l=none→∀ r∈l,r.left.toNat=m→¬ fG P r.right
  | [],i,h,r,hr,_,_=>by simp at hr
  | r :: l,i,h,r',hr,hl,hk=>by
    rw[kN] at h
    by_cases hc:r.left.toNat=m∧(bE P r.right bq).2=true
    · rw[if_pos hc] at h; simp at h
    · rw[if_neg hc] at h
      rcases List.mem_cons.1 hr with rfl | hr
      · exact hc ⟨hl,(jc P _ _).2 hk⟩
      · exact wN h r' hr hl hk
def aA (g:ao) (k:Nat):List bh:=iter (xI g.rules) k (List.replicate g.au.length gL)
theorem Ce {α:Type} (f:α→α):∀ (k:Nat) (x:α),iter f (k+1) x=f (iter f k x)
  | 0,x=>rfl
  | k+1,x=>by rw[iter,Ce f k,iter]
theorem mQ (g:ao) (k:Nat):aA g (k+1)=xI g.rules (aA g k):=Ce _ _ _
theorem dG (g:ao):∀ k,(aA g k).length=g.au.length
  | 0=>by simp[aA,iter]
  | k+1=>by rw[mQ,xI,Cv,dG g k]
theorem uo {P:List bh} {m:Nat} (h:P.length≤m):bb P m=gL:=by simp[bb,List.getD_eq_getElem?_getD,List.getElem?_eq_none h]
theorem DG {P:List bh} {m:Nat} (h:bf P m):m < P.length:=by
  rcases Nat.lt_or_ge m P.length with h1 | h1
  · exact h1
  · unfold bf at h; rw[uo h1] at h; simp[gL] at h
theorem nT (g:ao) (k m:Nat):bb (aA g (k+1)) m=if 0≤(bb (aA g k) m).ba then bb (aA g k) m else if m < g.au.length then (kN (aA g k) m 0 g.rules).getD (bb (aA g k) m) else bb (aA g k) m:=by
  by_cases hm:m < g.au.length
  · rw[mQ,xI,EA _ _ _ _ _ (by rw[dG]; exact hm),if_pos hm]
  · rw[if_neg hm,uo (by rw[dG]; omega),uo (by rw[dG]; omega)]
    simp
theorem AD {g:ao} {k m:Nat} (h:bf (aA g k) m):bb (aA g (k+1)) m=bb (aA g k) m:=by
  rw[nT]; unfold bf at h; rw[if_pos h]
theorem yB {g:ao} {k m:Nat} (h:bf (aA g k) m):∀ d,bb (aA g (k+d)) m=bb (aA g k) m
  | 0=>rfl
  | d+1=>by
    have ih:=yB h d
    have:bf (aA g (k+d)) m:=by unfold bf at h ⊢; rw[ih]; exact h
    rw[← ih,← AD this]; rfl
theorem fj {g:ao} {k m j:Nat} (h:bf (aA g k) m) (hj:k≤j):bb (aA g j) m=bb (aA g k) m∧bf (aA g j) m:=by
  obtain ⟨d,rfl⟩:∃ d,j=k+d:=⟨j - k,by omega⟩
  have:=yB h d
  exact ⟨this,by unfold bf at h ⊢; rw[this]; exact h⟩
theorem so {g:ao} {k m:Nat} (h0:¬ bf (aA g k) m) (h:bf (aA g (k+1)) m):kN (aA g k) m 0 g.rules=some (bb (aA g (k+1)) m):=by
  unfold bf at h h0
  rw[nT,if_neg h0] at h
  rw[nT,if_neg h0]
  split at h
  · rename_i hm
    rw[if_pos hm]
    cases hc:kN (aA g k) m 0 g.rules with
    | none=>rw[hc] at h; exact absurd h h0
    | some p=>rfl
  · exact absurd h h0
theorem gR {g:ao} {m:Nat} : ∀ {k:Nat},¬ bf (aA g k) m→bb (aA g k) m=gL
  | 0,_=>by
    simp only[aA,iter,bb,List.getD_eq_getElem?_getD,List.getElem?_replicate]
    split <;> rfl
  | k+1,h=>by
    have h0:¬ bf (aA g k) m:=fun e=>h (fj e (by omega)).2
    unfold bf at h h0
    rw[nT,if_neg h0] at h ⊢
    split
    · rename_i hm
      rw[if_pos hm] at h
      cases hc:kN (aA g k) m 0 g.rules with
      | none=>exact gR (k:=k) h0
      | some p =>
        rw[hc] at h
        obtain ⟨j,r,_,_,_,rfl,_⟩:=gF hc
        simp only[Option.getD_some,ef] at h; omega
    · exact gR (k:=k) h0
theorem dF (g:ao):∀ k:Nat,∀ m,bf (aA g k) m→1≤(bb (aA g k) m).br∧(bb (aA g k) m).br≤k∧∀ j:Nat,j≤k→(bb (aA g k) m).br≤j→bf (aA g j) m
  | 0,m,h=>by
    unfold bf at h
    have:bb (aA g 0) m=gL:=by
      simp only[aA,iter,bb,List.getD_eq_getElem?_getD,List.getElem?_replicate]
      split <;> rfl
    rw[this] at h; simp[gL] at h
  | k+1,m,h=>by
    have ih:=dF g k
    by_cases h0:bf (aA g k) m
    · obtain ⟨a,b,c⟩:=ih m h0
      rw[(fj h0 (Nat.le_succ k)).1]
      refine ⟨a,by push_cast; omega,fun j hj hh=>?_⟩
      rcases Nat.lt_or_ge k j with e | e
      · exact (fj h0 (by omega)).2
      · exact c j e hh
    · have hc:=so h0 h
      obtain ⟨i,r,hr,hl,hk,hp,_⟩:=gF hc
      have hh:(bb (aA g (k+1)) m).br=(bE (aA g k) r.right bq).1.br+1:=by rw[hp]; rfl
      have h1:=pc (aA g k) r.right bq
      have h2:=(fS (aA g k) k r.right bq hk).2 ⟨by simp[bq],fun x hx hn=>(ih _ (hk x hx hn)).2.1⟩
      have h3:¬ (bE (aA g k) r.right bq).1.br≤(k:Int) - 1:=by
        intro hle
        have hz:(0:Int)≤(bE (aA g k) r.right bq).1.br:=h1
        obtain ⟨d,rfl⟩:∃ d,k=d+1:=⟨k - 1,by omega⟩
        have h4:=((fS (aA g (d+1)) _ r.right bq hk).1 hle).2
        have h5:fG (aA g d) r.right:=fun x hx hn=>(ih _ (hk x hx hn)).2.2 d (by omega) (by have:=h4 x hx hn; push_cast at this; omega)
        apply h0
        by_cases h6:bf (aA g d) m
        · exact (fj h6 (by omega)).2
        · unfold bf at h6 ⊢
          have hm:=DG h
          rw[dG] at hm
          rw[nT,if_neg h6,if_pos hm]
          cases hc2:kN (aA g d) m 0 g.rules with
          | none=>exact absurd h5 (wN hc2 r (List.mem_of_getElem? hr) hl)
          | some p =>
            obtain ⟨j,r2,_,_,_,rfl,_⟩:=gF hc2
            simp only[Option.getD_some,ef]; omega
      have hz:(0:Int)≤(bE (aA g k) r.right bq).1.br:=h1
      refine ⟨by omega,by push_cast; omega,fun j hj hle=>?_⟩
      have:j=k+1:=by omega
      subst this; exact h
theorem vn {g:ao} {m:Nat} : ∀ {k:Nat},bf (aA g k) m→∃ j,j < k∧¬ bf (aA g j) m∧(bb (aA g k) m).br=j+1∧kN (aA g j) m 0 g.rules=some (bb (aA g k) m)
  | 0,h=>by
    have:=(dF g 0 m h)
    simp at this; omega
  | k+1,h=>by
    by_cases h0:bf (aA g k) m
    · obtain ⟨j,a,b,c,d⟩:=vn h0
      rw[(fj h0 (Nat.le_succ k)).1]
      exact ⟨j,by omega,b,c,d⟩
    · refine ⟨k,by omega,h0,?_,so h0 h⟩
      obtain ⟨a,b,c⟩:=dF g (k+1) m h
      rcases Int.lt_or_le (k:Int) (bb (aA g (k+1)) m).br with e | e
      · push_cast at b; omega
      · exact absurd (c k (by omega) e) h0
def qZ (P:List bh):List Bool:=P.map fun p=>decide (0≤p.ba)
theorem AF (P:List bh) (m:Nat):(qZ P).getD m false=true↔bf P m:=by
  simp only[qZ,bf,bb,List.getD_eq_getElem?_getD,List.getElem?_map]
  cases P[m]? with
  | none=>simp[gL]
  | some p=>simp
theorem Pm (g:ao) (k:Nat):fC (qZ (aA g k)) (qZ (aA g (k+1))) :=
  ⟨by simp[qZ,dG],fun i h=>(AF _ _).2 (fj ((AF _ _).1 h) (by omega)).2⟩
theorem Oz {g:ao} {k:Nat} (h:qZ (aA g k)=qZ (aA g (k+1))):aA g (k+1)=aA g k:=by
  have hp:∀ m,bb (aA g (k+1)) m=bb (aA g k) m:=fun m=>by
    by_cases h0:bf (aA g k) m
    · exact AD h0
    · have h1:¬ bf (aA g (k+1)) m:=fun e=>h0 ((AF _ _).1 (by rw[h]; exact (AF _ _).2 e))
      rw[gR h0,gR h1]
  apply List.ext_getElem (by rw[dG,dG])
  intro m h1 h2
  have:=hp m
  simpa [bb,List.getD_eq_getElem?_getD,h1,h2] using this
theorem Hj {g:ao} {k:Nat} (hk:k≤dd (qZ (aA g k))):aA g (k+1)=aA g k∨k+1≤dd (qZ (aA g (k+1))):=by
  have:=(Pm g k).dd
  by_cases e:dd (qZ (aA g k))=dd (qZ (aA g (k+1)))
  · exact .inl (Oz (this.2 e))
  · exact .inr (by omega)
theorem Fp (g:ao) (k:Nat):dd (qZ (aA g k))≤g.au.length:=by
  have:=uH (qZ (aA g k))
  simpa [qZ,dG] using this
theorem AB {g:ao} {k:Nat} (h:aA g (k+1)=aA g k):∀ d,aA g (k+d)=aA g k
  | 0=>rfl
  | d+1=>by
    have ih:=AB h d
    rw[← Nat.add_assoc,mQ,ih,← mQ,h]
def av (g:ao):List bh:=aA g g.au.length
theorem eH (g:ao):(av g).length=g.au.length:=dG _ _
theorem KF {g:ao} {k:Nat} (hk:k≤g.au.length) (h:aA g (k+1)=aA g k):aA g k=av g:=by
  obtain ⟨d,hd⟩:∃ d,g.au.length=k+d:=⟨g.au.length - k,by omega⟩
  rw[av,hd,AB h d]
theorem gQ {g:ao} {m:Nat} (h:bf (av g) m):1≤(bb (av g) m).br∧(bb (av g) m).br≤g.au.length:=⟨(dF g _ m h).1,(dF g _ m h).2.1⟩
theorem vu {g:ao} {m:Nat} (h:¬ bf (av g) m):bb (av g) m=gL:=gR h
theorem kU {g:ao} {m:Nat} (h:bf (av g) m):∃ (i:Nat) (r:aM),g.rules[i]?=some r∧r.left.toNat=m∧fG (av g) r.right∧bb (av g) m=ef (av g) i r ∧
    ∀ (j:Nat) (r':aM),j < i→g.rules[j]?=some r'→r'.left.toNat=m→fG (av g) r'.right→(bE (av g) r'.right bq).1.br+1≠(bb (av g) m).br:=by
  obtain ⟨k,hk,hn,hh,hc⟩:=vn h
  obtain ⟨i,r,hr,hl,ha,hp,hmin⟩:=gF hc
  have hsame:∀ x∈r.right,x < 0→bb (aA g k) (bD x)=bb (av g) (bD x):=fun x hx hn=>((fj (ha x hx hn) (by omega)).1).symm
  have hs:bE (aA g k) r.right bq=bE (av g) r.right bq:=AQ _ _ hsame
  refine ⟨i,r,hr,hl,fun x hx hn=>(fj (ha x hx hn) (by omega)).2,?_,fun j r' hj hr' hl' ha' he=>?_⟩
  · show bb (aA g g.au.length) m=_
    rw[hp]; unfold ef; rw[hs,Nat.zero_add]
  · have h1:(bb (av g) m).br=k+1:=hh
    refine hmin j r' hj hr' hl' fun x hx hn=>?_
    have h2:=((fS (av g) k r'.right bq ha').1 (by omega)).2 x hx hn
    exact (dF g _ _ (ha' x hx hn)).2.2 k (by omega) h2
def ez (h:List Int) (m:Nat):Int:=h.getD m 0
def ep (h:List Int):List Int→Int→Int
  | [],top=>top+1
  | x :: l,top=>if 0≤x then ep h l top else if ez h (bD x)=0 then 0 else ep h l (max top (ez h (bD x)))
def iO (old:List Int) (k:Int) (out:List Int) (r:aM):List Int:=if ez out r.left.toNat=0∧ep old r.right 0=k then out.set r.left.toNat k else out
abbrev dW (P:List bh):List Int:=P.map bh.br
theorem kp (P:List bh) (m:Nat):ez (dW P) m=(bb P m).br:=by
  simp only[ez,bb,List.getD_eq_getElem?_getD,List.getElem?_map]
  cases P[m]? <;> rfl
def yu (P:List bh):Prop:=∀ m,(bf P m→1≤(bb P m).br)∧(¬ bf P m→bb P m=gL)
theorem z8 (g:ao) (k:Nat):yu (aA g k):=fun m=>⟨fun h=>(dF g k m h).1,gR⟩
theorem yu.zero {P:List bh} (h:yu P) (m:Nat):ez (dW P) m=0↔¬ bf P m:=by
  rw[kp]
  constructor
  · intro e k; have:=(h m).1 k; omega
  · intro k; rw[(h m).2 k]; rfl
theorem w5 {P:List bh} {x:Int} {l:List Int} {s:bh} (h:0≤x):bE P (x :: l) s=bE P l ⟨s.ba,s.br,s.rules,min 1048576 (s.ay+1)⟩:=by rw[bE,if_pos h]
theorem vw {P:List bh} {x:Int} {l:List Int} {s:bh} (h:¬ 0≤x) (hk:¬ (bb P (bD x)).ba < 0):bE P (x :: l) s=bE P l ⟨s.ba,max s.br (bb P (bD x)).br,min 1048576 (s.rules+(bb P (bD x)).rules),min 1048576 (s.ay+(bb P (bD x)).ay)⟩:=by rw[bE,if_neg h,if_neg hk]
theorem CH {P:List bh} {x:Int} {l:List Int} {s:bh} (h:¬ 0≤x) (hk:(bb P (bD x)).ba < 0):bE P (x :: l) s=(s,false):=by rw[bE,if_neg h,if_pos hk]
theorem xV {P:List bh} (hP:yu P):∀ (l:List Int) (s:bh),ep (dW P) l s.br=if (bE P l s).2=true then (bE P l s).1.br+1 else 0
  | [],s=>by simp[ep,bE]
  | x :: l,s=>by
    simp only[ep]
    by_cases h0:0≤x
    · rw[if_pos h0,w5 h0,← xV hP l]
    · rw[if_neg h0]
      by_cases h1:bf P (bD x)
      · have h2:=h1
        unfold bf at h2
        rw[if_neg (fun e=>((hP.zero _).1 e) h1),vw h0 (by omega),← xV hP l,kp]
      · have h2:=h1
        unfold bf at h2
        rw[if_pos ((hP.zero _).2 h1),CH h0 (by omega)]
        rfl
theorem oS {P:List bh} (hP:yu P) (l:List Int):(ep (dW P) l 0=0↔¬ fG P l)∧(fG P l→ep (dW P) l 0=(bE P l bq).1.br+1):=by
  have h:=xV hP l bq
  have h1:=pc P l bq
  have h2:(0:Int)≤(bE P l bq).1.br:=h1
  have h3:ep (dW P) l 0=_:=h
  rw[h3]
  by_cases hk:fG P l
  · have:=(jc P l bq).2 hk
    rw[if_pos this]
    exact ⟨⟨fun e=>by omega,fun e=>absurd hk e⟩,fun _=>rfl⟩
  · have:=fun e=>hk ((jc P l bq).1 e)
    rw[if_neg this]
    exact ⟨⟨fun _=>hk,fun _=>rfl⟩,fun e=>absurd e hk⟩
theorem MO {out:List Int} {i m:Nat} {v:Int} (hm:m < out.length):ez (out.set i v) m=if i=m then v else ez out m:=by
  simp only[ez,List.getD_eq_getElem?_getD,List.getElem?_set]
  split
  · rename_i e; subst e; simp[hm]
  · rfl
theorem Aq (old:List Int) (k:Int) (out:List Int) (r:aM):(iO old k out r).length=out.length:=by
  unfold iO; split <;> simp
theorem z7 (old:List Int) (k:Int):∀ (l:List aM) (out:List Int),(l.foldl (iO old k) out).length=out.length
  | [],_=>rfl
  | r :: l,out=>by rw[List.foldl_cons,z7 old k l,Aq]
theorem Ci (old:List Int) (k:Int) (m:Nat) (hk:k≠0):∀ (l:List aM) (out:List Int),m < out.length →
    (ez out m≠0→ez (l.foldl (iO old k) out) m=ez out m) ∧
    (ez out m=0→(∃ r∈l,r.left.toNat=m∧ep old r.right 0=k)→ez (l.foldl (iO old k) out) m=k) ∧
    (ez out m=0→(¬ ∃ r∈l,r.left.toNat=m∧ep old r.right 0=k)→ez (l.foldl (iO old k) out) m=0)
  | [],out,hm=>⟨fun _=>rfl,fun _ ⟨r,hr,_⟩=>by simp at hr,fun h _=>h⟩
  | r :: l,out,hm=>by
    obtain ⟨i1,i2,i3⟩:=Ci old k m hk l (iO old k out r) (by rw[Aq]; exact hm)
    rw[List.foldl_cons]
    unfold iO at i1 i2 i3 ⊢
    by_cases hc:ez out r.left.toNat=0∧ep old r.right 0=k
    · rw[if_pos hc] at i1 i2 i3 ⊢
      rw[MO hm] at i1 i2 i3
      by_cases e:r.left.toNat=m
      · rw[if_pos e] at i1 i2 i3
        refine ⟨fun h=>absurd (e ▸ hc.1) h,fun _ _=>i1 hk,fun _ h=>absurd ⟨r,by simp,e,hc.2⟩ h⟩
      · rw[if_neg e] at i1 i2 i3
        refine ⟨i1,fun h ⟨r',hr',h1,h2⟩=>?_,fun h h1=>i3 h fun ⟨r',hr',h2⟩=>h1 ⟨r',by simp[hr'],h2⟩⟩
        rcases List.mem_cons.1 hr' with rfl | hr'
        · exact absurd h1 e
        · exact i2 h ⟨r',hr',h1,h2⟩
    · rw[if_neg hc] at i1 i2 i3 ⊢
      refine ⟨i1,fun h ⟨r',hr',h1,h2⟩=>?_,fun h h1=>i3 h fun ⟨r',hr',h2⟩=>h1 ⟨r',by simp[hr'],h2⟩⟩
      rcases List.mem_cons.1 hr' with rfl | hr'
      · exact absurd ⟨h1 ▸ h,h2⟩ hc
      · exact i2 h ⟨r',hr',h1,h2⟩
theorem M7 (g:ao) (k:Nat):g.rules.foldl (iO (dW (aA g k)) ((k:Int)+1)) (dW (aA g k))=dW (aA g (k+1)):=by
  apply List.ext_getElem (by rw[z7]; simp[dG])
  intro m h1 h2
  have hm:m < g.au.length:=by simpa [dG] using h2
  have hg:∀ {l:List Int} (h:m < l.length),l[m]=ez l m:=fun h=>by simp[ez,List.getD_eq_getElem?_getD,h]
  rw[hg h1,hg h2,kp]
  obtain ⟨i1,i2,i3⟩:=Ci (dW (aA g k)) ((k:Int)+1) m (by omega) g.rules (dW (aA g k)) (by simp[dG,hm])
  have hs:=z8 g k
  by_cases h0:bf (aA g k) m
  · rw[i1 (fun e=>(hs.zero m).1 e h0),kp,(fj h0 (Nat.le_succ k)).1]
  · have hz:=(hs.zero m).2 h0
    by_cases hn:bf (aA g (k+1)) m
    · obtain ⟨i,r,hr,hl,ha,hp,_⟩:=gF (so h0 hn)
      obtain ⟨a,b,c⟩:=dF g (k+1) m hn
      have he:(bb (aA g (k+1)) m).br=k+1:=by
        rcases Int.lt_or_le (k:Int) (bb (aA g (k+1)) m).br with e | e
        · push_cast at b; omega
        · exact absurd (c k (by omega) e) h0
      rw[he]
      refine i2 hz ⟨r,List.mem_of_getElem? hr,hl,?_⟩
      rw[(oS hs r.right).2 ha,← he,hp]; rfl
    · rw[gR hn]
      refine i3 hz fun ⟨r,hr,hl,he⟩=>?_
      have ha:fG (aA g k) r.right:=by
        rcases Classical.em (fG (aA g k) r.right) with h | h
        · exact h
        · have:=(oS hs r.right).1.2 h; omega
      unfold bf at h0 hn
      rw[nT,if_neg h0,if_pos hm] at hn
      cases hc:kN (aA g k) m 0 g.rules with
      | none=>exact wN hc r hr hl ha
      | some p =>
        rw[hc] at hn
        obtain ⟨j,r2,_,_,_,rfl,_⟩:=gF hc
        simp only[Option.getD_some,ef] at hn; omega
def jz (h:List Int) (m:Nat):List aM→Int→Int
  | [],_=>(-1)
  | r :: l,i=>if r.left=(m:Int)∧0 < ez h m∧ep h r.right 0=ez h m then i else jz h m l (i+1)
theorem Ab {h:List Int} {m:Nat} : ∀ {l:List aM} {i:Int},(∀ r∈l,¬ (r.left=(m:Int)∧0 < ez h m∧ep h r.right 0=ez h m))→jz h m l i=(-1)
  | [],_,_=>rfl
  | r :: l,i,hn=>by rw[jz,if_neg (hn r (by simp)),Ab fun r hr=>hn r (by simp[hr])]
theorem Az {h:List Int} {m:Nat} : ∀ {l:List aM} {i:Int} {j:Nat} {r:aM},l[j]?=some r→(r.left=(m:Int)∧0 < ez h m∧ep h r.right 0=ez h m) →
    (∀ (j':Nat) (r':aM),j' < j→l[j']?=some r'→¬ (r'.left=(m:Int)∧0 < ez h m∧ep h r'.right 0=ez h m))→jz h m l i=i+j
  | [],_,_,_,hr,_,_=>by simp at hr
  | r0 :: l,i,0,r,hr,hc,_=>by
    simp at hr; subst hr
    rw[jz,if_pos hc]; simp
  | r0 :: l,i,j+1,r,hr,hc,hn=>by
    rw[jz,if_neg (hn 0 r0 (by omega) rfl),Az (l:=l) (i:=i+1) (by simpa using hr) hc fun j' r' hj hr'=>hn (j'+1) r' (by omega) (by simpa using hr')]
    push_cast; omega
theorem GF {g:ao} (hf:∀ r∈g.rules,0≤r.left) (m:Nat):jz (dW (av g)) m g.rules 0=(bb (av g) m).ba:=by
  have hs:yu (av g):=z8 g _
  by_cases h:bf (av g) m
  · obtain ⟨i,r,hr,hl,ha,hp,hmin⟩:=kU h
    have h0:=hf r (List.mem_of_getElem? hr)
    have hh:ep (dW (av g)) r.right 0=ez (dW (av g)) m:=by
      rw[(oS hs _).2 ha,kp,hp]; rfl
    have hpos:0 < ez (dW (av g)) m:=by rw[kp]; have:=(gQ h).1; omega
    have:=Az (h:=dW (av g)) (m:=m) (i:=0) hr ⟨by omega,hpos,hh⟩ fun j r' hj hr' hc=>by
      have ha':fG (av g) r'.right:=by
        rcases Classical.em (fG (av g) r'.right) with h | h
        · exact h
        · have:=(oS hs r'.right).1.2 h; omega
      have hc2:=hc.2.2
      rw[(oS hs _).2 ha',kp] at hc2
      exact hmin j r' hj hr' (by omega) ha' hc2
    rw[this,hp]; simp[ef]
  · rw[vu h]
    refine Ab fun r hr hc=>?_
    have:=(hs.zero m).2 h
    omega
def mU (a b:Int × Int):Int × Int:=(min 1000 (a.1+b.1),min 1000 (a.2+b.2))
def iP (S:List (Int × Int)) (m:Nat):Int × Int:=S.getD m (0,0)
def lh (S:List (Int × Int)):List Int→Int × Int→Int × Int
  | [],s=>s
  | x :: l,s=>lh S l (mU s (if 0≤x then (0,1) else iP S (bD x)))
def jP (p:bh):Int × Int:=(min 1000 p.rules,min 1000 p.ay)
def dc (p:bh):Prop:=(0≤p.rules∧p.rules≤1048576)∧(0≤p.ay∧p.ay≤1048576)
theorem nZ {P:List bh} (hP:∀ m,dc (bb P m)):∀ (l:List Int) (s:bh),dc s→dc (bE P l s).1
  | [],s,h=>h
  | x :: l,s,h=>by
    have hx:=hP (bD x)
    unfold dc at h hx
    simp only[bE]
    split
    · exact nZ hP l _ (by unfold dc; simp only; omega)
    · split
      · exact h
      · exact nZ hP l _ (by unfold dc; simp only; omega)
theorem jX:dc bq:=by unfold dc; simp[bq]
theorem I7:dc gL:=by unfold dc; simp[gL]
theorem fW (g:ao):∀ k m,dc (bb (aA g k) m)
  | 0,m=>by
    have:bb (aA g 0) m=gL:=by
      simp only[aA,iter,bb,List.getD_eq_getElem?_getD,List.getElem?_replicate]
      split <;> rfl
    rw[this]; exact I7
  | k+1,m=>by
    by_cases h:bf (aA g (k+1)) m
    · by_cases h0:bf (aA g k) m
      · rw[(fj h0 (Nat.le_succ k)).1]; exact fW g k m
      · obtain ⟨i,r,_,_,_,hp,_⟩:=gF (so h0 h)
        rw[hp]
        have:=nZ (fW g k) r.right bq jX
        unfold dc at this ⊢
        simp only[ef]; omega
    · rw[gR h]; exact I7
theorem ze {P:List bh} {S:List (Int × Int)} (hP:∀ m,dc (bb P m)):∀ (l:List Int) (s:bh) (t:Int × Int),dc s→fG P l→(∀ x∈l,x < 0→iP S (bD x)=jP (bb P (bD x)))→t=jP s→lh S l t=jP (bE P l s).1
  | [],s,t,_,_,_,ht=>ht
  | x :: l,s,t,hs,ha,hS,ht=>by
    have hx:=hP (bD x)
    unfold dc at hs hx
    have ha':fG P l:=fun y hy=>ha y (by simp[hy])
    have hS':=fun y (hy:y∈l)=>hS y (by simp[hy])
    simp only[lh,bE]
    by_cases h0:0≤x
    · rw[if_pos h0,if_pos h0]
      refine ze hP l _ _ (by unfold dc; simp only; omega) ha' hS' ?_
      subst ht
      simp only[mU,jP,Prod.mk.injEq]; omega
    · have hk:=ha x (by simp) (by omega)
      unfold bf at hk
      rw[if_neg h0,if_neg h0,if_neg (by omega),hS x (by simp) (by omega)]
      refine ze hP l _ _ (by unfold dc; simp only; omega) ha' hS' ?_
      subst ht
      simp only[mU,jP,Prod.mk.injEq]; omega
theorem Ij {g:ao} {S:List (Int × Int)} {m:Nat} (h:bf (av g) m) {i:Nat} {r:aM} (hr:g.rules[i]?=some r) (hi:(bb (av g) m).ba=i)
    (hS:∀ k,(bb (av g) k).br < (bb (av g) m).br→bf (av g) k→iP S k=jP (bb (av g) k)):mU (1,0) (lh S r.right (0,0))=jP (bb (av g) m):=by
  obtain ⟨i',r',hr',hl,ha,hp,_⟩:=kU h
  have:i'=i:=by rw[hp] at hi; simp only[ef] at hi; omega
  subst this
  rw[hr] at hr'; simp at hr'; subst hr'
  have hh:(bb (av g) m).br=(bE (av g) r.right bq).1.br+1:=by rw[hp]; rfl
  have h1:=((fS (av g) ((bb (av g) m).br - 1) r.right bq ha).1 (by omega)).2
  rw[ze (P:=av g) (fun m=>fW g _ m) r.right bq (0,0) jX ha (fun x hx hn=>hS _ (by have:=h1 x hx hn; omega) (ha x hx hn)) rfl]
  have:=nZ (fW g g.au.length) r.right bq jX
  have h2:dc (bE (av g) r.right bq).1:=this
  unfold dc at h2
  rw[hp]
  simp only[mU,jP,ef,Prod.mk.injEq]; omega
def qa (g:ao) (i:Int):List Int:=(g.rules.getD i.toNat ⟨0,[],0⟩).right
def dA (g:ao) (P:List bh):Nat→List Int→List Int
  | 0,l=>l.flatMap fun x=>if 0≤x then [x] else []
  | f+1,l=>l.flatMap fun x=>if 0≤x then [x] else dA g P f (qa g (bb P (bD x)).ba)
def cE (g:ao) (P:List bh):Nat→List Int→List Int
  | 0,_=>[]
  | f+1,l=>l.flatMap fun x=>if 0≤x then [] else (bb P (bD x)).ba :: cE g P f (qa g (bb P (bD x)).ba)
def wW (P:List bh) (f:Nat) (l:List Int):Prop:=∀ x∈l,x < 0→bf P (bD x)∧(bb P (bD x)).br≤f
theorem pw (g:ao) (P:List bh) (f:Nat):dA g P f []=[]:=by cases f <;> rfl
theorem oR (g:ao) (P:List bh) (f:Nat):cE g P f []=[]:=by cases f <;> rfl
theorem iA (g:ao) (P:List bh) (f:Nat) (a b:List Int):dA g P f (a ++ b)=dA g P f a ++ dA g P f b:=by cases f <;> simp[dA]
theorem fv (g:ao) (P:List bh) (f:Nat) (a b:List Int):cE g P f (a ++ b)=cE g P f a ++ cE g P f b:=by cases f <;> simp[cE]
theorem j7 {g:ao} {P:List bh} {f:Nat} {x:Int} (h:0≤x):dA g P f [x]=[x]:=by cases f <;> simp[dA,h]
theorem kc {g:ao} {P:List bh} {f:Nat} {x:Int} (h:0≤x):cE g P f [x]=[]:=by cases f <;> simp[cE,h]
theorem lZ {g:ao} {P:List bh} {f:Nat} {x:Int} (h:x < 0):dA g P (f+1) [x]=dA g P f (qa g (bb P (bD x)).ba):=by
  simp[dA,show ¬ 0≤x by omega]
theorem gG {g:ao} {P:List bh} {f:Nat} {x:Int} (h:x < 0):cE g P (f+1) [x]=(bb P (bD x)).ba :: cE g P f (qa g (bb P (bD x)).ba):=by
  simp[cE,show ¬ 0≤x by omega]
theorem tv {g:ao} {l:List Int} (h:wW (av g) 0 l):∀ x∈l,0≤x:=fun x hx=>by
  rcases Int.lt_or_le x 0 with h1 | h1
  · obtain ⟨a,b⟩:=h x hx h1
    have:=(gQ a).1
    simp at b; omega
  · exact h1
theorem oD {g:ao} {f:Nat} {m:Nat} (h:bf (av g) m) (hh:(bb (av g) m).br≤(f:Int)+1):∃ (i:Nat) (r:aM),(bb (av g) m).ba=i∧g.rules[i]?=some r∧qa g (bb (av g) m).ba=r.right∧wW (av g) f r.right∧bb (av g) m=ef (av g) i r:=by
  obtain ⟨i,r,hr,hl,ha,hp,_⟩:=kU h
  have hi:(bb (av g) m).ba=i:=by rw[hp]; rfl
  have h2:(bb (av g) m).br=(bE (av g) r.right bq).1.br+1:=by rw[hp]; rfl
  have h1:=((fS (av g) f r.right bq ha).1 (by omega)).2
  refine ⟨i,r,hi,hr,?_,fun x hx hn=>⟨ha x hx hn,h1 x hx hn⟩,hp⟩
  rw[hi]; simp[qa,List.getD_eq_getElem?_getD,hr]
theorem j4 {g:ao} {f:Nat} (hc:∀ x,x < 0→bf (av g) (bD x)→(bb (av g) (bD x)).br≤f→(bb (av g) (bD x)).rules=min 1048576 ((cE g (av g) f [x]).length:Int)∧(bb (av g) (bD x)).ay=min 1048576 ((dA g (av g) f [x]).length:Int)) :
    ∀ (l:List Int) (s:bh),wW (av g) f l→dc s→(bE (av g) l s).1.rules=min 1048576 (s.rules+(cE g (av g) f l).length)∧(bE (av g) l s).1.ay=min 1048576 (s.ay+(dA g (av g) f l).length)
  | [],s,_,hs=>by
    unfold dc at hs
    rw[pw,oR]
    simp only[bE,List.length_nil]; omega
  | x :: l,s,hu,hs=>by
    have hu':wW (av g) f l:=fun y hy=>hu y (by simp[hy])
    have e1:=iA g (av g) f [x] l
    have e2:=fv g (av g) f [x] l
    rw[List.singleton_append] at e1 e2
    rw[e1,e2,List.length_append,List.length_append]
    have hx:dc (bb (av g) (bD x)):=fW g g.au.length (bD x)
    unfold dc at hs hx
    by_cases h0:0≤x
    · obtain ⟨i1,i2⟩:=j4 hc l ⟨s.ba,s.br,s.rules,min 1048576 (s.ay+1)⟩ hu' (by unfold dc; simp only; omega)
      rw[w5 h0,i1,i2,j7 h0,kc h0]
      simp only[List.length_cons,List.length_nil]
      omega
    · obtain ⟨hk,hh⟩:=hu x (by simp) (by omega)
      obtain ⟨k1,k2⟩:=hc x (by omega) hk hh
      obtain ⟨i1,i2⟩:=j4 hc l ⟨s.ba,max s.br (bb (av g) (bD x)).br,min 1048576 (s.rules+(bb (av g) (bD x)).rules),min 1048576 (s.ay+(bb (av g) (bD x)).ay)⟩ hu' (by unfold dc; simp only; omega)
      unfold bf at hk
      rw[vw h0 (by omega),i1,i2,k1,k2]
      push_cast
      omega
theorem xZ (g:ao):∀ (f:Nat) (l:List Int) (s:bh),wW (av g) f l→dc s →
    (bE (av g) l s).1.rules=min 1048576 (s.rules+(cE g (av g) f l).length)∧(bE (av g) l s).1.ay=min 1048576 (s.ay+(dA g (av g) f l).length)
  | 0,l,s,hu,hs=>j4 (fun x hx hk hh=>by have:=(gQ hk).1; simp only[Int.natCast_zero] at hh; omega) l s hu hs
  | f+1,l,s,hu,hs=>j4 (fun x hx hk hh=>by
      obtain ⟨i,r,hi,hr,hra,hur,hp⟩:=oD (f:=f) hk (by push_cast at hh; exact hh)
      obtain ⟨j1,j2⟩:=xZ g f r.right bq hur jX
      have k1:(bb (av g) (bD x)).rules=min 1048576 ((bE (av g) r.right bq).1.rules+1):=by rw[hp]; rfl
      have k2:(bb (av g) (bD x)).ay=(bE (av g) r.right bq).1.ay:=by rw[hp]; rfl
      rw[lZ hx,gG hx,hra,k1,k2,j1,j2]
      simp only[List.length_cons,bq]
      push_cast
      omega) l s hu hs
theorem ot {g:ao} {f:Nat} (hc:∀ x,x < 0→(dA g (av g) f [x]).length≤6 * (cE g (av g) f [x]).length):∀ (l:List Int),(dA g (av g) f l).length≤l.length+6 * (cE g (av g) f l).length
  | []=>by rw[pw]; simp
  | x :: l=>by
    have e1:=iA g (av g) f [x] l
    have e2:=fv g (av g) f [x] l
    rw[List.singleton_append] at e1 e2
    rw[e1,e2,List.length_append,List.length_append]
    have ih:=ot hc l
    by_cases h0:0≤x
    · rw[j7 h0,kc h0]
      simp only[List.length_cons,List.length_nil]; omega
    · have:=hc x (by omega)
      simp only[List.length_cons]; omega
theorem Oc {g:ao} (hg:∀ r∈g.rules,r.right.length≤6) (i:Int):(qa g i).length≤6:=by
  simp only[qa,List.getD_eq_getElem?_getD]
  cases hr:g.rules[i.toNat]? with
  | none=>simp
  | some r=>simpa using hg r (List.mem_of_getElem? hr)
theorem Cy {g:ao} (hg:∀ r∈g.rules,r.right.length≤6):∀ (f:Nat) (l:List Int),(dA g (av g) f l).length≤l.length+6 * (cE g (av g) f l).length
  | 0,l=>ot (fun x hx=>by simp[dA,show ¬ 0≤x by omega]) l
  | f+1,l=>ot (fun x hx=>by
      have i2:=Cy hg f (qa g (bb (av g) (bD x)).ba)
      have:=Oc hg (bb (av g) (bD x)).ba
      rw[lZ hx,gG hx]
      simp only[List.length_cons]; omega) l
def fg (g:ao) (n:Int):List Int × Int :=
  if (bm g && decide (0≤n) && decide (n < g.au.length))=true then
    (if (bb (av g) n.toNat).ba < 0 then ([],9) else if 300 < (bb (av g) n.toNat).rules then ([],13) else (cE g (av g) g.au.length [-1 - n],0))
  else ([],1)
def oP (p:List Int) (i:Nat) (s:Int):Prop:=∃ c,p[i]?=some c∧(c=s∨c = -1)
inductive Sp (g:ao) (p:List Int):List Int→Nat→Nat→Prop
  | nil (i:Nat):Sp g p [] i i
  | term (s:Int) (l:List Int) (i j:Nat):0≤s→oP p i s→Sp g p l (i+1) j→Sp g p (s :: l) i j
  | bW (s:Int) (l:List Int) (R:aM) (i k j:Nat):s < 0→R∈g.rules→R.left = -1 - s→Sp g p R.right i k→Sp g p l k j→Sp g p (s :: l) i j
theorem Sp.le {g:ao} {p:List Int} {l:List Int} {i j:Nat} (h:Sp g p l i j):i≤j:=by
  induction h with
  | nil=>exact Nat.le_refl _
  | term _ _ _ _ _ _ _ ih=>omega
  | bW _ _ _ _ _ _ _ _ _ _ _ ih1 ih2=>omega
theorem Sp.len {g:ao} {p:List Int} {l:List Int} {i j:Nat} (h:Sp g p l i j):i≤p.length→j≤p.length:=by
  induction h with
  | nil=>exact id
  | term _ _ i _ _ hf _ ih =>
    intro _
    obtain ⟨c,hc,_⟩:=hf
    have:=(List.getElem?_eq_some_iff.1 hc).1
    exact ih (by omega)
  | bW _ _ _ _ _ _ _ _ _ _ _ ih1 ih2=>exact fun h=>ih2 (ih1 h)
theorem Sp.app {g:ao} {p:List Int} {a:List Int} {i k:Nat} (h:Sp g p a i k):∀ {b:List Int} {j:Nat},Sp g p b k j→Sp g p (a ++ b) i j:=by
  induction h with
  | nil=>exact fun h=>h
  | term s l i _ h0 hf _ ih=>exact fun hb=>.term s _ i _ h0 hf (ih hb)
  | bW s l R i k _ h0 hR hl h1 _ _ ih2=>exact fun hb=>.bW s _ R i k _ h0 hR hl h1 (ih2 hb)
theorem Sp.split {g:ao} {p:List Int} : ∀ {a b:List Int} {i j:Nat},Sp g p (a ++ b) i j→∃ k,Sp g p a i k∧Sp g p b k j
  | [],b,i,j,h=>⟨i,.nil i,h⟩
  | s :: a,b,i,j,h=>by
    cases h with
    | term _ _ _ _ h0 hf h =>
      obtain ⟨k,h1,h2⟩:=Sp.split h
      exact ⟨k,.term s a i k h0 hf h1,h2⟩
    | bW _ _ R _ m _ h0 hR hl h1 h =>
      obtain ⟨k,h2,h3⟩:=Sp.split h
      exact ⟨k,.bW s a R i m k h0 hR hl h1 h2,h3⟩
structure Item where
  ba:Nat
  dot:Nat
  lA:Nat
  deriving DecidableEq
def Sound (g:ao) (p:List Int) (at_:Nat) (x:Item):Prop:=∃ R,g.rules[x.ba]?=some R∧x.dot≤R.right.length∧x.lA≤at_∧Sp g p (R.right.take x.dot) x.lA at_
structure QA (g:ao) (p:List Int) (S:Nat→List Item):Prop where
  start:∀ (i:Nat) (R:aM),g.rules[i]?=some R→R.left=g.start→⟨i,0,0⟩∈S 0
  term:∀ a x R s,x∈S a→g.rules[x.ba]?=some R→R.right[x.dot]?=some s→0≤s→oP p a s→⟨x.ba,x.dot+1,x.lA⟩∈S (a+1)
  pred:∀ a x R s i R',x∈S a→g.rules[x.ba]?=some R→R.right[x.dot]?=some s→s < 0→g.rules[i]?=some R'→R'.left = -1 - s→a≤p.length→⟨i,0,a⟩∈S a
  null:∀ a x R s,x∈S a→g.rules[x.ba]?=some R→R.right[x.dot]?=some s→s < 0→(aI g false).getD (-1 - s).toNat false=true→a≤p.length→⟨x.ba,x.dot+1,x.lA⟩∈S a
  comp:∀ a y R' x R s,y∈S a→g.rules[y.ba]?=some R'→y.dot=R'.right.length→y.lA < a→x∈S y.lA→g.rules[x.ba]?=some R→R.right[x.dot]?=some s→s < 0→R'.left = -1 - s→a≤p.length→⟨x.ba,x.dot+1,x.lA⟩∈S a
inductive In (p:List Int) (T:Nat→Nat→Nat→Prop):List Int→Nat→Nat→Prop
  | nil (i:Nat):In p T [] i i
  | term (s:Int) (l:List Int) (i j:Nat):0≤s→oP p i s→In p T l (i+1) j→In p T (s :: l) i j
  | bW (s:Int) (l:List Int) (i k j:Nat):s < 0→T (-1 - s).toNat i k→In p T l k j→In p T (s :: l) i j
inductive iW (g:ao):List Int→List Int→List Int→Prop
  | nil:iW g [] [] []
  | term (s:Int) (l t w:List Int):0≤s→iW g l t w→iW g (s :: l) t (s :: w)
  | bW (s:Int) (l:List Int) (k:Nat) (R:aM) (t1 w1 t w:List Int):s < 0→g.rules[k]?=some R→R.left = -1 - s→iW g R.right t1 w1→iW g l t w→iW g (s :: l) (((k:Int) :: t1) ++ t) (w1 ++ w)
theorem iW.app {g:ao} {a t w:List Int} (h:iW g a t w) {b t' w':List Int} (k:iW g b t' w'):iW g (a ++ b) (t ++ t') (w ++ w'):=by
  induction h with
  | nil=>exact k
  | term s l t w h0 _ ih=>exact .term s _ _ _ h0 ih
  | bW s l k R t1 w1 t w h0 hR hl h1 _ _ ih =>
    have:=iW.bW s _ k R t1 w1 _ _ h0 hR hl h1 ih
    simpa using this
structure Wk where
  rest:List Int
  word:List Int
  post:List Int
  high:Nat
def rj (s:Int) (x:Wk):Wk:=⟨x.rest,s :: x.word,x.post,x.high⟩
def pV (t:Int) (x y:Wk):Wk:=⟨y.rest,x.word ++ y.word,x.post ++ (t :: y.post),max (x.high+1) y.high⟩
def dR (g:ao) (t:Int):Option aM:=if 0≤t then g.rules[t.toNat]? else none
def bI (g:ao):Nat→List Int→List Int→Option Wk
  | _,[],rest=>some ⟨rest,[],[],0⟩
  | f,s :: l,rest=>if 0≤s then (bI g f l rest).map (rj s) else
    match f,rest with
    | f+1,t :: rest=>match dR g t with
      | some R=>if R.left = -1 - s then (match bI g f R.right rest with
        | some x=>(bI g (f+1) l x.rest).map (pV t x)
        | none=>none) else none
      | none=>none
    | _,_=>none
termination_by f l _=>(f,l.length)
theorem dT (g:ao) (f:Nat) (rest:List Int):bI g f [] rest=some ⟨rest,[],[],0⟩:=by rw[bI.eq_def]
theorem fP {g:ao} {f:Nat} {s:Int} {l rest:List Int} (h:0≤s):bI g f (s :: l) rest=(bI g f l rest).map (rj s):=by
  rw[bI.eq_def]; simp only[if_pos h]
theorem ki {g:ao} {s:Int} {l rest:List Int} (h:s < 0):bI g 0 (s :: l) rest=none:=by
  rw[bI.eq_def]; simp only[if_neg (show ¬ 0≤s by omega)]
theorem fZ {g:ao} {f:Nat} {s:Int} {l:List Int} (h:s < 0):bI g f (s :: l) []=none:=by
  rw[bI.eq_def]; simp only[if_neg (show ¬ 0≤s by omega)]
theorem ec {g:ao} {f:Nat} {s t:Int} {l rest:List Int} (h:s < 0):bI g (f+1) (s :: l) (t :: rest)=match dR g t with
      | some R=>if R.left = -1 - s then (match bI g f R.right rest with
        | some x=>(bI g (f+1) l x.rest).map (pV t x)
        | none=>none) else none
      | none=>none:=by
  rw[bI.eq_def]; simp only[if_neg (show ¬ 0≤s by omega)]
def nN (x y:Wk):Wk:=⟨y.rest,x.word ++ y.word,x.post ++ y.post,max x.high y.high⟩
theorem ly (g:ao) (f:Nat):∀ (a b rest:List Int),bI g f (a ++ b) rest=match bI g f a rest with
    | some x=>(bI g f b x.rest).map (nN x)
    | none=>none
  | [],b,rest=>by
    rw[dT]
    simp only[List.nil_append]
    cases bI g f b rest <;> simp[nN]
  | s :: a,b,rest=>by
    by_cases h:0≤s
    · rw[List.cons_append,fP h,fP h,ly g f a b rest]
      cases bI g f a rest with
      | none=>rfl
      | some x =>
        simp only[Option.map_some,rj]
        cases bI g f b x.rest <;> simp[nN,rj]
    · cases f with
      | zero=>rw[List.cons_append,ki (by omega),ki (by omega)]
      | succ f =>
        cases rest with
        | nil=>rw[List.cons_append,fZ (by omega),fZ (by omega)]
        | cons t rest =>
          rw[List.cons_append,ec (by omega),ec (by omega)]
          cases dR g t with
          | none=>rfl
          | some R =>
            simp only
            split
            · cases bI g f R.right rest with
              | none=>rfl
              | some x =>
                simp only
                rw[ly g (f+1) a b x.rest]
                cases bI g (f+1) a x.rest with
                | none=>rfl
                | some y =>
                  simp only[Option.map_some,pV]
                  cases bI g (f+1) b y.rest <;> simp[pV,nN,Nat.max_assoc]
            · rfl
theorem qj {g:ao} (hg:∀ r∈g.rules,r.right.length≤6):∀ (f:Nat) (l rest:List Int) (x:Wk),bI g f l rest=some x→x.rest.length≤rest.length∧x.post.length+x.rest.length=rest.length∧x.word.length+6 * x.rest.length≤l.length+6 * rest.length∧x.high≤f:=by
  intro f
  induction f with
  | zero =>
    intro l
    induction l with
    | nil=>intro rest x h; rw[dT] at h; simp at h; subst h; simp
    | cons s l ih =>
      intro rest x h
      by_cases hs:0≤s
      · rw[fP hs] at h
        cases hw:bI g 0 l rest with
        | none=>rw[hw] at h; simp at h
        | some y =>
          rw[hw] at h; simp at h; subst h
          have:=ih rest y hw
          simp[rj]; omega
      · rw[ki (by omega)] at h; simp at h
  | succ f ihf =>
    intro l
    induction l with
    | nil=>intro rest x h; rw[dT] at h; simp at h; subst h; simp
    | cons s l ih =>
      intro rest x h
      by_cases hs:0≤s
      · rw[fP hs] at h
        cases hw:bI g (f+1) l rest with
        | none=>rw[hw] at h; simp at h
        | some y =>
          rw[hw] at h; simp at h; subst h
          have:=ih rest y hw
          simp[rj]; omega
      · cases rest with
        | nil=>rw[fZ (by omega)] at h; simp at h
        | cons t rest =>
          rw[ec (by omega)] at h
          cases hr:dR g t with
          | none=>rw[hr] at h; simp at h
          | some R =>
            rw[hr] at h
            simp only at h
            split at h
            · cases hw:bI g f R.right rest with
              | none=>rw[hw] at h; simp at h
              | some y =>
                rw[hw] at h
                simp only at h
                cases hz:bI g (f+1) l y.rest with
                | none=>rw[hz] at h; simp at h
                | some z =>
                  rw[hz] at h; simp at h; subst h
                  have h1:=ihf R.right rest y hw
                  have h2:=ih y.rest z hz
                  have h3:R.right.length≤6:=by
                    unfold dR at hr
                    split at hr
                    · exact hg R (List.mem_of_getElem? hr)
                    · simp at hr
                  simp[pV]; omega
            · simp at h
theorem Kh {g:ao} {l t w:List Int} (h:iW g l t w):∀ (f:Nat) (rest:List Int),t.length≤f→∃ x,bI g f l (t ++ rest)=some x∧x.rest=rest∧x.word=w:=by
  induction h with
  | nil=>exact fun f rest _=>⟨_,dT _ _ _,rfl,rfl⟩
  | term s l t w h0 _ ih =>
    intro f rest hf
    obtain ⟨x,h1,h2,h3⟩:=ih f rest hf
    exact ⟨rj s x,by rw[fP h0,h1]; rfl,h2,by rw[rj,h3]⟩
  | bW s l k R t1 w1 t w h0 hR hl _ _ ih1 ih2 =>
    intro f rest hf
    obtain ⟨f,rfl⟩:∃ f',f=f'+1:=⟨f - 1,by simp at hf; omega⟩
    obtain ⟨x,h1,h2,h3⟩:=ih1 f (t ++ rest) (by simp at hf; omega)
    obtain ⟨y,h4,h5,h6⟩:=ih2 (f+1) rest (by simp at hf; omega)
    refine ⟨pV k x y,?_,h5,by rw[pV,h3,h6]⟩
    rw[List.cons_append,List.cons_append,List.append_assoc,ec h0]
    have:dR g (k:Int)=some R:=by rw[dR,if_pos (by omega)]; simpa using hR
    rw[this]
    simp only
    rw[if_pos hl,h1]
    simp only
    rw[h2,h4]; rfl
theorem HZ {g:ao} (hleft:∀ r∈g.rules,0≤r.left):∀ (f:Nat) (l:List Int),wW (av g) f l→iW g l (cE g (av g) f l) (dA g (av g) f l):=by
  intro f
  induction f with
  | zero =>
    intro l
    induction l with
    | nil=>intro _; rw[oR,pw]; exact .nil
    | cons s l ih =>
      intro h
      have h0:=tv h s (by simp)
      have e1:=fv g (av g) 0 [s] l
      have e2:=iA g (av g) 0 [s] l
      rw[List.singleton_append] at e1 e2
      rw[e1,e2,kc h0,j7 h0]
      exact .term s l _ _ h0 (ih fun x hx=>h x (by simp[hx]))
  | succ f ihf =>
    intro l
    induction l with
    | nil=>intro _; rw[oR,pw]; exact .nil
    | cons s l ih =>
      intro h
      have hl:=ih fun x hx=>h x (by simp[hx])
      have e1:=fv g (av g) (f+1) [s] l
      have e2:=iA g (av g) (f+1) [s] l
      rw[List.singleton_append] at e1 e2
      rw[e1,e2]
      by_cases h0:0≤s
      · rw[kc h0,j7 h0]
        exact .term s l _ _ h0 hl
      · obtain ⟨hk,hh⟩:=h s (by simp) (by omega)
        obtain ⟨i,R,hi,hR,hra,hur,hlf⟩:=oD (f:=f) hk (by push_cast at hh; exact hh)
        rw[gG (by omega),lZ (by omega),hra,hi]
        have hRl:R.left = -1 - s:=by
          obtain ⟨i',r',hr',hl',_,hp',_⟩:=kU hk
          have:(i':Int)=i:=by rw[← hi,hp']; rfl
          have:i'=i:=by omega
          subst this
          rw[hR] at hr'
          simp at hr'; subst hr'
          have:=hleft R (List.mem_of_getElem? hR)
          unfold bD at hl'
          omega
        exact .bW s l i R _ _ _ _ (by omega) hR hRl (ihf R.right hur) hl
structure Way where
  bW:Int
  ba:Int
  place:Int
def bu (F:List Way):List Int:=F.map Way.bW
def gO (k j s:Int) (F:List Way):List Way:=if s < 0∧-1 - s ∉ bu F then F ++ [⟨-1 - s,k,j⟩] else F
def gZ (k:Int):Int→List Int→List Way→List Way
  | _,[],F=>F
  | j,s :: l,F=>gZ k (j+1) l (gO k j s F)
def jy (n k:Int) (R:aM) (F:List Way):List Way:=if R.left=n then gZ k 0 R.right F else F
def eN (n:Int):Int→List aM→List Way→List Way
  | _,[],F=>F
  | k,R :: l,F=>eN n (k+1) l (jy n k R F)
def c8 (g:ao):Nat→List Way
  | 0=>[⟨g.start,-1,0⟩]
  | i+1=>match (c8 g i)[i]? with
    | some x=>eN x.bW 0 g.rules (c8 g i)
    | none=>c8 g i
def dB (g:ao):List Way:=c8 g g.au.length
theorem vA (k s:Int):∀ (l:List Int) (j:Int) (F:List Way),gZ k j (l ++ [s]) F=gO k (j+l.length) s (gZ k j l F)
  | [],j,F=>by simp[gZ]
  | x :: l,j,F=>by
    rw[List.cons_append,gZ,vA k s l,gZ,List.length_cons]
    congr 1
    push_cast; omega
theorem sF (n:Int) (R:aM):∀ (l:List aM) (k:Int) (F:List Way),eN n k (l ++ [R]) F=jy n (k+l.length) R (eN n k l F)
  | [],k,F=>by simp[eN]
  | x :: l,k,F=>by
    rw[List.cons_append,eN,sF n R l,eN,List.length_cons]
    congr 1
    push_cast; omega
structure c5 (g:ao) (F:List Way):Prop where
  first:F[0]?=some ⟨g.start,-1,0⟩
  nodup:(bu F).Nodup
  from_:∀ i x,F[i]?=some x→0 < i→∃ (k j:Nat) (R:aM),x.ba=(k:Int)∧x.place=(j:Int)∧g.rules[k]?=some R∧R.right[j]?=some (-1 - x.bW)∧0≤x.bW∧∃ m y,m < i∧F[m]?=some y∧y.bW=R.left
theorem c5.pre {g:ao} {F:List Way} (h:c5 g F) {i m:Nat} {x:Way} (hx:F[i]?=some x) (w:Way):(F ++ [w])[i]?=some x:=by
  rw[List.getElem?_append_left (List.getElem?_eq_some_iff.1 hx).1]; exact hx
theorem BF {g:ao} {F:List Way} {k j m:Nat} {R:aM} {s:Int} {y:Way} (h:c5 g F) (hR:g.rules[k]?=some R) (hs:R.right[j]?=some s) (hm:F[m]?=some y) (hy:y.bW=R.left):c5 g (gO k j s F):=by
  unfold gO
  split
  · rename_i hc
    refine ⟨?_,?_,fun i x hx hi=>?_⟩
    · rw[List.getElem?_append_left (List.getElem?_eq_some_iff.1 h.first).1]; exact h.first
    · rw[bu,List.map_append,List.nodup_append]
      refine ⟨h.nodup,by simp,fun a ha b hb e=>?_⟩
      simp at hb
      subst hb; subst e
      exact hc.2 ha
    · by_cases hl:i < F.length
      · rw[List.getElem?_append_left hl] at hx
        obtain ⟨k',j',R',h1,h2,h3,h4,h5,m',y',h6,h7,h8⟩:=h.from_ i x hx hi
        exact ⟨k',j',R',h1,h2,h3,h4,h5,m',y',h6,by rw[List.getElem?_append_left (by omega)]; exact h7,h8⟩
      · have hi':i=F.length:=by
          have:=(List.getElem?_eq_some_iff.1 hx).1
          simp at this; omega
        subst hi'
        simp at hx; subst hx
        have hml:=(List.getElem?_eq_some_iff.1 hm).1
        exact ⟨k,j,R,rfl,rfl,hR,by rw[hs]; congr 1; simp only; omega,by simp only; omega,m,y,hml,by rw[List.getElem?_append_left hml]; exact hm,hy⟩
  · exact h
theorem KV (k j s:Int) (F:List Way):∃ l,gO k j s F=F ++ l:=by
  unfold gO
  split
  · exact ⟨_,rfl⟩
  · exact ⟨[],by simp⟩
theorem KZ (k j s:Int) (F:List Way) (hs:s < 0) : -1 - s∈bu (gO k j s F):=by
  unfold gO
  split
  · simp[bu]
  · rename_i hc
    apply Decidable.byContradiction
    intro h
    exact hc ⟨hs,h⟩
theorem tR {F l:List Way} {i:Nat} {x:Way} (h:F[i]?=some x):(F ++ l)[i]?=some x:=by
  rw[List.getElem?_append_left (List.getElem?_eq_some_iff.1 h).1]; exact h
theorem y8 {F l:List Way} {n:Int} (h:n∈bu F):n∈bu (F ++ l):=by
  simp only[bu,List.map_append,List.mem_append]
  exact .inl h
theorem DV {g:ao} {k m:Nat} {R:aM} {y:Way} (hR:g.rules[k]?=some R) (hy:y.bW=R.left):∀ (l:List Int) (j:Nat) (F:List Way),R.right.drop j=l→c5 g F→F[m]?=some y →
    c5 g (gZ k j l F)∧(∃ e,gZ k j l F=F ++ e)∧∀ s∈l,s < 0→-1 - s∈bu (gZ k j l F)
  | [],j,F,_,h,_=>⟨h,⟨[],by simp[gZ]⟩,by simp⟩
  | s :: l,j,F,hd,h,hm=>by
    have hs:R.right[j]?=some s:=by
      have:=List.getElem?_drop (xs:=R.right) (i:=j) (j:=0)
      rw[hd] at this
      simpa using this.symm
    have hd':R.right.drop (j+1)=l:=by rw[← List.drop_drop,hd]; rfl
    obtain ⟨e1,h1⟩:=KV k j s F
    have ho:=BF h hR hs hm hy
    have hm':(gO k j s F)[m]?=some y:=by rw[h1]; exact tR hm
    obtain ⟨a,⟨e2,b⟩,c⟩:=DV hR hy l (j+1) (gO k j s F) hd' ho hm'
    rw[gZ]
    push_cast at a b c
    refine ⟨a,⟨e1 ++ e2,by rw[b,h1,List.append_assoc]⟩,fun x hx hn=>?_⟩
    rcases List.mem_cons.1 hx with rfl | hx
    · rw[b]
      exact y8 (KZ _ _ _ _ hn)
    · exact c x hx hn
theorem Cc {g:ao} {m:Nat} {y:Way} : ∀ (l:List aM) (k:Nat) (F:List Way),g.rules.drop k=l→c5 g F→F[m]?=some y →
    c5 g (eN y.bW k l F)∧(∃ e,eN y.bW k l F=F ++ e)∧∀ R∈l,R.left=y.bW→∀ s∈R.right,s < 0→-1 - s∈bu (eN y.bW k l F)
  | [],k,F,_,h,_=>⟨h,⟨[],by simp[eN]⟩,by simp⟩
  | R :: l,k,F,hd,h,hm=>by
    have hR:g.rules[k]?=some R:=by
      have:=List.getElem?_drop (xs:=g.rules) (i:=k) (j:=0)
      rw[hd] at this
      simpa using this.symm
    have hd':g.rules.drop (k+1)=l:=by rw[← List.drop_drop,hd]; rfl
    have h0:c5 g (jy y.bW k R F)∧(∃ e,jy y.bW k R F=F ++ e)∧(R.left=y.bW→∀ s∈R.right,s < 0→-1 - s∈bu (jy y.bW k R F)):=by
      unfold jy
      split
      · rename_i hl
        have:=DV hR hl.symm R.right 0 F (by simp) h hm
        exact ⟨this.1,this.2.1,fun _=>this.2.2⟩
      · rename_i hl
        exact ⟨h,⟨[],by simp⟩,fun e=>absurd e hl⟩
    obtain ⟨ho,⟨e1,h1⟩,hk⟩:=h0
    have hm':(jy y.bW k R F)[m]?=some y:=by rw[h1]; exact tR hm
    obtain ⟨a,⟨e2,b⟩,c⟩:=Cc l (k+1) (jy y.bW k R F) hd' ho hm'
    rw[eN]
    push_cast at a b c
    refine ⟨a,⟨e1 ++ e2,by rw[b,h1,List.append_assoc]⟩,fun x hx hl s hs hn=>?_⟩
    rcases List.mem_cons.1 hx with rfl | hx
    · rw[b]
      exact y8 (hk hl s hs hn)
    · exact c x hx hl s hs hn
def BW (g:ao) (F:List Way) (i:Nat):Prop:=∀ m y,m < i→F[m]?=some y→∀ R∈g.rules,R.left=y.bW→∀ s∈R.right,s < 0→-1 - s∈bu F
theorem E4 (g:ao):∀ i,c5 g (c8 g i)∧BW g (c8 g i) i
  | 0=>⟨⟨rfl,by simp[c8,bu],fun i x hx hi=>by
      cases i with
      | zero=>omega
      | succ i=>simp[c8] at hx⟩,fun m y hm=>by omega⟩
  | i+1=>by
    obtain ⟨h1,h2⟩:=E4 g i
    rw[c8]
    cases hx:(c8 g i)[i]? with
    | none =>
      simp only
      refine ⟨h1,fun m y hm hy=>?_⟩
      have:=(List.getElem?_eq_some_iff.1 hy).1
      have:=List.getElem?_eq_none_iff.1 hx
      exact h2 m y (by omega) hy
    | some x =>
      simp only
      obtain ⟨a,⟨e,b⟩,c⟩:=Cc (g:=g) g.rules 0 (c8 g i) (by simp) h1 hx
      simp only[Int.natCast_zero] at a b c
      refine ⟨a,fun m y hm hy R hR hl s hs hn=>?_⟩
      by_cases hmi:m=i
      · subst hmi
        rw[b,tR hx] at hy
        simp at hy; subst hy
        exact c R hR hl s hs hn
      · have hml:m < (c8 g i).length:=by
          have:=(List.getElem?_eq_some_iff.1 hx).1
          omega
        have hy':(c8 g i)[m]?=some y:=by
          rw[b,List.getElem?_append_left hml] at hy; exact hy
        rw[b]
        exact y8 (h2 m y (by omega) hy' R hR hl s hs hn)
theorem E8 {g:ao} {i:Nat} (h:(c8 g i).length≤i):∀ d,c8 g (i+d)=c8 g i
  | 0=>rfl
  | d+1=>by
    have ih:=E8 h d
    rw[← Nat.add_assoc,c8,ih,List.getElem?_eq_none (by omega)]
theorem c5.inside {g:ao} {F:List Way} (h:c5 g F) (h0:0≤g.start∧g.start < g.au.length) (hs:∀ R∈g.rules,∀ s∈R.right,s < 0→-1 - s < g.au.length):∀ n∈bu F,0≤n∧n < g.au.length:=by
  intro n hn
  simp only[bu,List.mem_map] at hn
  obtain ⟨x,hx,rfl⟩:=hn
  obtain ⟨i,hi⟩:=List.mem_iff_getElem?.1 hx
  by_cases hi0:i=0
  · subst hi0
    rw[h.first] at hi
    simp at hi; subst hi
    exact h0
  · obtain ⟨k,j,R,_,_,h3,h4,h5,_⟩:=h.from_ i x hi (by omega)
    have:=hs R (List.mem_of_getElem? h3) _ (List.mem_of_getElem? h4) (by omega)
    omega
theorem c5.len {g:ao} {F:List Way} (h:c5 g F) (h0:0≤g.start∧g.start < g.au.length) (hs:∀ R∈g.rules,∀ s∈R.right,s < 0→-1 - s < g.au.length):F.length≤g.au.length:=by
  have:=pU h.nodup (h.inside h0 hs)
  simpa [bu] using this
theorem NZ {g:ao} (h0:0≤g.start∧g.start < g.au.length) (hs:∀ R∈g.rules,∀ s∈R.right,s < 0→-1 - s < g.au.length):c5 g (dB g)∧BW g (dB g) (dB g).length:=by
  obtain ⟨h1,h2⟩:=E4 g g.au.length
  refine ⟨h1,fun m y hm hy=>?_⟩
  have:=h1.len h0 hs
  exact h2 m y (by unfold dB at hm; omega) hy
def lookW (F:List Way) (n:Int):Option Way:=F.find? fun x=>x.bW == n
def dg (F:List Way) (n:Int):Nat:=F.findIdx fun x=>x.bW == n
theorem FI {F:List Way} {n:Int} (h:n∈bu F):∃ x,lookW F n=some x∧F[dg F n]?=some x∧x.bW=n:=by
  induction F with
  | nil=>simp[bu] at h
  | cons y F ih =>
    by_cases e:y.bW=n
    · exact ⟨y,by simp[lookW,e],by simp[dg,List.findIdx_cons,e],e⟩
    · have h':n∈bu F:=by
        simp only[bu,List.map_cons,List.mem_cons] at h ⊢
        rcases h with h | h
        · exact absurd h.symm e
        · exact h
      obtain ⟨x,h1,h2,h3⟩:=ih h'
      refine ⟨x,by simpa [lookW,e] using h1,?_,h3⟩
      have:dg (y :: F) n=dg F n+1:=by simp[dg,List.findIdx_cons,show (y.bW == n)=false by simpa using e]
      rw[this]; simpa using h2
theorem Pp {F:List Way} {n:Int} {m:Nat} {y:Way} (h:F[m]?=some y) (hy:y.bW=n):dg F n≤m:=by
  induction F generalizing m with
  | nil=>simp at h
  | cons x F ih =>
    by_cases e:x.bW=n
    · simp[dg,List.findIdx_cons,e]
    · cases m with
      | zero=>simp at h; subst h; exact absurd hy e
      | succ m =>
        have:=ih (m:=m) (by simpa using h)
        have:dg (x :: F) n=dg F n+1:=by simp[dg,List.findIdx_cons,show (x.bW == n)=false by simpa using e]
        omega
theorem xy {g:ao} {F:List Way} (h:c5 g F) {n:Int} (hn:n∈bu F) (hs:n≠g.start):∃ (k j:Nat) (R:aM),lookW F n=some ⟨n,k,j⟩∧g.rules[k]?=some R∧R.right[j]?=some (-1 - n)∧0≤n∧R.left∈bu F∧dg F R.left < dg F n:=by
  obtain ⟨x,h1,h2,h3⟩:=FI hn
  have hi:0 < dg F n:=by
    apply Nat.pos_of_ne_zero
    intro e
    rw[e,h.first] at h2
    simp at h2; subst h2
    exact hs h3.symm
  obtain ⟨k,j,R,a,b,c,d,e,m,y,f1,f2,f3⟩:=h.from_ _ x h2 hi
  refine ⟨k,j,R,?_,c,by rw[d,h3],by omega,?_,?_⟩
  · rw[h1]
    cases x
    simp at a b h3
    subst a; subst b; subst h3; rfl
  · rw[← f3]
    exact List.mem_map.2 ⟨y,List.mem_of_getElem? f2,rfl⟩
  · exact Nat.lt_of_le_of_lt (Pp f2 f3) f1
theorem kb {g:ao} {F:List Way} (h:c5 g F):lookW F g.start=some ⟨g.start,-1,0⟩:=by
  have:=h.first
  cases F with
  | nil=>simp at this
  | cons y F=>simp at this; subst this; simp[lookW]
theorem N9 {g:ao} {F:List Way} (h:c5 g F) (hc:BW g F F.length) {p:List Bool} {n:Int} (hr:ni g p n):n∈bu F:=by
  induction hr with
  | start=>exact List.mem_map.2 ⟨_,List.mem_of_getElem? h.first,rfl⟩
  | next R s hR _ _ hs hn ih =>
    simp only[bu,List.mem_map] at ih
    obtain ⟨y,hy,e⟩:=ih
    obtain ⟨m,hm⟩:=List.mem_iff_getElem?.1 hy
    exact hc m y (List.getElem?_eq_some_iff.1 hm).1 hm R hR e.symm s hs hn
def cz (g:ao) (place:Int) (inner:List Int):Int→List Int→Option (List Int)
  | _,[]=>some []
  | i,s :: l=>if 0≤s then cz g place inner (i+1) l
    else if i=place then (cz g place inner (i+1) l).map (inner ++ ·)
    else if (fg g (-1 - s)).2=0 then (cz g place inner (i+1) l).map ((fg g (-1 - s)).1 ++ ·) else none
def dP (g:ao) (ba place:Int) (inner:List Int):List Int × Bool:=match cz g place inner 0 (qa g ba) with
  | some l=>(ba :: l,decide ((ba :: l).length≤300))
  | none=>([],false)
def wH (g:ao) (k:Int):Int:=(g.rules.getD k.toNat ⟨0,[],0⟩).left
def cm (g:ao) (F:List Way):Nat→Int→List Int × Bool→List Int × Bool
  | 0,_,x=>x
  | f+1,n,x=>if x.2=true then (match lookW F n with
    | some w=>if 0≤w.ba then cm g F f (wH g w.ba) (dP g w.ba w.place x.1) else x
    | none=>x) else x
def eO (g:ao) (t:List Int):Option Wk:=if bm g=true∧t.length≤300 then (match bI g t.length [-1 - g.start] t with
    | some x=>if x.rest=[] then some x else none
    | none=>none) else none
def iI (g:ao) (t:List Int):List Int × Int:=match eO g t with
  | some x=>(x.word,0)
  | none=>([],1)
def dO (g:ao) (i:Int):List Int × Bool:=cm g (dB g) (dg (dB g) (wH g i)) (wH g i) (dP g i (-1) [])
def dt (g:ao) (i:Int):List Int × Int:=if (dO g i).2=false then ([],13) else if 60 < (iI g (dO g i).1).1.length then ([],13) else ((dO g i).1,0)
def gu (g:ao) (i:Int):List Int × Int:=if (isRed g && decide (0≤i) && decide (i < g.rules.length))=true then dt g i else ([],1)
def bS (g:ao):Nat→List (List Int) × Int
  | 0=>([],0)
  | i+1=>if (bS g i).2≠0 then bS g i else if (bS g i).1.any (fun t=>decide ((i:Int)∈t))=true then bS g i
    else if (dt g i).2=0 then ((bS g i).1 ++ [(dt g i).1],0) else ([],(dt g i).2)
def pr (g:ao):List (List Int) × Int:=if isRed g=true then bS g g.rules.length else ([],1)
def A1 (g:ao) (l:List (List Int)):List Bool:=if bm g=true then (List.range g.rules.length).map fun (i:Nat)=>l.any fun t=>decide ((i:Int)∈t) else []
theorem HU {g:ao} (hleft:∀ r∈g.rules,0≤r.left) {n:Int} (h:(fg g n).2=0):∃ w,iW g [-1 - n] (fg g n).1 w:=by
  unfold fg at h ⊢
  split at h
  · rename_i hc
    rw[if_pos hc]
    simp only[Bool.and_eq_true,decide_eq_true_eq] at hc
    split at h
    · simp at h
    · rename_i hk
      rw[if_neg hk]
      split at h
      · simp at h
      · rename_i h3
        rw[if_neg h3]
        refine ⟨_,HZ hleft _ _ fun x hx hn=>?_⟩
        simp at hx; subst hx
        have e:bD (-1 - n)=n.toNat:=by unfold bD; omega
        rw[e]
        have hkn:bf (av g) n.toNat:=by unfold bf; omega
        exact ⟨hkn,(gQ hkn).2⟩
  · simp at h
theorem Cm {g:ao} (hleft:∀ r∈g.rules,0≤r.left) {place:Int} {inner:List Int} : ∀ (l:List Int) (i:Int) (t:List Int),(∀ s,l[(place - i).toNat]?=some s→i≤place→s < 0→∃ w,iW g [s] inner w)→cz g place inner i l=some t→∃ w,iW g l t w
  | [],i,t,_,h=>by
    rw[cz] at h; simp at h; subst h
    exact ⟨[],.nil⟩
  | s :: l,i,t,hin,h=>by
    have hrec:∀ t',cz g place inner (i+1) l=some t'→∃ w,iW g l t' w:=fun t' h'=>Cm hleft l (i+1) t' (fun s' hs' hi hn=>hin s' (by
      have:(place - i).toNat=(place - (i+1)).toNat+1:=by omega
      rw[this]; simpa using hs') (by omega) hn) h'
    rw[cz] at h
    split at h
    · rename_i h0
      obtain ⟨w,hw⟩:=hrec t h
      exact ⟨s :: w,.term s l t w h0 hw⟩
    · rename_i h0
      split at h
      · rename_i hp
        cases hr:cz g place inner (i+1) l with
        | none=>rw[hr] at h; simp at h
        | some t' =>
          rw[hr] at h; simp at h; subst h
          obtain ⟨w1,hw1⟩:=hin s (by rw[hp]; simp) (by omega) (by omega)
          obtain ⟨w2,hw2⟩:=hrec t' hr
          exact ⟨w1 ++ w2,by have:=hw1.app hw2; simpa using this⟩
      · split at h
        · rename_i ht
          cases hr:cz g place inner (i+1) l with
          | none=>rw[hr] at h; simp at h
          | some t' =>
            rw[hr] at h; simp at h; subst h
            obtain ⟨w1,hw1⟩:=HU hleft ht
            rw[show -1 - (-1 - s)=s by omega] at hw1
            obtain ⟨w2,hw2⟩:=hrec t' hr
            exact ⟨w1 ++ w2,by have:=hw1.app hw2; simpa using this⟩
        · simp at h
theorem ja {g:ao} {k:Nat} {R:aM} (h:g.rules[k]?=some R):qa g (k:Int)=R.right∧wH g (k:Int)=R.left:=by
  simp[qa,wH,List.getD_eq_getElem?_getD,h]
theorem Eg {g:ao} (hleft:∀ r∈g.rules,0≤r.left) {k:Nat} {R:aM} (hR:g.rules[k]?=some R) {place:Int} {inner:List Int} (hin:∀ s,R.right[place.toNat]?=some s→0≤place→s < 0→∃ w,iW g [s] inner w) (h:(dP g k place inner).2=true) :
    ∃ w,iW g [-1 - R.left] (dP g k place inner).1 w∧(dP g k place inner).1.length≤300:=by
  unfold dP at h ⊢
  rw[(ja hR).1] at h ⊢
  cases hp:cz g place inner 0 R.right with
  | none=>rw[hp] at h; simp at h
  | some t =>
    rw[hp] at h
    simp only[decide_eq_true_eq] at h
    simp only
    obtain ⟨w,hw⟩:=Cm hleft R.right 0 t (fun s hs h0 hn=>hin s (by simpa using hs) h0 hn) hp
    have:=hleft R (List.mem_of_getElem? hR)
    refine ⟨w,?_,h⟩
    have:=iW.bW (-1 - R.left) [] k R t w [] [] (by omega) hR (by omega) hw .nil
    simpa using this
theorem vI {g:ao} {k place:Int} {inner:List Int} (h:(dP g k place inner).2=true):(dP g k place inner).1.length≤300:=by
  unfold dP at h ⊢
  split at h
  · rename_i l hl
    rw[hl] at *
    simpa using h
  · simp at h
theorem CD {g:ao} {F:List Way} (hF:c5 g F) (hleft:∀ r∈g.rules,0≤r.left):∀ (f:Nat) (n:Int) (x:List Int × Bool),n∈bu F→dg F n≤f→(x.2=true→∃ w,iW g [-1 - n] x.1 w∧x.1.length≤300)→(cm g F f n x).2=true →
    ∃ w,iW g [-1 - g.start] (cm g F f n x).1 w∧(cm g F f n x).1.length≤300
  | 0,n,x,hn,hf,hx,h=>by
    rw[cm] at h ⊢
    by_cases e:n=g.start
    · rw[← e]; exact hx h
    · obtain ⟨_,_,_,_,_,_,_,_,h6⟩:=xy hF hn e
      omega
  | f+1,n,x,hn,hf,hx,h=>by
    rw[cm] at h ⊢
    split at h
    · rename_i hx2
      rw[if_pos hx2]
      by_cases e:n=g.start
      · subst e
        rw[kb hF] at h ⊢
        simp only at h ⊢
        rw[if_neg (by omega)] at h ⊢
        exact hx h
      · obtain ⟨k,j,R,h1,h2,h3,h4,h5,h6⟩:=xy hF hn e
        rw[h1] at h ⊢
        simp only at h ⊢
        rw[if_pos (by omega),(ja h2).2] at h ⊢
        refine CD hF hleft f R.left _ h5 (by omega) (fun hg=>?_) h
        refine Eg hleft h2 (fun s hs _ _=>?_) hg
        rw[Int.toNat_natCast,h3] at hs
        simp at hs; subst hs
        obtain ⟨w,hw,_⟩:=hx hx2
        exact ⟨w,hw⟩
    · rename_i hx2
      rw[if_neg hx2]
      exact absurd h hx2
theorem iJ {g:ao} (h:isRed g=true):bm g=true∧c5 g (dB g)∧∀ k:Nat,k < g.au.length→(k:Int)∈bu (dB g):=by
  unfold isRed at h
  simp only[Bool.and_eq_true,beq_iff_eq,decide_eq_true_eq] at h
  obtain ⟨h1,h2⟩:=h
  have hr:bm g=true:=by
    apply Decidable.byContradiction
    intro hn
    unfold eX at h1
    simp[hn] at h1
  have hf:=aX hr
  have hp:(aI g true).getD g.start.toNat false=true:=by
    apply Decidable.byContradiction
    intro hn
    rw[m0 hr,if_neg hn] at h1
    simp at h1
  have hred:=PC hr hp
  have e:je g (bo (bL (aI g true) (bz g) g.rules)) (aI g true) (bz g)=g:=by
    rw[m0 hr,if_pos hp] at h2
    exact h2.symm
  rw[e] at hred
  have hW:=NZ (g:=g) ⟨hf.eA,hf.start⟩ (fun R hR s hs hn=>by
    have:=hf.sym R hR s hs
    unfold im at this
    rw[if_neg (by omega)] at this
    simpa using this)
  refine ⟨hr,hW.1,fun k hk=>?_⟩
  rw[hred.len] at hk
  exact N9 hW.1 hW.2 (wX hr k (hred.B7 hk))
theorem Ec {g:ao} (h:isRed g=true) {i:Nat} (hi:i < g.rules.length) (hc:(dO g i).2=true):∃ w,iW g [-1 - g.start] (dO g i).1 w∧(dO g i).1.length≤300:=by
  obtain ⟨hr,hW,hall⟩:=iJ h
  have hf:=aX hr
  have hleft:=fun r hr=>(hf.left r hr).1
  have hR:g.rules[i]?=some (g.rules[i]):=List.getElem?_eq_getElem hi
  have hb:=hf.left _ (List.getElem_mem hi)
  unfold dO at hc ⊢
  rw[(ja hR).2] at hc ⊢
  have hk:=hall (g.rules[i]).left.toNat (by omega)
  rw[show (((g.rules[i]).left.toNat:Nat):Int)=(g.rules[i]).left by omega] at hk
  exact CD hW hleft _ _ _ hk (Nat.le_refl _) (fun hg=>Eg hleft hR (fun s _ h0 _=>absurd h0 (by decide)) hg) hc
theorem CN {g:ao} (hr:bm g=true) {t w:List Int} (h:iW g [-1 - g.start] t w) (hl:t.length≤300):∃ x,eO g t=some x∧x.word=w:=by
  obtain ⟨x,h1,h2,h3⟩:=Kh h t.length [] (Nat.le_refl _)
  rw[List.append_nil] at h1
  exact ⟨x,by rw[eO,if_pos ⟨hr,hl⟩,h1]; simp[h2],h3⟩
theorem xt {g:ao} {place:Int} {inner:List Int} : ∀ (l:List Int) (i:Int) (t:List Int) (s:Int),l[(place - i).toNat]?=some s→i≤place→s < 0→cz g place inner i l=some t→∀ x∈inner,x∈t
  | [],i,t,s,hs,_,_,_=>by simp at hs
  | c :: l,i,t,s,hs,hi,hn,h=>by
    rw[cz] at h
    by_cases e:i=place
    · subst e
      simp at hs; subst hs
      rw[if_neg (by omega),if_pos rfl] at h
      intro x hx
      cases hr:cz g i inner (i+1) l with
      | none=>rw[hr] at h; simp at h
      | some t'=>rw[hr] at h; simp at h; subst h; simp[hx]
    · have hs':l[(place - (i+1)).toNat]?=some s:=by
        have:(place - i).toNat=(place - (i+1)).toNat+1:=by omega
        rw[this] at hs
        simpa using hs
      split at h
      · exact xt l (i+1) t s hs' (by omega) hn h
      · try rw[if_neg e] at h
        split at h
        · cases hr:cz g place inner (i+1) l with
          | none=>rw[hr] at h; simp at h
          | some t' =>
            rw[hr] at h; simp at h; subst h
            intro x hx
            have:=xt l (i+1) t' s hs' (by omega) hn hr x hx
            simp[this]
        · simp at h
theorem C2 {g:ao} {F:List Way} (hF:c5 g F):∀ (f:Nat) (n:Int) (x:List Int × Bool) (y:Int),n∈bu F→y∈x.1→(cm g F f n x).2=true→y∈(cm g F f n x).1
  | 0,n,x,y,_,hy,_=>by rw[cm]; exact hy
  | f+1,n,x,y,hn,hy,h=>by
    rw[cm] at h ⊢
    split at h
    · rename_i hx2
      rw[if_pos hx2]
      by_cases e:n=g.start
      · subst e
        rw[kb hF] at h ⊢
        simp only at h ⊢
        rw[if_neg (by omega)]
        exact hy
      · obtain ⟨k,j,R,h1,h2,h3,h4,h5,h6⟩:=xy hF hn e
        rw[h1] at h ⊢
        simp only at h ⊢
        rw[if_pos (by omega),(ja h2).2] at h ⊢
        by_cases hg:(dP g k j x.1).2=true
        · refine C2 hF f R.left _ y h5 ?_ h
          unfold dP at hg ⊢
          rw[(ja h2).1] at hg ⊢
          cases hp:cz g j x.1 0 R.right with
          | none=>rw[hp] at hg; simp at hg
          | some t =>
            simp only
            exact List.mem_cons_of_mem _ (xt R.right 0 t (-1 - n) (by simpa using h3) (by omega) (by omega) hp y hy)
        · cases f with
          | zero=>rw[cm] at h; exact absurd h hg
          | succ f=>rw[cm,if_neg hg] at h; exact absurd h hg
    · rename_i hx2
      exact absurd h hx2
theorem K9 {g:ao} (h:isRed g=true) {i:Nat} (hi:i < g.rules.length) (hc:(dO g i).2=true):(i:Int)∈(dO g i).1:=by
  obtain ⟨hr,hW,hall⟩:=iJ h
  have hf:=aX hr
  have hR:g.rules[i]?=some (g.rules[i]):=List.getElem?_eq_getElem hi
  have hb:=hf.left _ (List.getElem_mem hi)
  have hk:=hall (g.rules[i]).left.toNat (by omega)
  rw[show (((g.rules[i]).left.toNat:Nat):Int)=(g.rules[i]).left by omega] at hk
  unfold dO at hc ⊢
  rw[(ja hR).2] at hc ⊢
  have hg:(dP g i (-1) []).2=true:=by
    apply Decidable.byContradiction
    intro hn
    cases hx:dg (dB g) (g.rules[i]).left with
    | zero=>rw[hx,cm] at hc; exact hn hc
    | succ f=>rw[hx,cm,if_neg hn] at hc; exact hn hc
  refine C2 hW _ _ _ _ hk ?_ hc
  unfold dP at hg ⊢
  split
  · simp
  · rename_i hp
    rw[hp] at hg; simp at hg
theorem Ls {g:ao} {i:Int} (h:(dt g i).2=0):(dO g i).2=true∧(dt g i).1=(dO g i).1∧(iI g (dO g i).1).1.length≤60:=by
  unfold dt at h ⊢
  split at h
  · simp at h
  · rename_i h1
    rw[if_neg h1]
    split at h
    · simp at h
    · rename_i h2
      rw[if_neg h2]
      exact ⟨by simpa using h1,rfl,by omega⟩
theorem Cn {g:ao} {i:Int} (h:(dt g i).2≠0):(dt g i).2=13∧(dt g i).1=[]:=by
  unfold dt at h ⊢
  split
  · exact ⟨rfl,rfl⟩
  · rename_i h1
    rw[if_neg h1] at h
    split
    · exact ⟨rfl,rfl⟩
    · rename_i h2
      rw[if_neg h2] at h
      simp at h
def Mt (g:ao) (t:List Int):Prop:=∃ w,iW g [-1 - g.start] t w∧t.length≤300∧iI g t=(w,0)∧w.length≤60
theorem A9 {g:ao} (h:isRed g=true) {i:Nat} (hi:i < g.rules.length) (hu:(dt g i).2=0):Mt g (dt g i).1∧(i:Int)∈(dt g i).1:=by
  obtain ⟨h1,h2,h3⟩:=Ls hu
  obtain ⟨w,h4,h5⟩:=Ec h hi h1
  obtain ⟨x,h6,h7⟩:=CN (iJ h).1 h4 h5
  rw[h2]
  refine ⟨⟨w,h4,h5,?_,?_⟩,K9 h hi h1⟩
  · rw[iI,h6,← h7]
  · rw[iI,h6] at h3
    simp only at h3
    rw[← h7]; exact h3
theorem C6 {g:ao} (h:isRed g=true):∀ i,i≤g.rules.length→(bS g i).1.length≤i∧(∀ t∈(bS g i).1,Mt g t)∧((bS g i).2=0→∀ k:Nat,k < i→∃ t∈(bS g i).1,(k:Int)∈t)∧((bS g i).2≠0→(bS g i).2=13∧(bS g i).1=[])
  | 0,_=>⟨by simp[bS],by simp[bS],fun _ k hk=>by omega,fun hn=>by simp[bS] at hn⟩
  | i+1,hi=>by
    obtain ⟨h1,h2,h3,h4⟩:=C6 h i (by omega)
    rw[bS]
    split
    · rename_i he
      exact ⟨by omega,h2,fun h0=>absurd h0 he,h4⟩
    · rename_i he
      have he:(bS g i).2=0:=by simpa using he
      split
      · rename_i ha
        refine ⟨by omega,h2,fun h0 k hk=>?_,h4⟩
        by_cases hki:k=i
        · subst hki
          obtain ⟨t,ht,hm⟩:=List.any_eq_true.1 ha
          exact ⟨t,ht,by simpa using hm⟩
        · exact h3 h0 k (by omega)
      · split
        · rename_i hu
          obtain ⟨hg,hm⟩:=A9 h (i:=i) (by omega) hu
          refine ⟨by simp; omega,fun t ht=>?_,fun _ k hk=>?_,fun hn=>by simp at hn⟩
          · rcases List.mem_append.1 ht with ht | ht
            · exact h2 t ht
            · simp at ht; subst ht; exact hg
          · by_cases hki:k=i
            · subst hki
              exact ⟨_,by simp,hm⟩
            · obtain ⟨t,ht,hkt⟩:=h3 he k (by omega)
              exact ⟨t,by simp[ht],hkt⟩
        · rename_i hu
          obtain ⟨a,b⟩:=Cn hu
          exact ⟨by simp,by simp,fun h0=>absurd h0 hu,fun _=>⟨a,rfl⟩⟩
end Gv
