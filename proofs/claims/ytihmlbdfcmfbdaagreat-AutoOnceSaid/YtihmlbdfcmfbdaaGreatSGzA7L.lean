/-
  Part 12 of the proof: what the machine does and what the functions answer.
  Conditions: those that each lemma names.
-/
import Derived.Test.YtihmlbdfcmfbdaaGreatSGzA7K
set_option linter.unusedSimpArgs false
set_option linter.unusedVariables false
set_option maxRecDepth 100000
namespace Gv
open Go Go.Proofs
structure Cell where
  kind:Int
  n:Int
  deriving DecidableEq
structure vZ where
  cx:List (List Cell)
  gotos:List (List Int)
  deriving DecidableEq
def HX (g:an) (n:Nat) (c:Cell):Bool:=if c.kind=0∨c.kind=3 then decide (c.n=0) else if c.kind=1 then decide (0≤c.n) && decide (c.n < n) else if c.kind=2 then decide (0≤c.n) && decide (c.n < g.rules.length) else false
def N9 (g:an) (n:Nat) (a:List Cell) (l:List Int):Bool:=decide (a.length=g.ax.length+1) && decide (l.length=g.au.length) && a.all (HX g n) && l.all fun x=>decide (-1≤x) && decide (x < n)
def Hq (t:vZ) (s x:Int):Cell:=(t.cx.getD s.toNat []).getD x.toNat ⟨0,0⟩
def CK (t:vZ) (s x:Int):Int:=(t.gotos.getD s.toNat []).getD x.toNat (-1)
def AN (st:List Int):Int:=st.getD (st.length - 1) 0
def dJ (g:an) (k:Int):aM:=g.rules.getD k.toNat ⟨0,[],0⟩
def Jy (t:vZ) (st:List Int):Prop:=st≠[]∧∀ x∈st,0≤x∧x < t.cx.length
theorem getD_some {α:Type} {l:List α} {j:Nat} {d:α} (h:j < l.length):l[j]?=some (l.getD j d):=by simp[List.getD_eq_getElem?_getD,h]
theorem LL (st:List Int) (x:Int):AN (st ++ [x])=x:=by simp[AN,List.getD_eq_getElem?_getD]
theorem Jy.app {t:vZ} {st:List Int} {x:Int} (h:∀ y∈st,0≤y∧y < t.cx.length) (hx:0≤x∧x < t.cx.length):Jy t (st ++ [x]):=by
  refine ⟨by simp,fun y hy=>?_⟩
  rcases List.mem_append.1 hy with hy | hy
  · exact h y hy
  · simp at hy; subst hy; exact hx
theorem Jy.take {t:vZ} {st:List Int} (h:Jy t st) {k:Nat} (hk:0 < k):Jy t (st.take k):=by
  refine ⟨?_,fun y hy=>h.2 y (List.mem_of_mem_take hy)⟩
  intro e
  rcases List.take_eq_nil_iff.1 e with e | e
  · omega
  · exact h.1 e
structure py (g:an) (t:vZ):Prop where
  right:bH g=true
  n1:1≤t.cx.length
  P8:t.cx.length≤300
  len:t.gotos.length=t.cx.length
  row:∀ i,i < t.cx.length→N9 g t.cx.length (t.cx.getD i []) (t.gotos.getD i [])=true
theorem py.zp {g:an} {t:vZ} (h:py g t) {i:Nat} (hi:i < t.cx.length):(t.cx.getD i []).length=g.ax.length+1∧(t.gotos.getD i []).length=g.au.length∧(∀ c∈t.cx.getD i [],HX g t.cx.length c=true)∧∀ x∈t.gotos.getD i [],-1≤x∧x < t.cx.length:=by
  have:=h.row i hi
  unfold N9 at this
  simp only[Bool.and_eq_true,decide_eq_true_eq,List.all_eq_true] at this
  exact ⟨this.1.1.1,this.1.1.2,this.1.2,this.2⟩
theorem py.cell {g:an} {t:vZ} (h:py g t) {s x:Int} (hs:0≤s∧s < t.cx.length) (hx:0≤x∧x≤g.ax.length):HX g t.cx.length (Hq t s x)=true∧(t.cx.getD s.toNat [])[x.toNat]?=some (Hq t s x):=by
  have hi:s.toNat < t.cx.length:=by omega
  obtain ⟨h1,_,h3,_⟩:=h.zp hi
  have hj:x.toNat < (t.cx.getD s.toNat []).length:=by omega
  have e:(t.cx.getD s.toNat [])[x.toNat]?=some (Hq t s x):=getD_some hj
  exact ⟨h3 _ (List.mem_of_getElem? e),e⟩
theorem py.go {g:an} {t:vZ} (h:py g t) {s x:Int} (hs:0≤s∧s < t.cx.length) (hx:0≤x∧x < g.au.length):(-1≤CK t s x∧CK t s x < t.cx.length)∧(t.gotos.getD s.toNat [])[x.toNat]?=some (CK t s x):=by
  have hi:s.toNat < t.cx.length:=by omega
  obtain ⟨_,h2,_,h4⟩:=h.zp hi
  have hj:x.toNat < (t.gotos.getD s.toNat []).length:=by omega
  have e:(t.gotos.getD s.toNat [])[x.toNat]?=some (CK t s x):=getD_some hj
  exact ⟨h4 _ (List.mem_of_getElem? e),e⟩
theorem D4 {x:Int} : ∀ (o:List Int) (i:Int),x∈o→∃ k:Nat,di (fun y=>y == x) o i=i+k∧o[k]?=some x
  | [],_,h=>by simp at h
  | y :: o,i,h=>by
    by_cases e:y=x
    · exact ⟨0,by simp[di,e],by simp[e]⟩
    · have hx:x∈o:=by
        rcases List.mem_cons.1 h with rfl | h
        · exact absurd rfl e
        · exact h
      obtain ⟨k,h1,h2⟩:=D4 o (i+1) hx
      exact ⟨k+1,by simp only[di]; rw[if_neg (by simp[e]),h1]; push_cast; omega,by simpa using h2⟩
theorem yz {o:List Int} {x:Int} (h:x∈o):o[(bf o x).toNat]?=some x:=by
  obtain ⟨k,h1,h2⟩:=D4 o 0 h
  have:bf o x=k:=by unfold bf; omega
  rw[this]; simpa using h2
theorem w8 {o:List Int} (hn:o.Nodup) {k:Nat} {x:Int} (h:o[k]?=some x):bf o x=k:=by
  have hx:=List.mem_of_getElem? h
  have h1:=yz hx
  have h2:=jR hx
  obtain ⟨hk,h3⟩:=List.getElem?_eq_some_iff.1 h
  obtain ⟨hk2,h4⟩:=List.getElem?_eq_some_iff.1 h1
  have:=(List.getElem_inj hn).1 (h4.trans h3.symm)
  omega
theorem LV (acc:List Int) (r:aM):∃ m,dd acc r=acc ++ m:=by
  unfold dd
  split
  · exact ⟨[],by simp⟩
  · exact ⟨_,rfl⟩
theorem rY:∀ (l:List aM) (acc:List Int),∃ m,l.foldl dd acc=acc ++ m
  | [],acc=>⟨[],by simp⟩
  | r :: l,acc=>by
    obtain ⟨m,hm⟩:=LV acc r
    obtain ⟨k,hk⟩:=rY l (dd acc r)
    exact ⟨m ++ k,by rw[List.foldl_cons,hk,hm,List.append_assoc]⟩
theorem Lk {a b:List Int} {x:Int} (h:x∈a):bf (a ++ b) x=bf a x:=by
  unfold bf
  rw[rL _ _ _ _ (by omega)]
  have:=jR h
  unfold bf at this
  rw[if_pos this.1]
theorem tT {r:an} {o:List Int} (ho:o.Nodup) (hr:r.au.length=o.length):∀ (l:List aM) (acc:List Int),o=l.foldl dd acc→(∀ x∈l,gm r (bb (bf o) x)=true)→fJ r (l.map (bb (bf o))) ((acc.length:Int) - 1)=true
  | [],acc,h,_=>by
    simp only[List.foldl_nil] at h
    simp[fJ,hr,h]
  | x :: l,acc,h,hb=>by
    simp only[List.map_cons,fJ,Bool.and_eq_true,decide_eq_true_eq]
    rw[List.foldl_cons] at h
    have h1:(bb (bf o) x).left=bf o x.left:=rfl
    obtain ⟨m,hm⟩:=rY l (dd acc x)
    rw[← h] at hm
    by_cases hx:x.left∈acc
    · have e:dd acc x=acc:=by unfold dd; rw[if_pos hx]
      rw[e] at hm h
      have h2:=jR hx
      have h3:bf o x.left=bf acc x.left:=by rw[hm]; exact Lk hx
      rw[h1,h3,if_neg (by omega)]
      exact ⟨⟨⟨h2.1,by omega⟩,hb x (by simp)⟩,tT ho hr l acc h fun y hy=>hb y (by simp[hy])⟩
    · have e:dd acc x=acc ++ [x.left]:=by unfold dd; rw[if_neg hx]
      rw[e] at hm h
      have h3:bf o x.left=acc.length:=w8 ho (by rw[hm]; simp)
      rw[h1,h3,if_pos (by omega)]
      refine ⟨⟨⟨by omega,by omega⟩,hb x (by simp)⟩,?_⟩
      have:=tT ho hr l (acc ++ [x.left]) h fun y hy=>hb y (by simp[hy])
      rw[List.length_append] at this
      simpa using this
theorem xO {g r:an} (h:r.ax=g.ax):∀ (l:List Term) (i:Int),iD r l i=iD g l i
  | [],_=>rfl
  | t :: l,i=>by
    simp only[iD,xO h l]
    congr 1
    simp only[iU,ky,pv,h]
theorem oN {o:List Int} {n:Nat} (h:o.Nodup) (hb:∀ x∈o,0≤x∧x < n):o.length≤n:=by
  have:=kW o ((List.range n).map fun (k:Nat)=>(k:Int)) h fun x hx=>by
    have:=hb x hx
    exact List.mem_map.2 ⟨x.toNat,List.mem_range.2 (by omega),by omega⟩
  simpa using this
structure dX (g:an) (p q:List Bool) (o:List Int) (r:an):Prop where
  right:bH g=true
  pe:p=aH g true
  qe:q=bB g
  oe:o=bK p q g.rules
  re:r=j7 g (bf o) p q
  nodup:o.Nodup
  inside:∀ x∈o,0≤x∧x < g.au.length
  kept:∀ R∈g.rules,bz p q R=true→R.left∈o∧∀ s∈R.right,s < 0→-1 - s∈o
  from_:∀ x∈o,∃ R∈g.rules,bz p q R=true∧R.left=x
  start:g.start∈o
section
variable {g r:an} {p q:List Bool} {o:List Int}
theorem dX.rules (h:dX g p q o r):r.rules=(g.rules.filter (bz p q)).map (bb (bf o)):=by rw[h.re]; rfl
theorem dX.au (h:dX g p q o r):r.au=o.map fun x=>g.au.getD x.toNat ⟨#[]⟩:=by rw[h.re,h.oe]; rfl
theorem dX.ax (h:dX g p q o r):r.ax=g.ax:=by rw[h.re]; rfl
theorem dX.C9 (h:dX g p q o r):r.start=bf o g.start:=by rw[h.re]; rfl
theorem dX.len (h:dX g p q o r):r.au.length=o.length:=by rw[h.au]; simp
theorem dX.kZ (h:dX g p q o r):bH r=true:=by
  have hf:=bI h.right
  have hR:=h.right
  simp only[bH,iK,js,Bool.and_eq_true,decide_eq_true_eq] at hR ⊢
  obtain ⟨⟨⟨⟨⟨⟨⟨a1,a2⟩,⟨a3,a4⟩,a5⟩,a6⟩,a7⟩,a8⟩,a9⟩,a10⟩:=hR
  have hst:=jR h.start
  have hol:o.length≤g.au.length:=oN h.nodup h.inside
  have hgn:g.au.Nodup∧∀ s∈g.au,fk (ep s)=true∧ky g s < 0:=by
    rw[qQ] at a5
    refine ⟨(qD g.au).1 fun k s hk=>?_,fun s hs=>?_⟩
    · have:=a5 k s hk
      simp only[j6,wk,Bool.and_eq_true,beq_iff_eq] at this
      have:=this.1.2
      omega
    · obtain ⟨k,hk⟩:=List.getElem?_of_mem hs
      have:=a5 k s hk
      simp only[j6,Bool.and_eq_true,decide_eq_true_eq] at this
      exact ⟨this.1.1,this.2⟩
  have hget:∀ x∈o,∃ (hx:x.toNat < g.au.length),g.au.getD x.toNat ⟨#[]⟩=g.au[x.toNat]:=fun x hx=>by
    have:=h.inside x hx
    exact ⟨by omega,by simp[List.getD_eq_getElem?_getD,List.getElem?_eq_getElem (show x.toNat < g.au.length by omega)]⟩
  have hrn:r.au.Nodup:=by
    rw[h.au,List.nodup_iff_pairwise_ne,List.pairwise_map]
    refine (List.Pairwise.and_mem.1 h.nodup).imp ?_
    rintro x y ⟨hx,hy,hne⟩ e
    obtain ⟨h1,h2⟩:=hget x hx
    obtain ⟨h3,h4⟩:=hget y hy
    rw[h2,h4] at e
    have h5:=(List.getElem_inj hgn.1).1 e
    have h6:=h.inside x hx
    have h7:=h.inside y hy
    exact hne (by omega)
  have hrules:(g.rules.filter (bz p q)).length≤g.rules.length:=List.length_filter_le _ _
  obtain ⟨R0,hR0,hk0,_⟩:=h.from_ _ h.start
  have hpos:0 < (g.rules.filter (bz p q)).length:=List.length_pos_of_mem (List.mem_filter.2 ⟨hR0,hk0⟩)
  have hrl:r.rules.length=(g.rules.filter (bz p q)).length:=by rw[h.rules]; simp
  refine ⟨⟨⟨⟨⟨⟨⟨by rw[h.ax]; exact a1,?_⟩,⟨by rw[h.len]; omega,by rw[h.len]; omega⟩,?_⟩,by omega⟩,by omega⟩,by rw[h.C9]; omega⟩,by rw[h.C9,h.len]; omega⟩,?_⟩
  · rw[h.ax,xO h.ax]; exact a2
  · rw[qQ]
    intro k s hk
    have hm:=List.mem_of_getElem? hk
    have hidx:=(qD r.au).2 hrn k s hk
    rw[h.au,List.mem_map] at hm
    obtain ⟨x,hx,rfl⟩:=hm
    obtain ⟨h1,h2⟩:=hget x hx
    obtain ⟨h3,h4⟩:=hgn.2 _ (h2 ▸ List.getElem_mem h1:g.au.getD x.toNat ⟨#[]⟩∈g.au)
    simp only[j6,wk,Bool.and_eq_true,beq_iff_eq,decide_eq_true_eq]
    refine ⟨⟨h3,by rw[hidx]; omega⟩,?_⟩
    simp only[ky,h.ax] at h4 ⊢
    exact h4
  · rw[h.rules]
    have:=tT (r:=r) h.nodup h.len (g.rules.filter (bz p q)) [] (by rw[h.oe]; rfl) (fun x hx=>?_)
    · simpa using this
    obtain ⟨hm,hk⟩:=List.mem_filter.1 hx
    obtain ⟨_,hin⟩:=h.kept x hm hk
    have hb:=(vQ _ _ a10).2 x hm
    have hb:=hb.2.2
    simp only[gm,Bool.and_eq_true,decide_eq_true_eq,List.all_eq_true] at hb ⊢
    obtain ⟨⟨⟨b1,b2⟩,b3⟩,b4⟩:=hb
    refine ⟨⟨⟨by simpa [bb] using b1,b2⟩,by rw[h.ax]; exact b3⟩,fun s hs=>?_⟩
    simp only[bb,List.mem_map] at hs
    obtain ⟨s0,hs0,rfl⟩:=hs
    have b5:=b4 s0 hs0
    by_cases hn:s0 < 0
    · rw[if_pos hn]
      have hl:=jR (hin s0 hs0 hn)
      simp only[kN,gX,Bool.and_eq_true]
      rw[if_neg (by omega),decide_eq_false (p:=0≤-1 - bf o (-1 - s0)) (by omega)]
      simp only[h.len,decide_eq_true_eq,Bool.false_and,Bool.not_false,and_true]
      omega
    · rw[if_neg hn]
      simp only[kN,gX,h.ax] at b5 ⊢
      rw[if_pos (by omega)] at b5 ⊢
      exact b5
end
inductive sk (g:an):Int→Prop
  | mk (R:aM):R∈g.rules→(∀ s∈R.right,s < 0→sk g (-1 - s))→sk g R.left
inductive oA (g:an) (p:List Bool):Int→Prop
  | start:oA g p g.start
  | next (R:aM) (s:Int):R∈g.rules→oA g p R.left→dy R.right p true=true→s∈R.right→s < 0→oA g p (-1 - s)
theorem tN {l:List Int} {p:List Bool} : dy l p true=true↔∀ s∈l,s < 0→p.getD (-1 - s).toNat false=true:=by
  simp only[dy,List.all_eq_true]
  constructor
  · intro h s hs hn
    have:=h s hs
    rwa [if_neg (by omega)] at this
  · intro h s hs
    by_cases hn:s < 0
    · rw[if_neg (by omega)]; exact h s hs hn
    · rw[if_pos (by omega)]
theorem yE {l:List Bool} {i j:Nat} (h:(l.set i true).getD j false=true):j=i∨l.getD j false=true:=by
  by_cases e:i=j
  · exact .inl e.symm
  · right
    simp only[List.getD_eq_getElem?_getD,List.getElem?_set,if_neg e] at h ⊢
    exact h
theorem zG {g:an} {i:Nat} : (bQ g).getD i false=false:=by
  simp only[bQ,List.getD_eq_getElem?_getD,List.getElem?_replicate]
  split <;> rfl
theorem Dr {g:an} (hr:bH g=true):∀ i:Nat,(aH g true).getD i false=true→sk g i:=by
  have hf:=bI hr
  have hst:∀ (is:List Bool) (R:aM),R∈g.rules→(∀ i:Nat,is.getD i false=true→sk g i)→∀ i:Nat,(dx true is R).getD i false=true→sk g i:=by
    intro is R hR h i hi
    unfold dx at hi
    split at hi
    · rename_i ha
      rcases yE hi with rfl | hi
      · have:=hf.left R hR
        have e:((R.left.toNat:Nat):Int)=R.left:=by omega
        rw[e]
        refine .mk R hR fun s hs hn=>?_
        have:=h _ (tN.1 ha s hs hn)
        rwa [show (((-1 - s).toNat:Nat):Int) = -1 - s by omega] at this
      · exact h i hi
    · exact h i hi
  have hfold:∀ (l:List aM) (is:List Bool),(∀ R∈l,R∈g.rules)→(∀ i:Nat,is.getD i false=true→sk g i)→∀ i:Nat,(l.foldl (dx true) is).getD i false=true→sk g i:=by
    intro l
    induction l with
    | nil=>intro is _ h; exact h
    | cons R l ih=>intro is hl h; exact ih _ (fun x hx=>hl x (by simp[hx])) (hst is R (hl R (by simp)) h)
  have hit:∀ (n:Nat) (is:List Bool),(∀ i:Nat,is.getD i false=true→sk g i)→∀ i:Nat,(iter (iH g true) n is).getD i false=true→sk g i:=by
    intro n
    induction n with
    | zero=>intro is h; exact h
    | succ n ih=>intro is h; exact ih _ (hfold g.rules is (fun _ h=>h) h)
  rw[aH,if_pos hr]
  exact hit _ _ fun i hi=>by rw[zG] at hi; simp at hi
theorem B0 (t:Bool) (is:List Bool) (R:aM):fL is (dx t is R):=by
  unfold dx
  split
  · exact .set _ _
  · exact .refl _
theorem B8 (t:Bool):∀ (l:List aM) (is:List Bool),fL is (l.foldl (dx t) is)
  | [],is=>.refl _
  | R :: l,is=>(B0 t is R).trans (B8 t l _)
theorem zA {t:Bool} : ∀ {l:List aM} {is:List Bool},l.foldl (dx t) is=is→∀ R∈l,dx t is R=is
  | [],_,_,_,h=>by simp at h
  | R :: l,is,h,x,hx=>by
    rw[List.foldl_cons] at h
    have h1:=B8 t l (dx t is R)
    rw[h] at h1
    have h2:=(h1.Ip (B0 t is R))
    rcases List.mem_cons.1 hx with rfl | hx
    · exact h2
    · rw[h2] at h; exact zA h x hx
theorem I7 {g:an} (hr:bH g=true) (t:Bool):iH g t (aH g t)=aH g t:=by
  have hf:=bI hr
  have h:=qV (qd t) g.rules 16 (bQ g) (by have:=hf.au; simp[bQ]; omega)
  rw[FY,Jx hr] at h
  exact h.1
theorem qn {g:an} (hr:bH g=true) {t:Bool} {R:aM} (hR:R∈g.rules) (ha:dy R.right (aH g t) t=true):(aH g t).getD R.left.toNat false=true:=by
  have h1:=zA (I7 hr t) R hR
  have hf:=bI hr
  have hl:=iL hr t
  have hb:=hf.left R hR
  unfold dx at h1
  rw[if_pos ha] at h1
  rw[← h1]
  simp only[List.getD_eq_getElem?_getD]
  rw[List.getElem?_set_self (by omega)]
  rfl
theorem wb {g:an} (hr:bH g=true) {x:Int} (h:sk g x):(aH g true).getD x.toNat false=true:=by
  induction h with
  | mk R hR _ ih=>exact qn hr hR (tN.2 fun s hs hn=>ih s hs hn)
theorem DG {g:an} (hr:bH g=true):∀ i:Nat,(bB g).getD i false=true→oA g (aH g true) i:=by
  have hf:=bI hr
  have hmk:∀ (R:aM),R∈g.rules→oA g (aH g true) R.left→dy R.right (aH g true) true=true→∀ (l:List Int) (is:List Bool),(∀ s∈l,s∈R.right)→(∀ i:Nat,is.getD i false=true→oA g (aH g true) i)→∀ i:Nat,(l.foldl mark is).getD i false=true→oA g (aH g true) i:=by
    intro R hR hl ha l
    induction l with
    | nil=>intro is _ h; exact h
    | cons s l ih =>
      intro is hs h
      refine ih _ (fun x hx=>hs x (by simp[hx])) fun i hi=>?_
      unfold mark at hi
      split at hi
      · rename_i hn
        rcases yE hi with rfl | hi
        · rw[show (((-1 - s).toNat:Nat):Int) = -1 - s by omega]
          exact .next R s hR hl ha (hs s (by simp)) hn
        · exact h i hi
      · exact h i hi
  have hst:∀ (is:List Bool) (R:aM),R∈g.rules→(∀ i:Nat,is.getD i false=true→oA g (aH g true) i)→∀ i:Nat,(eQ (aH g true) is R).getD i false=true→oA g (aH g true) i:=by
    intro is R hR h
    unfold eQ
    split
    · rename_i ha
      rw[Bool.and_eq_true] at ha
      have h1:=h _ ha.1
      have:=hf.left R hR
      rw[show ((R.left.toNat:Nat):Int)=R.left by omega] at h1
      exact hmk R hR h1 ha.2 R.right is (fun _ h=>h) h
    · exact h
  have hfold:∀ (l:List aM) (is:List Bool),(∀ R∈l,R∈g.rules)→(∀ i:Nat,is.getD i false=true→oA g (aH g true) i)→∀ i:Nat,(l.foldl (eQ (aH g true)) is).getD i false=true→oA g (aH g true) i:=by
    intro l
    induction l with
    | nil=>intro is _ h; exact h
    | cons R l ih=>intro is hl h; exact ih _ (fun x hx=>hl x (by simp[hx])) (hst is R (hl R (by simp)) h)
  have hit:∀ (n:Nat) (is:List Bool),(∀ i:Nat,is.getD i false=true→oA g (aH g true) i)→∀ i:Nat,(iter (mg g (aH g true)) n is).getD i false=true→oA g (aH g true) i:=by
    intro n
    induction n with
    | zero=>intro is h; exact h
    | succ n ih=>intro is h; exact ih _ (hfold g.rules is (fun _ h=>h) h)
  rw[bB,if_pos hr]
  refine hit _ _ fun i hi=>?_
  rcases yE hi with rfl | hi
  · have:=hf.jo
    rw[show ((g.start.toNat:Nat):Int)=g.start by omega]
    exact .start
  · rw[zG] at hi; simp at hi
theorem wi {g:an} (hr:bH g=true) {x:Int} (h:oA g (aH g true) x):(bB g).getD x.toNat false=true:=by
  induction h with
  | start=>exact xA hr
  | next R s hR _ ha hs hn ih=>exact yW hr hR (by rw[bz,ih,ha]; rfl) hs hn
section
variable {g r:an} {p q:List Bool} {o:List Int}
theorem dX.PQ (h:dX g p q o r) {x:Int} (hd:sk g x):x∈o→sk r (bf o x):=by
  induction hd with
  | mk R hR hsub ih =>
    intro hx
    obtain ⟨R1,hR1,hk1,e1⟩:=h.from_ _ hx
    have hk:bz p q R=true:=by
      rw[bz,Bool.and_eq_true] at hk1 ⊢
      refine ⟨by rw[← e1]; exact hk1.1,?_⟩
      rw[h.pe]
      exact tN.2 fun s hs hn=>wb h.right (hsub s hs hn)
    have hin:=(h.kept R hR hk).2
    have hm:bb (bf o) R∈r.rules:=by rw[h.rules]; exact List.mem_map.2 ⟨R,List.mem_filter.2 ⟨hR,hk⟩,rfl⟩
    refine sk.mk (bb (bf o) R) hm fun s' hs' hn'=>?_
    simp only[bb,List.mem_map] at hs'
    obtain ⟨s,hs,rfl⟩:=hs'
    by_cases hn:s < 0
    · rw[if_pos hn]
      have:=ih s hs hn (hin s hs hn)
      rwa [show -1 - (-1 - bf o (-1 - s))=bf o (-1 - s) by omega]
    · rw[if_neg hn] at hn'; omega
theorem dX.OM (h:dX g p q o r) {x:Int} (hx:x∈o):(aH r true).getD (bf o x).toNat false=true:=by
  obtain ⟨R,hR,hk,rfl⟩:=h.from_ _ hx
  rw[bz,Bool.and_eq_true,h.pe] at hk
  have h1:=qn h.right hR hk.2
  have h2:=Dr h.right _ h1
  have:=(h.inside _ hx)
  rw[show ((R.left.toNat:Nat):Int)=R.left by omega] at h2
  exact wb h.kZ (h.PQ h2 hx)
theorem dX.at_ (h:dX g p q o r) {k:Nat} (hk:k < o.length):∃ x∈o,bf o x=k∧o[k]?=some x:=⟨o[k],List.getElem_mem _,w8 h.nodup (List.getElem?_eq_getElem hk),List.getElem?_eq_getElem hk⟩
theorem dX.BD (h:dX g p q o r) {k:Nat} (hk:k < o.length):(aH r true).getD k false=true:=by
  obtain ⟨x,hx,h1,_⟩:=h.at_ hk
  have:=h.OM hx
  rwa [h1,Int.toNat_natCast] at this
theorem dX.Js (h:dX g p q o r) {R:aM} (hR:R∈r.rules):dy R.right (aH r true) true=true:=by
  have hf:=bI h.kZ
  refine tN.2 fun s hs hn=>h.BD ?_
  have:=hf.neg hR hs hn
  rw[h.len] at this
  omega
theorem dX.PZ (h:dX g p q o r) {x:Int} (hd:oA g (aH g true) x):oA r (aH r true) (bf o x):=by
  induction hd with
  | start=>rw[← h.C9]; exact .start
  | next R s hR h1 ha hs hn ih =>
    have hk:bz p q R=true:=by
      rw[bz,h.pe,h.qe,ha,wi h.right h1]; rfl
    have hm:bb (bf o) R∈r.rules:=by rw[h.rules]; exact List.mem_map.2 ⟨R,List.mem_filter.2 ⟨hR,hk⟩,rfl⟩
    have hin:=(h.kept R hR hk).2 s hs hn
    have h2:=jR hin
    have:=oA.next (g:=r) (p:=aH r true) (bb (bf o) R) (-1 - bf o (-1 - s)) hm ih (h.Js hm) (by
      simp only[bb,List.mem_map]
      exact ⟨s,hs,by rw[if_pos hn]⟩) (by omega)
    rwa [show -1 - (-1 - bf o (-1 - s))=bf o (-1 - s) by omega] at this
theorem dX.I2 (h:dX g p q o r) {k:Nat} (hk:k < o.length):(bB r).getD k false=true:=by
  obtain ⟨x,hx,h1,_⟩:=h.at_ hk
  obtain ⟨R,hR,hkk,rfl⟩:=h.from_ _ hx
  rw[bz,Bool.and_eq_true,h.qe] at hkk
  have h2:=DG h.right _ hkk.1
  have:=(h.inside _ hx)
  rw[show ((R.left.toNat:Nat):Int)=R.left by omega] at h2
  have:=wi h.kZ (h.PZ h2)
  rwa [h1,Int.toNat_natCast] at this
def kb (n:Nat):List Int:=(List.range n).map fun (k:Nat)=>(k:Int)
theorem EJ (n:Nat):(kb n).length=n:=by simp[kb]
theorem yy {n k:Nat} (h:k < n):(kb n)[k]?=some (k:Int):=by simp[kb,h]
theorem HB (n:Nat):(kb n).Nodup:=by
  rw[kb,List.nodup_iff_pairwise_ne,List.pairwise_map]
  exact (List.nodup_range (n:=n)).imp fun h e=>h (by omega)
theorem yN {n:Nat} {x:Int} (h0:0≤x) (h1:x < n):bf (kb n) x=x:=by
  have:=w8 (HB n) (yy (n:=n) (k:=x.toNat) (by omega))
  rw[show ((x.toNat:Nat):Int)=x by omega] at this
  exact this
theorem Bq {p q:List Bool} : ∀ (l:List aM) (i:Int),(∀ R∈l,bz p q R=true)→b6 p q l i=(List.range l.length).map fun (k:Nat)=>i+(k:Int)
  | [],_,_=>rfl
  | R :: l,i,h=>by
    rw[b6,if_pos (h R (by simp)),Bq l (i+1) (fun x hx=>h x (by simp[hx])),List.length_cons,List.range_succ_eq_map,List.map_cons,List.map_map]
    congr 1
    · omega
    · apply List.map_congr_left
      intro k _
      simp only[Function.comp]
      push_cast; omega
theorem sT {f:Int→Int} {o:List Int} (hf:∀ x∈o,∀ y∈o,f x=f y→x=y):∀ (l:List aM) (acc:List Int),(∀ x∈acc,x∈o)→(∀ R∈l,R.left∈o)→(l.map (bb f)).foldl dd (acc.map f)=(l.foldl dd acc).map f
  | [],_,_,_=>rfl
  | R :: l,acc,ha,hl=>by
    have e:dd (acc.map f) (bb f R)=(dd acc R).map f:=by
      have h1:(bb f R).left=f R.left:=rfl
      unfold dd
      rw[h1]
      by_cases h:R.left∈acc
      · rw[if_pos h,if_pos (List.mem_map.2 ⟨_,h,rfl⟩)]
      · rw[if_neg h,if_neg (fun hm=>by
          obtain ⟨y,hy,e⟩:=List.mem_map.1 hm
          exact h (hf y (ha y hy) _ (hl R (by simp)) e ▸ hy))]
        simp
    rw[List.map_cons,List.foldl_cons,List.foldl_cons,e]
    refine sT hf l (dd acc R) (fun x hx=>?_) (fun x hx=>hl x (by simp[hx]))
    unfold dd at hx
    split at hx
    · exact ha x hx
    · rcases List.mem_append.1 hx with hx | hx
      · exact ha x hx
      · simp at hx; subst hx; exact hl R (by simp)
theorem dX.inj (h:dX g p q o r):∀ x∈o,∀ y∈o,bf o x=bf o y→x=y:=by
  intro x hx y hy e
  have h1:=yz hx
  have h2:=yz hy
  rw[e,h2] at h1
  exact (Option.some.inj h1).symm
theorem dX.Nk (h:dX g p q o r):o.map (bf o)=kb o.length:=by
  apply List.ext_getElem?
  intro k
  rw[List.getElem?_map]
  by_cases hk:k < o.length
  · rw[yy hk,List.getElem?_eq_getElem hk,Option.map_some,w8 h.nodup (List.getElem?_eq_getElem hk)]
  · rw[List.getElem?_eq_none (by omega),List.getElem?_eq_none (by rw[EJ]; omega)]; rfl
theorem dX.xY (h:dX g p q o r):∀ R∈r.rules,bz (aH r true) (bB r) R=true:=fun R hR=>by
  have hf:=bI h.kZ
  have:=hf.left R hR
  rw[h.len] at this
  rw[bz,h.I2 (by omega),h.Js hR]; rfl
theorem dX.ord (h:dX g p q o r):bK (aH r true) (bB r) r.rules=kb o.length:=by
  unfold bK
  rw[List.filter_eq_self.2 h.xY,h.rules]
  have:=sT h.inj (g.rules.filter (bz p q)) [] (by simp) (fun R hR=>by
    obtain ⟨h1,h2⟩:=List.mem_filter.1 hR
    exact (h.kept R h1 h2).1)
  rw[List.map_nil] at this
  rw[this,← h.Nk]
  congr 1
  rw[h.oe]; rfl
theorem dX.once (h:dX g p q o r):eW r=(r,kb r.rules.length,0):=by
  have hf:=bI h.kZ
  have hst:=hf.start
  have hst0:=hf.jo
  rw[h.len] at hst
  rw[vM h.kZ,if_pos (h.BD (by omega)),h.ord]
  have hk:b6 (aH r true) (bB r) r.rules 0=kb r.rules.length:=by
    rw[Bq _ _ h.xY]
    unfold kb
    apply List.map_congr_left
    intro k _; omega
  have hr:j7 r (bf (kb o.length)) (aH r true) (bB r)=r:=by
    unfold j7
    rw[h.ord,List.filter_eq_self.2 h.xY]
    have e1:((kb o.length).map fun x=>r.au.getD x.toNat ⟨#[]⟩)=r.au:=by
      apply List.ext_getElem?
      intro k
      rw[List.getElem?_map]
      by_cases hkk:k < o.length
      · rw[yy hkk,Option.map_some]
        simp[List.getD_eq_getElem?_getD,List.getElem?_eq_getElem (show k < r.au.length by rw[h.len]; omega)]
      · rw[List.getElem?_eq_none (by rw[EJ]; omega),List.getElem?_eq_none (by rw[h.len]; omega)]; rfl
    have e2:r.rules.map (bb (bf (kb o.length)))=r.rules:=by
      conv=>rhs; rw[← List.map_id r.rules]
      apply List.map_congr_left
      intro R hR
      have hl:=hf.left R hR
      rw[h.len] at hl
      unfold bb
      rw[yN hl.1 hl.2]
      have e3:(R.right.map fun s=>if s < 0 then -1 - bf (kb o.length) (-1 - s) else s)=R.right:=by
        conv=>rhs; rw[← List.map_id R.right]
        apply List.map_congr_left
        intro s hs
        by_cases hn:s < 0
        · have:=hf.neg hR hs hn
          rw[h.len] at this
          rw[if_pos hn,yN (by omega) this]
          simp only[id]; omega
        · rw[if_neg hn]; rfl
      rw[e3]; rfl
    rw[e1,e2,yN hst0 hst]
  rw[hr,hk]
end
def isRed (g:an):Bool:=(eW g).2.2 == 0 && decide (g=(eW g).1)
def od (p:List Int) (i:Nat) (s:Int):Prop:=∃ c,p[i]?=some c∧(c=s∨c = -1)
inductive Sp (g:an) (p:List Int):List Int→Nat→Nat→Prop
  | nil (i:Nat):Sp g p [] i i
  | term (s:Int) (l:List Int) (i j:Nat):0≤s→od p i s→Sp g p l (i+1) j→Sp g p (s :: l) i j
  | dP (s:Int) (l:List Int) (R:aM) (i k j:Nat):s < 0→R∈g.rules→R.left = -1 - s→Sp g p R.right i k→Sp g p l k j→Sp g p (s :: l) i j
theorem Sp.le {g:an} {p:List Int} {l:List Int} {i j:Nat} (h:Sp g p l i j):i≤j:=by
  induction h with
  | nil=>exact Nat.le_refl _
  | term _ _ _ _ _ _ _ ih=>omega
  | dP _ _ _ _ _ _ _ _ _ _ _ ih1 ih2=>omega
theorem Sp.len {g:an} {p:List Int} {l:List Int} {i j:Nat} (h:Sp g p l i j):i≤p.length→j≤p.length:=by
  induction h with
  | nil=>exact id
  | term _ _ i _ _ hf _ ih =>
    intro _
    obtain ⟨c,hc,_⟩:=hf
    have:=(List.getElem?_eq_some_iff.1 hc).1
    exact ih (by omega)
  | dP _ _ _ _ _ _ _ _ _ _ _ ih1 ih2=>exact fun h=>ih2 (ih1 h)
theorem Sp.app {g:an} {p:List Int} {a:List Int} {i k:Nat} (h:Sp g p a i k):∀ {b:List Int} {j:Nat},Sp g p b k j→Sp g p (a ++ b) i j:=by
  induction h with
  | nil=>exact fun h=>h
  | term s l i _ h0 hf _ ih=>exact fun hb=>.term s _ i _ h0 hf (ih hb)
  | dP s l R i k _ h0 hR hl h1 _ _ ih2=>exact fun hb=>.dP s _ R i k _ h0 hR hl h1 (ih2 hb)
theorem Sp.split {g:an} {p:List Int} : ∀ {a b:List Int} {i j:Nat},Sp g p (a ++ b) i j→∃ k,Sp g p a i k∧Sp g p b k j
  | [],b,i,j,h=>⟨i,.nil i,h⟩
  | s :: a,b,i,j,h=>by
    cases h with
    | term _ _ _ _ h0 hf h =>
      obtain ⟨k,h1,h2⟩:=Sp.split h
      exact ⟨k,.term s a i k h0 hf h1,h2⟩
    | dP _ _ R _ m _ h0 hR hl h1 h =>
      obtain ⟨k,h2,h3⟩:=Sp.split h
      exact ⟨k,.dP s a R i m k h0 hR hl h1 h2,h3⟩
structure Item where
  aG:Nat
  dot:Nat
  kQ:Nat
  deriving DecidableEq
def Sound (g:an) (p:List Int) (at_:Nat) (x:Item):Prop:=∃ R,g.rules[x.aG]?=some R∧x.dot≤R.right.length∧x.kQ≤at_∧Sp g p (R.right.take x.dot) x.kQ at_
structure PI (g:an) (p:List Int) (S:Nat→List Item):Prop where
  start:∀ (i:Nat) (R:aM),g.rules[i]?=some R→R.left=g.start→⟨i,0,0⟩∈S 0
  term:∀ a x R s,x∈S a→g.rules[x.aG]?=some R→R.right[x.dot]?=some s→0≤s→od p a s→⟨x.aG,x.dot+1,x.kQ⟩∈S (a+1)
  pred:∀ a x R s i R',x∈S a→g.rules[x.aG]?=some R→R.right[x.dot]?=some s→s < 0→g.rules[i]?=some R'→R'.left = -1 - s→a≤p.length→⟨i,0,a⟩∈S a
  null:∀ a x R s,x∈S a→g.rules[x.aG]?=some R→R.right[x.dot]?=some s→s < 0→(aH g false).getD (-1 - s).toNat false=true→a≤p.length→⟨x.aG,x.dot+1,x.kQ⟩∈S a
  comp:∀ a y R' x R s,y∈S a→g.rules[y.aG]?=some R'→y.dot=R'.right.length→y.kQ < a→x∈S y.kQ→g.rules[x.aG]?=some R→R.right[x.dot]?=some s→s < 0→R'.left = -1 - s→a≤p.length→⟨x.aG,x.dot+1,x.kQ⟩∈S a
inductive In (p:List Int) (T:Nat→Nat→Nat→Prop):List Int→Nat→Nat→Prop
  | nil (i:Nat):In p T [] i i
  | term (s:Int) (l:List Int) (i j:Nat):0≤s→od p i s→In p T l (i+1) j→In p T (s :: l) i j
  | dP (s:Int) (l:List Int) (i k j:Nat):s < 0→T (-1 - s).toNat i k→In p T l k j→In p T (s :: l) i j
theorem In.app {p:List Int} {T:Nat→Nat→Nat→Prop} {a:List Int} {i k:Nat} (h:In p T a i k):∀ {b:List Int} {j:Nat},In p T b k j→In p T (a ++ b) i j:=by
  induction h with
  | nil=>exact fun h=>h
  | term s l i _ h0 hf _ ih=>exact fun hb=>.term s _ i _ h0 hf (ih hb)
  | dP s l i k _ h0 h1 _ ih=>exact fun hb=>.dP s _ i k _ h0 h1 (ih hb)
theorem In.split {p:List Int} {T:Nat→Nat→Nat→Prop} : ∀ {a b:List Int} {i j:Nat},In p T (a ++ b) i j→∃ k,In p T a i k∧In p T b k j
  | [],b,i,j,h=>⟨i,.nil i,h⟩
  | s :: a,b,i,j,h=>by
    cases h with
    | term _ _ _ _ h0 hf h =>
      obtain ⟨k,h1,h2⟩:=In.split h
      exact ⟨k,.term s a i k h0 hf h1,h2⟩
    | dP _ _ _ m _ h0 h1 h =>
      obtain ⟨k,h2,h3⟩:=In.split h
      exact ⟨k,.dP s a i m k h0 h1 h2,h3⟩
theorem In.le {p:List Int} {T:Nat→Nat→Nat→Prop} (hT:∀ n i j,T n i j→i≤j) {l:List Int} {i j:Nat} (h:In p T l i j):i≤j:=by
  induction h with
  | nil=>exact Nat.le_refl _
  | term _ _ _ _ _ _ _ ih=>omega
  | dP _ _ _ _ _ _ h1 _ ih=>have:=hT _ _ _ h1; omega
def stepT (p:List Int) (T:Nat→Nat→Nat→Prop) (s:Int) (i j:Nat):Prop:=if 0≤s then od p i s∧j=i+1 else T (-1 - s).toNat i j
theorem In.one {p:List Int} {T:Nat→Nat→Nat→Prop} {s:Int} {i j:Nat} : In p T [s] i j↔stepT p T s i j:=by
  unfold stepT
  constructor
  · intro h
    cases h with
    | term _ _ _ _ h0 hf h=>cases h; rw[if_pos h0]; exact ⟨hf,rfl⟩
    | dP _ _ _ _ _ h0 h1 h=>cases h; rw[if_neg (by omega)]; exact h1
  · intro h
    by_cases h0:0≤s
    · rw[if_pos h0] at h
      obtain ⟨hf,rfl⟩:=h
      exact .term s [] i _ h0 hf (.nil _)
    · rw[if_neg h0] at h
      exact .dP s [] i j j (by omega) h (.nil _)
theorem In.snoc {p:List Int} {T:Nat→Nat→Nat→Prop} {a:List Int} {s:Int} {i j:Nat} : In p T (a ++ [s]) i j↔∃ k,In p T a i k∧stepT p T s k j :=
  ⟨fun h=>by obtain ⟨k,h1,h2⟩:=h.split; exact ⟨k,h1,In.one.1 h2⟩,fun ⟨k,h1,h2⟩=>h1.app (In.one.2 h2)⟩
abbrev Tb:=List (List (List Bool))
def yl (T:Tb) (N M:Nat):Prop:=T.length=N∧∀ r∈T,r.length=M∧∀ c∈r,c.length=M
theorem yl.row {T:Tb} {N M n:Nat} (h:yl T N M) (hn:n < N):∃ r,T[n]?=some r∧r.length=M∧T.getD n []=r:=by
  have:n < T.length:=by rw[h.1]; exact hn
  exact ⟨T[n],List.getElem?_eq_getElem this,(h.2 _ (List.getElem_mem _)).1,by simp[List.getD_eq_getElem?_getD,this]⟩
theorem yl.cell {T:Tb} {N M n i:Nat} (h:yl T N M) (hn:n < N) (hi:i < M):∃ r c,T[n]?=some r∧r[i]?=some c∧c.length=M∧(T.getD n []).getD i []=c:=by
  obtain ⟨r,hr,hl,hg⟩:=h.row hn
  have h1:i < r.length:=by omega
  refine ⟨r,r[i],hr,List.getElem?_eq_getElem h1,(h.2 r (List.mem_of_getElem? hr)).2 _ (List.getElem_mem _),?_⟩
  rw[hg]; simp[List.getD_eq_getElem?_getD,h1]
def Iu (T:Tb) (n i j:Nat):Tb:=T.set n ((T.getD n []).set i (((T.getD n []).getD i []).set j true))
def NJ (N M:Nat):Tb:=List.replicate N (List.replicate M (List.replicate M false))
def Mr (T:Tb):V:=.aV (T.map fun r=>[.aV (r.map fun c=>[bM c])])
structure pI (H:View) (I N M:Nat) (R:Nat→Nat) (C:Nat→Nat→Nat) (T:Tb):Prop where
  top:H I=.arr 1 ((List.range N).map fun n=>[.sl (R n) 0 M 1])
  row:∀ n,n < N→H (R n)=.arr 1 ((List.range M).map fun i=>[.sl (C n i) 0 M 1])
  cell:∀ n i,n < N→i < M→H (C n i)=.arr 1 (bV ((T.getD n []).getD i []))
  inj:∀ n i n' i',n < N→i < M→n' < N→i' < M→C n i=C n' i'→n=n'∧i=i'
theorem yO {c:List Bool} {k:Nat} {F:Nat→List V} (hc:0 < c.length) (h:bV c=(List.range k).map F) (hF:∀ n x,F n≠[gb x]):False:=by
  cases c with
  | nil=>simp at hc
  | cons x c =>
    cases k with
    | zero=>simp at h
    | succ k =>
      rw[List.range_succ_eq_map] at h
      simp only[List.map_cons,List.cons.injEq] at h
      exact hF 0 x h.1.symm
theorem pI.keep {H H':View} {I N M:Nat} {R:Nat→Nat} {C:Nat→Nat→Nat} {T:Tb} (h:pI H I N M R C T) (hk:∀ id,H id≠.dead→H' id=H id):pI H' I N M R C T :=
  ⟨by rw[hk _ (by rw[h.top]; simp)]; exact h.top,fun n hn=>by rw[hk _ (by rw[h.row n hn]; simp)]; exact h.row n hn,fun n i hn hi=>by rw[hk _ (by rw[h.cell n i hn hi]; simp)]; exact h.cell n i hn hi,h.inj⟩
theorem pI.put {H:View} {I N M:Nat} {R:Nat→Nat} {C:Nat→Nat→Nat} {T:Tb} (h:pI H I N M R C T) (hT:yl T N M) {n i j:Nat} (hn:n < N) (hi:i < M) (hj:j < M) :
    pI (H.set (C n i) (.arr 1 (bV (((T.getD n []).getD i []).set j true)))) I N M R C (Iu T n i j):=by
  obtain ⟨r,c,hr,hc,hcl,hg⟩:=hT.cell hn hi
  have hcell:=h.cell n i hn hi
  rw[hg] at hcell
  have e1:I≠C n i:=fun e=>by
    have:=h.top
    rw[e,hcell] at this
    simp only[bL.arr.injEq,true_and] at this
    exact yO (by omega) this fun _ _=>by simp
  have e2:∀ m,m < N→R m≠C n i:=fun m hm e=>by
    have:=h.row m hm
    rw[e,hcell] at this
    simp only[bL.arr.injEq,true_and] at this
    exact yO (by omega) this fun _ _=>by simp
  refine ⟨by simp only[View.set,if_neg e1]; exact h.top,fun m hm=>by simp only[View.set,if_neg (e2 m hm)]; exact h.row m hm,fun m q hm hq=>?_,h.inj⟩
  obtain ⟨r',hr',hrl,hg'⟩:=hT.row hn
  rw[hr] at hr'; simp at hr'; subst hr'
  have hnl:n < T.length:=by rw[hT.1]; exact hn
  by_cases e:C m q=C n i
  · obtain ⟨rfl,rfl⟩:=h.inj m q n i hm hq hn hi e
    simp only[View.set,if_true]
    congr 2
    rw[Iu]
    simp[List.getD_eq_getElem?_getD,hnl]
    rw[List.getElem?_set]
    have:q < T[m].length:=by
      have:=(List.getElem?_eq_some_iff.1 hr).2
      rw[this,hrl]; exact hq
    simp[this]
  · simp only[View.set,if_neg e]
    rw[h.cell m q hm hq]
    congr 2
    rw[Iu]
    by_cases em:n=m
    · subst em
      have eq:i≠q:=fun e'=>e (by rw[e'])
      simp[List.getD_eq_getElem?_getD,hnl,List.getElem?_set,eq]
    · simp[List.getD_eq_getElem?_getD,List.getElem?_set,em]
theorem pI.OR {h:aB} {I N M:Nat} {R:Nat→Nat} {C:Nat→Nat→Nat} {T:Tb} (hG:pI h.view I N M R C T) (hT:yl T N M):dA h (.sl I 0 N 1) (Mr T):=by
  refine .sl I 0 N 1 1 _ _ hG.top (by simp) (by simp[hT.1]) (fun n hn=>?_) (fun n j hn hj=>?_)
  · obtain ⟨r,hr,_⟩:=hT.row hn
    simp[List.getD_eq_getElem?_getD,hr,hn]
  · obtain ⟨r,hr,hrl,hrg⟩:=hT.row hn
    have e1:((T.map fun r=>[V.aV (r.map fun c=>[bM c])]).getD n [])=[V.aV (r.map fun c=>[bM c])]:=by simp[List.getD_eq_getElem?_getD,hr]
    have e2:(((List.range N).map fun n=>[V.sl (R n) 0 M 1]).getD (0+n) [])=[V.sl (R n) 0 M 1]:=by simp[List.getD_eq_getElem?_getD,hn]
    rw[e1] at hj ⊢
    rw[e2]
    have:j=0:=by simp at hj; omega
    subst this
    simp only[List.getD_cons_zero]
    refine .sl (R n) 0 M 1 1 _ _ (hG.row n hn) (by simp) (by simp[hrl]) (fun i hi=>?_) (fun i q hi hq=>?_)
    · simp[List.getD_eq_getElem?_getD,hi,show i < r.length by omega]
    · have hic:i < r.length:=by omega
      have f1:((r.map fun c=>[bM c]).getD i [])=[bM r[i]]:=by simp[List.getD_eq_getElem?_getD,hic]
      have f2:(((List.range M).map fun i=>[V.sl (C n i) 0 M 1]).getD (0+i) [])=[V.sl (C n i) 0 M 1]:=by simp[List.getD_eq_getElem?_getD,hi]
      rw[f1] at hq ⊢
      rw[f2]
      have:q=0:=by simp at hq; omega
      subst this
      simp only[List.getD_cons_zero]
      have hcell:=hG.cell n i hn hi
      have e3:(T.getD n []).getD i []=r[i]:=by rw[hrg]; simp[List.getD_eq_getElem?_getD,hic]
      rw[e3] at hcell
      have hcl:=(hT.2 r (List.mem_of_getElem? hr)).2 _ (List.getElem_mem hic)
      have:=ot (h:=h) (id:=C n i) (is:=r[i]) hcell
      rwa [hcl] at this
theorem dA.Oq {h:aB} {v t:V} (f:dA h v t):Fr h v t:=by
  induction f with
  | val v=>exact .tree _ (.val v)
  | emp k=>exact .emp k
  | sl id off len esz z es es' hH hle hlen hl _ ih=>exact .sl id off len esz z es es' hH hle hlen hl ih
  | agg cs cs' hl _ ih=>exact .agg cs cs' hl ih
  | bk cs cs' hl _ ih=>exact .bk cs cs' hl ih
theorem pI.HH {H:View} {I N M:Nat} {R:Nat→Nat} {C:Nat→Nat→Nat} {T:Tb} (hG:pI H I N M R C T) (hT:yl T N M):en H (.sl I 0 N 1) (Mr T):=by
  rintro h rfl
  exact (hG.OR hT).Oq
structure N7 (H:View) (I N M k:Nat) (R:Nat→Nat) (C:Nat→Nat→Nat):Prop where
  top:H I=.arr 1 ((List.range N).map fun n=>[if n < k then .sl (R n) 0 M 1 else .emp 1])
  row:∀ n,n < k→H (R n)=.arr 1 ((List.range M).map fun i=>[.sl (C n i) 0 M 1])
  cell:∀ n i,n < k→i < M→H (C n i)=.arr 1 (List.replicate M [gb false])
  inj:∀ n i n' i',n < k→i < M→n' < k→i' < M→C n i=C n' i'→n=n'∧i=i'
  ne:∀ n,n < k→I≠R n
structure C3 (H:View) (I N M k:Nat) (R:Nat→Nat) (C:Nat→Nat→Nat) (r i:Nat) (D:Nat→Nat):Prop where
  top:H I=.arr 1 ((List.range N).map fun n=>[if n < k then .sl (R n) 0 M 1 else if n=k then .sl r 0 M 1 else .emp 1])
  row:∀ n,n < k→H (R n)=.arr 1 ((List.range M).map fun i=>[.sl (C n i) 0 M 1])
  cell:∀ n i,n < k→i < M→H (C n i)=.arr 1 (List.replicate M [gb false])
  inj:∀ n i n' i',n < k→i < M→n' < k→i' < M→C n i=C n' i'→n=n'∧i=i'
  ne:∀ n,n < k→I≠R n
  NU:H r=.arr 1 ((List.range M).map fun j=>[if j < i then .sl (D j) 0 M 1 else .emp 1])
  CR:∀ j,j < i→H (D j)=.arr 1 (List.replicate M [gb false])
  NC:∀ j j',j < i→j' < i→D j=D j'→j=j'
  BN:I≠r∧(∀ n,n < k→R n≠r)∧∀ n q j,n < k→q < M→j < i→C n q≠D j
theorem Gi {M i:Nat} {F:Nat→List V} {v:List V} : ((List.range M).map F).set i v=(List.range M).map fun j=>if j=i then v else F j:=by
  apply List.ext_getElem (by simp)
  intro j h1 h2
  simp only[List.getElem_set,List.getElem_map,List.getElem_range]
  by_cases e:i=j
  · subst e; simp
  · rw[if_neg e,if_neg (Ne.symm e)]
theorem N7.done {H:View} {I N M:Nat} {R:Nat→Nat} {C:Nat→Nat→Nat} (h:N7 H I N M N R C):pI H I N M R C (NJ N M):=by
  refine ⟨?_,h.row,fun n i hn hi=>?_,h.inj⟩
  · rw[h.top]
    congr 1
    apply List.map_congr_left
    intro n hn
    rw[if_pos (by simpa using hn)]
  · rw[h.cell n i hn hi]
    simp[NJ,List.getD_eq_getElem?_getD,hn,hi]
theorem C3.PB {H:View} {I N M k:Nat} {R:Nat→Nat} {C:Nat→Nat→Nat} {r:Nat} {D:Nat→Nat} (h:C3 H I N M k R C r M D):N7 H I N M (k+1) (fun n=>if n=k then r else R n) (fun n=>if n=k then D else C n):=by
  refine ⟨?_,fun n hn=>?_,fun n i hn hi=>?_,fun n i n' i' hn hi hn' hi' e=>?_,fun n hn=>?_⟩
  · rw[h.top]
    congr 1
    apply List.map_congr_left
    intro n _
    by_cases e1:n < k
    · rw[if_pos e1,if_pos (by omega),if_neg (by omega)]
    · by_cases e2:n=k
      · rw[if_neg e1,if_pos e2,if_pos (by omega),if_pos e2]
      · rw[if_neg e1,if_neg e2,if_neg (by omega)]
  · by_cases e:n=k
    · simp only[if_pos e]
      rw[h.NU]
      congr 1
      apply List.map_congr_left
      intro i hi
      rw[if_pos (by simpa using hi)]
    · simp only[if_neg e]; exact h.row n (by omega)
  · by_cases e:n=k
    · simp only[if_pos e]; exact h.CR i hi
    · simp only[if_neg e]; exact h.cell n i (by omega) hi
  · by_cases e1:n=k
    · by_cases e2:n'=k
      · simp only[if_pos e1,if_pos e2] at e
        exact ⟨by omega,h.NC i i' hi hi' e⟩
      · simp only[if_pos e1,if_neg e2] at e
        exact absurd e.symm (h.BN.2.2 n' i' i (by omega) hi' hi)
    · by_cases e2:n'=k
      · simp only[if_neg e1,if_pos e2] at e
        exact absurd e (h.BN.2.2 n i i' (by omega) hi hi')
      · simp only[if_neg e1,if_neg e2] at e
        exact h.inj n i n' i' (by omega) hi (by omega) hi' e
  · by_cases e:n=k
    · simp only[if_pos e]; exact h.BN.1
    · simp only[if_neg e]; exact h.ne n (by omega)
theorem C3.next {H H':View} {I N M k:Nat} {R:Nat→Nat} {C:Nat→Nat→Nat} {r i d:Nat} {D:Nat→Nat} (h:C3 H I N M k R C r i D) (hN:0 < N) (hM:0 < M) (hd:H d=.dead)
    (hr':H' r=.arr 1 (((List.range M).map fun j=>[if j < i then V.sl (D j) 0 M 1 else .emp 1]).set i [.sl d 0 M 1])) (hd':H' d=.arr 1 (List.replicate M [gb false])) (ho:∀ id,H id≠.dead→id≠r→H' id=H id) :
    C3 H' I N M k R C r (i+1) (fun j=>if j=i then d else D j):=by
  have live:∀ id,H id≠.dead→id≠d:=fun id hid e=>by subst e; exact hid hd
  have boolr:∀ id,H id=.arr 1 (List.replicate M [gb false])→id≠r:=fun id hid e=>by
    rw[e,h.NU] at hid
    simp only[bL.arr.injEq,true_and] at hid
    have:=congrArg (·[0]?) hid
    simp[hM] at this
    split at this <;> simp at this
  refine ⟨?_,fun n hn=>?_,fun n q hn hq=>?_,h.inj,h.ne,?_,fun j hj=>?_,fun j j' hj hj' e=>?_,⟨h.BN.1,h.BN.2.1,fun n q j hn hq hj=>?_⟩⟩
  · rw[ho I (by rw[h.top]; simp) h.BN.1]; exact h.top
  · rw[ho _ (by rw[h.row n hn]; simp) (h.BN.2.1 n hn)]; exact h.row n hn
  · have:=h.cell n q hn hq
    rw[ho _ (by rw[this]; simp) (boolr _ this)]; exact this
  · rw[hr',Gi]
    congr 1
    apply List.map_congr_left
    intro j _
    by_cases e:j=i
    · rw[if_pos e,if_pos (by omega),if_pos e]
    · rw[if_neg e]
      by_cases e2:j < i
      · rw[if_pos e2,if_pos (by omega),if_neg e]
      · rw[if_neg e2,if_neg (by omega)]
  · by_cases e:j=i
    · simp only[if_pos e]; exact hd'
    · simp only[if_neg e]
      have:=h.CR j (by omega)
      rw[ho _ (by rw[this]; simp) (boolr _ this)]; exact this
  · by_cases e1:j=i
    · by_cases e2:j'=i
      · omega
      · simp only[if_pos e1,if_neg e2] at e
        exact absurd e.symm (live _ (by rw[h.CR j' (by omega)]; simp))
    · by_cases e2:j'=i
      · simp only[if_neg e1,if_pos e2] at e
        exact absurd e (live _ (by rw[h.CR j (by omega)]; simp))
      · simp only[if_neg e1,if_neg e2] at e
        exact h.NC j j' (by omega) (by omega) e
  · by_cases e:j=i
    · simp only[if_pos e]; exact live _ (by rw[h.cell n q hn hq]; simp)
    · simp only[if_neg e]; exact h.BN.2.2 n q j hn hq (by omega)
structure vZ.Ok (t:vZ):Prop where
  cx:aX t.cx
  gotos:aX t.gotos
  row:∀ r∈t.cx,aX r∧∀ c∈r,cm c.kind∧cm c.n
  go:∀ r∈t.gotos,aX r∧∀ x∈r,cm x
structure bR where
  aG:Int
  cH:Int
  rules:Int
  ax:Int
def qo:bR:=⟨(-1),0,0,0⟩
def fP:bR:=⟨0,0,0,0⟩
def cq (P:List bR) (m:Nat):bR:=P.getD m qo
abbrev qf (x:Int):Nat:=(-1 - x).toNat
def fQ (P:List bR):List Int→bR→bR × Bool
  | [],s=>(s,true)
  | x :: l,s=>if 0≤x then fQ P l ⟨s.aG,s.cH,s.rules,min 1048576 (s.ax+1)⟩
    else if (cq P (qf x)).aG < 0 then (s,false)
    else fQ P l ⟨s.aG,max s.cH (cq P (qf x)).cH,min 1048576 (s.rules+(cq P (qf x)).rules),min 1048576 (s.ax+(cq P (qf x)).ax)⟩
def cQ (P:List bR) (m:Nat):Prop:=0≤(cq P m).aG
def tA (P:List bR) (l:List Int):Prop:=∀ x∈l,x < 0→cQ P (qf x)
theorem r8 (P:List bR):∀ (l:List Int) (s:bR),(fQ P l s).2=true↔tA P l
  | [],s=>by simp[fQ,tA]
  | x :: l,s=>by
    simp only[fQ,tA,List.mem_cons]
    by_cases h:0≤x
    · rw[if_pos h,r8 P l]
      refine ⟨fun k y hy hn=>?_,fun k y hy=>k y (.inr hy)⟩
      rcases hy with rfl | hy
      · omega
      · exact k y hy hn
    · rw[if_neg h]
      by_cases h2:(cq P (qf x)).aG < 0
      · rw[if_pos h2]
        simp only[Bool.false_eq_true,false_iff]
        intro k
        have:=k x (.inl rfl) (by omega)
        unfold cQ at this; omega
      · rw[if_neg h2,r8 P l]
        refine ⟨fun k y hy hn=>?_,fun k y hy=>k y (.inr hy)⟩
        rcases hy with rfl | hy
        · unfold cQ; omega
        · exact k y hy hn
theorem nE (P:List bR) (k:Int):∀ (l:List Int) (s:bR),tA P l→((fQ P l s).1.cH≤k↔s.cH≤k∧∀ x∈l,x < 0→(cq P (qf x)).cH≤k)
  | [],s,_=>by simp[fQ]
  | x :: l,s,h=>by
    have hl:tA P l:=fun y hy=>h y (by simp[hy])
    simp only[fQ,List.mem_cons]
    by_cases h0:0≤x
    · rw[if_pos h0,nE P k l _ hl]
      refine ⟨fun ⟨a,b⟩=>⟨a,fun y hy hn=>?_⟩,fun ⟨a,b⟩=>⟨a,fun y hy=>b y (.inr hy)⟩⟩
      rcases hy with rfl | hy
      · omega
      · exact b y hy hn
    · have:=h x (by simp) (by omega)
      unfold cQ at this
      rw[if_neg h0,if_neg (by omega),nE P k l _ hl]
      refine ⟨fun ⟨a,b⟩=>⟨by simp only at a; omega,fun y hy hn=>?_⟩,fun ⟨a,b⟩=>⟨by have:=b x (.inl rfl) (by omega); simp only; omega,fun y hy=>b y (.inr hy)⟩⟩
      rcases hy with rfl | hy
      · simp only at a; omega
      · exact b y hy hn
theorem vu (P:List bR):∀ (l:List Int) (s:bR),s.cH≤(fQ P l s).1.cH
  | [],s=>Int.le_refl _
  | x :: l,s=>by
    simp only[fQ]
    split
    · exact vu P l _
    · split
      · exact Int.le_refl _
      · have:=vu P l ⟨s.aG,max s.cH (cq P (qf x)).cH,min 1048576 (s.rules+(cq P (qf x)).rules),min 1048576 (s.ax+(cq P (qf x)).ax)⟩
        simp only at this ⊢; omega
def nR (P:List bR) (i:Nat) (r:aM):bR:=⟨i,(fQ P r.right fP).1.cH+1,min 1048576 ((fQ P r.right fP).1.rules+1),(fQ P r.right fP).1.ax⟩
def CP (P:List bR) (i:Nat) (N:List bR) (r:aM):List bR :=
  if 0≤(cq N r.left.toNat).aG then N else if (fQ P r.right fP).2=true then N.set r.left.toNat (nR P i r) else N
def tH (P:List bR):Nat→List bR→List aM→List bR
  | _,N,[]=>N
  | i,N,r :: l=>tH P (i+1) (CP P i N r) l
def zg (rules:List aM) (P:List bR):List bR:=tH P 0 P rules
def lp (P:List bR) (m:Nat):Nat→List aM→Option bR
  | _,[]=>none
  | i,r :: l=>if r.left.toNat=m∧(fQ P r.right fP).2=true then some (nR P i r) else lp P m (i+1) l
theorem GF {N:List bR} {i m:Nat} {p:bR} (hm:m < N.length):cq (N.set i p) m=if i=m then p else cq N m:=by
  simp only[cq,List.getD_eq_getElem?_getD,List.getElem?_set]
  split
  · rename_i e; subst e; simp[hm]
  · rfl
theorem BH (P:List bR) (i:Nat) (N:List bR) (r:aM):(CP P i N r).length=N.length:=by
  unfold CP; split; · rfl
  split <;> simp
theorem BU (P:List bR):∀ (l:List aM) (i:Nat) (N:List bR),(tH P i N l).length=N.length
  | [],_,_=>rfl
  | r :: l,i,N=>by rw[tH,BU P l,BH]
theorem C6 (P:List bR) (m:Nat):∀ (l:List aM) (i:Nat) (N:List bR),m < N.length→cq (tH P i N l) m=if 0≤(cq N m).aG then cq N m else (lp P m i l).getD (cq N m)
  | [],i,N,hm=>by simp[tH,lp]
  | r :: l,i,N,hm=>by
    rw[tH,C6 P m l (i+1) _ (by rw[BH]; exact hm),lp]
    unfold CP
    by_cases h1:0≤(cq N r.left.toNat).aG
    · rw[if_pos h1]
      by_cases h2:r.left.toNat=m
      · subst h2
        rw[if_pos h1,if_pos h1]
      · rw[if_neg (c:=r.left.toNat=m∧_) (fun e=>h2 e.1)]
    · rw[if_neg h1]
      by_cases h3:(fQ P r.right fP).2=true
      · rw[if_pos h3]
        by_cases h2:r.left.toNat=m
        · subst h2
          rw[GF hm,if_pos rfl,if_neg h1,if_pos (show (0:Int)≤(nR P i r).aG by simp only[nR]; omega),if_pos (c:=r.left.toNat=r.left.toNat∧_) (And.intro rfl h3)]
          rfl
        · rw[GF hm,if_neg h2,if_neg (c:=r.left.toNat=m∧_) (fun e=>h2 e.1)]
      · rw[if_neg h3,if_neg (c:=r.left.toNat=m∧_) (fun e=>h3 e.2)]
theorem ov {P:List bR} {m:Nat} : ∀ {l:List aM} {i:Nat} {p:bR},lp P m i l=some p→∃ (j:Nat) (r:aM),l[j]?=some r∧r.left.toNat=m∧tA P r.right∧p=nR P (i+j) r∧∀ (j':Nat) (r':aM),j' < j→l[j']?=some r'→r'.left.toNat=m→¬ tA P r'.right
  | [],i,p,h=>by simp[lp] at h
  | r :: l,i,p,h=>by
    rw[lp] at h
    by_cases hc:r.left.toNat=m∧(fQ P r.right fP).2=true
    · rw[if_pos hc] at h
      exact ⟨0,r,rfl,hc.1,(r8 P _ _).1 hc.2,by simpa using h.symm,fun j' r' hj=>by omega⟩
    · rw[if_neg hc] at h
      obtain ⟨j,r2,a,b,c,d,e⟩:=ov h
      refine ⟨j+1,r2,by simpa using a,b,c,by rw[d]; congr 1; omega,fun j' r' hj hr hl hk=>?_⟩
      cases j' with
      | zero =>
        simp at hr; subst hr
        exact hc ⟨hl,(r8 P _ _).2 hk⟩
      | succ j'=>exact e j' r' (by omega) (by simpa using hr) hl hk
theorem Bn {P:List bR} {m:Nat} : ∀ {l:List aM} {i:Nat},lp P m i l=none→∀ r∈l,r.left.toNat=m→¬ tA P r.right
  | [],i,h,r,hr,_,_=>by simp at hr
  | r :: l,i,h,r',hr,hl,hk=>by
    rw[lp] at h
    by_cases hc:r.left.toNat=m∧(fQ P r.right fP).2=true
    · rw[if_pos hc] at h; simp at h
    · rw[if_neg hc] at h
      rcases List.mem_cons.1 hr with rfl | hr
      · exact hc ⟨hl,(r8 P _ _).2 hk⟩
      · exact Bn h r' hr hl hk
def bm (g:an) (k:Nat):List bR:=iter (zg g.rules) k (List.replicate g.au.length qo)
theorem Ck {α:Type} (f:α→α):∀ (k:Nat) (x:α),iter f (k+1) x=f (iter f k x)
  | 0,x=>rfl
  | k+1,x=>by rw[iter,Ck f k,iter]
theorem z8 (g:an) (k:Nat):bm g (k+1)=zg g.rules (bm g k):=Ck _ _ _
theorem kT (g:an):∀ k,(bm g k).length=g.au.length
  | 0=>by simp[bm,iter]
  | k+1=>by rw[z8,zg,BU,kT g k]
theorem sG {P:List bR} {m:Nat} (h:P.length≤m):cq P m=qo:=by simp[cq,List.getD_eq_getElem?_getD,List.getElem?_eq_none h]
theorem L0 {P:List bR} {m:Nat} (h:cQ P m):m < P.length:=by
  rcases Nat.lt_or_ge m P.length with h1 | h1
  · exact h1
  · unfold cQ at h; rw[sG h1] at h; simp[qo] at h
theorem pR (g:an) (k m:Nat):cq (bm g (k+1)) m=if 0≤(cq (bm g k) m).aG then cq (bm g k) m else if m < g.au.length then (lp (bm g k) m 0 g.rules).getD (cq (bm g k) m) else cq (bm g k) m:=by
  by_cases hm:m < g.au.length
  · rw[z8,zg,C6 _ _ _ _ _ (by rw[kT]; exact hm),if_pos hm]
  · rw[if_neg hm,sG (by rw[kT]; omega),sG (by rw[kT]; omega)]
    simp
theorem Hn {g:an} {k m:Nat} (h:cQ (bm g k) m):cq (bm g (k+1)) m=cq (bm g k) m:=by
  rw[pR]; unfold cQ at h; rw[if_pos h]
theorem xU {g:an} {k m:Nat} (h:cQ (bm g k) m):∀ d,cq (bm g (k+d)) m=cq (bm g k) m
  | 0=>rfl
  | d+1=>by
    have ih:=xU h d
    have:cQ (bm g (k+d)) m:=by unfold cQ at h ⊢; rw[ih]; exact h
    rw[← ih,← Hn this]; rfl
theorem lH {g:an} {k m j:Nat} (h:cQ (bm g k) m) (hj:k≤j):cq (bm g j) m=cq (bm g k) m∧cQ (bm g j) m:=by
  obtain ⟨d,rfl⟩:∃ d,j=k+d:=⟨j - k,by omega⟩
  have:=xU h d
  exact ⟨this,by unfold cQ at h ⊢; rw[this]; exact h⟩
theorem Bo {g:an} {k m:Nat} (h0:¬ cQ (bm g k) m) (h:cQ (bm g (k+1)) m):lp (bm g k) m 0 g.rules=some (cq (bm g (k+1)) m):=by
  unfold cQ at h h0
  rw[pR,if_neg h0] at h
  rw[pR,if_neg h0]
  split at h
  · rename_i hm
    rw[if_pos hm]
    cases hc:lp (bm g k) m 0 g.rules with
    | none=>rw[hc] at h; exact absurd h h0
    | some p=>rfl
  · exact absurd h h0
theorem tj {g:an} {m:Nat} : ∀ {k:Nat},¬ cQ (bm g k) m→cq (bm g k) m=qo
  | 0,_=>by
    simp only[bm,iter,cq,List.getD_eq_getElem?_getD,List.getElem?_replicate]
    split <;> rfl
  | k+1,h=>by
    have h0:¬ cQ (bm g k) m:=fun e=>h (lH e (by omega)).2
    unfold cQ at h h0
    rw[pR,if_neg h0] at h ⊢
    split
    · rename_i hm
      rw[if_pos hm] at h
      cases hc:lp (bm g k) m 0 g.rules with
      | none=>exact tj (k:=k) h0
      | some p =>
        rw[hc] at h
        obtain ⟨j,r,_,_,_,rfl,_⟩:=ov hc
        simp only[Option.getD_some,nR] at h; omega
    · exact tj (k:=k) h0
theorem pN (g:an):∀ k:Nat,∀ m,cQ (bm g k) m→1≤(cq (bm g k) m).cH∧(cq (bm g k) m).cH≤k∧∀ j:Nat,j≤k→(cq (bm g k) m).cH≤j→cQ (bm g j) m
  | 0,m,h=>by
    unfold cQ at h
    have:cq (bm g 0) m=qo:=by
      simp only[bm,iter,cq,List.getD_eq_getElem?_getD,List.getElem?_replicate]
      split <;> rfl
    rw[this] at h; simp[qo] at h
  | k+1,m,h=>by
    have ih:=pN g k
    by_cases h0:cQ (bm g k) m
    · obtain ⟨a,b,c⟩:=ih m h0
      rw[(lH h0 (Nat.le_succ k)).1]
      refine ⟨a,by push_cast; omega,fun j hj hh=>?_⟩
      rcases Nat.lt_or_ge k j with e | e
      · exact (lH h0 (by omega)).2
      · exact c j e hh
    · have hc:=Bo h0 h
      obtain ⟨i,r,hr,hl,hk,hp,_⟩:=ov hc
      have hh:(cq (bm g (k+1)) m).cH=(fQ (bm g k) r.right fP).1.cH+1:=by rw[hp]; rfl
      have h1:=vu (bm g k) r.right fP
      have h2:=(nE (bm g k) k r.right fP hk).2 ⟨by simp[fP],fun x hx hn=>(ih _ (hk x hx hn)).2.1⟩
      have h3:¬ (fQ (bm g k) r.right fP).1.cH≤(k:Int) - 1:=by
        intro hle
        have hz:(0:Int)≤(fQ (bm g k) r.right fP).1.cH:=h1
        obtain ⟨d,rfl⟩:∃ d,k=d+1:=⟨k - 1,by omega⟩
        have h4:=((nE (bm g (d+1)) _ r.right fP hk).1 hle).2
        have h5:tA (bm g d) r.right:=fun x hx hn=>(ih _ (hk x hx hn)).2.2 d (by omega) (by have:=h4 x hx hn; push_cast at this; omega)
        apply h0
        by_cases h6:cQ (bm g d) m
        · exact (lH h6 (by omega)).2
        · unfold cQ at h6 ⊢
          have hm:=L0 h
          rw[kT] at hm
          rw[pR,if_neg h6,if_pos hm]
          cases hc2:lp (bm g d) m 0 g.rules with
          | none=>exact absurd h5 (Bn hc2 r (List.mem_of_getElem? hr) hl)
          | some p =>
            obtain ⟨j,r2,_,_,_,rfl,_⟩:=ov hc2
            simp only[Option.getD_some,nR]; omega
      have hz:(0:Int)≤(fQ (bm g k) r.right fP).1.cH:=h1
      refine ⟨by omega,by push_cast; omega,fun j hj hle=>?_⟩
      have:j=k+1:=by omega
      subst this; exact h
def dD (g:an):List bR:=bm g g.au.length
theorem vS (g:an):(dD g).length=g.au.length:=kT _ _
theorem xF {g:an} {m:Nat} (h:cQ (dD g) m):1≤(cq (dD g) m).cH∧(cq (dD g) m).cH≤g.au.length:=⟨(pN g _ m h).1,(pN g _ m h).2.1⟩
theorem Dh {g:an} {m:Nat} (h:¬ cQ (dD g) m):cq (dD g) m=qo:=tj h
def NY (h:List Int) (m:Nat):Int:=h.getD m 0
abbrev NS (P:List bR):List Int:=P.map bR.cH
theorem Na (P:List bR) (m:Nat):NY (NS P) m=(cq P m).cH:=by
  simp only[NY,cq,List.getD_eq_getElem?_getD,List.getElem?_map]
  cases P[m]? <;> rfl
def MB (P:List bR):Prop:=∀ m,(cQ P m→1≤(cq P m).cH)∧(¬ cQ P m→cq P m=qo)
theorem MB.zero {P:List bR} (h:MB P) (m:Nat):NY (NS P) m=0↔¬ cQ P m:=by
  rw[Na]
  constructor
  · intro e k; have:=(h m).1 k; omega
  · intro k; rw[(h m).2 k]; rfl
def pJ (S:List (Int × Int)) (m:Nat):Int × Int:=S.getD m (0,0)
def wC (p:bR):Int × Int:=(min 1000 p.rules,min 1000 p.ax)
def l9 (p:bR):Prop:=(0≤p.rules∧p.rules≤1048576)∧(0≤p.ax∧p.ax≤1048576)
theorem yx {P:List bR} (hP:∀ m,l9 (cq P m)):∀ (l:List Int) (s:bR),l9 s→l9 (fQ P l s).1
  | [],s,h=>h
  | x :: l,s,h=>by
    have hx:=hP (qf x)
    unfold l9 at h hx
    simp only[fQ]
    split
    · exact yx hP l _ (by unfold l9; simp only; omega)
    · split
      · exact h
      · exact yx hP l _ (by unfold l9; simp only; omega)
theorem Lb:l9 fP:=by unfold l9; simp[fP]
theorem KM:l9 qo:=by unfold l9; simp[qo]
theorem vh (g:an):∀ k m,l9 (cq (bm g k) m)
  | 0,m=>by
    have:cq (bm g 0) m=qo:=by
      simp only[bm,iter,cq,List.getD_eq_getElem?_getD,List.getElem?_replicate]
      split <;> rfl
    rw[this]; exact KM
  | k+1,m=>by
    by_cases h:cQ (bm g (k+1)) m
    · by_cases h0:cQ (bm g k) m
      · rw[(lH h0 (Nat.le_succ k)).1]; exact vh g k m
      · obtain ⟨i,r,_,_,_,hp,_⟩:=ov (Bo h0 h)
        rw[hp]
        have:=yx (vh g k) r.right fP Lb
        unfold l9 at this ⊢
        simp only[nR]; omega
    · rw[tj h]; exact KM
inductive vJ (g:an):List Int→List Int→List Int→Prop
  | nil:vJ g [] [] []
  | term (s:Int) (l t w:List Int):0≤s→vJ g l t w→vJ g (s :: l) t (s :: w)
  | dP (s:Int) (l:List Int) (k:Nat) (R:aM) (t1 w1 t w:List Int):s < 0→g.rules[k]?=some R→R.left = -1 - s→vJ g R.right t1 w1→vJ g l t w→vJ g (s :: l) (((k:Int) :: t1) ++ t) (w1 ++ w)
theorem vJ.app {g:an} {a t w:List Int} (h:vJ g a t w) {b t' w':List Int} (k:vJ g b t' w'):vJ g (a ++ b) (t ++ t') (w ++ w'):=by
  induction h with
  | nil=>exact k
  | term s l t w h0 _ ih=>exact .term s _ _ _ h0 ih
  | dP s l k R t1 w1 t w h0 hR hl h1 _ _ ih =>
    have:=vJ.dP s _ k R t1 w1 _ _ h0 hR hl h1 ih
    simpa using this
structure Wk where
  rest:List Int
  word:List Int
  post:List Int
  high:Nat
structure Way where
  dP:Int
  aG:Int
  place:Int
def kC (F:List Way):List Int:=F.map Way.dP
structure qX (g:an) (F:List Way):Prop where
  first:F[0]?=some ⟨g.start,-1,0⟩
  nodup:(kC F).Nodup
  from_:∀ i x,F[i]?=some x→0 < i→∃ (k j:Nat) (R:aM),x.aG=(k:Int)∧x.place=(j:Int)∧g.rules[k]?=some R∧R.right[j]?=some (-1 - x.dP)∧0≤x.dP∧∃ m y,m < i∧F[m]?=some y∧y.dP=R.left
theorem qX.pre {g:an} {F:List Way} (h:qX g F) {i m:Nat} {x:Way} (hx:F[i]?=some x) (w:Way):(F ++ [w])[i]?=some x:=by
  rw[List.getElem?_append_left (List.getElem?_eq_some_iff.1 hx).1]; exact hx
theorem qX.inside {g:an} {F:List Way} (h:qX g F) (h0:0≤g.start∧g.start < g.au.length) (hs:∀ R∈g.rules,∀ s∈R.right,s < 0→-1 - s < g.au.length):∀ n∈kC F,0≤n∧n < g.au.length:=by
  intro n hn
  simp only[kC,List.mem_map] at hn
  obtain ⟨x,hx,rfl⟩:=hn
  obtain ⟨i,hi⟩:=List.mem_iff_getElem?.1 hx
  by_cases hi0:i=0
  · subst hi0
    rw[h.first] at hi
    simp at hi; subst hi
    exact h0
  · obtain ⟨k,j,R,_,_,h3,h4,h5,_⟩:=h.from_ i x hi (by omega)
    have:=hs R (List.mem_of_getElem? h3) _ (List.mem_of_getElem? h4) (by omega)
    omega
theorem qX.len {g:an} {F:List Way} (h:qX g F) (h0:0≤g.start∧g.start < g.au.length) (hs:∀ R∈g.rules,∀ s∈R.right,s < 0→-1 - s < g.au.length):F.length≤g.au.length:=by
  have:=oN h.nodup (h.inside h0 hs)
  simpa [kC] using this
def lookW (F:List Way) (n:Int):Option Way:=F.find? fun x=>x.dP == n
def EK (F:List Way) (n:Int):Nat:=F.findIdx fun x=>x.dP == n
theorem Ni {F:List Way} {n:Int} (h:n∈kC F):∃ x,lookW F n=some x∧F[EK F n]?=some x∧x.dP=n:=by
  induction F with
  | nil=>simp[kC] at h
  | cons y F ih =>
    by_cases e:y.dP=n
    · exact ⟨y,by simp[lookW,e],by simp[EK,List.findIdx_cons,e],e⟩
    · have h':n∈kC F:=by
        simp only[kC,List.map_cons,List.mem_cons] at h ⊢
        rcases h with h | h
        · exact absurd h.symm e
        · exact h
      obtain ⟨x,h1,h2,h3⟩:=ih h'
      refine ⟨x,by simpa [lookW,e] using h1,?_,h3⟩
      have:EK (y :: F) n=EK F n+1:=by simp[EK,List.findIdx_cons,show (y.dP == n)=false by simpa using e]
      rw[this]; simpa using h2
theorem NQ:qC.Ok:=by
  refine ⟨by unfold aX; decide,by unfold aX; decide,by unfold aX; decide,by unfold cm; decide,?_,?_⟩
  · intro t ht; simp[qC] at ht
  · intro r hr; simp[qC] at hr
theorem rS:∀ (l:List aM) (acc:List Int),(l.foldl dd acc).length≤acc.length+l.length
  | [],acc=>by simp
  | r :: l,acc=>by
    have h1:=rS l (dd acc r)
    have h2:(dd acc r).length≤acc.length+1:=by unfold dd; split <;> simp
    simp only[List.foldl_cons,List.length_cons]
    omega
theorem Lf (p q:List Bool) (l:List aM):(bK p q l).length≤l.length:=by
  have h1:=rS (l.filter (bz p q)) []
  have h2:=List.length_filter_le (bz p q) l
  unfold bK
  simp only[List.length_nil] at h1
  omega
theorem MW {g:an} (hg:g.Ok) (p q:List Bool):(j7 g (bf (bK p q g.rules)) p q).Ok:=by
  have ho:=Lf p q g.rules
  have h3:=hg.rules
  unfold aX at h3
  have hb:∀ x,cm (bf (bK p q g.rules) x):=fun x=>by
    have:=Bb (bK p q g.rules) x
    unfold cm; omega
  have hb2:∀ x,cm (-1 - bf (bK p q g.rules) x):=fun x=>by
    have:=Bb (bK p q g.rules) x
    unfold cm; omega
  refine ⟨hg.ax,?_,?_,hb _,hg.term,fun r hr=>?_⟩
  · unfold aX; simp only[j7,List.length_map]; omega
  · have:=List.length_filter_le (bz p q) g.rules
    unfold aX; simp only[j7,List.length_map]; omega
  · simp only[j7,List.mem_map,List.mem_filter] at hr
    obtain ⟨r0,⟨h0,_⟩,rfl⟩:=hr
    obtain ⟨_,i2,i3,i4⟩:=hg.aG r0 h0
    refine ⟨hb _,i2,by unfold aX at i3 ⊢; simpa [bb] using i3,fun x hx=>?_⟩
    simp only[bb,List.mem_map] at hx
    obtain ⟨s,hs,rfl⟩:=hx
    split
    · exact hb2 _
    · exact i4 s hs
section
variable {g r:an} {p q:List Bool} {o:List Int}
theorem dX.ok (h:dX g p q o r) (hg:g.Ok):r.Ok:=by
  have:=MW hg p q
  rw[← h.oe,← h.re] at this
  exact this
theorem dX.small (h:dX g p q o r) (hs:g.Small):r.Small:=by
  have:=oN h.nodup h.inside
  have:=hs.names
  exact ⟨by rw[h.len,h.ax]; omega⟩
end
theorem bytes_beq (a b:ByteArray):(a == b)=decide (a=b):=by
  cases a with | mk a=>cases b with | mk b =>
  rw[Bool.eq_iff_iff]
  show (ByteArray.beq ⟨a⟩ ⟨b⟩=true)↔_
  simp only[ByteArray.beq]
  simp
theorem BX (a b:ByteArray):gH a b=decide (a=b):=by
  cases a with | mk a=>cases b with | mk b =>
  rw[Bool.eq_iff_iff]
  simp[gH]
theorem m0 {α:Type} {a b:List α} {i:Nat} {x y:α} (hx:a[i]?=some x) (hy:b[i]?=some y) (h:a.take i=b.take i) (e:x=y):a.take (i+1)=b.take (i+1):=by
  rw[List.take_add_one,List.take_add_one,h,hx,hy,e]
theorem pT {α:Type} {a b:List α} {i:Nat} (ha:a.length≤i) (hb:b.length≤i) (h:a.take i=b.take i):a=b:=by
  rwa [List.take_of_length_le ha,List.take_of_length_le hb] at h
theorem tw {α:Type} {a b:List α} {i:Nat} {x y:α} (hx:a[i]?=some x) (hy:b[i]?=some y) (e:x≠y):a≠b:=by
  rintro rfl; rw[hx] at hy; exact e (by simpa using hy)
theorem pX {α:Type} {a b:List α} (h:¬ a.length=b.length):a≠b:=fun e=>h (by rw[e])
theorem xN (x y:Term):fG Tryz.prog 9998 #[.string x.name,.int .i64 x.level,.int .i64 x.assoc] #[.string y.name,.int .i64 y.level,.int .i64 y.assoc]
    [{ name:= "Name",type:=9,offset:=0,embedded:=false,tag:= "",pkgPath:= "",byteOffset:=0 },{ name:= "Level",type:=3,offset:=1,embedded:=false,tag:= "",pkgPath:= "",byteOffset:=16 },
        { name:= "Assoc",type:=3,offset:=2,embedded:=false,tag:= "",pkgPath:= "",byteOffset:=24 }] (x.name == y.name && (x.level == y.level && (x.assoc == y.assoc && true))) :=
  .str _ _ _ _ _ (by decide) Tryz.underlying9 rfl rfl (.int _ _ _ _ _ _ (by decide) Tryz.underlying3 rfl rfl (.int _ _ _ _ _ _ (by decide) Tryz.underlying3 rfl rfl .nil))
theorem Gg (x y:Term):(x.name == y.name && (x.level == y.level && (x.assoc == y.assoc && true)))=decide (x=y):=by
  rw[bytes_beq,Bool.eq_iff_iff]
  cases x; cases y
  simp
theorem Nr (a b:Int):(a == b)=decide (a=b):=by rw[Bool.eq_iff_iff]; simp
theorem KX (x y:aM):decide (x=y)=(decide (x.left=y.left) && (decide (x.prec=y.prec) && decide (x.right=y.right))):=by
  cases x; cases y
  rw[Bool.eq_iff_iff]
  simp[and_comm]
theorem E1 (x y:an):decide (x=y)=(decide (x.ax=y.ax) && (decide (x.au=y.au) && (decide (x.rules=y.rules) && decide (x.start=y.start)))):=by
  cases x; cases y
  rw[Bool.eq_iff_iff]
  simp
theorem B1 (g k:an):∀ v∈[V.agg (aw g),V.agg (aw k)],Tree v:=by
  intro v hv; simp at hv
  rcases hv with rfl | rfl <;> exact dL _ (eM _)
def mh:SC :=
  .seq (.seq (ak [aa 42 5,aq 43 0 2,ao 44 43,aI 45 44,aK 46 .lss 42 45]) <|
  .cond (.tmp 46) (.skip) (.exit 0)) <|
  .seq (.block 1 (.seq (ak [aq 49 0 2,ao 50 49,aa 51 5,aL 52 3 50 51,aJ 53 3 52,aq 54 0 3,ao 55 54,aa 56 5,aL 57 3 55 56,aJ 58 3 57,((some 59),.op (.old (.binOp .neq 129 (.tmp 53) (.tmp 58) 129) 4))]) <|
  .cond (.tmp 59) (.seq (ak [aQ 4 false]) <|
  .ret) (.skip))) <|
  ak [aa 47 5,ay 48 .add 47 1,aa 5 48]
def lY:SC :=
  .seq (.seq (ak [aa 60 6,aq 61 1 2,ao 62 61,aI 63 62,aK 64 .lss 60 63]) <|
  .cond (.tmp 64) (.skip) (.exit 2)) <|
  .seq (.block 3 (.seq (ak [aq 67 1 2,ao 68 67,aa 69 6,aL 70 1 68 69,ao 71 70,aq 72 1 3,ao 73 72,aa 74 6,aL 75 1 73 74,ao 76 75,((some 77),.op (.iE .neq (.tmp 71) (.tmp 76)))]) <|
  .cond (.tmp 77) (.seq (ak [aQ 4 false]) <|
  .ret) (.skip))) <|
  ak [aa 65 6,ay 66 .add 65 1,aa 6 66]
def ma:SC :=
  .seq (.seq (ak [aa 78 7,aq 79 2 2,ao 80 79,aI 81 80,aK 82 .lss 78 81]) <|
  .cond (.tmp 82) (.skip) (.exit 4)) <|
  .seq (.block 5 (.seq (ak [aq 85 2 2,ao 86 85,aa 87 7,aL 88 3 86 87,aJ 89 3 88,aq 90 2 3,ao 91 90,aa 92 7,aL 93 3 91 92,aJ 94 3 93,((some 8),.op (.alloc [(.val (.int .i64 0)),(.emp 1),(.val (.int .i64 0))])),((some 9),.op (.alloc [(.val (.int .i64 0)),(.emp 1),(.val (.int .i64 0))])),(none,.op (.store 3 (.tmp 8) (.tmp 89))),(none,.op (.store 3 (.tmp 9) (.tmp 94)))]) <|
  .seq (.region false [⟨none,[aq 95 0 8,ao 96 95,aq 97 0 9,ao 98 97,aK 99 .neq 96 98,aa 100 99]⟩,⟨(some (100,false)),[aq 101 2 8,ao 102 101,aq 103 2 9,ao 104 103,aK 105 .neq 102 104]⟩,⟨none,[bF 106 100 105,aa 107 106]⟩,⟨(some (107,false)),[aq 108 1 8,ao 109 108,aq 110 1 9,ao 111 110,aF 112 37 [109,111],bW 113 112]⟩,⟨none,[bF 114 107 113]⟩]) <|
  .cond (.tmp 114) (.seq (ak [aQ 4 false]) <|
  .ret) (.skip))) <|
  ak [aa 83 7,ay 84 .add 83 1,aa 7 84]
def nL:SF:=⟨.seq (ak [cr 2 0,cr 3 1,aQ 4 false]) <|
  .seq (.seq (.region false [⟨none,[aq 10 0 2,ao 11 10,aI 12 11,aq 13 0 3,ao 14 13,aI 15 14,aK 16 .neq 12 15,aa 17 16]⟩,⟨(some (17,false)),[aq 18 1 2,ao 19 18,aI 20 19,aq 21 1 3,ao 22 21,aI 23 22,aK 24 .neq 20 23]⟩,⟨none,[bF 25 17 24,aa 26 25]⟩,⟨(some (26,false)),[aq 27 2 2,ao 28 27,aI 29 28,aq 30 2 3,ao 31 30,aI 32 31,aK 33 .neq 29 32]⟩,⟨none,[bF 34 26 33,aa 35 34]⟩,⟨(some (35,false)),[aq 36 3 2,ao 37 36,aq 38 3 3,ao 39 38,aK 40 .neq 37 39]⟩,⟨none,[bF 41 35 40]⟩]) <|
  .cond (.tmp 41) (.seq (ak [aQ 4 false]) <|
  .ret) (.skip)) <|
  .seq (.seq (ak [aD 5 0]) <|
  .block 0 (.loop mh)) <|
  .seq (.seq (ak [aD 6 0]) <|
  .block 2 (.loop lY)) <|
  .seq (.seq (ak [aD 7 0]) <|
  .block 4 (.loop ma)) <|
  .seq (ak [aQ 4 true]) <|
  .ret,
  [.tmp 4],115⟩
theorem sm:bh Tryz.prog 36 [2,3]=some nL:=by kernel_rfl
set_option maxHeartbeats 2000000 in
theorem Kw (g k:an) (hg:g.Ok):aC Tryz.prog 36 [.agg (aw g),.agg (aw k)] (gb (decide (g=k))):=by
  refine aC.val (B1 g k) fun H=>?_
  rw[E1]
  refine aA.of mixed sm ?_
  have h1:=hg.ax
  have h2:=hg.au
  have h3:=hg.rules
  unfold aX at h1 h2 h3
  simp (disch:=omega) only [↓wr,↓reduceIte,wq,ah,ag,aj,ab,ae,af,ai,isNil,Nat.reduceEqDiff,Nat.reduceAdd,Nat.reduceLT,Nat.reduceLeDiff,Int.reduceNeg,Int.reduceToNat,reduceCtorEq,nL,aw,encS]
  repeat' (first | (refine av.dec (fun _=>?_) (fun _=>?_)) | (refine av.eq (fun _=>?_) (fun _=>?_)) | (refine av.ne (fun _=>?_) (fun _=>?_)) | (refine av.split (fun _=>?_) (fun _=>?_)) | (simp (disch:=omega) only [↓wr,↓reduceIte,wq,ah,ag,aj,ab,ae,af,ai,isNil,Nat.reduceEqDiff,Nat.reduceAdd,Nat.reduceLT,Nat.reduceLeDiff,Int.reduceNeg,Int.reduceToNat,reduceCtorEq,aw,encS]))
  · rename_i e; rw[decide_eq_false (pX (by omega))]; rfl
  · rename_i e; rw[decide_eq_false (p:=g.au=k.au) (pX (by omega))]; simp
  · rename_i e; rw[decide_eq_false (p:=g.rules=k.rules) (pX (by omega))]; simp
  · rename_i e; rw[decide_eq_false e]; simp
  rename_i l1 l2 l3 l4
  refine bw.up g.ax.length (fun i T _=>g.ax.take i=k.ax.take i∧T 2=.aO (aw g) 0∧T 3=.aO (aw k) 0∧T 5=gi i) ⟨by simp,rfl,rfl,rfl⟩ ?_
  rintro i m T H hm ⟨hi,t2,t3,t5⟩
  simp (disch:=omega) only [↓wr,↓reduceIte,wq,ah,ag,aj,ab,ae,af,ai,isNil,Nat.reduceEqDiff,Nat.reduceAdd,Nat.reduceLT,Nat.reduceLeDiff,Int.reduceNeg,Int.reduceToNat,reduceCtorEq,mh,t2,t3,t5,aw,encS]
  refine av.dec (fun hc=>?_) (fun hc=>?_)
  · have hx:=List.getElem?_eq_getElem (l:=g.ax) (i:=i) (by omega)
    have hy:=List.getElem?_eq_getElem (l:=k.ax) (i:=i) (by omega)
    generalize g.ax[i]'(by omega)=x at hx
    generalize k.ax[i]'(by omega)=y at hy
    simp (disch:=omega) only [↓wr,↓reduceIte,wq,ah,ag,aj,ab,ae,af,ai,isNil,Nat.reduceEqDiff,Nat.reduceAdd,Nat.reduceLT,Nat.reduceLeDiff,Int.reduceNeg,Int.reduceToNat,reduceCtorEq,t2,t3,t5,List.getElem?_map,hx,hy,cp,aw,encS]
    refine ki (xs:=#[.string x.name,.int .i64 x.level,.int .i64 x.assoc]) (ys:=#[.string y.name,.int .i64 y.level,.int .i64 y.assoc]) Tryz.underlying129 (by kernel_rfl) (by kernel_rfl) ?_ ?_ (xN x y) (.inr ⟨rfl,rfl⟩) ?_
    · rfl
    · rfl
    rw[Gg]
    simp (disch:=omega) only [↓wr,↓reduceIte,wq,ah,ag,aj,ab,ae,af,ai,isNil,Nat.reduceEqDiff,Nat.reduceAdd,Nat.reduceLT,Nat.reduceLeDiff,Int.reduceNeg,Int.reduceToNat,reduceCtorEq,t2,t3,t5]
    refine av.split (fun e=>?_) (fun e=>?_)
    · simp (disch:=omega) only [↓wr,↓reduceIte,wq,ah,ag,aj,ab,ae,af,ai,isNil,Nat.reduceEqDiff,Nat.reduceAdd,Nat.reduceLT,Nat.reduceLeDiff,Int.reduceNeg,Int.reduceToNat,reduceCtorEq,t2,t3,t5]
      exact bt hm (by omega) ⟨m0 hx hy hi (by simpa using e),t2,t3,rfl⟩
    · simp (disch:=omega) only [↓wr,↓reduceIte,wq,ah,ag,aj,ab,ae,af,ai,isNil,Nat.reduceEqDiff,Nat.reduceAdd,Nat.reduceLT,Nat.reduceLeDiff,Int.reduceNeg,Int.reduceToNat,reduceCtorEq,t2,t3,t5]
      rw[decide_eq_false (tw hx hy (by simpa using e))]; rfl
  have e1:g.ax=k.ax:=pT (by omega) (by omega) hi
  simp (disch:=omega) only [↓wr,↓reduceIte,wq,ah,ag,aj,ab,ae,af,ai,isNil,Nat.reduceEqDiff,Nat.reduceAdd,Nat.reduceLT,Nat.reduceLeDiff,Int.reduceNeg,Int.reduceToNat,reduceCtorEq,t2,t3,t5]
  clear hi hc hm
  refine bw.up g.au.length (fun i T _=>g.au.take i=k.au.take i∧T 2=.aO (aw g) 0∧T 3=.aO (aw k) 0∧T 6=gi i) ⟨by simp,t2,t3,rfl⟩ ?_
  clear t2 t3 t5 T H i m
  rintro i m T H hm ⟨hi,t2,t3,t5⟩
  simp (disch:=omega) only [↓wr,↓reduceIte,wq,ah,ag,aj,ab,ae,af,ai,isNil,Nat.reduceEqDiff,Nat.reduceAdd,Nat.reduceLT,Nat.reduceLeDiff,Int.reduceNeg,Int.reduceToNat,reduceCtorEq,lY,t2,t3,t5,aw,encS]
  refine av.dec (fun hc=>?_) (fun hc=>?_)
  · have hx:=List.getElem?_eq_getElem (l:=g.au) (i:=i) (by omega)
    have hy:=List.getElem?_eq_getElem (l:=k.au) (i:=i) (by omega)
    generalize g.au[i]'(by omega)=x at hx
    generalize k.au[i]'(by omega)=y at hy
    simp (disch:=omega) only [↓wr,↓reduceIte,wq,ah,ag,aj,ab,ae,af,ai,isNil,Nat.reduceEqDiff,Nat.reduceAdd,Nat.reduceLT,Nat.reduceLeDiff,Int.reduceNeg,Int.reduceToNat,reduceCtorEq,t2,t3,t5,List.getElem?_map,hx,hy,cp,aw,encS,BX]
    refine av.split (fun e=>?_) (fun e=>?_)
    · simp (disch:=omega) only [↓wr,↓reduceIte,wq,ah,ag,aj,ab,ae,af,ai,isNil,Nat.reduceEqDiff,Nat.reduceAdd,Nat.reduceLT,Nat.reduceLeDiff,Int.reduceNeg,Int.reduceToNat,reduceCtorEq,t2,t3,t5]
      exact bt hm (by omega) ⟨m0 hx hy hi (by simpa using e),t2,t3,rfl⟩
    · simp (disch:=omega) only [↓wr,↓reduceIte,wq,ah,ag,aj,ab,ae,af,ai,isNil,Nat.reduceEqDiff,Nat.reduceAdd,Nat.reduceLT,Nat.reduceLeDiff,Int.reduceNeg,Int.reduceToNat,reduceCtorEq,t2,t3,t5]
      rw[decide_eq_false (p:=g.au=k.au) (tw hx hy (by simpa using e))]; simp
  have e2:g.au=k.au:=pT (by omega) (by omega) hi
  simp (disch:=omega) only [↓wr,↓reduceIte,wq,ah,ag,aj,ab,ae,af,ai,isNil,Nat.reduceEqDiff,Nat.reduceAdd,Nat.reduceLT,Nat.reduceLeDiff,Int.reduceNeg,Int.reduceToNat,reduceCtorEq,t2,t3,t5]
  clear hi hc hm
  refine bw.up g.rules.length (fun i T _=>g.rules.take i=k.rules.take i∧T 2=.aO (aw g) 0∧T 3=.aO (aw k) 0∧T 7=gi i) ⟨by simp,t2,t3,rfl⟩ ?_
  clear t2 t3 t5 T H i m
  rintro i m T H hm ⟨hi,t2,t3,t5⟩
  simp (disch:=omega) only [↓wr,↓reduceIte,wq,ah,ag,aj,ab,ae,af,ai,isNil,Nat.reduceEqDiff,Nat.reduceAdd,Nat.reduceLT,Nat.reduceLeDiff,Int.reduceNeg,Int.reduceToNat,reduceCtorEq,ma,t2,t3,t5,aw,encS]
  refine av.dec (fun hc=>?_) (fun hc=>?_)
  · have hx:=List.getElem?_eq_getElem (l:=g.rules) (i:=i) (by omega)
    have hy:=List.getElem?_eq_getElem (l:=k.rules) (i:=i) (by omega)
    have hmx:g.rules[i]'(by omega)∈g.rules:=List.getElem_mem _
    generalize g.rules[i]'(by omega)=x at hx hmx
    generalize k.rules[i]'(by omega)=y at hy
    have hsx:=(hg.aG x hmx).2.2.1
    simp (disch:=omega) only [↓wr,↓reduceIte,wq,ah,ag,aj,ab,ae,af,ai,isNil,Nat.reduceEqDiff,Nat.reduceAdd,Nat.reduceLT,Nat.reduceLeDiff,Int.reduceNeg,Int.reduceToNat,reduceCtorEq,t2,t3,t5,List.getElem?_map,hx,hy,aU,encI,aw,encS]
    intro n hn
    try simp (disch:=omega) only [↓wr,↓reduceIte,wq,ah,ag,aj,ab,ae,af,ai,isNil,Nat.reduceEqDiff,Nat.reduceAdd,Nat.reduceLT,Nat.reduceLeDiff,Int.reduceNeg,Int.reduceToNat,reduceCtorEq,t2,t3,t5,aU,encI]
    intro n2 hn2
    have hmn:=(cF hn2 cy).1
    try simp (disch:=omega) only [↓wr,↓reduceIte,wq,ah,ag,aj,ab,ae,af,ai,isNil,Nat.reduceEqDiff,Nat.reduceAdd,Nat.reduceLT,Nat.reduceLeDiff,Int.reduceNeg,Int.reduceToNat,reduceCtorEq,t2,t3,t5,aU,encI,hmn,hmn.symm]
    have hne:x≠y→V.val (Value.bool false)=V.val (Value.bool (decide (g.ax=k.ax) && (decide (g.au=k.au) && (decide (g.rules=k.rules) && decide (g.start=k.start))))):=fun e=>by
      rw[decide_eq_false (p:=g.rules=k.rules) (tw hx hy e)]; simp
    repeat' (first | (refine av.dec (fun _=>?_) (fun _=>?_)) | (refine av.eq (fun _=>?_) (fun _=>?_)) | (refine av.ne (fun _=>?_) (fun _=>?_)) | (refine av.split (fun _=>?_) (fun _=>?_)) | (refine aE.pure (M8 x.right y.right hsx) (by kernel_rfl) ?_) | (simp (disch:=omega) only [↓wr,↓reduceIte,wq,ah,ag,aj,ab,ae,af,ai,isNil,Nat.reduceEqDiff,Nat.reduceAdd,Nat.reduceLT,Nat.reduceLeDiff,Int.reduceNeg,Int.reduceToNat,reduceCtorEq,t2,t3,t5,aU,encI,hmn,hmn.symm]))
    · rename_i e; exact hne fun h=>e (by rw[h])
    · rename_i e; exact hne fun h=>e (by rw[h])
    · rename_i e3 e2 e1
      refine bt hm (by omega) ⟨m0 hx hy hi ?_,t2,t3,rfl⟩
      cases x; cases y
      simp_all
    · rename_i e; exact hne fun h=>by rw[h] at e; simp at e
  · have e3:g.rules=k.rules:=pT (by omega) (by omega) hi
    simp (disch:=omega) only [↓wr,↓reduceIte,wq,ah,ag,aj,ab,ae,af,ai,isNil,Nat.reduceEqDiff,Nat.reduceAdd,Nat.reduceLT,Nat.reduceLeDiff,Int.reduceNeg,Int.reduceToNat,reduceCtorEq,t2,t3,t5]
    simp[e1,e2,e3,l4]
def fc:SC :=
  .seq (ak [aK 14 .lss 13 12]) <|
  .seq (.cond (.tmp 14) (.skip) (.exit 0)) <|
  .seq (.block 1 (.seq (ak [aa 15 13,aa 5 15]) <|
  .seq (ak [aa 16 0,aa 17 5,aL 18 3 16 17,aJ 19 3 18,aa 20 1,aa 21 5,aL 22 3 20 21,aJ 23 3 22,((some 24),.op (.old (.binOp .neq 129 (.tmp 19) (.tmp 23) 129) 4))]) <|
  .cond (.tmp 24) (.seq (ak [aQ 4 false]) <|
  .ret) (.skip))) <|
  ak [ay 25 .add 13 1,aa 13 25]
def fD:SF:=⟨.seq (ak [aQ 4 false]) <|
  .seq (.seq (ak [aa 6 0,aI 7 6,aa 8 1,aI 9 8,aK 10 .neq 7 9]) <|
  .cond (.tmp 10) (.seq (ak [aQ 4 false]) <|
  .ret) (.skip)) <|
  .seq (.seq (ak [aa 11 0,aI 12 11,aD 13 0]) <|
  .block 0 (.loop fc)) <|
  .seq (ak [aQ 4 true]) <|
  .ret,
  [.tmp 4],26⟩
theorem iN:bh Tryz.prog 162 []=some fD:=by kernel_rfl
def fV:SC :=
  .seq (ak [aK 14 .lss 13 12]) <|
  .seq (.cond (.tmp 14) (.skip) (.exit 0)) <|
  .seq (.block 1 (.seq (ak [aa 15 13,aa 5 15]) <|
  .seq (ak [aa 16 0,aa 17 5,aL 18 1 16 17,ao 19 18,aa 20 1,aa 21 5,aL 22 1 20 21,ao 23 22,((some 24),.op (.iE .neq (.tmp 19) (.tmp 23)))]) <|
  .cond (.tmp 24) (.seq (ak [aQ 4 false]) <|
  .ret) (.skip))) <|
  ak [ay 25 .add 13 1,aa 13 25]
def gn:SF:=⟨.seq (ak [aQ 4 false]) <|
  .seq (.seq (ak [aa 6 0,aI 7 6,aa 8 1,aI 9 8,aK 10 .neq 7 9]) <|
  .cond (.tmp 10) (.seq (ak [aQ 4 false]) <|
  .ret) (.skip)) <|
  .seq (.seq (ak [aa 11 0,aI 12 11,aD 13 0]) <|
  .block 0 (.loop fV)) <|
  .seq (ak [aQ 4 true]) <|
  .ret,
  [.tmp 4],26⟩
theorem j9:bh Tryz.prog 163 []=some gn:=by kernel_rfl
def ij:SC :=
  .seq (ak [aK 14 .lss 13 12]) <|
  .seq (.cond (.tmp 14) (.skip) (.exit 0)) <|
  .seq (.block 1 (.seq (ak [aa 15 13,aa 5 15]) <|
  .seq (ak [aa 16 0,aa 17 5,aL 18 1 16 17,ao 19 18,aa 20 1,aa 21 5,aL 22 1 20 21,ao 23 22,aK 24 .neq 19 23]) <|
  .cond (.tmp 24) (.seq (ak [aQ 4 false]) <|
  .ret) (.skip))) <|
  ak [ay 25 .add 13 1,aa 13 25]
def iX:SF:=⟨.seq (ak [aQ 4 false]) <|
  .seq (.seq (ak [aa 6 0,aI 7 6,aa 8 1,aI 9 8,aK 10 .neq 7 9]) <|
  .cond (.tmp 10) (.seq (ak [aQ 4 false]) <|
  .ret) (.skip)) <|
  .seq (.seq (ak [aa 11 0,aI 12 11,aD 13 0]) <|
  .block 0 (.loop ij)) <|
  .seq (ak [aQ 4 true]) <|
  .ret,
  [.tmp 4],26⟩
theorem mW:bh Tryz.prog 198 []=some iX:=by kernel_rfl
def xG:SF:=⟨.seq (ak [cr 2 0,cr 3 1,aQ 4 false]) <|
  .seq (.region false [⟨none,[aq 5 0 2,ao 6 5,aq 7 0 3,ao 8 7,aK 9 .eql 6 8,aa 10 9]⟩,⟨(some (10,true)),[aq 11 2 2,ao 12 11,aq 13 2 3,ao 14 13,aK 15 .eql 12 14]⟩,⟨none,[bG 16 10 15,aa 17 16]⟩,⟨(some (17,true)),[aq 18 1 2,ao 19 18,aq 20 1 3,ao 21 20,aF 22 198 [19,21]]⟩,⟨none,[bG 23 17 22,aa 4 23]⟩]) <|
  .ret,
  [.tmp 4],24⟩
theorem A0:bh Tryz.prog 165 [2,3]=some xG:=by kernel_rfl
def cO:SC :=
  .seq (ak [aK 18 .lss 17 16]) <|
  .seq (.cond (.tmp 18) (.skip) (.exit 0)) <|
  .seq (.block 1 (.seq (ak [aa 19 17,aL 20 3 15 17,aJ 21 3 20,((some 8),.op (.alloc [(.val (.int .i64 0)),(.emp 1),(.val (.int .i64 0))])),aa 7 19,(none,.op (.store 3 (.tmp 8) (.tmp 21)))]) <|
  .seq (ak [aa 22 1,aa 23 7,aL 24 3 22 23,aJ 25 3 24,((some 9),.op (.alloc [(.val (.int .i64 0)),(.emp 1),(.val (.int .i64 0))])),(none,.op (.store 3 (.tmp 9) (.tmp 25)))]) <|
  .seq (ak [aa 26 2,aJ 27 3 8,aJ 28 3 9,((some 29),.call (.tmp 26) [(.tmp 27),(.tmp 28)]),bW 30 29]) <|
  .cond (.tmp 30) (.seq (ak [aQ 6 false]) <|
  .ret) (.skip))) <|
  ak [ay 31 .add 17 1,aa 17 31]
def cW:SF:=⟨.seq (ak [aQ 6 false]) <|
  .seq (.seq (ak [aa 10 0,aI 11 10,aa 12 1,aI 13 12,aK 14 .neq 11 13]) <|
  .cond (.tmp 14) (.seq (ak [aQ 6 false]) <|
  .ret) (.skip)) <|
  .seq (.seq (ak [aa 15 0,aI 16 15,aD 17 0]) <|
  .block 0 (.loop cO)) <|
  .seq (ak [aQ 6 true]) <|
  .ret,
  [.tmp 6],32⟩
theorem eo:bh Tryz.prog 164 []=some cW:=by kernel_rfl
def An:SF:=⟨.seq (ak [cr 2 0,cr 3 1,aQ 4 false]) <|
  .seq (.region false [⟨none,[aq 5 0 2,ao 6 5,aq 7 0 3,ao 8 7,aF 9 162 [6,8],aa 10 9]⟩,⟨(some (10,true)),[aq 11 1 2,ao 12 11,aq 13 1 3,ao 14 13,aF 15 163 [12,14]]⟩,⟨none,[bG 16 10 15,aa 17 16]⟩,⟨(some (17,true)),[aq 18 2 2,ao 19 18,aq 20 2 3,ao 21 20,cU 22 164 [(.tmp 19),(.tmp 21),(.val (.fn 165 [] []))]]⟩,⟨none,[bG 23 17 22,aa 24 23]⟩,⟨(some (24,true)),[aq 25 3 2,ao 26 25,aq 27 3 3,ao 28 27,aK 29 .eql 26 28]⟩,⟨none,[bG 30 24 29,aa 4 30]⟩]) <|
  .ret,
  [.tmp 4],31⟩
theorem CB:bh Tryz.prog 110 [2,3]=some An:=by kernel_rfl
theorem I4 {α:Type} {f g:α→List V} {a b:List α} (hf:∀ x,∀ v∈f x,Tree v) (hg:∀ x,∀ v∈g x,Tree v):∀ v∈[V.aV (a.map f),V.aV (b.map g)],Tree v:=by
  intro v hv; simp at hv
  rcases hv with rfl | rfl
  · exact ez _ _ fun x _=>hf x
  · exact ez _ _ fun x _=>hg x
theorem JV (a b:List Term) (ha:aX a) (H:View):aA Tryz.prog 162 [.aV (a.map cp),.aV (b.map cp)] H fun r _=>r=gb (decide (a=b)):=by
  refine aA.of mixed iN ?_
  unfold aX at ha
  simp (disch:=omega) only [↓wr,↓reduceIte,wq,ah,ag,aj,ab,ae,af,ai,isNil,Nat.reduceEqDiff,Nat.reduceAdd,Nat.reduceLT,Nat.reduceLeDiff,Int.reduceNeg,Int.reduceToNat,reduceCtorEq,fD]
  refine av.ne (fun h=>?_) (fun h=>?_)
  · simp (disch:=omega) only [↓wr,↓reduceIte,wq,ah,ag,aj,ab,ae,af,ai,isNil,Nat.reduceEqDiff,Nat.reduceAdd,Nat.reduceLT,Nat.reduceLeDiff,Int.reduceNeg,Int.reduceToNat,reduceCtorEq]
    rw[decide_eq_false (pX (by omega))]
  · simp (disch:=omega) only [↓wr,↓reduceIte,wq,ah,ag,aj,ab,ae,af,ai,isNil,Nat.reduceEqDiff,Nat.reduceAdd,Nat.reduceLT,Nat.reduceLeDiff,Int.reduceNeg,Int.reduceToNat,reduceCtorEq]
    refine bw.up a.length (fun i T _=>a.take i=b.take i∧T 0=.aV (a.map cp)∧T 1=.aV (b.map cp)∧T 12=gi a.length∧T 13=gi i) ⟨by simp,rfl,rfl,rfl,rfl⟩ ?_
    rintro i k T H hk ⟨hi,h0,h1,h7,h8⟩
    simp (disch:=omega) only [↓wr,↓reduceIte,wq,ah,ag,aj,ab,ae,af,ai,isNil,Nat.reduceEqDiff,Nat.reduceAdd,Nat.reduceLT,Nat.reduceLeDiff,Int.reduceNeg,Int.reduceToNat,reduceCtorEq,fc,h0,h1,h7,h8]
    refine av.dec (fun hc=>?_) (fun hc=>?_)
    · have h2:a[i]?=some (a[i]'(by omega)):=List.getElem?_eq_getElem (by omega)
      have h3:b[i]?=some (b[i]'(by omega)):=List.getElem?_eq_getElem (by omega)
      generalize a[i]'(by omega)=x at h2
      generalize b[i]'(by omega)=y at h3
      simp (disch:=omega) only [↓wr,↓reduceIte,wq,ah,ag,aj,ab,ae,af,ai,isNil,Nat.reduceEqDiff,Nat.reduceAdd,Nat.reduceLT,Nat.reduceLeDiff,Int.reduceNeg,Int.reduceToNat,reduceCtorEq,h0,h1,h7,h8,List.getElem?_map,h2,h3,cp]
      refine ki (xs:=#[.string x.name,.int .i64 x.level,.int .i64 x.assoc]) (ys:=#[.string y.name,.int .i64 y.level,.int .i64 y.assoc]) Tryz.underlying129 (by kernel_rfl) (by kernel_rfl) ?_ ?_ (xN x y) (.inr ⟨rfl,rfl⟩) ?_
      · rfl
      · rfl
      rw[Gg]
      simp (disch:=omega) only [↓wr,↓reduceIte,wq,ah,ag,aj,ab,ae,af,ai,isNil,Nat.reduceEqDiff,Nat.reduceAdd,Nat.reduceLT,Nat.reduceLeDiff,Int.reduceNeg,Int.reduceToNat,reduceCtorEq,h0,h1,h7,h8]
      refine av.split (fun e=>?_) (fun e=>?_)
      · simp (disch:=omega) only [↓wr,↓reduceIte,wq,ah,ag,aj,ab,ae,af,ai,isNil,Nat.reduceEqDiff,Nat.reduceAdd,Nat.reduceLT,Nat.reduceLeDiff,Int.reduceNeg,Int.reduceToNat,reduceCtorEq,h0,h1,h7,h8]
        exact bt hk (by omega) ⟨m0 h2 h3 hi (by simpa using e),h0,h1,h7,rfl⟩
      · simp (disch:=omega) only [↓wr,↓reduceIte,wq,ah,ag,aj,ab,ae,af,ai,isNil,Nat.reduceEqDiff,Nat.reduceAdd,Nat.reduceLT,Nat.reduceLeDiff,Int.reduceNeg,Int.reduceToNat,reduceCtorEq,h0,h1,h7,h8]
        rw[decide_eq_false (tw h2 h3 (by simpa using e))]
    · simp (disch:=omega) only [↓wr,↓reduceIte,wq,ah,ag,aj,ab,ae,af,ai,isNil,Nat.reduceEqDiff,Nat.reduceAdd,Nat.reduceLT,Nat.reduceLeDiff,Int.reduceNeg,Int.reduceToNat,reduceCtorEq,h0,h1,h7,h8]
      rw[decide_eq_true (pT (by omega) (by omega) hi)]
theorem J3 (a b:List ByteArray) (ha:aX a) (H:View):aA Tryz.prog 163 [encS a,encS b] H fun r _=>r=gb (decide (a=b)):=by
  refine aA.of mixed j9 ?_
  unfold aX at ha
  simp (disch:=omega) only [↓wr,↓reduceIte,wq,ah,ag,aj,ab,ae,af,ai,isNil,Nat.reduceEqDiff,Nat.reduceAdd,Nat.reduceLT,Nat.reduceLeDiff,Int.reduceNeg,Int.reduceToNat,reduceCtorEq,gn,encS]
  refine av.ne (fun h=>?_) (fun h=>?_)
  · simp (disch:=omega) only [↓wr,↓reduceIte,wq,ah,ag,aj,ab,ae,af,ai,isNil,Nat.reduceEqDiff,Nat.reduceAdd,Nat.reduceLT,Nat.reduceLeDiff,Int.reduceNeg,Int.reduceToNat,reduceCtorEq]
    rw[decide_eq_false (pX (by omega))]
  · simp (disch:=omega) only [↓wr,↓reduceIte,wq,ah,ag,aj,ab,ae,af,ai,isNil,Nat.reduceEqDiff,Nat.reduceAdd,Nat.reduceLT,Nat.reduceLeDiff,Int.reduceNeg,Int.reduceToNat,reduceCtorEq]
    refine bw.up a.length (fun i T _=>a.take i=b.take i∧T 0=encS a∧T 1=encS b∧T 12=gi a.length∧T 13=gi i) ⟨by simp,rfl,rfl,rfl,rfl⟩ ?_
    rintro i k T H hk ⟨hi,h0,h1,h7,h8⟩
    simp (disch:=omega) only [↓wr,↓reduceIte,wq,ah,ag,aj,ab,ae,af,ai,isNil,Nat.reduceEqDiff,Nat.reduceAdd,Nat.reduceLT,Nat.reduceLeDiff,Int.reduceNeg,Int.reduceToNat,reduceCtorEq,fV,h0,h1,h7,h8,encS]
    refine av.dec (fun hc=>?_) (fun hc=>?_)
    · have h2:a[i]?=some (a[i]'(by omega)):=List.getElem?_eq_getElem (by omega)
      have h3:b[i]?=some (b[i]'(by omega)):=List.getElem?_eq_getElem (by omega)
      generalize a[i]'(by omega)=x at h2
      generalize b[i]'(by omega)=y at h3
      simp (disch:=omega) only [↓wr,↓reduceIte,wq,ah,ag,aj,ab,ae,af,ai,isNil,Nat.reduceEqDiff,Nat.reduceAdd,Nat.reduceLT,Nat.reduceLeDiff,Int.reduceNeg,Int.reduceToNat,reduceCtorEq,h0,h1,h7,h8,encS,List.getElem?_map,h2,h3,BX]
      refine av.split (fun e=>?_) (fun e=>?_)
      · simp (disch:=omega) only [↓wr,↓reduceIte,wq,ah,ag,aj,ab,ae,af,ai,isNil,Nat.reduceEqDiff,Nat.reduceAdd,Nat.reduceLT,Nat.reduceLeDiff,Int.reduceNeg,Int.reduceToNat,reduceCtorEq,h0,h1,h7,h8]
        exact bt hk (by omega) ⟨m0 h2 h3 hi (by simpa using e),h0,h1,h7,rfl⟩
      · simp (disch:=omega) only [↓wr,↓reduceIte,wq,ah,ag,aj,ab,ae,af,ai,isNil,Nat.reduceEqDiff,Nat.reduceAdd,Nat.reduceLT,Nat.reduceLeDiff,Int.reduceNeg,Int.reduceToNat,reduceCtorEq,h0,h1,h7,h8]
        rw[decide_eq_false (tw h2 h3 (by simpa using e))]
    · simp (disch:=omega) only [↓wr,↓reduceIte,wq,ah,ag,aj,ab,ae,af,ai,isNil,Nat.reduceEqDiff,Nat.reduceAdd,Nat.reduceLT,Nat.reduceLeDiff,Int.reduceNeg,Int.reduceToNat,reduceCtorEq,h0,h1,h7,h8]
      rw[decide_eq_true (pT (by omega) (by omega) hi)]
theorem JE (a b:List Int) (ha:aX a) (H:View):aA Tryz.prog 198 [encI a,encI b] H fun r _=>r=gb (decide (a=b)):=by
  refine aA.of mixed mW ?_
  unfold aX at ha
  simp (disch:=omega) only [↓wr,↓reduceIte,wq,ah,ag,aj,ab,ae,af,ai,isNil,Nat.reduceEqDiff,Nat.reduceAdd,Nat.reduceLT,Nat.reduceLeDiff,Int.reduceNeg,Int.reduceToNat,reduceCtorEq,iX,encI]
  refine av.ne (fun h=>?_) (fun h=>?_)
  · simp (disch:=omega) only [↓wr,↓reduceIte,wq,ah,ag,aj,ab,ae,af,ai,isNil,Nat.reduceEqDiff,Nat.reduceAdd,Nat.reduceLT,Nat.reduceLeDiff,Int.reduceNeg,Int.reduceToNat,reduceCtorEq]
    rw[decide_eq_false (pX (by omega))]
  · simp (disch:=omega) only [↓wr,↓reduceIte,wq,ah,ag,aj,ab,ae,af,ai,isNil,Nat.reduceEqDiff,Nat.reduceAdd,Nat.reduceLT,Nat.reduceLeDiff,Int.reduceNeg,Int.reduceToNat,reduceCtorEq]
    refine bw.up a.length (fun i T _=>a.take i=b.take i∧T 0=encI a∧T 1=encI b∧T 12=gi a.length∧T 13=gi i) ⟨by simp,rfl,rfl,rfl,rfl⟩ ?_
    rintro i k T H hk ⟨hi,h0,h1,h7,h8⟩
    simp (disch:=omega) only [↓wr,↓reduceIte,wq,ah,ag,aj,ab,ae,af,ai,isNil,Nat.reduceEqDiff,Nat.reduceAdd,Nat.reduceLT,Nat.reduceLeDiff,Int.reduceNeg,Int.reduceToNat,reduceCtorEq,ij,h0,h1,h7,h8,encI]
    refine av.dec (fun hc=>?_) (fun hc=>?_)
    · have h2:a[i]?=some (a[i]'(by omega)):=List.getElem?_eq_getElem (by omega)
      have h3:b[i]?=some (b[i]'(by omega)):=List.getElem?_eq_getElem (by omega)
      generalize a[i]'(by omega)=x at h2
      generalize b[i]'(by omega)=y at h3
      simp (disch:=omega) only [↓wr,↓reduceIte,wq,ah,ag,aj,ab,ae,af,ai,isNil,Nat.reduceEqDiff,Nat.reduceAdd,Nat.reduceLT,Nat.reduceLeDiff,Int.reduceNeg,Int.reduceToNat,reduceCtorEq,h0,h1,h7,h8,encI,List.getElem?_map,h2,h3]
      refine av.ne (fun e=>?_) (fun e=>?_)
      · simp (disch:=omega) only [↓wr,↓reduceIte,wq,ah,ag,aj,ab,ae,af,ai,isNil,Nat.reduceEqDiff,Nat.reduceAdd,Nat.reduceLT,Nat.reduceLeDiff,Int.reduceNeg,Int.reduceToNat,reduceCtorEq,h0,h1,h7,h8]
        rw[decide_eq_false (tw h2 h3 e)]
      · simp (disch:=omega) only [↓wr,↓reduceIte,wq,ah,ag,aj,ab,ae,af,ai,isNil,Nat.reduceEqDiff,Nat.reduceAdd,Nat.reduceLT,Nat.reduceLeDiff,Int.reduceNeg,Int.reduceToNat,reduceCtorEq,h0,h1,h7,h8]
        exact bt hk (by omega) ⟨m0 h2 h3 hi e,h0,h1,h7,rfl⟩
    · simp (disch:=omega) only [↓wr,↓reduceIte,wq,ah,ag,aj,ab,ae,af,ai,isNil,Nat.reduceEqDiff,Nat.reduceAdd,Nat.reduceLT,Nat.reduceLeDiff,Int.reduceNeg,Int.reduceToNat,reduceCtorEq,h0,h1,h7,h8]
      rw[decide_eq_true (pT (by omega) (by omega) hi)]
theorem Jd (a b:List Term) (ha:aX a):aC Tryz.prog 162 [.aV (a.map cp),.aV (b.map cp)] (gb (decide (a=b))):=aC.val (I4 qL qL) (JV a b ha)
theorem Jw (a b:List ByteArray) (ha:aX a):aC Tryz.prog 163 [encS a,encS b] (gb (decide (a=b))):=aC.val (by
  intro v hv; simp at hv
  rcases hv with rfl | rfl <;> exact wv _) (J3 a b ha)
theorem IW (a b:List Int) (ha:aX a):aC Tryz.prog 198 [encI a,encI b] (gb (decide (a=b))):=aC.val (by
  intro v hv; simp at hv
  rcases hv with rfl | rfl <;> exact gz _) (JE a b ha)
theorem LC (x y:aM) (hx:aX x.right):aC Tryz.prog 165 [.agg (aU x),.agg (aU y)] (gb (decide (x=y))):=by
  refine aC.val (by
    intro v hv; simp at hv
    rcases hv with rfl | rfl <;> exact dL _ (fU _)) fun H=>?_
  rw[KX]
  refine aA.of mixed A0 ?_
  simp (disch:=omega) only [↓wr,↓reduceIte,wq,ah,ag,aj,ab,ae,af,ai,isNil,Nat.reduceEqDiff,Nat.reduceAdd,Nat.reduceLT,Nat.reduceLeDiff,Int.reduceNeg,Int.reduceToNat,reduceCtorEq,xG,aU,encI]
  repeat' (first | (refine av.dec (fun _=>?_) (fun _=>?_)) | (refine av.eq (fun _=>?_) (fun _=>?_)) | (refine av.ne (fun _=>?_) (fun _=>?_)) | (refine av.split (fun _=>?_) (fun _=>?_)) | (refine aE.pure (IW x.right y.right hx) (by kernel_rfl) ?_) | (simp (disch:=omega) only [↓wr,↓reduceIte,wq,ah,ag,aj,ab,ae,af,ai,isNil,Nat.reduceEqDiff,Nat.reduceAdd,Nat.reduceLT,Nat.reduceLeDiff,Int.reduceNeg,Int.reduceToNat,reduceCtorEq,aU]))
  all_goals simp[*]
theorem DQ (a b:List aM) (ha:aX a) (hr:∀ r∈a,aX r.right) (H:View):aA Tryz.prog 164 [.aV (a.map aU),.aV (b.map aU),.fn 165 [] []] H fun r _=>r=gb (decide (a=b)):=by
  refine aA.of mixed eo ?_
  unfold aX at ha
  simp (disch:=omega) only [↓wr,↓reduceIte,wq,ah,ag,aj,ab,ae,af,ai,isNil,Nat.reduceEqDiff,Nat.reduceAdd,Nat.reduceLT,Nat.reduceLeDiff,Int.reduceNeg,Int.reduceToNat,reduceCtorEq,cW]
  refine av.ne (fun h=>?_) (fun h=>?_)
  · simp (disch:=omega) only [↓wr,↓reduceIte,wq,ah,ag,aj,ab,ae,af,ai,isNil,Nat.reduceEqDiff,Nat.reduceAdd,Nat.reduceLT,Nat.reduceLeDiff,Int.reduceNeg,Int.reduceToNat,reduceCtorEq]
    rw[decide_eq_false (pX (by omega))]
  · simp (disch:=omega) only [↓wr,↓reduceIte,wq,ah,ag,aj,ab,ae,af,ai,isNil,Nat.reduceEqDiff,Nat.reduceAdd,Nat.reduceLT,Nat.reduceLeDiff,Int.reduceNeg,Int.reduceToNat,reduceCtorEq]
    refine bw.up a.length (fun i T _=>a.take i=b.take i∧T 15=.aV (a.map aU)∧T 1=.aV (b.map aU)∧T 2=.fn 165 [] []∧T 16=gi a.length∧T 17=gi i) ⟨by simp,rfl,rfl,rfl,rfl,rfl⟩ ?_
    rintro i k T H hk ⟨hi,h0,h1,h6,h7,h8⟩
    simp (disch:=omega) only [↓wr,↓reduceIte,wq,ah,ag,aj,ab,ae,af,ai,isNil,Nat.reduceEqDiff,Nat.reduceAdd,Nat.reduceLT,Nat.reduceLeDiff,Int.reduceNeg,Int.reduceToNat,reduceCtorEq,cO,h0,h1,h6,h7,h8]
    refine av.dec (fun hc=>?_) (fun hc=>?_)
    · have h2:a[i]?=some (a[i]'(by omega)):=List.getElem?_eq_getElem (by omega)
      have h3:b[i]?=some (b[i]'(by omega)):=List.getElem?_eq_getElem (by omega)
      have hm:a[i]'(by omega)∈a:=List.getElem_mem _
      generalize a[i]'(by omega)=x at h2 hm
      generalize b[i]'(by omega)=y at h3
      have hsx:=hr x hm
      simp (disch:=omega) only [↓wr,↓reduceIte,wq,ah,ag,aj,ab,ae,af,ai,isNil,Nat.reduceEqDiff,Nat.reduceAdd,Nat.reduceLT,Nat.reduceLeDiff,Int.reduceNeg,Int.reduceToNat,reduceCtorEq,h0,h1,h6,h7,h8,List.getElem?_map,h2,h3,aU,encI]
      intro n hn
      try simp (disch:=omega) only [↓wr,↓reduceIte,wq,ah,ag,aj,ab,ae,af,ai,isNil,Nat.reduceEqDiff,Nat.reduceAdd,Nat.reduceLT,Nat.reduceLeDiff,Int.reduceNeg,Int.reduceToNat,reduceCtorEq,h0,h1,h6,h7,h8,List.getElem?_map,h2,h3,aU,encI]
      intro m hmd
      have hmn:=(cF hmd cy).1
      try simp (disch:=omega) only [↓wr,↓reduceIte,wq,ah,ag,aj,ab,ae,af,ai,isNil,Nat.reduceEqDiff,Nat.reduceAdd,Nat.reduceLT,Nat.reduceLeDiff,Int.reduceNeg,Int.reduceToNat,reduceCtorEq,h0,h1,h6,h7,h8,List.getElem?_map,h2,h3,aU,encI,hmn,hmn.symm]
      refine aE.pure (LC x y hsx) (by kernel_rfl) ?_
      simp (disch:=omega) only [↓wr,↓reduceIte,wq,ah,ag,aj,ab,ae,af,ai,isNil,Nat.reduceEqDiff,Nat.reduceAdd,Nat.reduceLT,Nat.reduceLeDiff,Int.reduceNeg,Int.reduceToNat,reduceCtorEq,h0,h1,h6,h7,h8]
      refine av.split (fun e=>?_) (fun e=>?_)
      · simp (disch:=omega) only [↓wr,↓reduceIte,wq,ah,ag,aj,ab,ae,af,ai,isNil,Nat.reduceEqDiff,Nat.reduceAdd,Nat.reduceLT,Nat.reduceLeDiff,Int.reduceNeg,Int.reduceToNat,reduceCtorEq,h0,h1,h6,h7,h8]
        exact bt hk (by omega) ⟨m0 h2 h3 hi (by simpa using e),h0,h1,h6,h7,rfl⟩
      · simp (disch:=omega) only [↓wr,↓reduceIte,wq,ah,ag,aj,ab,ae,af,ai,isNil,Nat.reduceEqDiff,Nat.reduceAdd,Nat.reduceLT,Nat.reduceLeDiff,Int.reduceNeg,Int.reduceToNat,reduceCtorEq,h0,h1,h6,h7,h8]
        rw[decide_eq_false (tw h2 h3 (by simpa using e))]
    · simp (disch:=omega) only [↓wr,↓reduceIte,wq,ah,ag,aj,ab,ae,af,ai,isNil,Nat.reduceEqDiff,Nat.reduceAdd,Nat.reduceLT,Nat.reduceLeDiff,Int.reduceNeg,Int.reduceToNat,reduceCtorEq,h0,h1,h6,h7,h8]
      rw[decide_eq_true (pT (by omega) (by omega) hi)]
theorem De (a b:List aM) (ha:aX a) (hr:∀ r∈a,aX r.right):aC Tryz.prog 164 [.aV (a.map aU),.aV (b.map aU),.fn 165 [] []] (gb (decide (a=b))):=aC.val (by
  intro v hv; simp at hv
  rcases hv with rfl | rfl | rfl
  · exact ez _ _ fun x _=>fU x
  · exact ez _ _ fun x _=>fU x
  · exact AD (by simp) (by simp)) (DQ a b ha hr)
theorem Lo (g k:an) (hg:g.Ok):aC Tryz.prog 110 [.agg (aw g),.agg (aw k)] (gb (decide (g=k))):=by
  refine aC.val (B1 g k) fun H=>?_
  rw[E1]
  refine aA.of mixed CB ?_
  simp (disch:=omega) only [↓wr,↓reduceIte,wq,ah,ag,aj,ab,ae,af,ai,isNil,Nat.reduceEqDiff,Nat.reduceAdd,Nat.reduceLT,Nat.reduceLeDiff,Int.reduceNeg,Int.reduceToNat,reduceCtorEq,An,aw,encS]
  repeat' (first | (refine av.dec (fun _=>?_) (fun _=>?_)) | (refine av.eq (fun _=>?_) (fun _=>?_)) | (refine av.ne (fun _=>?_) (fun _=>?_)) | (refine av.split (fun _=>?_) (fun _=>?_)) | (refine aE.pure (Jd g.ax k.ax hg.ax) (by kernel_rfl) ?_) | (refine aE.pure (Jw g.au k.au hg.au) (by kernel_rfl) ?_) | (refine aE.pure (De g.rules k.rules hg.rules (fun r hr=>(hg.aG r hr).2.2.1)) (by kernel_rfl) ?_) | (simp (disch:=omega) only [↓wr,↓reduceIte,wq,ah,ag,aj,ab,ae,af,ai,isNil,Nat.reduceEqDiff,Nat.reduceAdd,Nat.reduceLT,Nat.reduceLeDiff,Int.reduceNeg,Int.reduceToNat,reduceCtorEq,aw,encS]))
  all_goals simp_all [Nr]
def Cq:SF:=⟨.seq (ak [cr 1 0,aQ 2 false]) <|
  .seq (ak [aJ 7 4 1,aF 8 109 [7],aa 6 8,cM 9 0 6,cM 10 1 6,cM 11 2 6,((some 3),.op (.alloc [(.emp 1),(.emp 1),(.emp 1),(.val (.int .i64 0))])),(none,.op (.store 4 (.tmp 3) (.tmp 9))),aa 4 10,aa 5 11]) <|
  .seq (.region false [⟨none,[aa 12 5,ay 13 .eql 12 0,aa 14 13]⟩,⟨(some (14,true)),[aJ 15 4 1,aJ 16 4 3,aF 17 110 [15,16]]⟩,⟨none,[bG 18 14 17,aa 2 18]⟩]) <|
  .ret,
  [.tmp 2],19⟩
theorem E2:bh Tryz.prog 61 [1]=some Cq:=by kernel_rfl
def pG:SF:=⟨.seq (ak [cr 1 0,aQ 2 false]) <|
  .seq (ak [aJ 7 4 1,aF 8 70 [7],aa 6 8,cM 9 0 6,cM 10 1 6,cM 11 2 6,((some 3),.op (.alloc [(.emp 1),(.emp 1),(.emp 1),(.val (.int .i64 0))])),(none,.op (.store 4 (.tmp 3) (.tmp 9))),aa 4 10,aa 5 11]) <|
  .seq (.region false [⟨none,[aa 12 5,ay 13 .eql 12 0,aa 14 13]⟩,⟨(some (14,true)),[aJ 15 4 1,aJ 16 4 3,aF 17 36 [15,16]]⟩,⟨none,[bG 18 14 17,aa 2 18]⟩]) <|
  .ret,
  [.tmp 2],19⟩
theorem uW:bh Tryz.prog 30 [1]=some pG:=by kernel_rfl
theorem Fa (g:an) (hg:g.Ok) (hs:g.Small):aC Tryz.prog 61 [.agg (aw g)] (gb (isRed g)):=by
  refine aC.val (e9 g) fun H=>?_
  refine aA.of mixed E2 ?_
  simp (disch:=omega) only [↓wr,↓reduceIte,wq,ah,ag,aj,ab,ae,af,ai,isNil,Nat.reduceEqDiff,Nat.reduceAdd,Nat.reduceLT,Nat.reduceLeDiff,Int.reduceNeg,Int.reduceToNat,reduceCtorEq,Cq,aw,encS]
  refine aE.pure (HQ g hg hs).pure (by kernel_rfl) ?_
  unfold isRed
  generalize eW g=x
  obtain ⟨k,il,e⟩:=x
  simp (disch:=omega) only [↓wr,↓reduceIte,wq,ah,ag,aj,ab,ae,af,ai,isNil,Nat.reduceEqDiff,Nat.reduceAdd,Nat.reduceLT,Nat.reduceLeDiff,Int.reduceNeg,Int.reduceToNat,reduceCtorEq,tX,aw,encS]
  intro n hn
  refine av.eq (fun h=>?_) (fun h=>?_)
  · simp (disch:=omega) only [↓wr,↓reduceIte,wq,ah,ag,aj,ab,ae,af,ai,isNil,Nat.reduceEqDiff,Nat.reduceAdd,Nat.reduceLT,Nat.reduceLeDiff,Int.reduceNeg,Int.reduceToNat,reduceCtorEq,tX,aw,encS]
    refine aE.pure (Lo g k hg) (by kernel_rfl) ?_
    simp (disch:=omega) only [↓wr,↓reduceIte,wq,ah,ag,aj,ab,ae,af,ai,isNil,Nat.reduceEqDiff,Nat.reduceAdd,Nat.reduceLT,Nat.reduceLeDiff,Int.reduceNeg,Int.reduceToNat,reduceCtorEq]
    simp[h]
  · simp (disch:=omega) only [↓wr,↓reduceIte,wq,ah,ag,aj,ab,ae,af,ai,isNil,Nat.reduceEqDiff,Nat.reduceAdd,Nat.reduceLT,Nat.reduceLeDiff,Int.reduceNeg,Int.reduceToNat,reduceCtorEq]
    simp[h]
theorem Oi (g:an) (hg:g.Ok):aC Tryz.prog 30 [.agg (aw g)] (gb (isRed g)):=by
  refine aC.val (e9 g) fun H=>?_
  refine aA.of mixed uW ?_
  simp (disch:=omega) only [↓wr,↓reduceIte,wq,ah,ag,aj,ab,ae,af,ai,isNil,Nat.reduceEqDiff,Nat.reduceAdd,Nat.reduceLT,Nat.reduceLeDiff,Int.reduceNeg,Int.reduceToNat,reduceCtorEq,pG,aw,encS]
  refine aE.pure (Fh g hg).pure (by kernel_rfl) ?_
  unfold isRed
  generalize eW g=x
  obtain ⟨k,il,e⟩:=x
  simp (disch:=omega) only [↓wr,↓reduceIte,wq,ah,ag,aj,ab,ae,af,ai,isNil,Nat.reduceEqDiff,Nat.reduceAdd,Nat.reduceLT,Nat.reduceLeDiff,Int.reduceNeg,Int.reduceToNat,reduceCtorEq,tX,aw,encS]
  intro n hn
  refine av.eq (fun h=>?_) (fun h=>?_)
  · simp (disch:=omega) only [↓wr,↓reduceIte,wq,ah,ag,aj,ab,ae,af,ai,isNil,Nat.reduceEqDiff,Nat.reduceAdd,Nat.reduceLT,Nat.reduceLeDiff,Int.reduceNeg,Int.reduceToNat,reduceCtorEq,tX,aw,encS]
    refine aE.pure (Kw g k hg) (by kernel_rfl) ?_
    simp (disch:=omega) only [↓wr,↓reduceIte,wq,ah,ag,aj,ab,ae,af,ai,isNil,Nat.reduceEqDiff,Nat.reduceAdd,Nat.reduceLT,Nat.reduceLeDiff,Int.reduceNeg,Int.reduceToNat,reduceCtorEq]
    simp[h]
  · simp (disch:=omega) only [↓wr,↓reduceIte,wq,ah,ag,aj,ab,ae,af,ai,isNil,Nat.reduceEqDiff,Nat.reduceAdd,Nat.reduceLT,Nat.reduceLeDiff,Int.reduceNeg,Int.reduceToNat,reduceCtorEq]
    simp[h]
def OG:an:=⟨[⟨⟨#[39,97,39]⟩,0,0⟩,⟨⟨#[39,98,39]⟩,0,0⟩,⟨⟨#[39,99,39]⟩,0,0⟩,⟨⟨#[39,100,39]⟩,0,0⟩],[⟨#[115]⟩,⟨#[117]⟩,⟨#[118]⟩],[⟨0,[0,(-2)],0⟩,⟨0,[1],1⟩,⟨0,[],(-1)⟩,⟨1,[(-2),2],2⟩,⟨2,[3,(-1)],3⟩],0⟩
def N2:an:=⟨OG.ax,[⟨#[115]⟩],[⟨0,[1],1⟩,⟨0,[],(-1)⟩],0⟩
theorem mS:isRed N2=true:=by kernel_rfl
structure an.P7 (g:an):Prop where
  ax:g.ax.length≤40
  au:g.au.length≤40
  rules:g.rules.length≤60
  right:∀ r∈g.rules,r.right.length≤20
theorem dA.fr {h:aB} {v t:V} (f:dA h v t):Fr h v t:=by
  induction f with
  | val v=>exact .tree _ (.val _)
  | emp k=>exact .emp k
  | sl id off len esz z es es' h1 h2 h3 h4 _ ih=>exact .sl id off len esz z es es' h1 h2 h3 h4 ih
  | agg cs cs' h1 _ ih=>exact .agg cs cs' h1 ih
  | bk cs cs' h1 _ ih=>exact .bk cs cs' h1 ih
def zj (p:bR):List V:=[gi p.aG,gi p.cH,gi p.rules,gi p.ax]
abbrev HF (P:List bR):V:=.aV (P.map zj)
theorem Io (P:List bR):Tree (HF P):=ez _ _ fun x _ v hv=>by
  simp[zj] at hv
  rcases hv with rfl | rfl | rfl | rfl <;> exact .val _
theorem Hm (p:bR):∀ v∈zj p,Tree v:=by
  intro v hv; simp[zj] at hv
  rcases hv with rfl | rfl | rfl | rfl <;> exact .val _
def yL (H:View) (u:V) (P:List bR):Prop:=u=HF P∨aW H u 4 (P.map zj)
theorem yL.HH {H:View} {u:V} {P:List bR} (h:yL H u P):en H u (HF P):=by
  rcases h with rfl | h
  · exact en.tree (Io P)
  · exact en.own h fun e he v hv=>by
      obtain ⟨p,_,rfl⟩:=List.mem_map.1 he
      exact Hm p v hv
theorem yL.keep {H H':View} {u:V} {P:List bR} (h:yL H u P) (hk:∀ id,owner u=some id→H' id=H id):yL H' u P:=h.imp id fun h=>h.keep hk
theorem yL.live {H:View} {u:V} {P:List bR} (h:yL H u P) {id:Nat} (hid:owner u=some id):H id≠.dead:=by
  rcases h with rfl | h
  · simp[owner] at hid
  · rw[(h.live hid).1]; simp
end Gv
