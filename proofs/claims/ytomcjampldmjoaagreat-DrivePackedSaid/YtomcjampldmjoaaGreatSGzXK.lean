/-
  Part 11 of the proof: what the machine does and what the functions answer.
  Conditions: those that each lemma names.
-/
import Derived.Test.YtomcjampldmjoaaGreatSGzXJ
set_option linter.unusedSimpArgs false
set_option linter.unusedVariables false
set_option maxRecDepth 100000
namespace Gv
open Go Go.Proofs
structure Cell where
  kind:Int
  n:Int
  deriving DecidableEq
structure dJ where
  aK:List (List Cell)
  gotos:List (List Int)
  deriving DecidableEq
def j8 (g:ay) (n:Nat) (c:Cell):Bool:=if c.kind=0∨c.kind=3 then decide (c.n=0) else if c.kind=1 then decide (0≤c.n) && decide (c.n < n) else if c.kind=2 then decide (0≤c.n) && decide (c.n < g.rules.length) else false
def wu (g:ay) (n:Nat) (a:List Cell) (l:List Int):Bool:=decide (a.length=g.av.length+1) && decide (l.length=g.aw.length) && a.all (j8 g n) && l.all fun x=>decide (-1≤x) && decide (x < n)
def fh (g:ay) (t:dJ):Bool:=bB g && decide (1≤t.aK.length) && decide (t.aK.length≤300) && decide (t.gotos.length=t.aK.length) && (List.range t.aK.length).all fun i=>wu g t.aK.length (t.aK.getD i []) (t.gotos.getD i [])
def cB (t:dJ) (s x:Int):Cell:=(t.aK.getD s.toNat []).getD x.toNat ⟨0,0⟩
def gu (t:dJ) (s x:Int):Int:=(t.gotos.getD s.toNat []).getD x.toNat (-1)
def bH (st:List Int):Int:=st.getD (st.length - 1) 0
def bG (g:ay) (w:List Int) (at_:Nat):Int:=if at_ < w.length then w.getD at_ 0 else g.av.length
def bZ (g:ay) (k:Int):bc:=g.rules.getD k.toNat ⟨0,[],0⟩
def fW (g:ay) (t:dJ) (w:List Int):Nat→List Int→List Int→Nat→List Int × Int × Int
  | k,st,rs,at_ =>
    if (cB t (bH st) (bG g w at_)).kind=3∧at_=w.length then (rs,at_,0)
    else if (cB t (bH st) (bG g w at_)).kind=0∨(cB t (bH st) (bG g w at_)).kind=3∨(cB t (bH st) (bG g w at_)).kind=1∧at_=w.length then ([],at_,3)
    else match k with
      | 0=>([],at_,14)
      | k+1 =>
        if (cB t (bH st) (bG g w at_)).kind=1 then fW g t w k (st ++ [(cB t (bH st) (bG g w at_)).n]) rs (at_+1)
        else if st.length≤(bZ g (cB t (bH st) (bG g w at_)).n).right.length then ([],at_,3)
        else if gu t (bH (st.take (st.length - (bZ g (cB t (bH st) (bG g w at_)).n).right.length))) (bZ g (cB t (bH st) (bG g w at_)).n).left = -1 then ([],at_,3)
        else fW g t w k (st.take (st.length - (bZ g (cB t (bH st) (bG g w at_)).n).right.length) ++ [gu t (bH (st.take (st.length - (bZ g (cB t (bH st) (bG g w at_)).n).right.length))) (bZ g (cB t (bH st) (bG g w at_)).n).left])
          (rs ++ [(cB t (bH st) (bG g w at_)).n]) at_
def zN (t:dJ) (st:List Int):Prop:=st≠[]∧∀ x∈st,0≤x∧x < t.aK.length
theorem getD_some {α:Type} {l:List α} {j:Nat} {d:α} (h:j < l.length):l[j]?=some (l.getD j d):=by simp[List.getD_eq_getElem?_getD,h]
theorem qW {st:List Int} (h:st≠[]):bH st∈st:=by
  have hl:st.length - 1 < st.length:=by have:=List.length_pos_iff.2 h; omega
  unfold bH
  simp[List.getD_eq_getElem?_getD,hl]
theorem zN.app {t:dJ} {st:List Int} {x:Int} (h:∀ y∈st,0≤y∧y < t.aK.length) (hx:0≤x∧x < t.aK.length):zN t (st ++ [x]):=by
  refine ⟨by simp,fun y hy=>?_⟩
  rcases List.mem_append.1 hy with hy | hy
  · exact h y hy
  · simp at hy; subst hy; exact hx
theorem zN.take {t:dJ} {st:List Int} (h:zN t st) {k:Nat} (hk:0 < k):zN t (st.take k):=by
  refine ⟨?_,fun y hy=>h.2 y (List.mem_of_mem_take hy)⟩
  intro e
  rcases List.take_eq_nil_iff.1 e with e | e
  · omega
  · exact h.1 e
structure jn (g:ay) (t:dJ):Prop where
  right:bB g=true
  n1:1≤t.aK.length
  Q3:t.aK.length≤300
  len:t.gotos.length=t.aK.length
  row:∀ i,i < t.aK.length→wu g t.aK.length (t.aK.getD i []) (t.gotos.getD i [])=true
theorem tq {g:ay} {t:dJ} (h:fh g t=true):jn g t:=by
  unfold fh at h
  simp only[Bool.and_eq_true,decide_eq_true_eq,List.all_eq_true,List.mem_range] at h
  exact ⟨h.1.1.1.1,h.1.1.1.2,h.1.1.2,h.1.2,h.2⟩
theorem jn.vU {g:ay} {t:dJ} (h:jn g t) {i:Nat} (hi:i < t.aK.length):(t.aK.getD i []).length=g.av.length+1∧(t.gotos.getD i []).length=g.aw.length∧(∀ c∈t.aK.getD i [],j8 g t.aK.length c=true)∧∀ x∈t.gotos.getD i [],-1≤x∧x < t.aK.length:=by
  have:=h.row i hi
  unfold wu at this
  simp only[Bool.and_eq_true,decide_eq_true_eq,List.all_eq_true] at this
  exact ⟨this.1.1.1,this.1.1.2,this.1.2,this.2⟩
theorem jn.cell {g:ay} {t:dJ} (h:jn g t) {s x:Int} (hs:0≤s∧s < t.aK.length) (hx:0≤x∧x≤g.av.length):j8 g t.aK.length (cB t s x)=true∧(t.aK.getD s.toNat [])[x.toNat]?=some (cB t s x):=by
  have hi:s.toNat < t.aK.length:=by omega
  obtain ⟨h1,_,h3,_⟩:=h.vU hi
  have hj:x.toNat < (t.aK.getD s.toNat []).length:=by omega
  have e:(t.aK.getD s.toNat [])[x.toNat]?=some (cB t s x):=getD_some hj
  exact ⟨h3 _ (List.mem_of_getElem? e),e⟩
theorem jn.go {g:ay} {t:dJ} (h:jn g t) {s x:Int} (hs:0≤s∧s < t.aK.length) (hx:0≤x∧x < g.aw.length):(-1≤gu t s x∧gu t s x < t.aK.length)∧(t.gotos.getD s.toNat [])[x.toNat]?=some (gu t s x):=by
  have hi:s.toNat < t.aK.length:=by omega
  obtain ⟨_,h2,_,h4⟩:=h.vU hi
  have hj:x.toNat < (t.gotos.getD s.toNat []).length:=by omega
  have e:(t.gotos.getD s.toNat [])[x.toNat]?=some (gu t s x):=getD_some hj
  exact ⟨h4 _ (List.mem_of_getElem? e),e⟩
def gU (g:ay) (t:dJ) (w:List Int):List Int × Int × Int:=if (bB g && decide (w.length≤60) && (w.all fun x=>decide (0≤x) && decide (x < g.av.length)) && fh g t)=true then fW g t w 2000 [0] [] 0 else ([],0,1)
theorem EN {x:Int} : ∀ (o:List Int) (i:Int),x∈o→∃ k:Nat,bR (fun y=>y == x) o i=i+k∧o[k]?=some x
  | [],_,h=>by simp at h
  | y :: o,i,h=>by
    by_cases e:y=x
    · exact ⟨0,by simp[bR,e],by simp[e]⟩
    · have hx:x∈o:=by
        rcases List.mem_cons.1 h with rfl | h
        · exact absurd rfl e
        · exact h
      obtain ⟨k,h1,h2⟩:=EN o (i+1) hx
      exact ⟨k+1,by simp only[bR]; rw[if_neg (by simp[e]),h1]; push_cast; omega,by simpa using h2⟩
theorem zU {o:List Int} {x:Int} (h:x∈o):o[(bk o x).toNat]?=some x:=by
  obtain ⟨k,h1,h2⟩:=EN o 0 h
  have:bk o x=k:=by unfold bk; omega
  rw[this]; simpa using h2
theorem y6 {o:List Int} (hn:o.Nodup) {k:Nat} {x:Int} (h:o[k]?=some x):bk o x=k:=by
  have hx:=List.mem_of_getElem? h
  have h1:=zU hx
  have h2:=kL hx
  obtain ⟨hk,h3⟩:=List.getElem?_eq_some_iff.1 h
  obtain ⟨hk2,h4⟩:=List.getElem?_eq_some_iff.1 h1
  have:=(List.getElem_inj hn).1 (h4.trans h3.symm)
  omega
theorem L7 (acc:List Int) (r:bc):∃ m,dO acc r=acc ++ m:=by
  unfold dO
  split
  · exact ⟨[],by simp⟩
  · exact ⟨_,rfl⟩
theorem uA:∀ (l:List bc) (acc:List Int),∃ m,l.foldl dO acc=acc ++ m
  | [],acc=>⟨[],by simp⟩
  | r :: l,acc=>by
    obtain ⟨m,hm⟩:=L7 acc r
    obtain ⟨k,hk⟩:=uA l (dO acc r)
    exact ⟨m ++ k,by rw[List.foldl_cons,hk,hm,List.append_assoc]⟩
theorem MH {a b:List Int} {x:Int} (h:x∈a):bk (a ++ b) x=bk a x:=by
  unfold bk
  rw[sy _ _ _ _ (by omega)]
  have:=kL h
  unfold bk at this
  rw[if_pos this.1]
theorem wb {r:ay} {o:List Int} (ho:o.Nodup) (hr:r.aw.length=o.length):∀ (l:List bc) (acc:List Int),o=l.foldl dO acc→(∀ x∈l,fG r (bE (bk o) x)=true)→fi r (l.map (bE (bk o))) ((acc.length:Int) - 1)=true
  | [],acc,h,_=>by
    simp only[List.foldl_nil] at h
    simp[fi,hr,h]
  | x :: l,acc,h,hb=>by
    simp only[List.map_cons,fi,Bool.and_eq_true,decide_eq_true_eq]
    rw[List.foldl_cons] at h
    have h1:(bE (bk o) x).left=bk o x.left:=rfl
    obtain ⟨m,hm⟩:=uA l (dO acc x)
    rw[← h] at hm
    by_cases hx:x.left∈acc
    · have e:dO acc x=acc:=by unfold dO; rw[if_pos hx]
      rw[e] at hm h
      have h2:=kL hx
      have h3:bk o x.left=bk acc x.left:=by rw[hm]; exact MH hx
      rw[h1,h3,if_neg (by omega)]
      exact ⟨⟨⟨h2.1,by omega⟩,hb x (by simp)⟩,wb ho hr l acc h fun y hy=>hb y (by simp[hy])⟩
    · have e:dO acc x=acc ++ [x.left]:=by unfold dO; rw[if_neg hx]
      rw[e] at hm h
      have h3:bk o x.left=acc.length:=y6 ho (by rw[hm]; simp)
      rw[h1,h3,if_pos (by omega)]
      refine ⟨⟨⟨by omega,by omega⟩,hb x (by simp)⟩,?_⟩
      have:=wb ho hr l (acc ++ [x.left]) h fun y hy=>hb y (by simp[hy])
      rw[List.length_append] at this
      simpa using this
theorem zL {g r:ay} (h:r.av=g.av):∀ (l:List Term) (i:Int),hE r l i=hE g l i
  | [],_=>rfl
  | t :: l,i=>by
    simp only[hE,zL h l]
    congr 1
    simp only[iA,j5,pR,h]
theorem ph {o:List Int} {n:Nat} (h:o.Nodup) (hb:∀ x∈o,0≤x∧x < n):o.length≤n:=by
  have:=nX o ((List.range n).map fun (k:Nat)=>(k:Int)) h fun x hx=>by
    have:=hb x hx
    exact List.mem_map.2 ⟨x.toNat,List.mem_range.2 (by omega),by omega⟩
  simpa using this
structure dy (g:ay) (p q:List Bool) (o:List Int) (r:ay):Prop where
  right:bB g=true
  pe:p=aV g true
  qe:q=bN g
  oe:o=cJ p q g.rules
  re:r=sw g (bk o) p q
  nodup:o.Nodup
  inside:∀ x∈o,0≤x∧x < g.aw.length
  kept:∀ R∈g.rules,bO p q R=true→R.left∈o∧∀ s∈R.right,s < 0→-1 - s∈o
  from_:∀ x∈o,∃ R∈g.rules,bO p q R=true∧R.left=x
  start:g.start∈o
section
variable {g r:ay} {p q:List Bool} {o:List Int}
theorem dy.rules (h:dy g p q o r):r.rules=(g.rules.filter (bO p q)).map (bE (bk o)):=by rw[h.re]; rfl
theorem dy.aw (h:dy g p q o r):r.aw=o.map fun x=>g.aw.getD x.toNat ⟨#[]⟩:=by rw[h.re,h.oe]; rfl
theorem dy.av (h:dy g p q o r):r.av=g.av:=by rw[h.re]; rfl
theorem dy.F8 (h:dy g p q o r):r.start=bk o g.start:=by rw[h.re]; rfl
theorem dy.len (h:dy g p q o r):r.aw.length=o.length:=by rw[h.aw]; simp
theorem dy.kX (h:dy g p q o r):bB r=true:=by
  have hf:=bI h.right
  have hR:=h.right
  simp only[bB,hO,iN,Bool.and_eq_true,decide_eq_true_eq] at hR ⊢
  obtain ⟨⟨⟨⟨⟨⟨⟨a1,a2⟩,⟨a3,a4⟩,a5⟩,a6⟩,a7⟩,a8⟩,a9⟩,a10⟩:=hR
  have hst:=kL h.start
  have hol:o.length≤g.aw.length:=ph h.nodup h.inside
  have hgn:g.aw.Nodup∧∀ s∈g.aw,eO (dR s)=true∧j5 g s < 0:=by
    rw[sg] at a5
    refine ⟨(r5 g.aw).1 fun k s hk=>?_,fun s hs=>?_⟩
    · have:=a5 k s hk
      simp only[jE,x7,Bool.and_eq_true,beq_iff_eq] at this
      have:=this.1.2
      omega
    · obtain ⟨k,hk⟩:=List.getElem?_of_mem hs
      have:=a5 k s hk
      simp only[jE,Bool.and_eq_true,decide_eq_true_eq] at this
      exact ⟨this.1.1,this.2⟩
  have hget:∀ x∈o,∃ (hx:x.toNat < g.aw.length),g.aw.getD x.toNat ⟨#[]⟩=g.aw[x.toNat]:=fun x hx=>by
    have:=h.inside x hx
    exact ⟨by omega,by simp[List.getD_eq_getElem?_getD,List.getElem?_eq_getElem (show x.toNat < g.aw.length by omega)]⟩
  have hrn:r.aw.Nodup:=by
    rw[h.aw,List.nodup_iff_pairwise_ne,List.pairwise_map]
    refine (List.Pairwise.and_mem.1 h.nodup).imp ?_
    rintro x y ⟨hx,hy,hne⟩ e
    obtain ⟨h1,h2⟩:=hget x hx
    obtain ⟨h3,h4⟩:=hget y hy
    rw[h2,h4] at e
    have h5:=(List.getElem_inj hgn.1).1 e
    have h6:=h.inside x hx
    have h7:=h.inside y hy
    exact hne (by omega)
  have hrules:(g.rules.filter (bO p q)).length≤g.rules.length:=List.length_filter_le _ _
  obtain ⟨R0,hR0,hk0,_⟩:=h.from_ _ h.start
  have hpos:0 < (g.rules.filter (bO p q)).length:=List.length_pos_of_mem (List.mem_filter.2 ⟨hR0,hk0⟩)
  have hrl:r.rules.length=(g.rules.filter (bO p q)).length:=by rw[h.rules]; simp
  refine ⟨⟨⟨⟨⟨⟨⟨by rw[h.av]; exact a1,?_⟩,⟨by rw[h.len]; omega,by rw[h.len]; omega⟩,?_⟩,by omega⟩,by omega⟩,by rw[h.F8]; omega⟩,by rw[h.F8,h.len]; omega⟩,?_⟩
  · rw[h.av,zL h.av]; exact a2
  · rw[sg]
    intro k s hk
    have hm:=List.mem_of_getElem? hk
    have hidx:=(r5 r.aw).2 hrn k s hk
    rw[h.aw,List.mem_map] at hm
    obtain ⟨x,hx,rfl⟩:=hm
    obtain ⟨h1,h2⟩:=hget x hx
    obtain ⟨h3,h4⟩:=hgn.2 _ (h2 ▸ List.getElem_mem h1:g.aw.getD x.toNat ⟨#[]⟩∈g.aw)
    simp only[jE,x7,Bool.and_eq_true,beq_iff_eq,decide_eq_true_eq]
    refine ⟨⟨h3,by rw[hidx]; omega⟩,?_⟩
    simp only[j5,h.av] at h4 ⊢
    exact h4
  · rw[h.rules]
    have:=wb (r:=r) h.nodup h.len (g.rules.filter (bO p q)) [] (by rw[h.oe]; rfl) (fun x hx=>?_)
    · simpa using this
    obtain ⟨hm,hk⟩:=List.mem_filter.1 hx
    obtain ⟨_,hin⟩:=h.kept x hm hk
    have hb:=(yb _ _ a10).2 x hm
    have hb:=hb.2.2
    simp only[fG,Bool.and_eq_true,decide_eq_true_eq,List.all_eq_true] at hb ⊢
    obtain ⟨⟨⟨b1,b2⟩,b3⟩,b4⟩:=hb
    refine ⟨⟨⟨by simpa [bE] using b1,b2⟩,by rw[h.av]; exact b3⟩,fun s hs=>?_⟩
    simp only[bE,List.mem_map] at hs
    obtain ⟨s0,hs0,rfl⟩:=hs
    have b5:=b4 s0 hs0
    by_cases hn:s0 < 0
    · rw[if_pos hn]
      have hl:=kL (hin s0 hs0 hn)
      simp only[ki,l5,Bool.and_eq_true]
      rw[if_neg (by omega),decide_eq_false (p:=0≤-1 - bk o (-1 - s0)) (by omega)]
      simp only[h.len,decide_eq_true_eq,Bool.false_and,Bool.not_false,and_true]
      omega
    · rw[if_neg hn]
      simp only[ki,l5,h.av] at b5 ⊢
      rw[if_pos (by omega)] at b5 ⊢
      exact b5
end
inductive uH (g:ay):Int→Prop
  | mk (R:bc):R∈g.rules→(∀ s∈R.right,s < 0→uH g (-1 - s))→uH g R.left
inductive oR (g:ay) (p:List Bool):Int→Prop
  | start:oR g p g.start
  | next (R:bc) (s:Int):R∈g.rules→oR g p R.left→dP R.right p true=true→s∈R.right→s < 0→oR g p (-1 - s)
theorem vi {l:List Int} {p:List Bool} : dP l p true=true↔∀ s∈l,s < 0→p.getD (-1 - s).toNat false=true:=by
  simp only[dP,List.all_eq_true]
  constructor
  · intro h s hs hn
    have:=h s hs
    rwa [if_neg (by omega)] at this
  · intro h s hs
    by_cases hn:s < 0
    · rw[if_neg (by omega)]; exact h s hs hn
    · rw[if_pos (by omega)]
theorem Ag {l:List Bool} {i j:Nat} (h:(l.set i true).getD j false=true):j=i∨l.getD j false=true:=by
  by_cases e:i=j
  · exact .inl e.symm
  · right
    simp only[List.getD_eq_getElem?_getD,List.getElem?_set,if_neg e] at h ⊢
    exact h
theorem AP {g:ay} {i:Nat} : (cw g).getD i false=false:=by
  simp only[cw,List.getD_eq_getElem?_getD,List.getElem?_replicate]
  split <;> rfl
theorem EV {g:ay} (hr:bB g=true):∀ i:Nat,(aV g true).getD i false=true→uH g i:=by
  have hf:=bI hr
  have hst:∀ (is:List Bool) (R:bc),R∈g.rules→(∀ i:Nat,is.getD i false=true→uH g i)→∀ i:Nat,(cW true is R).getD i false=true→uH g i:=by
    intro is R hR h i hi
    unfold cW at hi
    split at hi
    · rename_i ha
      rcases Ag hi with rfl | hi
      · have:=hf.left R hR
        have e:((R.left.toNat:Nat):Int)=R.left:=by omega
        rw[e]
        refine .mk R hR fun s hs hn=>?_
        have:=h _ (vi.1 ha s hs hn)
        rwa [show (((-1 - s).toNat:Nat):Int) = -1 - s by omega] at this
      · exact h i hi
    · exact h i hi
  have hfold:∀ (l:List bc) (is:List Bool),(∀ R∈l,R∈g.rules)→(∀ i:Nat,is.getD i false=true→uH g i)→∀ i:Nat,(l.foldl (cW true) is).getD i false=true→uH g i:=by
    intro l
    induction l with
    | nil=>intro is _ h; exact h
    | cons R l ih=>intro is hl h; exact ih _ (fun x hx=>hl x (by simp[hx])) (hst is R (hl R (by simp)) h)
  have hit:∀ (n:Nat) (is:List Bool),(∀ i:Nat,is.getD i false=true→uH g i)→∀ i:Nat,(iter (hU g true) n is).getD i false=true→uH g i:=by
    intro n
    induction n with
    | zero=>intro is h; exact h
    | succ n ih=>intro is h; exact ih _ (hfold g.rules is (fun _ h=>h) h)
  rw[aV,if_pos hr]
  exact hit _ _ fun i hi=>by rw[AP] at hi; simp at hi
theorem CX (t:Bool) (is:List Bool) (R:bc):fT is (cW t is R):=by
  unfold cW
  split
  · exact .set _ _
  · exact .refl _
theorem C5 (t:Bool):∀ (l:List bc) (is:List Bool),fT is (l.foldl (cW t) is)
  | [],is=>.refl _
  | R :: l,is=>(CX t is R).trans (C5 t l _)
theorem BJ {t:Bool} : ∀ {l:List bc} {is:List Bool},l.foldl (cW t) is=is→∀ R∈l,cW t is R=is
  | [],_,_,_,h=>by simp at h
  | R :: l,is,h,x,hx=>by
    rw[List.foldl_cons] at h
    have h1:=C5 t l (cW t is R)
    rw[h] at h1
    have h2:=(h1.Mi (CX t is R))
    rcases List.mem_cons.1 hx with rfl | hx
    · exact h2
    · rw[h2] at h; exact BJ h x hx
theorem Kw {g:ay} (hr:bB g=true) (t:Bool):hU g t (aV g t)=aV g t:=by
  have hf:=bI hr
  have h:=rK (Bi t) g.rules 16 (cw g) (by have:=hf.aw; simp[cw]; omega)
  rw[Hj,O2 hr] at h
  exact h.1
theorem rb {g:ay} (hr:bB g=true) {t:Bool} {R:bc} (hR:R∈g.rules) (ha:dP R.right (aV g t) t=true):(aV g t).getD R.left.toNat false=true:=by
  have h1:=BJ (Kw hr t) R hR
  have hf:=bI hr
  have hl:=sJ hr t
  have hb:=hf.left R hR
  unfold cW at h1
  rw[if_pos ha] at h1
  rw[← h1]
  simp only[List.getD_eq_getElem?_getD]
  rw[List.getElem?_set_self (by omega)]
  rfl
theorem yC {g:ay} (hr:bB g=true) {x:Int} (h:uH g x):(aV g true).getD x.toNat false=true:=by
  induction h with
  | mk R hR _ ih=>exact rb hr hR (vi.2 fun s hs hn=>ih s hs hn)
theorem E6 {g:ay} (hr:bB g=true):∀ i:Nat,(bN g).getD i false=true→oR g (aV g true) i:=by
  have hf:=bI hr
  have hmk:∀ (R:bc),R∈g.rules→oR g (aV g true) R.left→dP R.right (aV g true) true=true→∀ (l:List Int) (is:List Bool),(∀ s∈l,s∈R.right)→(∀ i:Nat,is.getD i false=true→oR g (aV g true) i)→∀ i:Nat,(l.foldl mark is).getD i false=true→oR g (aV g true) i:=by
    intro R hR hl ha l
    induction l with
    | nil=>intro is _ h; exact h
    | cons s l ih =>
      intro is hs h
      refine ih _ (fun x hx=>hs x (by simp[hx])) fun i hi=>?_
      unfold mark at hi
      split at hi
      · rename_i hn
        rcases Ag hi with rfl | hi
        · rw[show (((-1 - s).toNat:Nat):Int) = -1 - s by omega]
          exact .next R s hR hl ha (hs s (by simp)) hn
        · exact h i hi
      · exact h i hi
  have hst:∀ (is:List Bool) (R:bc),R∈g.rules→(∀ i:Nat,is.getD i false=true→oR g (aV g true) i)→∀ i:Nat,(ej (aV g true) is R).getD i false=true→oR g (aV g true) i:=by
    intro is R hR h
    unfold ej
    split
    · rename_i ha
      rw[Bool.and_eq_true] at ha
      have h1:=h _ ha.1
      have:=hf.left R hR
      rw[show ((R.left.toNat:Nat):Int)=R.left by omega] at h1
      exact hmk R hR h1 ha.2 R.right is (fun _ h=>h) h
    · exact h
  have hfold:∀ (l:List bc) (is:List Bool),(∀ R∈l,R∈g.rules)→(∀ i:Nat,is.getD i false=true→oR g (aV g true) i)→∀ i:Nat,(l.foldl (ej (aV g true)) is).getD i false=true→oR g (aV g true) i:=by
    intro l
    induction l with
    | nil=>intro is _ h; exact h
    | cons R l ih=>intro is hl h; exact ih _ (fun x hx=>hl x (by simp[hx])) (hst is R (hl R (by simp)) h)
  have hit:∀ (n:Nat) (is:List Bool),(∀ i:Nat,is.getD i false=true→oR g (aV g true) i)→∀ i:Nat,(iter (lC g (aV g true)) n is).getD i false=true→oR g (aV g true) i:=by
    intro n
    induction n with
    | zero=>intro is h; exact h
    | succ n ih=>intro is h; exact ih _ (hfold g.rules is (fun _ h=>h) h)
  rw[bN,if_pos hr]
  refine hit _ _ fun i hi=>?_
  rcases Ag hi with rfl | hi
  · have:=hf.uR
    rw[show ((g.start.toNat:Nat):Int)=g.start by omega]
    exact .start
  · rw[AP] at hi; simp at hi
theorem yi {g:ay} (hr:bB g=true) {x:Int} (h:oR g (aV g true) x):(bN g).getD x.toNat false=true:=by
  induction h with
  | start=>exact GO hr
  | next R s hR _ ha hs hn ih=>exact Iz hr hR (by rw[bO,ih,ha]; rfl) hs hn
section
variable {g r:ay} {p q:List Bool} {o:List Int}
theorem dy.QZ (h:dy g p q o r) {x:Int} (hd:uH g x):x∈o→uH r (bk o x):=by
  induction hd with
  | mk R hR hsub ih =>
    intro hx
    obtain ⟨R1,hR1,hk1,e1⟩:=h.from_ _ hx
    have hk:bO p q R=true:=by
      rw[bO,Bool.and_eq_true] at hk1 ⊢
      refine ⟨by rw[← e1]; exact hk1.1,?_⟩
      rw[h.pe]
      exact vi.2 fun s hs hn=>yC h.right (hsub s hs hn)
    have hin:=(h.kept R hR hk).2
    have hm:bE (bk o) R∈r.rules:=by rw[h.rules]; exact List.mem_map.2 ⟨R,List.mem_filter.2 ⟨hR,hk⟩,rfl⟩
    refine uH.mk (bE (bk o) R) hm fun s' hs' hn'=>?_
    simp only[bE,List.mem_map] at hs'
    obtain ⟨s,hs,rfl⟩:=hs'
    by_cases hn:s < 0
    · rw[if_pos hn]
      have:=ih s hs hn (hin s hs hn)
      rwa [show -1 - (-1 - bk o (-1 - s))=bk o (-1 - s) by omega]
    · rw[if_neg hn] at hn'; omega
theorem dy.Qh (h:dy g p q o r) {x:Int} (hx:x∈o):(aV r true).getD (bk o x).toNat false=true:=by
  obtain ⟨R,hR,hk,rfl⟩:=h.from_ _ hx
  rw[bO,Bool.and_eq_true,h.pe] at hk
  have h1:=rb h.right hR hk.2
  have h2:=EV h.right _ h1
  have:=(h.inside _ hx)
  rw[show ((R.left.toNat:Nat):Int)=R.left by omega] at h2
  exact yC h.kX (h.QZ h2 hx)
theorem dy.at_ (h:dy g p q o r) {k:Nat} (hk:k < o.length):∃ x∈o,bk o x=k∧o[k]?=some x:=⟨o[k],List.getElem_mem _,y6 h.nodup (List.getElem?_eq_getElem hk),List.getElem?_eq_getElem hk⟩
theorem dy.CI (h:dy g p q o r) {k:Nat} (hk:k < o.length):(aV r true).getD k false=true:=by
  obtain ⟨x,hx,h1,_⟩:=h.at_ hk
  have:=h.Qh hx
  rwa [h1,Int.toNat_natCast] at this
theorem dy.KW (h:dy g p q o r) {R:bc} (hR:R∈r.rules):dP R.right (aV r true) true=true:=by
  have hf:=bI h.kX
  refine vi.2 fun s hs hn=>h.CI ?_
  have:=hf.neg hR hs hn
  rw[h.len] at this
  omega
theorem dy.QU (h:dy g p q o r) {x:Int} (hd:oR g (aV g true) x):oR r (aV r true) (bk o x):=by
  induction hd with
  | start=>rw[← h.F8]; exact .start
  | next R s hR h1 ha hs hn ih =>
    have hk:bO p q R=true:=by
      rw[bO,h.pe,h.qe,ha,yi h.right h1]; rfl
    have hm:bE (bk o) R∈r.rules:=by rw[h.rules]; exact List.mem_map.2 ⟨R,List.mem_filter.2 ⟨hR,hk⟩,rfl⟩
    have hin:=(h.kept R hR hk).2 s hs hn
    have h2:=kL hin
    have:=oR.next (g:=r) (p:=aV r true) (bE (bk o) R) (-1 - bk o (-1 - s)) hm ih (h.KW hm) (by
      simp only[bE,List.mem_map]
      exact ⟨s,hs,by rw[if_pos hn]⟩) (by omega)
    rwa [show -1 - (-1 - bk o (-1 - s))=bk o (-1 - s) by omega] at this
theorem dy.Kt (h:dy g p q o r) {k:Nat} (hk:k < o.length):(bN r).getD k false=true:=by
  obtain ⟨x,hx,h1,_⟩:=h.at_ hk
  obtain ⟨R,hR,hkk,rfl⟩:=h.from_ _ hx
  rw[bO,Bool.and_eq_true,h.qe] at hkk
  have h2:=E6 h.right _ hkk.1
  have:=(h.inside _ hx)
  rw[show ((R.left.toNat:Nat):Int)=R.left by omega] at h2
  have:=yi h.kX (h.QU h2)
  rwa [h1,Int.toNat_natCast] at this
def jH (n:Nat):List Int:=(List.range n).map fun (k:Nat)=>(k:Int)
theorem El (n:Nat):(jH n).length=n:=by simp[jH]
theorem z6 {n k:Nat} (h:k < n):(jH n)[k]?=some (k:Int):=by simp[jH,h]
theorem Jn (n:Nat):(jH n).Nodup:=by
  rw[jH,List.nodup_iff_pairwise_ne,List.pairwise_map]
  exact (List.nodup_range (n:=n)).imp fun h e=>h (by omega)
theorem Ap {n:Nat} {x:Int} (h0:0≤x) (h1:x < n):bk (jH n) x=x:=by
  have:=y6 (Jn n) (z6 (n:=n) (k:=x.toNat) (by omega))
  rw[show ((x.toNat:Nat):Int)=x by omega] at this
  exact this
theorem Dh {p q:List Bool} : ∀ (l:List bc) (i:Int),(∀ R∈l,bO p q R=true)→cX p q l i=(List.range l.length).map fun (k:Nat)=>i+(k:Int)
  | [],_,_=>rfl
  | R :: l,i,h=>by
    rw[cX,if_pos (h R (by simp)),Dh l (i+1) (fun x hx=>h x (by simp[hx])),List.length_cons,List.range_succ_eq_map,List.map_cons,List.map_map]
    congr 1
    · omega
    · apply List.map_congr_left
      intro k _
      simp only[Function.comp]
      push_cast; omega
theorem u9 {f:Int→Int} {o:List Int} (hf:∀ x∈o,∀ y∈o,f x=f y→x=y):∀ (l:List bc) (acc:List Int),(∀ x∈acc,x∈o)→(∀ R∈l,R.left∈o)→(l.map (bE f)).foldl dO (acc.map f)=(l.foldl dO acc).map f
  | [],_,_,_=>rfl
  | R :: l,acc,ha,hl=>by
    have e:dO (acc.map f) (bE f R)=(dO acc R).map f:=by
      have h1:(bE f R).left=f R.left:=rfl
      unfold dO
      rw[h1]
      by_cases h:R.left∈acc
      · rw[if_pos h,if_pos (List.mem_map.2 ⟨_,h,rfl⟩)]
      · rw[if_neg h,if_neg (fun hm=>by
          obtain ⟨y,hy,e⟩:=List.mem_map.1 hm
          exact h (hf y (ha y hy) _ (hl R (by simp)) e ▸ hy))]
        simp
    rw[List.map_cons,List.foldl_cons,List.foldl_cons,e]
    refine u9 hf l (dO acc R) (fun x hx=>?_) (fun x hx=>hl x (by simp[hx]))
    unfold dO at hx
    split at hx
    · exact ha x hx
    · rcases List.mem_append.1 hx with hx | hx
      · exact ha x hx
      · simp at hx; subst hx; exact hl R (by simp)
theorem dy.inj (h:dy g p q o r):∀ x∈o,∀ y∈o,bk o x=bk o y→x=y:=by
  intro x hx y hy e
  have h1:=zU hx
  have h2:=zU hy
  rw[e,h2] at h1
  exact (Option.some.inj h1).symm
theorem dy.ON (h:dy g p q o r):o.map (bk o)=jH o.length:=by
  apply List.ext_getElem?
  intro k
  rw[List.getElem?_map]
  by_cases hk:k < o.length
  · rw[z6 hk,List.getElem?_eq_getElem hk,Option.map_some,y6 h.nodup (List.getElem?_eq_getElem hk)]
  · rw[List.getElem?_eq_none (by omega),List.getElem?_eq_none (by rw[El]; omega)]; rfl
theorem dy.Am (h:dy g p q o r):∀ R∈r.rules,bO (aV r true) (bN r) R=true:=fun R hR=>by
  have hf:=bI h.kX
  have:=hf.left R hR
  rw[h.len] at this
  rw[bO,h.Kt (by omega),h.KW hR]; rfl
theorem dy.ord (h:dy g p q o r):cJ (aV r true) (bN r) r.rules=jH o.length:=by
  unfold cJ
  rw[List.filter_eq_self.2 h.Am,h.rules]
  have:=u9 h.inj (g.rules.filter (bO p q)) [] (by simp) (fun R hR=>by
    obtain ⟨h1,h2⟩:=List.mem_filter.1 hR
    exact (h.kept R h1 h2).1)
  rw[List.map_nil] at this
  rw[this,← h.ON]
  congr 1
  rw[h.oe]; rfl
theorem dy.once (h:dy g p q o r):iF r=(r,jH r.rules.length,0):=by
  have hf:=bI h.kX
  have hst:=hf.start
  have hst0:=hf.uR
  rw[h.len] at hst
  rw[yN h.kX,if_pos (h.CI (by omega)),h.ord]
  have hk:cX (aV r true) (bN r) r.rules 0=jH r.rules.length:=by
    rw[Dh _ _ h.Am]
    unfold jH
    apply List.map_congr_left
    intro k _; omega
  have hr:sw r (bk (jH o.length)) (aV r true) (bN r)=r:=by
    unfold sw
    rw[h.ord,List.filter_eq_self.2 h.Am]
    have e1:((jH o.length).map fun x=>r.aw.getD x.toNat ⟨#[]⟩)=r.aw:=by
      apply List.ext_getElem?
      intro k
      rw[List.getElem?_map]
      by_cases hkk:k < o.length
      · rw[z6 hkk,Option.map_some]
        simp[List.getD_eq_getElem?_getD,List.getElem?_eq_getElem (show k < r.aw.length by rw[h.len]; omega)]
      · rw[List.getElem?_eq_none (by rw[El]; omega),List.getElem?_eq_none (by rw[h.len]; omega)]; rfl
    have e2:r.rules.map (bE (bk (jH o.length)))=r.rules:=by
      conv=>rhs; rw[← List.map_id r.rules]
      apply List.map_congr_left
      intro R hR
      have hl:=hf.left R hR
      rw[h.len] at hl
      unfold bE
      rw[Ap hl.1 hl.2]
      have e3:(R.right.map fun s=>if s < 0 then -1 - bk (jH o.length) (-1 - s) else s)=R.right:=by
        conv=>rhs; rw[← List.map_id R.right]
        apply List.map_congr_left
        intro s hs
        by_cases hn:s < 0
        · have:=hf.neg hR hs hn
          rw[h.len] at this
          rw[if_pos hn,Ap (by omega) this]
          simp only[id]; omega
        · rw[if_neg hn]; rfl
      rw[e3]; rfl
    rw[e1,e2,Ap hst0 hst]
  rw[hr,hk]
end
def isRed (g:ay):Bool:=(iF g).2.2 == 0 && decide (g=(iF g).1)
def ov (p:List Int) (i:Nat) (s:Int):Prop:=∃ c,p[i]?=some c∧(c=s∨c = -1)
inductive Sp (g:ay) (p:List Int):List Int→Nat→Nat→Prop
  | nil (i:Nat):Sp g p [] i i
  | term (s:Int) (l:List Int) (i j:Nat):0≤s→ov p i s→Sp g p l (i+1) j→Sp g p (s :: l) i j
  | dk (s:Int) (l:List Int) (R:bc) (i k j:Nat):s < 0→R∈g.rules→R.left = -1 - s→Sp g p R.right i k→Sp g p l k j→Sp g p (s :: l) i j
theorem Sp.le {g:ay} {p:List Int} {l:List Int} {i j:Nat} (h:Sp g p l i j):i≤j:=by
  induction h with
  | nil=>exact Nat.le_refl _
  | term _ _ _ _ _ _ _ ih=>omega
  | dk _ _ _ _ _ _ _ _ _ _ _ ih1 ih2=>omega
theorem Sp.len {g:ay} {p:List Int} {l:List Int} {i j:Nat} (h:Sp g p l i j):i≤p.length→j≤p.length:=by
  induction h with
  | nil=>exact id
  | term _ _ i _ _ hf _ ih =>
    intro _
    obtain ⟨c,hc,_⟩:=hf
    have:=(List.getElem?_eq_some_iff.1 hc).1
    exact ih (by omega)
  | dk _ _ _ _ _ _ _ _ _ _ _ ih1 ih2=>exact fun h=>ih2 (ih1 h)
theorem Sp.app {g:ay} {p:List Int} {a:List Int} {i k:Nat} (h:Sp g p a i k):∀ {b:List Int} {j:Nat},Sp g p b k j→Sp g p (a ++ b) i j:=by
  induction h with
  | nil=>exact fun h=>h
  | term s l i _ h0 hf _ ih=>exact fun hb=>.term s _ i _ h0 hf (ih hb)
  | dk s l R i k _ h0 hR hl h1 _ _ ih2=>exact fun hb=>.dk s _ R i k _ h0 hR hl h1 (ih2 hb)
theorem Sp.split {g:ay} {p:List Int} : ∀ {a b:List Int} {i j:Nat},Sp g p (a ++ b) i j→∃ k,Sp g p a i k∧Sp g p b k j
  | [],b,i,j,h=>⟨i,.nil i,h⟩
  | s :: a,b,i,j,h=>by
    cases h with
    | term _ _ _ _ h0 hf h =>
      obtain ⟨k,h1,h2⟩:=Sp.split h
      exact ⟨k,.term s a i k h0 hf h1,h2⟩
    | dk _ _ R _ m _ h0 hR hl h1 h =>
      obtain ⟨k,h2,h3⟩:=Sp.split h
      exact ⟨k,.dk s a R i m k h0 hR hl h1 h2,h3⟩
structure Item where
  bQ:Nat
  dot:Nat
  kU:Nat
  deriving DecidableEq
def Sound (g:ay) (p:List Int) (at_:Nat) (x:Item):Prop:=∃ R,g.rules[x.bQ]?=some R∧x.dot≤R.right.length∧x.kU≤at_∧Sp g p (R.right.take x.dot) x.kU at_
structure Q0 (g:ay) (p:List Int) (S:Nat→List Item):Prop where
  start:∀ (i:Nat) (R:bc),g.rules[i]?=some R→R.left=g.start→⟨i,0,0⟩∈S 0
  term:∀ a x R s,x∈S a→g.rules[x.bQ]?=some R→R.right[x.dot]?=some s→0≤s→ov p a s→⟨x.bQ,x.dot+1,x.kU⟩∈S (a+1)
  pred:∀ a x R s i R',x∈S a→g.rules[x.bQ]?=some R→R.right[x.dot]?=some s→s < 0→g.rules[i]?=some R'→R'.left = -1 - s→a≤p.length→⟨i,0,a⟩∈S a
  null:∀ a x R s,x∈S a→g.rules[x.bQ]?=some R→R.right[x.dot]?=some s→s < 0→(aV g false).getD (-1 - s).toNat false=true→a≤p.length→⟨x.bQ,x.dot+1,x.kU⟩∈S a
  comp:∀ a y R' x R s,y∈S a→g.rules[y.bQ]?=some R'→y.dot=R'.right.length→y.kU < a→x∈S y.kU→g.rules[x.bQ]?=some R→R.right[x.dot]?=some s→s < 0→R'.left = -1 - s→a≤p.length→⟨x.bQ,x.dot+1,x.kU⟩∈S a
inductive In (p:List Int) (T:Nat→Nat→Nat→Prop):List Int→Nat→Nat→Prop
  | nil (i:Nat):In p T [] i i
  | term (s:Int) (l:List Int) (i j:Nat):0≤s→ov p i s→In p T l (i+1) j→In p T (s :: l) i j
  | dk (s:Int) (l:List Int) (i k j:Nat):s < 0→T (-1 - s).toNat i k→In p T l k j→In p T (s :: l) i j
theorem In.app {p:List Int} {T:Nat→Nat→Nat→Prop} {a:List Int} {i k:Nat} (h:In p T a i k):∀ {b:List Int} {j:Nat},In p T b k j→In p T (a ++ b) i j:=by
  induction h with
  | nil=>exact fun h=>h
  | term s l i _ h0 hf _ ih=>exact fun hb=>.term s _ i _ h0 hf (ih hb)
  | dk s l i k _ h0 h1 _ ih=>exact fun hb=>.dk s _ i k _ h0 h1 (ih hb)
theorem In.split {p:List Int} {T:Nat→Nat→Nat→Prop} : ∀ {a b:List Int} {i j:Nat},In p T (a ++ b) i j→∃ k,In p T a i k∧In p T b k j
  | [],b,i,j,h=>⟨i,.nil i,h⟩
  | s :: a,b,i,j,h=>by
    cases h with
    | term _ _ _ _ h0 hf h =>
      obtain ⟨k,h1,h2⟩:=In.split h
      exact ⟨k,.term s a i k h0 hf h1,h2⟩
    | dk _ _ _ m _ h0 h1 h =>
      obtain ⟨k,h2,h3⟩:=In.split h
      exact ⟨k,.dk s a i m k h0 h1 h2,h3⟩
theorem In.le {p:List Int} {T:Nat→Nat→Nat→Prop} (hT:∀ n i j,T n i j→i≤j) {l:List Int} {i j:Nat} (h:In p T l i j):i≤j:=by
  induction h with
  | nil=>exact Nat.le_refl _
  | term _ _ _ _ _ _ _ ih=>omega
  | dk _ _ _ _ _ _ h1 _ ih=>have:=hT _ _ _ h1; omega
def stepT (p:List Int) (T:Nat→Nat→Nat→Prop) (s:Int) (i j:Nat):Prop:=if 0≤s then ov p i s∧j=i+1 else T (-1 - s).toNat i j
theorem In.one {p:List Int} {T:Nat→Nat→Nat→Prop} {s:Int} {i j:Nat} : In p T [s] i j↔stepT p T s i j:=by
  unfold stepT
  constructor
  · intro h
    cases h with
    | term _ _ _ _ h0 hf h=>cases h; rw[if_pos h0]; exact ⟨hf,rfl⟩
    | dk _ _ _ _ _ h0 h1 h=>cases h; rw[if_neg (by omega)]; exact h1
  · intro h
    by_cases h0:0≤s
    · rw[if_pos h0] at h
      obtain ⟨hf,rfl⟩:=h
      exact .term s [] i _ h0 hf (.nil _)
    · rw[if_neg h0] at h
      exact .dk s [] i j j (by omega) h (.nil _)
abbrev Tb:=List (List (List Bool))
def Aj (T:Tb) (N M:Nat):Prop:=T.length=N∧∀ r∈T,r.length=M∧∀ c∈r,c.length=M
theorem Aj.row {T:Tb} {N M n:Nat} (h:Aj T N M) (hn:n < N):∃ r,T[n]?=some r∧r.length=M∧T.getD n []=r:=by
  have:n < T.length:=by rw[h.1]; exact hn
  exact ⟨T[n],List.getElem?_eq_getElem this,(h.2 _ (List.getElem_mem _)).1,by simp[List.getD_eq_getElem?_getD,this]⟩
theorem Aj.cell {T:Tb} {N M n i:Nat} (h:Aj T N M) (hn:n < N) (hi:i < M):∃ r c,T[n]?=some r∧r[i]?=some c∧c.length=M∧(T.getD n []).getD i []=c:=by
  obtain ⟨r,hr,hl,hg⟩:=h.row hn
  have h1:i < r.length:=by omega
  refine ⟨r,r[i],hr,List.getElem?_eq_getElem h1,(h.2 r (List.mem_of_getElem? hr)).2 _ (List.getElem_mem _),?_⟩
  rw[hg]; simp[List.getD_eq_getElem?_getD,h1]
def IJ (T:Tb) (n i j:Nat):Tb:=T.set n ((T.getD n []).set i (((T.getD n []).getD i []).set j true))
def Pb (N M:Nat):Tb:=List.replicate N (List.replicate M (List.replicate M false))
def NT (T:Tb):V:=.aL (T.map fun r=>[.aL (r.map fun c=>[cY c])])
structure qL (H:View) (I N M:Nat) (R:Nat→Nat) (C:Nat→Nat→Nat) (T:Tb):Prop where
  top:H I=.arr 1 ((List.range N).map fun n=>[.sl (R n) 0 M 1])
  row:∀ n,n < N→H (R n)=.arr 1 ((List.range M).map fun i=>[.sl (C n i) 0 M 1])
  cell:∀ n i,n < N→i < M→H (C n i)=.arr 1 (eR ((T.getD n []).getD i []))
  inj:∀ n i n' i',n < N→i < M→n' < N→i' < M→C n i=C n' i'→n=n'∧i=i'
theorem Ao {c:List Bool} {k:Nat} {F:Nat→List V} (hc:0 < c.length) (h:eR c=(List.range k).map F) (hF:∀ n x,F n≠[gb x]):False:=by
  cases c with
  | nil=>simp at hc
  | cons x c =>
    cases k with
    | zero=>simp at h
    | succ k =>
      rw[List.range_succ_eq_map] at h
      simp only[List.map_cons,List.cons.injEq] at h
      exact hF 0 x h.1.symm
theorem qL.keep {H H':View} {I N M:Nat} {R:Nat→Nat} {C:Nat→Nat→Nat} {T:Tb} (h:qL H I N M R C T) (hk:∀ id,H id≠.dead→H' id=H id):qL H' I N M R C T :=
  ⟨by rw[hk _ (by rw[h.top]; simp)]; exact h.top,fun n hn=>by rw[hk _ (by rw[h.row n hn]; simp)]; exact h.row n hn,fun n i hn hi=>by rw[hk _ (by rw[h.cell n i hn hi]; simp)]; exact h.cell n i hn hi,h.inj⟩
theorem qL.put {H:View} {I N M:Nat} {R:Nat→Nat} {C:Nat→Nat→Nat} {T:Tb} (h:qL H I N M R C T) (hT:Aj T N M) {n i j:Nat} (hn:n < N) (hi:i < M) (hj:j < M) :
    qL (H.set (C n i) (.arr 1 (eR (((T.getD n []).getD i []).set j true)))) I N M R C (IJ T n i j):=by
  obtain ⟨r,c,hr,hc,hcl,hg⟩:=hT.cell hn hi
  have hcell:=h.cell n i hn hi
  rw[hg] at hcell
  have e1:I≠C n i:=fun e=>by
    have:=h.top
    rw[e,hcell] at this
    simp only[bM.arr.injEq,true_and] at this
    exact Ao (by omega) this fun _ _=>by simp
  have e2:∀ m,m < N→R m≠C n i:=fun m hm e=>by
    have:=h.row m hm
    rw[e,hcell] at this
    simp only[bM.arr.injEq,true_and] at this
    exact Ao (by omega) this fun _ _=>by simp
  refine ⟨by simp only[View.set,if_neg e1]; exact h.top,fun m hm=>by simp only[View.set,if_neg (e2 m hm)]; exact h.row m hm,fun m q hm hq=>?_,h.inj⟩
  obtain ⟨r',hr',hrl,hg'⟩:=hT.row hn
  rw[hr] at hr'; simp at hr'; subst hr'
  have hnl:n < T.length:=by rw[hT.1]; exact hn
  by_cases e:C m q=C n i
  · obtain ⟨rfl,rfl⟩:=h.inj m q n i hm hq hn hi e
    simp only[View.set,if_true]
    congr 2
    rw[IJ]
    simp[List.getD_eq_getElem?_getD,hnl]
    rw[List.getElem?_set]
    have:q < T[m].length:=by
      have:=(List.getElem?_eq_some_iff.1 hr).2
      rw[this,hrl]; exact hq
    simp[this]
  · simp only[View.set,if_neg e]
    rw[h.cell m q hm hq]
    congr 2
    rw[IJ]
    by_cases em:n=m
    · subst em
      have eq:i≠q:=fun e'=>e (by rw[e'])
      simp[List.getD_eq_getElem?_getD,hnl,List.getElem?_set,eq]
    · simp[List.getD_eq_getElem?_getD,List.getElem?_set,em]
theorem qL.Nz {h:aH} {I N M:Nat} {R:Nat→Nat} {C:Nat→Nat→Nat} {T:Tb} (hG:qL h.view I N M R C T) (hT:Aj T N M):cK h (.sl I 0 N 1) (NT T):=by
  refine .sl I 0 N 1 1 _ _ hG.top (by simp) (by simp[hT.1]) (fun n hn=>?_) (fun n j hn hj=>?_)
  · obtain ⟨r,hr,_⟩:=hT.row hn
    simp[List.getD_eq_getElem?_getD,hr,hn]
  · obtain ⟨r,hr,hrl,hrg⟩:=hT.row hn
    have e1:((T.map fun r=>[V.aL (r.map fun c=>[cY c])]).getD n [])=[V.aL (r.map fun c=>[cY c])]:=by simp[List.getD_eq_getElem?_getD,hr]
    have e2:(((List.range N).map fun n=>[V.sl (R n) 0 M 1]).getD (0+n) [])=[V.sl (R n) 0 M 1]:=by simp[List.getD_eq_getElem?_getD,hn]
    rw[e1] at hj ⊢
    rw[e2]
    have:j=0:=by simp at hj; omega
    subst this
    simp only[List.getD_cons_zero]
    refine .sl (R n) 0 M 1 1 _ _ (hG.row n hn) (by simp) (by simp[hrl]) (fun i hi=>?_) (fun i q hi hq=>?_)
    · simp[List.getD_eq_getElem?_getD,hi,show i < r.length by omega]
    · have hic:i < r.length:=by omega
      have f1:((r.map fun c=>[cY c]).getD i [])=[cY r[i]]:=by simp[List.getD_eq_getElem?_getD,hic]
      have f2:(((List.range M).map fun i=>[V.sl (C n i) 0 M 1]).getD (0+i) [])=[V.sl (C n i) 0 M 1]:=by simp[List.getD_eq_getElem?_getD,hi]
      rw[f1] at hq ⊢
      rw[f2]
      have:q=0:=by simp at hq; omega
      subst this
      simp only[List.getD_cons_zero]
      have hcell:=hG.cell n i hn hi
      have e3:(T.getD n []).getD i []=r[i]:=by rw[hrg]; simp[List.getD_eq_getElem?_getD,hic]
      rw[e3] at hcell
      have hcl:=(hT.2 r (List.mem_of_getElem? hr)).2 _ (List.getElem_mem hic)
      have:=sd (h:=h) (id:=C n i) (is:=r[i]) hcell
      rwa [hcl] at this
theorem cK.Px {h:aH} {v t:V} (f:cK h v t):Fr h v t:=by
  induction f with
  | val v=>exact .tree _ (.val v)
  | emp k=>exact .emp k
  | sl id off len esz z es es' hH hle hlen hl _ ih=>exact .sl id off len esz z es es' hH hle hlen hl ih
  | agg cs cs' hl _ ih=>exact .agg cs cs' hl ih
  | bf cs cs' hl _ ih=>exact .bf cs cs' hl ih
theorem qL.Iu {H:View} {I N M:Nat} {R:Nat→Nat} {C:Nat→Nat→Nat} {T:Tb} (hG:qL H I N M R C T) (hT:Aj T N M):ef H (.sl I 0 N 1) (NT T):=by
  rintro h rfl
  exact (hG.Nz hT).Px
structure PN (H:View) (I N M k:Nat) (R:Nat→Nat) (C:Nat→Nat→Nat):Prop where
  top:H I=.arr 1 ((List.range N).map fun n=>[if n < k then .sl (R n) 0 M 1 else .emp 1])
  row:∀ n,n < k→H (R n)=.arr 1 ((List.range M).map fun i=>[.sl (C n i) 0 M 1])
  cell:∀ n i,n < k→i < M→H (C n i)=.arr 1 (List.replicate M [gb false])
  inj:∀ n i n' i',n < k→i < M→n' < k→i' < M→C n i=C n' i'→n=n'∧i=i'
  ne:∀ n,n < k→I≠R n
structure Fj (H:View) (I N M k:Nat) (R:Nat→Nat) (C:Nat→Nat→Nat) (r i:Nat) (D:Nat→Nat):Prop where
  top:H I=.arr 1 ((List.range N).map fun n=>[if n < k then .sl (R n) 0 M 1 else if n=k then .sl r 0 M 1 else .emp 1])
  row:∀ n,n < k→H (R n)=.arr 1 ((List.range M).map fun i=>[.sl (C n i) 0 M 1])
  cell:∀ n i,n < k→i < M→H (C n i)=.arr 1 (List.replicate M [gb false])
  inj:∀ n i n' i',n < k→i < M→n' < k→i' < M→C n i=C n' i'→n=n'∧i=i'
  ne:∀ n,n < k→I≠R n
  PK:H r=.arr 1 ((List.range M).map fun j=>[if j < i then .sl (D j) 0 M 1 else .emp 1])
  Ef:∀ j,j < i→H (D j)=.arr 1 (List.replicate M [gb false])
  OY:∀ j j',j < i→j' < i→D j=D j'→j=j'
  DP:I≠r∧(∀ n,n < k→R n≠r)∧∀ n q j,n < k→q < M→j < i→C n q≠D j
theorem GU {M i:Nat} {F:Nat→List V} {v:List V} : ((List.range M).map F).set i v=(List.range M).map fun j=>if j=i then v else F j:=by
  apply List.ext_getElem (by simp)
  intro j h1 h2
  simp only[List.getElem_set,List.getElem_map,List.getElem_range]
  by_cases e:i=j
  · subst e; simp
  · rw[if_neg e,if_neg (Ne.symm e)]
theorem PN.done {H:View} {I N M:Nat} {R:Nat→Nat} {C:Nat→Nat→Nat} (h:PN H I N M N R C):qL H I N M R C (Pb N M):=by
  refine ⟨?_,h.row,fun n i hn hi=>?_,h.inj⟩
  · rw[h.top]
    congr 1
    apply List.map_congr_left
    intro n hn
    rw[if_pos (by simpa using hn)]
  · rw[h.cell n i hn hi]
    simp[Pb,List.getD_eq_getElem?_getD,hn,hi]
theorem Fj.Qv {H:View} {I N M k:Nat} {R:Nat→Nat} {C:Nat→Nat→Nat} {r:Nat} {D:Nat→Nat} (h:Fj H I N M k R C r M D):PN H I N M (k+1) (fun n=>if n=k then r else R n) (fun n=>if n=k then D else C n):=by
  refine ⟨?_,fun n hn=>?_,fun n i hn hi=>?_,fun n i n' i' hn hi hn' hi' e=>?_,fun n hn=>?_⟩
  · rw[h.top]
    congr 1
    apply List.map_congr_left
    intro n _
    by_cases e1:n < k
    · rw[if_pos e1,if_pos (by omega),if_neg (by omega)]
    · by_cases e2:n=k
      · rw[if_neg e1,if_pos e2,if_pos (by omega),if_pos e2]
      · rw[if_neg e1,if_neg e2,if_neg (by omega)]
  · by_cases e:n=k
    · simp only[if_pos e]
      rw[h.PK]
      congr 1
      apply List.map_congr_left
      intro i hi
      rw[if_pos (by simpa using hi)]
    · simp only[if_neg e]; exact h.row n (by omega)
  · by_cases e:n=k
    · simp only[if_pos e]; exact h.Ef i hi
    · simp only[if_neg e]; exact h.cell n i (by omega) hi
  · by_cases e1:n=k
    · by_cases e2:n'=k
      · simp only[if_pos e1,if_pos e2] at e
        exact ⟨by omega,h.OY i i' hi hi' e⟩
      · simp only[if_pos e1,if_neg e2] at e
        exact absurd e.symm (h.DP.2.2 n' i' i (by omega) hi' hi)
    · by_cases e2:n'=k
      · simp only[if_neg e1,if_pos e2] at e
        exact absurd e (h.DP.2.2 n i i' (by omega) hi hi')
      · simp only[if_neg e1,if_neg e2] at e
        exact h.inj n i n' i' (by omega) hi (by omega) hi' e
  · by_cases e:n=k
    · simp only[if_pos e]; exact h.DP.1
    · simp only[if_neg e]; exact h.ne n (by omega)
theorem Fj.next {H H':View} {I N M k:Nat} {R:Nat→Nat} {C:Nat→Nat→Nat} {r i d:Nat} {D:Nat→Nat} (h:Fj H I N M k R C r i D) (hN:0 < N) (hM:0 < M) (hd:H d=.dead)
    (hr':H' r=.arr 1 (((List.range M).map fun j=>[if j < i then V.sl (D j) 0 M 1 else .emp 1]).set i [.sl d 0 M 1])) (hd':H' d=.arr 1 (List.replicate M [gb false])) (ho:∀ id,H id≠.dead→id≠r→H' id=H id) :
    Fj H' I N M k R C r (i+1) (fun j=>if j=i then d else D j):=by
  have live:∀ id,H id≠.dead→id≠d:=fun id hid e=>by subst e; exact hid hd
  have boolr:∀ id,H id=.arr 1 (List.replicate M [gb false])→id≠r:=fun id hid e=>by
    rw[e,h.PK] at hid
    simp only[bM.arr.injEq,true_and] at hid
    have:=congrArg (·[0]?) hid
    simp[hM] at this
    split at this <;> simp at this
  refine ⟨?_,fun n hn=>?_,fun n q hn hq=>?_,h.inj,h.ne,?_,fun j hj=>?_,fun j j' hj hj' e=>?_,⟨h.DP.1,h.DP.2.1,fun n q j hn hq hj=>?_⟩⟩
  · rw[ho I (by rw[h.top]; simp) h.DP.1]; exact h.top
  · rw[ho _ (by rw[h.row n hn]; simp) (h.DP.2.1 n hn)]; exact h.row n hn
  · have:=h.cell n q hn hq
    rw[ho _ (by rw[this]; simp) (boolr _ this)]; exact this
  · rw[hr',GU]
    congr 1
    apply List.map_congr_left
    intro j _
    by_cases e:j=i
    · rw[if_pos e,if_pos (by omega),if_pos e]
    · rw[if_neg e]
      by_cases e2:j < i
      · rw[if_pos e2,if_pos (by omega),if_neg e]
      · rw[if_neg e2,if_neg (by omega)]
  · by_cases e:j=i
    · simp only[if_pos e]; exact hd'
    · simp only[if_neg e]
      have:=h.Ef j (by omega)
      rw[ho _ (by rw[this]; simp) (boolr _ this)]; exact this
  · by_cases e1:j=i
    · by_cases e2:j'=i
      · omega
      · simp only[if_pos e1,if_neg e2] at e
        exact absurd e.symm (live _ (by rw[h.Ef j' (by omega)]; simp))
    · by_cases e2:j'=i
      · simp only[if_neg e1,if_pos e2] at e
        exact absurd e (live _ (by rw[h.Ef j (by omega)]; simp))
      · simp only[if_neg e1,if_neg e2] at e
        exact h.OY j j' (by omega) (by omega) e
  · by_cases e:j=i
    · simp only[if_pos e]; exact live _ (by rw[h.cell n q hn hq]; simp)
    · simp only[if_neg e]; exact h.DP.2.2 n q j hn hq (by omega)
def yk (g:ay) (w:List Int):Bool:=w.all fun x=>decide (0≤x) && decide (x < g.av.length)
def fQ (g:ay) (w:List Int):Bool:=bB g && decide (w.length≤60) && yk g w
theorem EK (g:ay) (w:List Int):∀ v∈[V.agg (ax g),encI w],Tree v:=by
  intro v hv; simp at hv
  rcases hv with rfl | rfl
  · exact b9 _ (cP g)
  · exact c6 w
def lg:SC :=
  .seq (.seq (aq [aa 14 5,aa 15 1,aA 16 15,aC 17 .lss 14 16]) <|
  .cond (.tmp 17) (.skip) (.exit 0)) <|
  .seq (.block 1 (.seq (.region false [⟨none,[aa 20 1,aa 21 5,aD 22 1 20 21,an 23 22,au 24 .lss 23 0,aa 25 24]⟩,⟨(some (25,false)),[aa 26 1,aa 27 5,aD 28 1 26 27,an 29 28,ao 30 0 2,an 31 30,aA 32 31,aC 33 .geq 29 32]⟩,⟨none,[aS 34 25 33]⟩]) <|
  .cond (.tmp 34) (.seq (aq [aM 4 false]) <|
  .ret) (.skip))) <|
  aq [aa 18 5,au 19 .add 18 1,aa 5 19]
def oL:SF:=⟨.seq (aq [bz 2 0,aM 4 false]) <|
  .seq (.seq (.region false [⟨none,[aF 6 4 2,aJ 7 48 [6],bC 8 7,aa 9 8]⟩,⟨(some (9,false)),[aa 10 1,aA 11 10,au 12 .gtr 11 60]⟩,⟨none,[aS 13 9 12]⟩]) <|
  .cond (.tmp 13) (.seq (aq [aM 4 false]) <|
  .ret) (.skip)) <|
  .seq (.seq (aq [az 5 0]) <|
  .block 0 (.loop lg)) <|
  .seq (aq [aM 4 true]) <|
  .ret,
  [.tmp 4],35⟩
theorem uz:ba Tryz.prog 19 [2]=some oL:=by kernel_rfl
def ue:SF:=⟨.seq (aq [aM 3 false]) <|
  .seq (.region false [⟨none,[aa 4 0,au 5 .lss 4 0,aa 6 5]⟩,⟨(some (6,false)),[aa 7 0,ao 8 0 1,an 9 8,aA 10 9,aC 11 .geq 7 10]⟩,⟨none,[aS 12 6 11,aa 3 12]⟩]) <|
  .ret,
  [.tmp 3],13⟩
theorem zh:ba Tryz.prog 47 []=some ue:=by kernel_rfl
def yI:SF:=⟨.seq (aq [bz 2 0,aM 4 false]) <|
  .seq (.seq (.region false [⟨none,[aF 5 4 2,aJ 6 45 [5],bC 7 6,aa 8 7]⟩,⟨(some (8,false)),[aa 9 1,aA 10 9,au 11 .gtr 10 60]⟩,⟨none,[aS 12 8 11]⟩]) <|
  .cond (.tmp 12) (.seq (aq [aM 4 false]) <|
  .ret) (.skip)) <|
  .seq (aq [aa 13 1,((some 14),.op (.qx 47 [] [(.tmp 2)])),aJ 15 46 [13,14],bC 16 15,aa 4 16]) <|
  .ret,
  [.tmp 4],17⟩
theorem AK:ba Tryz.prog 18 [2]=some yI:=by kernel_rfl
set_option maxHeartbeats 2000000 in
theorem La (g:ay) (hg:g.Ok) (p:List Int) (hp:aR p) (hn:∀ x∈p,bJ x):aI Tryz.prog 19 [.agg (ax g),encI p] (gb (fQ g p)):=by
  refine aI.val (EK g p) fun H=>?_
  refine aG.of mixed uz ?_
  unfold aR at hp
  have hgt:=hg.av
  unfold aR at hgt
  simp (disch:=omega) only [↓wr,↓reduceIte,wq,ah,ag,ak,ab,ae,af,ai,isNil,Nat.reduceEqDiff,Nat.reduceAdd,Nat.reduceLT,Nat.reduceLeDiff,Int.reduceNeg,Int.reduceToNat,reduceCtorEq,oL,ax,encS,encI]
  refine aN.pure (jm g hg) (by kernel_rfl) ?_
  simp (disch:=omega) only [↓wr,↓reduceIte,wq,ah,ag,ak,ab,ae,af,ai,isNil,Nat.reduceEqDiff,Nat.reduceAdd,Nat.reduceLT,Nat.reduceLeDiff,Int.reduceNeg,Int.reduceToNat,reduceCtorEq]
  refine ar.split (fun hr=>?_) (fun hr=>?_)
  · simp (disch:=omega) only [↓wr,↓reduceIte,wq,ah,ag,ak,ab,ae,af,ai,isNil,Nat.reduceEqDiff,Nat.reduceAdd,Nat.reduceLT,Nat.reduceLeDiff,Int.reduceNeg,Int.reduceToNat,reduceCtorEq,encI]
    refine ar.dec (fun h6=>?_) (fun h6=>?_)
    · simp (disch:=omega) only [↓wr,↓reduceIte,wq,ah,ag,ak,ab,ae,af,ai,isNil,Nat.reduceEqDiff,Nat.reduceAdd,Nat.reduceLT,Nat.reduceLeDiff,Int.reduceNeg,Int.reduceToNat,reduceCtorEq]
      rw[fQ,decide_eq_false (show ¬ p.length≤60 by omega)]; simp
    · simp (disch:=omega) only [↓wr,↓reduceIte,wq,ah,ag,ak,ab,ae,af,ai,isNil,Nat.reduceEqDiff,Nat.reduceAdd,Nat.reduceLT,Nat.reduceLeDiff,Int.reduceNeg,Int.reduceToNat,reduceCtorEq,encI]
      refine bp.up p.length (fun i T' H'=>yk g (p.take i)=true∧T' 1=encI p∧T' 2=.aQ (ax g) 0∧T' 5=gi i) ⟨rfl,rfl,rfl,rfl⟩ ?_
      rintro i k T' H' hk ⟨hpt,t1,t2,t6⟩
      simp (disch:=omega) only [↓wr,↓reduceIte,wq,ah,ag,ak,ab,ae,af,ai,isNil,Nat.reduceEqDiff,Nat.reduceAdd,Nat.reduceLT,Nat.reduceLeDiff,Int.reduceNeg,Int.reduceToNat,reduceCtorEq,lg,t1,t2,t6,encI]
      refine ar.dec (fun hc=>?_) (fun hc=>?_)
      · have hg1:p[i]?=some (p[i]'(by omega)):=List.getElem?_eq_getElem (by omega)
        have hmem:p[i]'(by omega)∈p:=List.getElem_mem _
        have htk:p.take (i+1)=p.take i ++ [p[i]'(by omega)]:=by rw[List.take_add_one,hg1]; rfl
        generalize p[i]'(by omega)=x at hg1 hmem htk
        have hpn:yk g (p.take (i+1))=(decide (0≤x) && decide (x < g.av.length)):=by
          unfold yk at hpt ⊢
          rw[htk,List.all_append,hpt]; simp
        have hbx:(decide (0≤x) && decide (x < g.av.length))=false→fQ g p=false:=fun e=>by
          have:yk g p=false:=by
            unfold yk
            rw[List.all_eq_false]
            exact ⟨x,hmem,by rw[e]; simp⟩
          rw[fQ,this,Bool.and_false]
        simp (disch:=omega) only [↓wr,↓reduceIte,wq,ah,ag,ak,ab,ae,af,ai,isNil,Nat.reduceEqDiff,Nat.reduceAdd,Nat.reduceLT,Nat.reduceLeDiff,Int.reduceNeg,Int.reduceToNat,reduceCtorEq,t1,t2,t6,encI,ax,encS,List.getElem?_map,hg1]
        refine ar.dec (fun h1=>?_) (fun h1=>?_)
        · simp (disch:=omega) only [↓wr,↓reduceIte,wq,ah,ag,ak,ab,ae,af,ai,isNil,Nat.reduceEqDiff,Nat.reduceAdd,Nat.reduceLT,Nat.reduceLeDiff,Int.reduceNeg,Int.reduceToNat,reduceCtorEq,t1,t2,t6]
          rw[hbx (by rw[decide_eq_false (by omega)]; rfl)]
        · simp (disch:=omega) only [↓wr,↓reduceIte,wq,ah,ag,ak,ab,ae,af,ai,isNil,Nat.reduceEqDiff,Nat.reduceAdd,Nat.reduceLT,Nat.reduceLeDiff,Int.reduceNeg,Int.reduceToNat,reduceCtorEq,t1,t2,t6,encI,ax,encS,List.getElem?_map,hg1]
          refine ar.dec (fun h2=>?_) (fun h2=>?_)
          · simp (disch:=omega) only [↓wr,↓reduceIte,wq,ah,ag,ak,ab,ae,af,ai,isNil,Nat.reduceEqDiff,Nat.reduceAdd,Nat.reduceLT,Nat.reduceLeDiff,Int.reduceNeg,Int.reduceToNat,reduceCtorEq,t1,t2,t6]
            rw[hbx (by rw[decide_eq_false (show ¬ x < (g.av.length:Int) by omega),Bool.and_false])]
          · simp (disch:=omega) only [↓wr,↓reduceIte,wq,ah,ag,ak,ab,ae,af,ai,isNil,Nat.reduceEqDiff,Nat.reduceAdd,Nat.reduceLT,Nat.reduceLeDiff,Int.reduceNeg,Int.reduceToNat,reduceCtorEq,t1,t2,t6]
            exact br hk (by omega) ⟨by rw[hpn,decide_eq_true (by omega),decide_eq_true (by omega)]; rfl,t1,t2,rfl⟩
      · rw[List.take_of_length_le (by omega)] at hpt
        simp (disch:=omega) only [↓wr,↓reduceIte,wq,ah,ag,ak,ab,ae,af,ai,isNil,Nat.reduceEqDiff,Nat.reduceAdd,Nat.reduceLT,Nat.reduceLeDiff,Int.reduceNeg,Int.reduceToNat,reduceCtorEq,t1,t2,t6]
        rw[fQ,hr,hpt,decide_eq_true (by omega)]; rfl
  · simp (disch:=omega) only [↓wr,↓reduceIte,wq,ah,ag,ak,ab,ae,af,ai,isNil,Nat.reduceEqDiff,Nat.reduceAdd,Nat.reduceLT,Nat.reduceLeDiff,Int.reduceNeg,Int.reduceToNat,reduceCtorEq]
    rw[fQ,hr]; rfl
theorem LO (g:ay) (hg:g.Ok) (x:Int) (hx:bJ x):aI Tryz.prog 47 [gi x,.aQ (ax g) 0] (gb (!(decide (0≤x) && decide (x < g.av.length)))):=by
  have hgt:=hg.av
  unfold aR at hgt
  refine aI.val (by
    intro v hv; simp at hv
    rcases hv with rfl | rfl
    · exact .val _
    · exact gN (cP g)) fun H=>?_
  refine aG.of mixed zh ?_
  simp (disch:=omega) only [↓wr,↓reduceIte,wq,ah,ag,ak,ab,ae,af,ai,isNil,Nat.reduceEqDiff,Nat.reduceAdd,Nat.reduceLT,Nat.reduceLeDiff,Int.reduceNeg,Int.reduceToNat,reduceCtorEq,ue,ax,encS]
  refine ar.dec (fun h1=>?_) (fun h1=>?_)
  · simp (disch:=omega) only [↓wr,↓reduceIte,wq,ah,ag,ak,ab,ae,af,ai,isNil,Nat.reduceEqDiff,Nat.reduceAdd,Nat.reduceLT,Nat.reduceLeDiff,Int.reduceNeg,Int.reduceToNat,reduceCtorEq]
    rw[decide_eq_false (show ¬ 0≤x by omega)]; rfl
  · simp (disch:=omega) only [↓wr,↓reduceIte,wq,ah,ag,ak,ab,ae,af,ai,isNil,Nat.reduceEqDiff,Nat.reduceAdd,Nat.reduceLT,Nat.reduceLeDiff,Int.reduceNeg,Int.reduceToNat,reduceCtorEq,ax,encS]
    rw[decide_eq_true (show 0≤x by omega)]
    rw[Bool.true_and,← decide_not]; congr 2; exact decide_eq_decide.2 ⟨fun h=>Int.not_lt.2 h,fun h=>Int.not_lt.1 h⟩
set_option maxHeartbeats 2000000 in
theorem AF (g:ay) (hg:g.Ok) (hs:g.Small) (w:List Int) (hw:aR w) (hn:∀ x∈w,bJ x):aI Tryz.prog 18 [.agg (ax g),encI w] (gb (fQ g w)):=by
  refine aI.val (EK g w) fun H=>?_
  have hcf:=kj w hw 47 [.aQ (ax g) 0] (by intro v hv; simp at hv; subst hv; exact gN (cP g)) (fun x=>!(decide (0≤x) && decide (x < g.av.length))) (fun x hx=>LO g hg x (hn x hx)) (by kernel_rfl)
  refine aG.of mixed AK ?_
  unfold aR at hw
  simp (disch:=omega) only [↓wr,↓reduceIte,wq,ah,ag,ak,ab,ae,af,ai,isNil,Nat.reduceEqDiff,Nat.reduceAdd,Nat.reduceLT,Nat.reduceLeDiff,Int.reduceNeg,Int.reduceToNat,reduceCtorEq,yI,ax,encS]
  refine aN.pure (DH g hg hs.names) (by kernel_rfl) ?_
  simp only[ax,encS] at hcf
  simp (disch:=omega) only [↓wr,↓reduceIte,wq,ah,ag,ak,ab,ae,af,ai,isNil,Nat.reduceEqDiff,Nat.reduceAdd,Nat.reduceLT,Nat.reduceLeDiff,Int.reduceNeg,Int.reduceToNat,reduceCtorEq]
  refine ar.split (fun hr=>?_) (fun hr=>?_)
  · simp (disch:=omega) only [↓wr,↓reduceIte,wq,ah,ag,ak,ab,ae,af,ai,isNil,Nat.reduceEqDiff,Nat.reduceAdd,Nat.reduceLT,Nat.reduceLeDiff,Int.reduceNeg,Int.reduceToNat,reduceCtorEq,encI]
    refine ar.dec (fun h6=>?_) (fun h6=>?_)
    · simp (disch:=omega) only [↓wr,↓reduceIte,wq,ah,ag,ak,ab,ae,af,ai,isNil,Nat.reduceEqDiff,Nat.reduceAdd,Nat.reduceLT,Nat.reduceLeDiff,Int.reduceNeg,Int.reduceToNat,reduceCtorEq]
      rw[fQ,decide_eq_false (show ¬ w.length≤60 by omega)]; simp
    · simp (disch:=omega) only [↓wr,↓reduceIte,wq,ah,ag,ak,ab,ae,af,ai,isNil,Nat.reduceEqDiff,Nat.reduceAdd,Nat.reduceLT,Nat.reduceLeDiff,Int.reduceNeg,Int.reduceToNat,reduceCtorEq]
      refine aN.pure hcf (by kernel_rfl) ?_
      simp (disch:=omega) only [↓wr,↓reduceIte,wq,ah,ag,ak,ab,ae,af,ai,isNil,Nat.reduceEqDiff,Nat.reduceAdd,Nat.reduceLT,Nat.reduceLeDiff,Int.reduceNeg,Int.reduceToNat,reduceCtorEq]
      rw[fQ,hr,decide_eq_true (show w.length≤60 by omega),← List.not_all_eq_any_not,Bool.not_not]; rfl
  · simp (disch:=omega) only [↓wr,↓reduceIte,wq,ah,ag,ak,ab,ae,af,ai,isNil,Nat.reduceEqDiff,Nat.reduceAdd,Nat.reduceLT,Nat.reduceLeDiff,Int.reduceNeg,Int.reduceToNat,reduceCtorEq]
    rw[fQ,hr]; rfl
def bo (c:Cell):List V:=[gi c.kind,gi c.n]
abbrev qY (l:List Cell):V:=.aL (l.map bo)
def aW (t:dJ):List V:=[.aL (t.aK.map fun r=>[qY r]),.aL (t.gotos.map fun r=>[encI r])]
theorem qZ (c:Cell):∀ v∈bo c,Tree v:=by
  intro v hv; simp[bo] at hv; rcases hv with rfl | rfl <;> exact .val _
theorem GC (l:List Cell):Tree (qY l):=dg _ _ fun c _ v hv=>qZ c v hv
theorem nE (t:dJ):∀ v∈aW t,Tree v:=by
  intro v hv
  simp only[aW,List.mem_cons,List.not_mem_nil,or_false] at hv
  rcases hv with rfl | rfl
  · exact dg _ _ fun r _ v hv=>by simp at hv; subst hv; exact GC r
  · exact dg _ _ fun r _ v hv=>by simp at hv; subst hv; exact c6 r
structure dJ.Ok (t:dJ):Prop where
  aK:aR t.aK
  gotos:aR t.gotos
  row:∀ r∈t.aK,aR r∧∀ c∈r,bJ c.kind∧bJ c.n
  go:∀ r∈t.gotos,aR r∧∀ x∈r,bJ x
def oC:SF:=⟨.seq (aq [bz 3 0,bz 4 1,bz 5 2,aM 6 false]) <|
  .seq (.seq (aq [ao 7 0 5,an 8 7]) <|
  .block 0 (.seq (.seq (aq [au 10 .eql 8 0,aa 9 10]) <|
  .cond (.tmp 9) (.skip) (aq [au 11 .eql 8 3,aa 9 11])) <|
  .cond (.tmp 9) (.seq (aq [ao 12 1 5,an 13 12,au 14 .eql 13 0,aa 6 14]) <|
  .ret) (.seq (aq [au 16 .eql 8 1,aa 15 16]) <|
  .cond (.tmp 15) (.seq (.region false [⟨none,[ao 17 1 5,an 18 17,au 19 .geq 18 0,aa 20 19]⟩,⟨(some (20,true)),[ao 21 1 5,an 22 21,ao 23 0 4,an 24 23,aA 25 24,aC 26 .lss 22 25]⟩,⟨none,[bq 27 20 26,aa 6 27]⟩]) <|
  .ret) (.seq (aq [au 29 .eql 8 2,aa 28 29]) <|
  .cond (.tmp 28) (.seq (.region false [⟨none,[ao 30 1 5,an 31 30,au 32 .geq 31 0,aa 33 32]⟩,⟨(some (33,true)),[ao 34 1 5,an 35 34,ao 36 2 3,an 37 36,aA 38 37,aC 39 .lss 35 38]⟩,⟨none,[bq 40 33 39,aa 6 40]⟩]) <|
  .ret) (.skip))))) <|
  .seq (aq [aM 6 false]) <|
  .ret,
  [.tmp 6],41⟩
theorem tE:ba Tryz.prog 79 [3,4,5]=some oC:=by kernel_rfl
def kF:SC :=
  .seq (.seq (aq [aa 62 6,ao 63 0 3,an 64 63,aa 65 5,aD 66 1 64 65,an 67 66,aA 68 67,aC 69 .lss 62 68]) <|
  .cond (.tmp 69) (.skip) (.exit 2)) <|
  .seq (.block 3 (.seq (aq [aF 72 4 2,aF 73 2 3,ao 74 0 3,an 75 74,aa 76 5,aD 77 1 75 76,an 78 77,aa 79 6,aD 80 2 78 79,aF 81 2 80,aJ 82 79 [72,73,81],bC 83 82]) <|
  .cond (.tmp 83) (.seq (aq [aM 4 false]) <|
  .ret) (.skip))) <|
  aq [aa 70 6,au 71 .add 70 1,aa 6 71]
def k5:SC :=
  .seq (.seq (aq [aa 84 7,ao 85 1 3,an 86 85,aa 87 5,aD 88 1 86 87,an 89 88,aA 90 89,aC 91 .lss 84 90]) <|
  .cond (.tmp 91) (.skip) (.exit 4)) <|
  .seq (.block 5 (.seq (.region false [⟨none,[ao 94 1 3,an 95 94,aa 96 5,aD 97 1 95 96,an 98 97,aa 99 7,aD 100 1 98 99,an 101 100,au 102 .lss 101 (-1),aa 103 102]⟩,⟨(some (103,false)),[ao 104 1 3,an 105 104,aa 106 5,aD 107 1 105 106,an 108 107,aa 109 7,aD 110 1 108 109,an 111 110,ao 112 0 3,an 113 112,aA 114 113,aC 115 .geq 111 114]⟩,⟨none,[aS 116 103 115]⟩]) <|
  .cond (.tmp 116) (.seq (aq [aM 4 false]) <|
  .ret) (.skip))) <|
  aq [aa 92 7,au 93 .add 92 1,aa 7 93]
def ks:SC :=
  .seq (.seq (aq [aa 32 5,ao 33 0 3,an 34 33,aA 35 34,aC 36 .lss 32 35]) <|
  .cond (.tmp 36) (.skip) (.exit 0)) <|
  .seq (.block 1 (.seq (.seq (.region false [⟨none,[ao 39 0 3,an 40 39,aa 41 5,aD 42 1 40 41,an 43 42,aA 44 43,ao 45 0 2,an 46 45,aA 47 46,au 48 .add 47 1,aC 49 .neq 44 48,aa 50 49]⟩,⟨(some (50,false)),[ao 51 1 3,an 52 51,aa 53 5,aD 54 1 52 53,an 55 54,aA 56 55,ao 57 1 2,an 58 57,aA 59 58,aC 60 .neq 56 59]⟩,⟨none,[aS 61 50 60]⟩]) <|
  .cond (.tmp 61) (.seq (aq [aM 4 false]) <|
  .ret) (.skip)) <|
  .seq (.seq (aq [az 6 0]) <|
  .block 2 (.loop kF)) <|
  .seq (aq [az 7 0]) <|
  .block 4 (.loop k5))) <|
  aq [aa 37 5,au 38 .add 37 1,aa 5 38]
def mo:SF:=⟨.seq (aq [bz 2 0,bz 3 1,aM 4 false]) <|
  .seq (.seq (.region false [⟨none,[aF 8 4 2,aJ 9 48 [8],bC 10 9,aa 11 10]⟩,⟨(some (11,false)),[ao 12 0 3,an 13 12,aA 14 13,au 15 .lss 14 1]⟩,⟨none,[aS 16 11 15,aa 17 16]⟩,⟨(some (17,false)),[ao 18 0 3,an 19 18,aA 20 19,au 21 .gtr 20 300]⟩,⟨none,[aS 22 17 21,aa 23 22]⟩,⟨(some (23,false)),[ao 24 1 3,an 25 24,aA 26 25,ao 27 0 3,an 28 27,aA 29 28,aC 30 .neq 26 29]⟩,⟨none,[aS 31 23 30]⟩]) <|
  .cond (.tmp 31) (.seq (aq [aM 4 false]) <|
  .ret) (.skip)) <|
  .seq (.seq (aq [az 5 0]) <|
  .block 0 (.loop ks)) <|
  .seq (aq [aM 4 true]) <|
  .ret,
  [.tmp 4],117⟩
theorem sO:ba Tryz.prog 44 [2,3]=some mo:=by kernel_rfl
def xU:SF:=⟨.seq (aq [bz 3 0,aM 6 false]) <|
  .seq (aq [az 7 1]) <|
  .seq (.seq (aq [ao 8 0 3,an 9 8]) <|
  .block 0 (.seq (.seq (aq [au 11 .eql 9 0,aa 10 11]) <|
  .cond (.tmp 10) (.skip) (aq [au 12 .eql 9 3,aa 10 12])) <|
  .cond (.tmp 10) (.skip) (.seq (aq [au 14 .eql 9 1,aa 13 14]) <|
  .cond (.tmp 13) (aq [aa 15 1,aa 7 15]) (.seq (aq [au 17 .eql 9 2,aa 16 17]) <|
  .cond (.tmp 16) (aq [aa 18 2,aa 7 18]) (.seq (aq [aM 6 false]) <|
  .ret))))) <|
  .seq (.region false [⟨none,[ao 19 1 3,an 20 19,au 21 .geq 20 0,aa 22 21]⟩,⟨(some (22,true)),[ao 23 1 3,an 24 23,aa 25 7,aC 26 .lss 24 25]⟩,⟨none,[bq 27 22 26,aa 6 27]⟩]) <|
  .ret,
  [.tmp 6],28⟩
theorem AQ:ba Tryz.prog 74 [3]=some xU:=by kernel_rfl
def sk:SF:=⟨.seq (aq [bz 3 0,aM 4 false]) <|
  .seq (aq [aF 5 2 3,an 6 1,ao 7 2 2,an 8 7,aA 9 8,aJ 10 74 [5,6,9],bC 11 10,aa 4 11]) <|
  .ret,
  [.tmp 4],12⟩
theorem yj:ba Tryz.prog 73 [3]=some sk:=by kernel_rfl
def rV:SF:=⟨.seq (aq [aM 3 false]) <|
  .seq (.region false [⟨none,[aa 4 0,au 5 .lss 4 (-1),aa 6 5]⟩,⟨(some (6,false)),[aa 7 0,an 8 1,aC 9 .geq 7 8]⟩,⟨none,[aS 10 6 9,aa 3 10]⟩]) <|
  .ret,
  [.tmp 3],11⟩
theorem yL:ba Tryz.prog 75 []=some rV:=by kernel_rfl
def rY:SC :=
  .seq (aq [aC 33 .lss 32 31]) <|
  .seq (.cond (.tmp 33) (.skip) (.exit 0)) <|
  .seq (.block 1 (.seq (aq [aa 34 32,aD 35 1 30 32,an 36 35,aa 6 34,aa 7 36]) <|
  .seq (.seq (.region false [⟨none,[aa 37 7,aA 38 37,ao 39 0 2,an 40 39,aA 41 40,au 42 .add 41 1,aC 43 .neq 38 42,aa 44 43]⟩,⟨(some (44,false)),[ao 45 1 3,an 46 45,aa 47 6,aD 48 1 46 47,an 49 48,aA 50 49,ao 51 1 2,an 52 51,aA 53 52,aC 54 .neq 50 53]⟩,⟨none,[aS 55 44 54]⟩]) <|
  .cond (.tmp 55) (.seq (aq [aM 4 false]) <|
  .ret) (.skip)) <|
  .seq (.seq (aq [aa 56 7,((some 57),.op (.qx 73 [] [(.tmp 5),(.tmp 2)])),aJ 58 72 [56,57]]) <|
  .cond (.tmp 58) (.seq (aq [aM 4 false]) <|
  .ret) (.skip)) <|
  .seq (aq [ao 59 1 3,an 60 59,aa 61 6,aD 62 1 60 61,an 63 62,((some 64),.op (.qx 75 [] [(.tmp 5)])),aJ 65 46 [63,64]]) <|
  .cond (.tmp 65) (.seq (aq [aM 4 false]) <|
  .ret) (.skip))) <|
  aq [au 66 .add 32 1,aa 32 66]
def wN:SF:=⟨.seq (aq [bz 2 0,bz 3 1,aM 4 false]) <|
  .seq (aq [ao 8 0 3,an 9 8,aA 10 9,((some 5),.op (.alloc [(.val (.int .i64 0))])),(none,.op (.store 1 (.tmp 5) (.tmp 10)))]) <|
  .seq (.seq (.region false [⟨none,[aF 11 4 2,aJ 12 45 [11],bC 13 12,aa 14 13]⟩,⟨(some (14,false)),[an 15 5,au 16 .lss 15 1]⟩,⟨none,[aS 17 14 16,aa 18 17]⟩,⟨(some (18,false)),[an 19 5,au 20 .gtr 19 300]⟩,⟨none,[aS 21 18 20,aa 22 21]⟩,⟨(some (22,false)),[ao 23 1 3,an 24 23,aA 25 24,an 26 5,aC 27 .neq 25 26]⟩,⟨none,[aS 28 22 27]⟩]) <|
  .cond (.tmp 28) (.seq (aq [aM 4 false]) <|
  .ret) (.skip)) <|
  .seq (.seq (aq [ao 29 0 3,an 30 29,aA 31 30,az 32 0]) <|
  .block 0 (.loop rY)) <|
  .seq (aq [aM 4 true]) <|
  .ret,
  [.tmp 4],67⟩
theorem zX:ba Tryz.prog 42 [2,3]=some wN:=by kernel_rfl
theorem LW (g:ay) (t:dJ) (c:Cell):aI Tryz.prog 79 [.agg (ax g),.agg (aW t),.agg (bo c)] (gb (j8 g t.aK.length c)):=by
  refine aI.val (by
    intro v hv; simp at hv
    rcases hv with rfl | rfl | rfl
    · exact b9 _ (cP g)
    · exact b9 _ (nE t)
    · exact b9 _ (qZ c)) fun H=>?_
  refine aG.of mixed tE ?_
  unfold j8
  simp (disch:=omega) only [↓wr,↓reduceIte,wq,ah,ag,ak,ab,ae,af,ai,isNil,Nat.reduceEqDiff,Nat.reduceAdd,Nat.reduceLT,Nat.reduceLeDiff,Int.reduceNeg,Int.reduceToNat,reduceCtorEq,oC,bo,aW,ax,encS]
  repeat' (first | (refine ar.dec (fun _=>?_) (fun _=>?_)) | (refine ar.eq (fun _=>?_) (fun _=>?_)) | (refine ar.ne (fun _=>?_) (fun _=>?_)) | (refine ar.split (fun _=>?_) (fun _=>?_)) | (simp (disch:=omega) only [↓wr,↓reduceIte,wq,ah,ag,ak,ab,ae,af,ai,isNil,Nat.reduceEqDiff,Nat.reduceAdd,Nat.reduceLT,Nat.reduceLeDiff,Int.reduceNeg,Int.reduceToNat,reduceCtorEq,bo,aW,ax,encS]))
  all_goals simp_all
  all_goals first
    | omega
    | rfl
theorem Mh (c:Cell) (a b:Int):aI Tryz.prog 74 [.agg (bo c),gi a,gi b] (gb (if c.kind=0∨c.kind=3 then decide (c.n=0) else if c.kind=1 then decide (0≤c.n) && decide (c.n < a) else if c.kind=2 then decide (0≤c.n) && decide (c.n < b) else false)):=by
  refine aI.val (by
    intro v hv; simp at hv
    rcases hv with rfl | rfl | rfl
    · exact b9 _ (qZ c)
    · exact .val _
    · exact .val _) fun H=>?_
  refine aG.of mixed AQ ?_
  simp (disch:=omega) only [↓wr,↓reduceIte,wq,ah,ag,ak,ab,ae,af,ai,isNil,Nat.reduceEqDiff,Nat.reduceAdd,Nat.reduceLT,Nat.reduceLeDiff,Int.reduceNeg,Int.reduceToNat,reduceCtorEq,xU,bo]
  repeat' (first | (refine ar.dec (fun _=>?_) (fun _=>?_)) | (refine ar.eq (fun _=>?_) (fun _=>?_)) | (refine ar.ne (fun _=>?_) (fun _=>?_)) | (refine ar.split (fun _=>?_) (fun _=>?_)) | (simp (disch:=omega) only [↓wr,↓reduceIte,wq,ah,ag,ak,ab,ae,af,ai,isNil,Nat.reduceEqDiff,Nat.reduceAdd,Nat.reduceLT,Nat.reduceLeDiff,Int.reduceNeg,Int.reduceToNat,reduceCtorEq,bo]))
  all_goals simp_all
  all_goals omega
theorem Bn {g:ay} {t:dJ} {i:Nat} (hi:i < t.aK.length) (h:wu g t.aK.length (t.aK.getD i []) (t.gotos.getD i [])=false):fh g t=false:=by
  rw[Bool.eq_false_iff]
  intro hr
  have:=(tq hr).row i hi
  rw[h] at this; simp at this
theorem H0 (g:ay) (t:dJ):∀ v∈[V.agg (ax g),.agg (aW t)],Tree v:=by
  intro v hv; simp at hv
  rcases hv with rfl | rfl
  · exact b9 _ (cP g)
  · exact b9 _ (nE t)
set_option maxHeartbeats 8000000 in
theorem Ji (g:ay) (hg:g.Ok) (t:dJ) (ht:t.Ok):aI Tryz.prog 44 [.agg (ax g),.agg (aW t)] (gb (fh g t)):=by
  refine aI.val (H0 g t) fun H=>?_
  have hc:=jm g hg
  have h1:=ht.aK
  have h2:=ht.gotos
  have h3:=hg.av
  have h4:=hg.aw
  unfold aR at h1 h2 h3 h4
  refine aG.of mixed sO ?_
  simp only[ax,encS] at hc
  simp (disch:=omega) only [↓wr,↓reduceIte,wq,ah,ag,ak,ab,ae,af,ai,isNil,Nat.reduceEqDiff,Nat.reduceAdd,Nat.reduceLT,Nat.reduceLeDiff,Int.reduceNeg,Int.reduceToNat,reduceCtorEq,mo,ax,encS,aW]
  refine aN.pure hc (by kernel_rfl) ?_
  have hno:(bB g && decide (1≤t.aK.length) && decide (t.aK.length≤300) && decide (t.gotos.length=t.aK.length))=false→fh g t=false:=fun h=>by unfold fh; rw[h]; rfl
  simp (disch:=omega) only [↓wr,↓reduceIte,wq,ah,ag,ak,ab,ae,af,ai,isNil,Nat.reduceEqDiff,Nat.reduceAdd,Nat.reduceLT,Nat.reduceLeDiff,Int.reduceNeg,Int.reduceToNat,reduceCtorEq]
  refine ar.split (fun hr=>?_) (fun hr=>?_)
  rotate_left
  · simp (disch:=omega) only [↓wr,↓reduceIte,wq,ah,ag,ak,ab,ae,af,ai,isNil,Nat.reduceEqDiff,Nat.reduceAdd,Nat.reduceLT,Nat.reduceLeDiff,Int.reduceNeg,Int.reduceToNat,reduceCtorEq]
    rw[hno (by rw[hr]; rfl)]
  simp (disch:=omega) only [↓wr,↓reduceIte,wq,ah,ag,ak,ab,ae,af,ai,isNil,Nat.reduceEqDiff,Nat.reduceAdd,Nat.reduceLT,Nat.reduceLeDiff,Int.reduceNeg,Int.reduceToNat,reduceCtorEq,aW]
  refine ar.dec (fun c1=>?_) (fun c1=>?_)
  · simp (disch:=omega) only [↓wr,↓reduceIte,wq,ah,ag,ak,ab,ae,af,ai,isNil,Nat.reduceEqDiff,Nat.reduceAdd,Nat.reduceLT,Nat.reduceLeDiff,Int.reduceNeg,Int.reduceToNat,reduceCtorEq]
    rw[hno (by rw[hr]; simp; omega)]
  simp (disch:=omega) only [↓wr,↓reduceIte,wq,ah,ag,ak,ab,ae,af,ai,isNil,Nat.reduceEqDiff,Nat.reduceAdd,Nat.reduceLT,Nat.reduceLeDiff,Int.reduceNeg,Int.reduceToNat,reduceCtorEq,aW]
  refine ar.dec (fun c2=>?_) (fun c2=>?_)
  · simp (disch:=omega) only [↓wr,↓reduceIte,wq,ah,ag,ak,ab,ae,af,ai,isNil,Nat.reduceEqDiff,Nat.reduceAdd,Nat.reduceLT,Nat.reduceLeDiff,Int.reduceNeg,Int.reduceToNat,reduceCtorEq]
    rw[hno (by rw[hr]; simp; omega)]
  simp (disch:=omega) only [↓wr,↓reduceIte,wq,ah,ag,ak,ab,ae,af,ai,isNil,Nat.reduceEqDiff,Nat.reduceAdd,Nat.reduceLT,Nat.reduceLeDiff,Int.reduceNeg,Int.reduceToNat,reduceCtorEq,aW]
  refine ar.ne (fun c3=>?_) (fun c3=>?_)
  · simp (disch:=omega) only [↓wr,↓reduceIte,wq,ah,ag,ak,ab,ae,af,ai,isNil,Nat.reduceEqDiff,Nat.reduceAdd,Nat.reduceLT,Nat.reduceLeDiff,Int.reduceNeg,Int.reduceToNat,reduceCtorEq]
    rw[hno (by rw[hr]; simp; omega)]
  simp (disch:=omega) only [↓wr,↓reduceIte,wq,ah,ag,ak,ab,ae,af,ai,isNil,Nat.reduceEqDiff,Nat.reduceAdd,Nat.reduceLT,Nat.reduceLeDiff,Int.reduceNeg,Int.reduceToNat,reduceCtorEq]
  have hf:=bI hr
  refine bp.up t.aK.length (fun i T H'=>(∀ k,k < i→wu g t.aK.length (t.aK.getD k []) (t.gotos.getD k [])=true)∧T 2=.aQ (ax g) 0∧T 3=.aQ (aW t) 0∧T 5=gi i) ⟨fun k hk=>by omega,rfl,rfl,rfl⟩ ?_
  rintro i k T H' hk ⟨hall,t2,t3,t5⟩
  simp (disch:=omega) only [↓wr,↓reduceIte,wq,ah,ag,ak,ab,ae,af,ai,isNil,Nat.reduceEqDiff,Nat.reduceAdd,Nat.reduceLT,Nat.reduceLeDiff,Int.reduceNeg,Int.reduceToNat,reduceCtorEq,ks,t2,t3,t5,aW]
  refine ar.dec (fun hd=>?_) (fun hd=>?_)
  rotate_left
  · simp (disch:=omega) only [↓wr,↓reduceIte,wq,ah,ag,ak,ab,ae,af,ai,isNil,Nat.reduceEqDiff,Nat.reduceAdd,Nat.reduceLT,Nat.reduceLeDiff,Int.reduceNeg,Int.reduceToNat,reduceCtorEq]
    rw[show fh g t=true from by
      unfold fh
      rw[hr]
      simp only[Bool.and_eq_true,decide_eq_true_eq,List.all_eq_true,List.mem_range,Bool.true_and]
      exact ⟨⟨⟨by omega,by omega⟩,by omega⟩,fun k hk=>hall k (by omega)⟩]
  have hi:i < t.aK.length:=by omega
  have ha:t.aK[i]?=some (t.aK.getD i []):=getD_some hi
  have hl:t.gotos[i]?=some (t.gotos.getD i []):=getD_some (by omega)
  have ra:=ht.row _ (List.mem_of_getElem? ha)
  have rl:=ht.go _ (List.mem_of_getElem? hl)
  have hrow:=@Bn g t i hi
  generalize ea:t.aK.getD i []=a at ha ra hrow
  generalize el:t.gotos.getD i []=l at hl rl hrow
  have hrs:wu g t.aK.length a l=(decide (a.length=g.av.length+1) && decide (l.length=g.aw.length) && a.all (j8 g t.aK.length) && l.all fun x=>decide (-1≤x) && decide (x < t.aK.length)):=rfl
  obtain ⟨sa,ra⟩:=ra
  obtain ⟨sl,rl⟩:=rl
  unfold aR at sa sl
  simp (disch:=omega) only [↓wr,↓reduceIte,wq,ah,ag,ak,ab,ae,af,ai,isNil,Nat.reduceEqDiff,Nat.reduceAdd,Nat.reduceLT,Nat.reduceLeDiff,Int.reduceNeg,Int.reduceToNat,reduceCtorEq,t2,t3,t5,aW,ax,encS,List.getElem?_map,ha,hl,Option.map_some]
  refine ar.ne (fun d1=>?_) (fun d1=>?_)
  · simp (disch:=omega) only [↓wr,↓reduceIte,wq,ah,ag,ak,ab,ae,af,ai,isNil,Nat.reduceEqDiff,Nat.reduceAdd,Nat.reduceLT,Nat.reduceLeDiff,Int.reduceNeg,Int.reduceToNat,reduceCtorEq]
    rw[hrow (by rw[hrs]; simp; omega)]
  simp (disch:=omega) only [↓wr,↓reduceIte,wq,ah,ag,ak,ab,ae,af,ai,isNil,Nat.reduceEqDiff,Nat.reduceAdd,Nat.reduceLT,Nat.reduceLeDiff,Int.reduceNeg,Int.reduceToNat,reduceCtorEq,t2,t3,t5,aW,ax,encS,encI,List.getElem?_map,ha,hl,Option.map_some]
  refine ar.ne (fun d2=>?_) (fun d2=>?_)
  · simp (disch:=omega) only [↓wr,↓reduceIte,wq,ah,ag,ak,ab,ae,af,ai,isNil,Nat.reduceEqDiff,Nat.reduceAdd,Nat.reduceLT,Nat.reduceLeDiff,Int.reduceNeg,Int.reduceToNat,reduceCtorEq]
    rw[hrow (by rw[hrs]; simp; omega)]
  simp (disch:=omega) only [↓wr,↓reduceIte,wq,ah,ag,ak,ab,ae,af,ai,isNil,Nat.reduceEqDiff,Nat.reduceAdd,Nat.reduceLT,Nat.reduceLeDiff,Int.reduceNeg,Int.reduceToNat,reduceCtorEq,t2,t3,t5]
  refine bp.up a.length (fun j T H'=>(∀ k,k < j→j8 g t.aK.length (a.getD k ⟨0,0⟩)=true)∧T 2=.aQ (ax g) 0∧T 3=.aQ (aW t) 0∧T 5=gi i∧T 6=gi j) ⟨fun k hk=>by omega,t2,t3,t5,rfl⟩ ?_
  rintro j k' T' H'' hk' ⟨hfit,t2,t3,t5,t6⟩
  simp (disch:=omega) only [↓wr,↓reduceIte,wq,ah,ag,ak,ab,ae,af,ai,isNil,Nat.reduceEqDiff,Nat.reduceAdd,Nat.reduceLT,Nat.reduceLeDiff,Int.reduceNeg,Int.reduceToNat,reduceCtorEq,kF,t2,t3,t5,t6,aW,ax,encS,List.getElem?_map,ha,Option.map_some]
  refine ar.dec (fun hj=>?_) (fun hj=>?_)
  · have hja:a[j]?=some (a.getD j ⟨0,0⟩):=getD_some (by omega)
    have hmem:=List.mem_of_getElem? hja
    generalize ec:a.getD j ⟨0,0⟩=c at hja hmem
    have hcall:=LW g t c
    simp only[ax,encS,aW,bo] at hcall
    simp (disch:=omega) only [↓wr,↓reduceIte,wq,ah,ag,ak,ab,ae,af,ai,isNil,Nat.reduceEqDiff,Nat.reduceAdd,Nat.reduceLT,Nat.reduceLeDiff,Int.reduceNeg,Int.reduceToNat,reduceCtorEq,t2,t3,t5,t6,aW,ax,encS,List.getElem?_map,ha,hja,Option.map_some,bo]
    refine aN.pure hcall (by kernel_rfl) ?_
    simp (disch:=omega) only [↓wr,↓reduceIte,wq,ah,ag,ak,ab,ae,af,ai,isNil,Nat.reduceEqDiff,Nat.reduceAdd,Nat.reduceLT,Nat.reduceLeDiff,Int.reduceNeg,Int.reduceToNat,reduceCtorEq]
    refine ar.split (fun hfc=>?_) (fun hfc=>?_)
    · simp (disch:=omega) only [↓wr,↓reduceIte,wq,ah,ag,ak,ab,ae,af,ai,isNil,Nat.reduceEqDiff,Nat.reduceAdd,Nat.reduceLT,Nat.reduceLeDiff,Int.reduceNeg,Int.reduceToNat,reduceCtorEq,t2,t3,t5,t6]
      exact br hk' (by omega) ⟨fun k hk=>by
        by_cases e:k=j
        · subst e; rw[ec]; exact hfc
        · exact hfit k (by omega),t2,t3,t5,rfl⟩
    · simp (disch:=omega) only [↓wr,↓reduceIte,wq,ah,ag,ak,ab,ae,af,ai,isNil,Nat.reduceEqDiff,Nat.reduceAdd,Nat.reduceLT,Nat.reduceLeDiff,Int.reduceNeg,Int.reduceToNat,reduceCtorEq]
      rw[hrow (by
        rw[hrs,Bool.eq_false_iff]
        intro h
        simp only[Bool.and_eq_true,List.all_eq_true] at h
        have:=h.1.2 c hmem
        rw[hfc] at this; simp at this)]
  simp (disch:=omega) only [↓wr,↓reduceIte,wq,ah,ag,ak,ab,ae,af,ai,isNil,Nat.reduceEqDiff,Nat.reduceAdd,Nat.reduceLT,Nat.reduceLeDiff,Int.reduceNeg,Int.reduceToNat,reduceCtorEq,t2,t3,t5]
  refine bp.up l.length (fun j T H'=>(∀ k,k < j→-1≤l.getD k 0∧l.getD k 0 < t.aK.length)∧T 2=.aQ (ax g) 0∧T 3=.aQ (aW t) 0∧T 5=gi i∧T 7=gi j) ⟨fun k hk=>by omega,t2,t3,t5,rfl⟩ ?_
  rintro j2 k2 T2 H2 hk2 ⟨hin,t2,t3,t5,t7⟩
  simp (disch:=omega) only [↓wr,↓reduceIte,wq,ah,ag,ak,ab,ae,af,ai,isNil,Nat.reduceEqDiff,Nat.reduceAdd,Nat.reduceLT,Nat.reduceLeDiff,Int.reduceNeg,Int.reduceToNat,reduceCtorEq,k5,t2,t3,t5,t7,aW,encI,List.getElem?_map,hl,Option.map_some]
  refine ar.dec (fun hj2=>?_) (fun hj2=>?_)
  · have hjl:l[j2]?=some (l.getD j2 0):=getD_some (by omega)
    have hmem:=List.mem_of_getElem? hjl
    generalize ec:l.getD j2 0=x at hjl hmem
    have bad:¬(-1≤x∧x < (t.aK.length:Int))→wu g t.aK.length a l=false:=fun hb=>by
      rw[hrs,Bool.eq_false_iff]
      intro h
      simp only[Bool.and_eq_true,List.all_eq_true,decide_eq_true_eq] at h
      exact hb (h.2 x hmem)
    simp (disch:=omega) only [↓wr,↓reduceIte,wq,ah,ag,ak,ab,ae,af,ai,isNil,Nat.reduceEqDiff,Nat.reduceAdd,Nat.reduceLT,Nat.reduceLeDiff,Int.reduceNeg,Int.reduceToNat,reduceCtorEq,t2,t3,t5,t7,aW,encI,List.getElem?_map,hl,hjl,Option.map_some]
    refine ar.dec (fun hx=>?_) (fun hx=>?_)
    · simp (disch:=omega) only [↓wr,↓reduceIte,wq,ah,ag,ak,ab,ae,af,ai,isNil,Nat.reduceEqDiff,Nat.reduceAdd,Nat.reduceLT,Nat.reduceLeDiff,Int.reduceNeg,Int.reduceToNat,reduceCtorEq]
      rw[hrow (bad (by omega))]
    simp (disch:=omega) only [↓wr,↓reduceIte,wq,ah,ag,ak,ab,ae,af,ai,isNil,Nat.reduceEqDiff,Nat.reduceAdd,Nat.reduceLT,Nat.reduceLeDiff,Int.reduceNeg,Int.reduceToNat,reduceCtorEq,t2,t3,t5,t7,aW,encI,List.getElem?_map,hl,hjl,Option.map_some]
    refine ar.dec (fun hy=>?_) (fun hy=>?_)
    · simp (disch:=omega) only [↓wr,↓reduceIte,wq,ah,ag,ak,ab,ae,af,ai,isNil,Nat.reduceEqDiff,Nat.reduceAdd,Nat.reduceLT,Nat.reduceLeDiff,Int.reduceNeg,Int.reduceToNat,reduceCtorEq]
      rw[hrow (bad (by omega))]
    · simp (disch:=omega) only [↓wr,↓reduceIte,wq,ah,ag,ak,ab,ae,af,ai,isNil,Nat.reduceEqDiff,Nat.reduceAdd,Nat.reduceLT,Nat.reduceLeDiff,Int.reduceNeg,Int.reduceToNat,reduceCtorEq,t2,t3,t5,t7]
      exact br hk2 (by omega) ⟨fun k hk=>by
        by_cases e:k=j2
        · subst e; rw[ec]; omega
        · exact hin k (by omega),t2,t3,t5,rfl⟩
  · simp (disch:=omega) only [↓wr,↓reduceIte,wq,ah,ag,ak,ab,ae,af,ai,isNil,Nat.reduceEqDiff,Nat.reduceAdd,Nat.reduceLT,Nat.reduceLeDiff,Int.reduceNeg,Int.reduceToNat,reduceCtorEq,t2,t3,t5]
    refine br hk (by omega) ⟨fun k hk=>?_,t2,t3,rfl⟩
    by_cases e:k=i
    · subst e
      rw[ea,el,hrs]
      simp only[Bool.and_eq_true,List.all_eq_true,decide_eq_true_eq]
      refine ⟨⟨⟨by omega,by omega⟩,fun c hc=>?_⟩,fun x hx=>?_⟩
      · obtain ⟨q,hq⟩:=List.mem_iff_getElem?.1 hc
        have hql:=(List.getElem?_eq_some_iff.1 hq).1
        have:=hfit q (by omega)
        rwa [List.getD_eq_getElem?_getD,hq] at this
      · obtain ⟨q,hq⟩:=List.mem_iff_getElem?.1 hx
        have hql:=(List.getElem?_eq_some_iff.1 hq).1
        have:=hin q (by omega)
        rwa [List.getD_eq_getElem?_getD,hq] at this
    · exact hall k (by omega)
def dQ:SC :=
  .seq (aq [aC 9 .lss 8 7]) <|
  .seq (.cond (.tmp 9) (.skip) (.exit 0)) <|
  .seq (.block 1 (.seq (aq [aa 10 8,aa 5 10]) <|
  .seq (aq [aa 11 1,aa 12 0,aa 13 5,aD 14 2 12 13,aF 15 2 14,((some 16),.call (.tmp 11) [(.tmp 15)])]) <|
  .cond (.tmp 16) (.seq (aq [aa 17 5,aa 4 17]) <|
  .ret) (.skip))) <|
  aq [au 18 .add 8 1,aa 8 18]
def ed:SF:=⟨.seq (aq [az 4 0]) <|
  .seq (.seq (aq [aa 6 0,aA 7 6,az 8 0]) <|
  .block 0 (.loop dQ)) <|
  .seq (aq [az 4 (-1)]) <|
  .ret,
  [.tmp 4],19⟩
theorem gB:ba Tryz.prog 127 []=some ed:=by kernel_rfl
def dH:SF:=⟨.seq (aq [aM 4 false]) <|
  .seq (aq [aa 5 0,aa 6 1,aJ 7 127 [5,6],au 8 .geq 7 0,aa 4 8]) <|
  .ret,
  [.tmp 4],9⟩
theorem fS:ba Tryz.prog 72 []=some dH:=by kernel_rfl
set_option maxHeartbeats 2000000 in
theorem D1 (l:List Cell) (hl:aR l) (f:FuncId) (cap:List V) (p:Cell→Bool) (H:View) (hf:∀ x∈l,aG Tryz.prog f (.agg (bo x) :: cap) H fun r H'=>r=gb (p x)∧H'=H) :
    aG Tryz.prog 127 [.aL (l.map fun x=>bo x),.fn f [] cap] H fun r H'=>r=gi (bR p l 0)∧H'=H:=by
  refine aG.of mixed gB ?_
  unfold aR at hl
  simp (disch:=omega) only [↓wr,↓reduceIte,wq,ah,ag,ak,ab,ae,af,ai,isNil,Nat.reduceEqDiff,Nat.reduceAdd,Nat.reduceLT,Nat.reduceLeDiff,Int.reduceNeg,Int.reduceToNat,reduceCtorEq,ed]
  refine bp.up l.length (fun i T H'=>H=H'∧bR p (l.drop i) i=bR p l 0∧T 0=.aL (l.map fun x=>bo x)∧T 1=.fn f [] cap∧T 7=gi l.length∧T 8=gi i) ⟨rfl,rfl,rfl,rfl,rfl,rfl⟩ ?_
  rintro i k T _ hk ⟨rfl,hi,h0,h1,h7,h8⟩
  simp (disch:=omega) only [↓wr,↓reduceIte,wq,ah,ag,ak,ab,ae,af,ai,isNil,Nat.reduceEqDiff,Nat.reduceAdd,Nat.reduceLT,Nat.reduceLeDiff,Int.reduceNeg,Int.reduceToNat,reduceCtorEq,dQ,h0,h1,h7,h8]
  refine ar.dec (fun hc=>?_) (fun hc=>?_)
  · have hg:l[i]?=some (l[i]'(by omega)):=List.getElem?_eq_getElem (by omega)
    have hm:l[i]'(by omega)∈l:=List.getElem_mem _
    rw[c9 (show i < l.length by omega)] at hi
    generalize l[i]'(by omega)=x at hg hm hi
    simp (disch:=omega) only [↓wr,↓reduceIte,wq,ah,ag,ak,ab,ae,af,ai,isNil,Nat.reduceEqDiff,Nat.reduceAdd,Nat.reduceLT,Nat.reduceLeDiff,Int.reduceNeg,Int.reduceToNat,reduceCtorEq,h0,h1,h7,h8,List.getElem?_map,hg,Option.map_some,bo]
    have hcall:=hf x hm
    simp only[bo] at hcall
    refine aN.ig (hcall.mono ?_)
    rintro r H2 ⟨rfl,rfl⟩
    simp only[bR] at hi
    simp (disch:=omega) only [↓wr,↓reduceIte,wq,ah,ag,ak,ab,ae,af,ai,isNil,Nat.reduceEqDiff,Nat.reduceAdd,Nat.reduceLT,Nat.reduceLeDiff,Int.reduceNeg,Int.reduceToNat,reduceCtorEq]
    refine ar.split (fun hp=>?_) (fun hp=>?_)
    · simp (disch:=omega) only [↓wr,↓reduceIte,wq,ah,ag,ak,ab,ae,af,ai,isNil,Nat.reduceEqDiff,Nat.reduceAdd,Nat.reduceLT,Nat.reduceLeDiff,Int.reduceNeg,Int.reduceToNat,reduceCtorEq,h0,h1,h7,h8]
      rw[← hi,if_pos hp]
    · simp (disch:=omega) only [↓wr,↓reduceIte,wq,ah,ag,ak,ab,ae,af,ai,isNil,Nat.reduceEqDiff,Nat.reduceAdd,Nat.reduceLT,Nat.reduceLeDiff,Int.reduceNeg,Int.reduceToNat,reduceCtorEq,h0,h1,h7,h8]
      refine br hk (by omega) ⟨rfl,?_,h0,h1,h7,rfl⟩
      rw[if_neg (by simp[hp])] at hi
      push_cast; exact hi
  · rw[List.drop_eq_nil_of_le (by omega)] at hi
    simp (disch:=omega) only [↓wr,↓reduceIte,wq,ah,ag,ak,ab,ae,af,ai,isNil,Nat.reduceEqDiff,Nat.reduceAdd,Nat.reduceLT,Nat.reduceLeDiff,Int.reduceNeg,Int.reduceToNat,reduceCtorEq,h0,h1,h7,h8]
    rw[← hi]; rfl
theorem AG (l:List Cell) (hl:aR l) (f:FuncId) (cap:List V) (p:Cell→Bool) (H:View) (hf:∀ x∈l,aG Tryz.prog f (.agg (bo x) :: cap) H fun r H'=>r=gb (p x)∧H'=H) :
    aG Tryz.prog 72 [.aL (l.map fun x=>bo x),.fn f [] cap] H fun r H'=>r=gb (l.any p)∧H'=H:=by
  refine aG.of mixed fS ?_
  simp (disch:=omega) only [↓wr,↓reduceIte,wq,ah,ag,ak,ab,ae,af,ai,isNil,Nat.reduceEqDiff,Nat.reduceAdd,Nat.reduceLT,Nat.reduceLeDiff,Int.reduceNeg,Int.reduceToNat,reduceCtorEq,dH]
  refine aN.ig ((D1 l hl f cap p H hf).mono ?_)
  rintro r H2 ⟨rfl,rfl⟩
  simp (disch:=omega) only [↓wr,↓reduceIte,wq,ah,ag,ak,ab,ae,af,ai,isNil,Nat.reduceEqDiff,Nat.reduceAdd,Nat.reduceLT,Nat.reduceLeDiff,Int.reduceNeg,Int.reduceToNat,reduceCtorEq]
  rw[← iK _ l 0 (by omega)]
def D9 (x:Int):List V:=[gi x]
set_option maxHeartbeats 2000000 in
theorem Ga (l:List Int) (hl:aR l) (f:FuncId) (cap:List V) (p:Int→Bool) (H:View) (hf:∀ x∈l,aG Tryz.prog f (gi x :: cap) H fun r H'=>r=gb (p x)∧H'=H) :
    aG Tryz.prog 88 [.aL (l.map fun x=>D9 x),.fn f [] cap] H fun r H'=>r=gi (bR p l 0)∧H'=H:=by
  refine aG.of mixed fD ?_
  unfold aR at hl
  simp (disch:=omega) only [↓wr,↓reduceIte,wq,ah,ag,ak,ab,ae,af,ai,isNil,Nat.reduceEqDiff,Nat.reduceAdd,Nat.reduceLT,Nat.reduceLeDiff,Int.reduceNeg,Int.reduceToNat,reduceCtorEq,eh]
  refine bp.up l.length (fun i T H'=>H=H'∧bR p (l.drop i) i=bR p l 0∧T 0=.aL (l.map fun x=>D9 x)∧T 1=.fn f [] cap∧T 7=gi l.length∧T 8=gi i) ⟨rfl,rfl,rfl,rfl,rfl,rfl⟩ ?_
  rintro i k T _ hk ⟨rfl,hi,h0,h1,h7,h8⟩
  simp (disch:=omega) only [↓wr,↓reduceIte,wq,ah,ag,ak,ab,ae,af,ai,isNil,Nat.reduceEqDiff,Nat.reduceAdd,Nat.reduceLT,Nat.reduceLeDiff,Int.reduceNeg,Int.reduceToNat,reduceCtorEq,dN,h0,h1,h7,h8]
  refine ar.dec (fun hc=>?_) (fun hc=>?_)
  · have hg:l[i]?=some (l[i]'(by omega)):=List.getElem?_eq_getElem (by omega)
    have hm:l[i]'(by omega)∈l:=List.getElem_mem _
    rw[c9 (show i < l.length by omega)] at hi
    generalize l[i]'(by omega)=x at hg hm hi
    simp (disch:=omega) only [↓wr,↓reduceIte,wq,ah,ag,ak,ab,ae,af,ai,isNil,Nat.reduceEqDiff,Nat.reduceAdd,Nat.reduceLT,Nat.reduceLeDiff,Int.reduceNeg,Int.reduceToNat,reduceCtorEq,h0,h1,h7,h8,List.getElem?_map,hg,Option.map_some,D9]
    have hcall:=hf x hm
    refine aN.ig (hcall.mono ?_)
    rintro r H2 ⟨rfl,rfl⟩
    simp only[bR] at hi
    simp (disch:=omega) only [↓wr,↓reduceIte,wq,ah,ag,ak,ab,ae,af,ai,isNil,Nat.reduceEqDiff,Nat.reduceAdd,Nat.reduceLT,Nat.reduceLeDiff,Int.reduceNeg,Int.reduceToNat,reduceCtorEq]
    refine ar.split (fun hp=>?_) (fun hp=>?_)
    · simp (disch:=omega) only [↓wr,↓reduceIte,wq,ah,ag,ak,ab,ae,af,ai,isNil,Nat.reduceEqDiff,Nat.reduceAdd,Nat.reduceLT,Nat.reduceLeDiff,Int.reduceNeg,Int.reduceToNat,reduceCtorEq,h0,h1,h7,h8]
      rw[← hi,if_pos hp]
    · simp (disch:=omega) only [↓wr,↓reduceIte,wq,ah,ag,ak,ab,ae,af,ai,isNil,Nat.reduceEqDiff,Nat.reduceAdd,Nat.reduceLT,Nat.reduceLeDiff,Int.reduceNeg,Int.reduceToNat,reduceCtorEq,h0,h1,h7,h8]
      refine br hk (by omega) ⟨rfl,?_,h0,h1,h7,rfl⟩
      rw[if_neg (by simp[hp])] at hi
      push_cast; exact hi
  · rw[List.drop_eq_nil_of_le (by omega)] at hi
    simp (disch:=omega) only [↓wr,↓reduceIte,wq,ah,ag,ak,ab,ae,af,ai,isNil,Nat.reduceEqDiff,Nat.reduceAdd,Nat.reduceLT,Nat.reduceLeDiff,Int.reduceNeg,Int.reduceToNat,reduceCtorEq,h0,h1,h7,h8]
    rw[← hi]; rfl
theorem BD (l:List Int) (hl:aR l) (f:FuncId) (cap:List V) (p:Int→Bool) (H:View) (hf:∀ x∈l,aG Tryz.prog f (gi x :: cap) H fun r H'=>r=gb (p x)∧H'=H) :
    aG Tryz.prog 46 [.aL (l.map fun x=>D9 x),.fn f [] cap] H fun r H'=>r=gb (l.any p)∧H'=H:=by
  refine aG.of mixed fa ?_
  simp (disch:=omega) only [↓wr,↓reduceIte,wq,ah,ag,ak,ab,ae,af,ai,isNil,Nat.reduceEqDiff,Nat.reduceAdd,Nat.reduceLT,Nat.reduceLeDiff,Int.reduceNeg,Int.reduceToNat,reduceCtorEq,dC]
  refine aN.ig ((Ga l hl f cap p H hf).mono ?_)
  rintro r H2 ⟨rfl,rfl⟩
  simp (disch:=omega) only [↓wr,↓reduceIte,wq,ah,ag,ak,ab,ae,af,ai,isNil,Nat.reduceEqDiff,Nat.reduceAdd,Nat.reduceLT,Nat.reduceLeDiff,Int.reduceNeg,Int.reduceToNat,reduceCtorEq]
  rw[← iK _ l 0 (by omega)]
theorem P0 (g:ay) (b n:Nat) (c:Cell) (H:View) (hb:H b=.arr 1 [[gi n]]):aG Tryz.prog 73 [.agg (bo c),.ptr b 0 0,.aQ (ax g) 0] H fun r H'=>r=gb (!j8 g n c)∧H'=H:=by
  refine aG.of mixed yj ?_
  have hcall:=Mh c n g.rules.length
  simp only[bo] at hcall
  simp (disch:=omega) only [↓wr,↓reduceIte,wq,ah,ag,ak,ab,ae,af,ai,isNil,Nat.reduceEqDiff,Nat.reduceAdd,Nat.reduceLT,Nat.reduceLeDiff,Int.reduceNeg,Int.reduceToNat,reduceCtorEq,sk,bo,ax,encS,hb]
  refine aN.pure hcall (by kernel_rfl) ?_
  simp (disch:=omega) only [↓wr,↓reduceIte,wq,ah,ag,ak,ab,ae,af,ai,isNil,Nat.reduceEqDiff,Nat.reduceAdd,Nat.reduceLT,Nat.reduceLeDiff,Int.reduceNeg,Int.reduceToNat,reduceCtorEq]
  rfl
theorem Ps (b n:Nat) (x:Int) (H:View) (hb:H b=.arr 1 [[gi n]]):aG Tryz.prog 75 [gi x,.ptr b 0 0] H fun r H'=>r=gb (!(decide (-1≤x) && decide (x < n)))∧H'=H:=by
  refine aG.of mixed yL ?_
  simp (disch:=omega) only [↓wr,↓reduceIte,wq,ah,ag,ak,ab,ae,af,ai,isNil,Nat.reduceEqDiff,Nat.reduceAdd,Nat.reduceLT,Nat.reduceLeDiff,Int.reduceNeg,Int.reduceToNat,reduceCtorEq,rV,hb]
  repeat' (first | (refine ar.dec (fun _=>?_) (fun _=>?_)) | (refine ar.eq (fun _=>?_) (fun _=>?_)) | (refine ar.ne (fun _=>?_) (fun _=>?_)) | (refine ar.split (fun _=>?_) (fun _=>?_)) | (simp (disch:=omega) only [↓wr,↓reduceIte,wq,ah,ag,ak,ab,ae,af,ai,isNil,Nat.reduceEqDiff,Nat.reduceAdd,Nat.reduceLT,Nat.reduceLeDiff,Int.reduceNeg,Int.reduceToNat,reduceCtorEq,hb]))
  · rename_i hx
    rw[decide_eq_false (show ¬ -1≤x by omega)]; rfl
  · rename_i hx
    rw[decide_eq_true (show -1≤x by omega),Bool.true_and,← decide_not]
    rw[decide_eq_decide.2 (show (x≥(n:Int))↔¬ x < n by omega)]
set_option maxHeartbeats 8000000 in
theorem KS (g:ay) (hg:g.Ok) (hsm:g.Small) (t:dJ) (ht:t.Ok):aI Tryz.prog 42 [.agg (ax g),.agg (aW t)] (gb (fh g t)):=by
  refine aI.val (H0 g t) fun H=>?_
  have hc:=DH g hg hsm.names
  have h1:=ht.aK
  have h2:=ht.gotos
  have h3:=hg.av
  have h4:=hg.aw
  unfold aR at h1 h2 h3 h4
  refine aG.of mixed zX ?_
  simp only[ax,encS] at hc
  simp (disch:=omega) only [↓wr,↓reduceIte,wq,ah,ag,ak,ab,ae,af,ai,isNil,Nat.reduceEqDiff,Nat.reduceAdd,Nat.reduceLT,Nat.reduceLeDiff,Int.reduceNeg,Int.reduceToNat,reduceCtorEq,wN,ax,encS,aW]
  intro b hb
  rw[set_set]
  have hbn:(H.set b (.arr 1 [[gi t.aK.length]])) b=.arr 1 [[gi t.aK.length]]:=by simp[View.set]
  generalize H.set b (.arr 1 [[gi t.aK.length]])=H1 at hbn
  try simp (disch:=omega) only [↓wr,↓reduceIte,wq,ah,ag,ak,ab,ae,af,ai,isNil,Nat.reduceEqDiff,Nat.reduceAdd,Nat.reduceLT,Nat.reduceLeDiff,Int.reduceNeg,Int.reduceToNat,reduceCtorEq,aW,hbn]
  refine aN.pure hc (by kernel_rfl) ?_
  have hno:(bB g && decide (1≤t.aK.length) && decide (t.aK.length≤300) && decide (t.gotos.length=t.aK.length))=false→fh g t=false:=fun h=>by unfold fh; rw[h]; rfl
  simp (disch:=omega) only [↓wr,↓reduceIte,wq,ah,ag,ak,ab,ae,af,ai,isNil,Nat.reduceEqDiff,Nat.reduceAdd,Nat.reduceLT,Nat.reduceLeDiff,Int.reduceNeg,Int.reduceToNat,reduceCtorEq]
  refine ar.split (fun hr=>?_) (fun hr=>?_)
  rotate_left
  · simp (disch:=omega) only [↓wr,↓reduceIte,wq,ah,ag,ak,ab,ae,af,ai,isNil,Nat.reduceEqDiff,Nat.reduceAdd,Nat.reduceLT,Nat.reduceLeDiff,Int.reduceNeg,Int.reduceToNat,reduceCtorEq]
    rw[hno (by rw[hr]; rfl)]
  simp (disch:=omega) only [↓wr,↓reduceIte,wq,ah,ag,ak,ab,ae,af,ai,isNil,Nat.reduceEqDiff,Nat.reduceAdd,Nat.reduceLT,Nat.reduceLeDiff,Int.reduceNeg,Int.reduceToNat,reduceCtorEq,aW,hbn]
  refine ar.dec (fun c1=>?_) (fun c1=>?_)
  · simp (disch:=omega) only [↓wr,↓reduceIte,wq,ah,ag,ak,ab,ae,af,ai,isNil,Nat.reduceEqDiff,Nat.reduceAdd,Nat.reduceLT,Nat.reduceLeDiff,Int.reduceNeg,Int.reduceToNat,reduceCtorEq]
    rw[hno (by rw[hr]; simp; omega)]
  simp (disch:=omega) only [↓wr,↓reduceIte,wq,ah,ag,ak,ab,ae,af,ai,isNil,Nat.reduceEqDiff,Nat.reduceAdd,Nat.reduceLT,Nat.reduceLeDiff,Int.reduceNeg,Int.reduceToNat,reduceCtorEq,aW,hbn]
  refine ar.dec (fun c2=>?_) (fun c2=>?_)
  · simp (disch:=omega) only [↓wr,↓reduceIte,wq,ah,ag,ak,ab,ae,af,ai,isNil,Nat.reduceEqDiff,Nat.reduceAdd,Nat.reduceLT,Nat.reduceLeDiff,Int.reduceNeg,Int.reduceToNat,reduceCtorEq]
    rw[hno (by rw[hr]; simp; omega)]
  simp (disch:=omega) only [↓wr,↓reduceIte,wq,ah,ag,ak,ab,ae,af,ai,isNil,Nat.reduceEqDiff,Nat.reduceAdd,Nat.reduceLT,Nat.reduceLeDiff,Int.reduceNeg,Int.reduceToNat,reduceCtorEq,aW,hbn]
  refine ar.ne (fun c3=>?_) (fun c3=>?_)
  · simp (disch:=omega) only [↓wr,↓reduceIte,wq,ah,ag,ak,ab,ae,af,ai,isNil,Nat.reduceEqDiff,Nat.reduceAdd,Nat.reduceLT,Nat.reduceLeDiff,Int.reduceNeg,Int.reduceToNat,reduceCtorEq]
    rw[hno (by rw[hr]; simp; omega)]
  simp (disch:=omega) only [↓wr,↓reduceIte,wq,ah,ag,ak,ab,ae,af,ai,isNil,Nat.reduceEqDiff,Nat.reduceAdd,Nat.reduceLT,Nat.reduceLeDiff,Int.reduceNeg,Int.reduceToNat,reduceCtorEq,aW,hbn]
  have hf:=bI hr
  refine bp.up t.aK.length (fun i T H'=>H1=H'∧(∀ k,k < i→wu g t.aK.length (t.aK.getD k []) (t.gotos.getD k [])=true)∧T 2=.aQ (ax g) 0∧T 3=.aQ (aW t) 0∧T 5=.ptr b 0 0∧T 30=.aL (t.aK.map fun r=>[qY r])∧T 31=gi t.aK.length∧T 32=gi i) ⟨rfl,fun k hk=>by omega,rfl,rfl,rfl,rfl,rfl,rfl⟩ ?_
  rintro i k T _ hk ⟨rfl,hall,t2,t3,t5,t30,t31,t32⟩
  simp (disch:=omega) only [↓wr,↓reduceIte,wq,ah,ag,ak,ab,ae,af,ai,isNil,Nat.reduceEqDiff,Nat.reduceAdd,Nat.reduceLT,Nat.reduceLeDiff,Int.reduceNeg,Int.reduceToNat,reduceCtorEq,rY,t2,t3,t5,t30,t31,t32,aW]
  refine ar.dec (fun hd=>?_) (fun hd=>?_)
  rotate_left
  · simp (disch:=omega) only [↓wr,↓reduceIte,wq,ah,ag,ak,ab,ae,af,ai,isNil,Nat.reduceEqDiff,Nat.reduceAdd,Nat.reduceLT,Nat.reduceLeDiff,Int.reduceNeg,Int.reduceToNat,reduceCtorEq]
    rw[show fh g t=true from by
      unfold fh
      rw[hr]
      simp only[Bool.and_eq_true,decide_eq_true_eq,List.all_eq_true,List.mem_range,Bool.true_and]
      exact ⟨⟨⟨by omega,by omega⟩,by omega⟩,fun k hk=>hall k (by omega)⟩]
  have hi:i < t.aK.length:=by omega
  have ha:t.aK[i]?=some (t.aK.getD i []):=getD_some hi
  have hl:t.gotos[i]?=some (t.gotos.getD i []):=getD_some (by omega)
  have ra:=ht.row _ (List.mem_of_getElem? ha)
  have rl:=ht.go _ (List.mem_of_getElem? hl)
  have hrow:=@Bn g t i hi
  generalize ea:t.aK.getD i []=a at ha ra hrow
  generalize el:t.gotos.getD i []=l at hl rl hrow
  have hrs:wu g t.aK.length a l=(decide (a.length=g.av.length+1) && decide (l.length=g.aw.length) && a.all (j8 g t.aK.length) && l.all fun x=>decide (-1≤x) && decide (x < t.aK.length)):=rfl
  obtain ⟨sa,ra⟩:=ra
  obtain ⟨sl,rl⟩:=rl
  have hsa:=sa
  have hsl:=sl
  unfold aR at sa sl
  simp (disch:=omega) only [↓wr,↓reduceIte,wq,ah,ag,ak,ab,ae,af,ai,isNil,Nat.reduceEqDiff,Nat.reduceAdd,Nat.reduceLT,Nat.reduceLeDiff,Int.reduceNeg,Int.reduceToNat,reduceCtorEq,t2,t3,t5,t30,t31,t32,aW,ax,encS,List.getElem?_map,ha,hl,Option.map_some]
  refine ar.ne (fun d1=>?_) (fun d1=>?_)
  · simp (disch:=omega) only [↓wr,↓reduceIte,wq,ah,ag,ak,ab,ae,af,ai,isNil,Nat.reduceEqDiff,Nat.reduceAdd,Nat.reduceLT,Nat.reduceLeDiff,Int.reduceNeg,Int.reduceToNat,reduceCtorEq]
    rw[hrow (by rw[hrs]; simp; omega)]
  simp (disch:=omega) only [↓wr,↓reduceIte,wq,ah,ag,ak,ab,ae,af,ai,isNil,Nat.reduceEqDiff,Nat.reduceAdd,Nat.reduceLT,Nat.reduceLeDiff,Int.reduceNeg,Int.reduceToNat,reduceCtorEq,t2,t3,t5,t30,t31,t32,aW,ax,encS,encI,List.getElem?_map,ha,hl,Option.map_some]
  refine ar.ne (fun d2=>?_) (fun d2=>?_)
  · simp (disch:=omega) only [↓wr,↓reduceIte,wq,ah,ag,ak,ab,ae,af,ai,isNil,Nat.reduceEqDiff,Nat.reduceAdd,Nat.reduceLT,Nat.reduceLeDiff,Int.reduceNeg,Int.reduceToNat,reduceCtorEq]
    rw[hrow (by rw[hrs]; simp; omega)]
  simp (disch:=omega) only [↓wr,↓reduceIte,wq,ah,ag,ak,ab,ae,af,ai,isNil,Nat.reduceEqDiff,Nat.reduceAdd,Nat.reduceLT,Nat.reduceLeDiff,Int.reduceNeg,Int.reduceToNat,reduceCtorEq,t2,t3,t5,t30,t31,t32]
  refine aN.ig ((AG a hsa 73 [.ptr b 0 0,.aQ (ax g) 0] (fun c=>!j8 g t.aK.length c) H1 fun c _=>P0 g b t.aK.length c H1 hbn).mono ?_)
  rintro r H2 ⟨rfl,rfl⟩
  simp (disch:=omega) only [↓wr,↓reduceIte,wq,ah,ag,ak,ab,ae,af,ai,isNil,Nat.reduceEqDiff,Nat.reduceAdd,Nat.reduceLT,Nat.reduceLeDiff,Int.reduceNeg,Int.reduceToNat,reduceCtorEq,t2,t3,t5,t30,t31,t32]
  refine ar.split (fun hx=>?_) (fun hx=>?_)
  · simp (disch:=omega) only [↓wr,↓reduceIte,wq,ah,ag,ak,ab,ae,af,ai,isNil,Nat.reduceEqDiff,Nat.reduceAdd,Nat.reduceLT,Nat.reduceLeDiff,Int.reduceNeg,Int.reduceToNat,reduceCtorEq]
    rw[hrow (by
      obtain ⟨c,hcm,hcf⟩:=List.any_eq_true.1 hx
      rw[hrs,Bool.eq_false_iff]
      intro h
      simp only[Bool.and_eq_true,List.all_eq_true] at h
      have:=h.1.2 c hcm
      rw[this] at hcf; simp at hcf)]
  simp (disch:=omega) only [↓wr,↓reduceIte,wq,ah,ag,ak,ab,ae,af,ai,isNil,Nat.reduceEqDiff,Nat.reduceAdd,Nat.reduceLT,Nat.reduceLeDiff,Int.reduceNeg,Int.reduceToNat,reduceCtorEq,t2,t3,t5,t30,t31,t32,aW,encI,List.getElem?_map,hl,Option.map_some]
  refine aN.ig ((BD l hsl 75 [.ptr b 0 0] (fun x=>!(decide (-1≤x) && decide (x < t.aK.length))) H2 fun x _=>Ps b t.aK.length x H2 hbn).mono ?_)
  rintro r H2 ⟨rfl,rfl⟩
  simp (disch:=omega) only [↓wr,↓reduceIte,wq,ah,ag,ak,ab,ae,af,ai,isNil,Nat.reduceEqDiff,Nat.reduceAdd,Nat.reduceLT,Nat.reduceLeDiff,Int.reduceNeg,Int.reduceToNat,reduceCtorEq,t2,t3,t5,t30,t31,t32]
  refine ar.split (fun hy=>?_) (fun hy=>?_)
  · simp (disch:=omega) only [↓wr,↓reduceIte,wq,ah,ag,ak,ab,ae,af,ai,isNil,Nat.reduceEqDiff,Nat.reduceAdd,Nat.reduceLT,Nat.reduceLeDiff,Int.reduceNeg,Int.reduceToNat,reduceCtorEq]
    rw[hrow (by
      obtain ⟨c,hcm,hcf⟩:=List.any_eq_true.1 hy
      rw[hrs,Bool.eq_false_iff]
      intro h
      simp only[Bool.and_eq_true,List.all_eq_true] at h
      have:=h.2 c hcm
      simp only[this.1,this.2] at hcf; simp at hcf)]
  · simp (disch:=omega) only [↓wr,↓reduceIte,wq,ah,ag,ak,ab,ae,af,ai,isNil,Nat.reduceEqDiff,Nat.reduceAdd,Nat.reduceLT,Nat.reduceLeDiff,Int.reduceNeg,Int.reduceToNat,reduceCtorEq,t2,t3,t5,t30,t31,t32]
    refine br hk (by omega) ⟨rfl,fun k hk=>?_,t2,t3,t5,t30,t31,rfl⟩
    by_cases e:k=i
    · subst e
      rw[ea,el,hrs]
      rw[List.any_eq_false] at hx hy
      simp only[Bool.and_eq_true,List.all_eq_true,decide_eq_true_eq]
      refine ⟨⟨⟨by omega,by omega⟩,fun c hc=>?_⟩,fun x hx'=>?_⟩
      · simpa using hx c hc
      · simpa using hy x hx'
    · exact hall k (by omega)
end Gv
