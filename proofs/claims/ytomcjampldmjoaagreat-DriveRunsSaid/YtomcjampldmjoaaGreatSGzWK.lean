/-
  Part 11 of the proof: what the machine does and what the functions answer.
  Conditions: those that each lemma names.
-/
import Derived.Test.YtomcjampldmjoaaGreatSGzWJ
set_option linter.unusedSimpArgs false
set_option linter.unusedVariables false
set_option maxRecDepth 100000
namespace Gv
open Go Go.Proofs
structure Cell where
  kind:Int
  n:Int
  deriving DecidableEq
structure c6 where
  aD:List (List Cell)
  gotos:List (List Int)
  deriving DecidableEq
def ji (g:aw) (n:Nat) (c:Cell):Bool:=if c.kind=0∨c.kind=3 then decide (c.n=0) else if c.kind=1 then decide (0≤c.n) && decide (c.n < n) else if c.kind=2 then decide (0≤c.n) && decide (c.n < g.rules.length) else false
def tL (g:aw) (n:Nat) (a:List Cell) (l:List Int):Bool:=decide (a.length=g.ay.length+1) && decide (l.length=g.ax.length) && a.all (ji g n) && l.all fun x=>decide (-1≤x) && decide (x < n)
def eC (g:aw) (t:c6):Bool:=br g && decide (1≤t.aD.length) && decide (t.aD.length≤300) && decide (t.gotos.length=t.aD.length) && (List.range t.aD.length).all fun i=>tL g t.aD.length (t.aD.getD i []) (t.gotos.getD i [])
def cr (t:c6) (s x:Int):Cell:=(t.aD.getD s.toNat []).getD x.toNat ⟨0,0⟩
def fI (t:c6) (s x:Int):Int:=(t.gotos.getD s.toNat []).getD x.toNat (-1)
def bw (st:List Int):Int:=st.getD (st.length - 1) 0
def bz (g:aw) (w:List Int) (at_:Nat):Int:=if at_ < w.length then w.getD at_ 0 else g.ay.length
def bU (g:aw) (k:Int):aY:=g.rules.getD k.toNat ⟨0,[],0⟩
def fv (g:aw) (t:c6) (w:List Int):Nat→List Int→List Int→Nat→List Int × Int × Int
  | k,st,rs,at_ =>
    if (cr t (bw st) (bz g w at_)).kind=3∧at_=w.length then (rs,at_,0)
    else if (cr t (bw st) (bz g w at_)).kind=0∨(cr t (bw st) (bz g w at_)).kind=3∨(cr t (bw st) (bz g w at_)).kind=1∧at_=w.length then ([],at_,3)
    else match k with
      | 0=>([],at_,14)
      | k+1 =>
        if (cr t (bw st) (bz g w at_)).kind=1 then fv g t w k (st ++ [(cr t (bw st) (bz g w at_)).n]) rs (at_+1)
        else if st.length≤(bU g (cr t (bw st) (bz g w at_)).n).right.length then ([],at_,3)
        else if fI t (bw (st.take (st.length - (bU g (cr t (bw st) (bz g w at_)).n).right.length))) (bU g (cr t (bw st) (bz g w at_)).n).left = -1 then ([],at_,3)
        else fv g t w k (st.take (st.length - (bU g (cr t (bw st) (bz g w at_)).n).right.length) ++ [fI t (bw (st.take (st.length - (bU g (cr t (bw st) (bz g w at_)).n).right.length))) (bU g (cr t (bw st) (bz g w at_)).n).left])
          (rs ++ [(cr t (bw st) (bz g w at_)).n]) at_
def xw (t:c6) (st:List Int):Prop:=st≠[]∧∀ x∈st,0≤x∧x < t.aD.length
theorem getD_some {α:Type} {l:List α} {j:Nat} {d:α} (h:j < l.length):l[j]?=some (l.getD j d):=by simp[List.getD_eq_getElem?_getD,h]
theorem oU {st:List Int} (h:st≠[]):bw st∈st:=by
  have hl:st.length - 1 < st.length:=by have:=List.length_pos_iff.2 h; omega
  unfold bw
  simp[List.getD_eq_getElem?_getD,hl]
theorem xw.app {t:c6} {st:List Int} {x:Int} (h:∀ y∈st,0≤y∧y < t.aD.length) (hx:0≤x∧x < t.aD.length):xw t (st ++ [x]):=by
  refine ⟨by simp,fun y hy=>?_⟩
  rcases List.mem_append.1 hy with hy | hy
  · exact h y hy
  · simp at hy; subst hy; exact hx
theorem xw.take {t:c6} {st:List Int} (h:xw t st) {k:Nat} (hk:0 < k):xw t (st.take k):=by
  refine ⟨?_,fun y hy=>h.2 y (List.mem_of_mem_take hy)⟩
  intro e
  rcases List.take_eq_nil_iff.1 e with e | e
  · omega
  · exact h.1 e
structure ik (g:aw) (t:c6):Prop where
  right:br g=true
  n1:1≤t.aD.length
  Oc:t.aD.length≤300
  len:t.gotos.length=t.aD.length
  row:∀ i,i < t.aD.length→tL g t.aD.length (t.aD.getD i []) (t.gotos.getD i [])=true
theorem q9 {g:aw} {t:c6} (h:eC g t=true):ik g t:=by
  unfold eC at h
  simp only[Bool.and_eq_true,decide_eq_true_eq,List.all_eq_true,List.mem_range] at h
  exact ⟨h.1.1.1.1,h.1.1.1.2,h.1.1.2,h.1.2,h.2⟩
theorem ik.um {g:aw} {t:c6} (h:ik g t) {i:Nat} (hi:i < t.aD.length):(t.aD.getD i []).length=g.ay.length+1∧(t.gotos.getD i []).length=g.ax.length∧(∀ c∈t.aD.getD i [],ji g t.aD.length c=true)∧∀ x∈t.gotos.getD i [],-1≤x∧x < t.aD.length:=by
  have:=h.row i hi
  unfold tL at this
  simp only[Bool.and_eq_true,decide_eq_true_eq,List.all_eq_true] at this
  exact ⟨this.1.1.1,this.1.1.2,this.1.2,this.2⟩
theorem ik.cell {g:aw} {t:c6} (h:ik g t) {s x:Int} (hs:0≤s∧s < t.aD.length) (hx:0≤x∧x≤g.ay.length):ji g t.aD.length (cr t s x)=true∧(t.aD.getD s.toNat [])[x.toNat]?=some (cr t s x):=by
  have hi:s.toNat < t.aD.length:=by omega
  obtain ⟨h1,_,h3,_⟩:=h.um hi
  have hj:x.toNat < (t.aD.getD s.toNat []).length:=by omega
  have e:(t.aD.getD s.toNat [])[x.toNat]?=some (cr t s x):=getD_some hj
  exact ⟨h3 _ (List.mem_of_getElem? e),e⟩
theorem ik.go {g:aw} {t:c6} (h:ik g t) {s x:Int} (hs:0≤s∧s < t.aD.length) (hx:0≤x∧x < g.ax.length):(-1≤fI t s x∧fI t s x < t.aD.length)∧(t.gotos.getD s.toNat [])[x.toNat]?=some (fI t s x):=by
  have hi:s.toNat < t.aD.length:=by omega
  obtain ⟨_,h2,_,h4⟩:=h.um hi
  have hj:x.toNat < (t.gotos.getD s.toNat []).length:=by omega
  have e:(t.gotos.getD s.toNat [])[x.toNat]?=some (fI t s x):=getD_some hj
  exact ⟨h4 _ (List.mem_of_getElem? e),e⟩
def iX (g:aw) (t:c6) (w:List Int):List Int × Int × Int:=if (br g && decide (w.length≤60) && (w.all fun x=>decide (0≤x) && decide (x < g.ay.length)) && eC g t)=true then fv g t w 2000 [0] [] 0 else ([],0,1)
theorem CO {x:Int} : ∀ (o:List Int) (i:Int),x∈o→∃ k:Nat,cn (fun y=>y == x) o i=i+k∧o[k]?=some x
  | [],_,h=>by simp at h
  | y :: o,i,h=>by
    by_cases e:y=x
    · exact ⟨0,by simp[cn,e],by simp[e]⟩
    · have hx:x∈o:=by
        rcases List.mem_cons.1 h with rfl | h
        · exact absurd rfl e
        · exact h
      obtain ⟨k,h1,h2⟩:=CO o (i+1) hx
      exact ⟨k+1,by simp only[cn]; rw[if_neg (by simp[e]),h1]; push_cast; omega,by simpa using h2⟩
theorem xZ {o:List Int} {x:Int} (h:x∈o):o[(bd o x).toNat]?=some x:=by
  obtain ⟨k,h1,h2⟩:=CO o 0 h
  have:bd o x=k:=by unfold bd; omega
  rw[this]; simpa using h2
theorem xe {o:List Int} (hn:o.Nodup) {k:Nat} {x:Int} (h:o[k]?=some x):bd o x=k:=by
  have hx:=List.mem_of_getElem? h
  have h1:=xZ hx
  have h2:=jz hx
  obtain ⟨hk,h3⟩:=List.getElem?_eq_some_iff.1 h
  obtain ⟨hk2,h4⟩:=List.getElem?_eq_some_iff.1 h1
  have:=(List.getElem_inj hn).1 (h4.trans h3.symm)
  omega
theorem Kj (acc:List Int) (r:aY):∃ m,dD acc r=acc ++ m:=by
  unfold dD
  split
  · exact ⟨[],by simp⟩
  · exact ⟨_,rfl⟩
theorem sg:∀ (l:List aY) (acc:List Int),∃ m,l.foldl dD acc=acc ++ m
  | [],acc=>⟨[],by simp⟩
  | r :: l,acc=>by
    obtain ⟨m,hm⟩:=Kj acc r
    obtain ⟨k,hk⟩:=sg l (dD acc r)
    exact ⟨m ++ k,by rw[List.foldl_cons,hk,hm,List.append_assoc]⟩
theorem KM {a b:List Int} {x:Int} (h:x∈a):bd (a ++ b) x=bd a x:=by
  unfold bd
  rw[qY _ _ _ _ (by omega)]
  have:=jz h
  unfold bd at this
  rw[if_pos this.1]
theorem uz {r:aw} {o:List Int} (ho:o.Nodup) (hr:r.ax.length=o.length):∀ (l:List aY) (acc:List Int),o=l.foldl dD acc→(∀ x∈l,eY r (bu (bd o) x)=true)→eD r (l.map (bu (bd o))) ((acc.length:Int) - 1)=true
  | [],acc,h,_=>by
    simp only[List.foldl_nil] at h
    simp[eD,hr,h]
  | x :: l,acc,h,hb=>by
    simp only[List.map_cons,eD,Bool.and_eq_true,decide_eq_true_eq]
    rw[List.foldl_cons] at h
    have h1:(bu (bd o) x).left=bd o x.left:=rfl
    obtain ⟨m,hm⟩:=sg l (dD acc x)
    rw[← h] at hm
    by_cases hx:x.left∈acc
    · have e:dD acc x=acc:=by unfold dD; rw[if_pos hx]
      rw[e] at hm h
      have h2:=jz hx
      have h3:bd o x.left=bd acc x.left:=by rw[hm]; exact KM hx
      rw[h1,h3,if_neg (by omega)]
      exact ⟨⟨⟨h2.1,by omega⟩,hb x (by simp)⟩,uz ho hr l acc h fun y hy=>hb y (by simp[hy])⟩
    · have e:dD acc x=acc ++ [x.left]:=by unfold dD; rw[if_neg hx]
      rw[e] at hm h
      have h3:bd o x.left=acc.length:=xe ho (by rw[hm]; simp)
      rw[h1,h3,if_pos (by omega)]
      refine ⟨⟨⟨by omega,by omega⟩,hb x (by simp)⟩,?_⟩
      have:=uz ho hr l (acc ++ [x.left]) h fun y hy=>hb y (by simp[hy])
      rw[List.length_append] at this
      simpa using this
theorem xz {g r:aw} (h:r.ay=g.ay):∀ (l:List Term) (i:Int),ga r l i=ga g l i
  | [],_=>rfl
  | t :: l,i=>by
    simp only[ga,xz h l]
    congr 1
    simp only[gF,jk,oh,h]
theorem nJ {o:List Int} {n:Nat} (h:o.Nodup) (hb:∀ x∈o,0≤x∧x < n):o.length≤n:=by
  have:=ml o ((List.range n).map fun (k:Nat)=>(k:Int)) h fun x hx=>by
    have:=hb x hx
    exact List.mem_map.2 ⟨x.toNat,List.mem_range.2 (by omega),by omega⟩
  simpa using this
structure dk (g:aw) (p q:List Bool) (o:List Int) (r:aw):Prop where
  right:br g=true
  pe:p=aT g true
  qe:q=bH g
  oe:o=cD p q g.rules
  re:r=rm g (bd o) p q
  nodup:o.Nodup
  inside:∀ x∈o,0≤x∧x < g.ax.length
  kept:∀ R∈g.rules,bI p q R=true→R.left∈o∧∀ s∈R.right,s < 0→-1 - s∈o
  from_:∀ x∈o,∃ R∈g.rules,bI p q R=true∧R.left=x
  start:g.start∈o
section
variable {g r:aw} {p q:List Bool} {o:List Int}
theorem dk.rules (h:dk g p q o r):r.rules=(g.rules.filter (bI p q)).map (bu (bd o)):=by rw[h.re]; rfl
theorem dk.ax (h:dk g p q o r):r.ax=o.map fun x=>g.ax.getD x.toNat ⟨#[]⟩:=by rw[h.re,h.oe]; rfl
theorem dk.ay (h:dk g p q o r):r.ay=g.ay:=by rw[h.re]; rfl
theorem dk.Cr (h:dk g p q o r):r.start=bd o g.start:=by rw[h.re]; rfl
theorem dk.len (h:dk g p q o r):r.ax.length=o.length:=by rw[h.ax]; simp
theorem dk.jI (h:dk g p q o r):br r=true:=by
  have hf:=bD h.right
  have hR:=h.right
  simp only[br,gv,gP,Bool.and_eq_true,decide_eq_true_eq] at hR ⊢
  obtain ⟨⟨⟨⟨⟨⟨⟨a1,a2⟩,⟨a3,a4⟩,a5⟩,a6⟩,a7⟩,a8⟩,a9⟩,a10⟩:=hR
  have hst:=jz h.start
  have hol:o.length≤g.ax.length:=nJ h.nodup h.inside
  have hgn:g.ax.Nodup∧∀ s∈g.ax,ed (dH s)=true∧jk g s < 0:=by
    rw[qp] at a5
    refine ⟨(p8 g.ax).1 fun k s hk=>?_,fun s hs=>?_⟩
    · have:=a5 k s hk
      simp only[iM,vi,Bool.and_eq_true,beq_iff_eq] at this
      have:=this.1.2
      omega
    · obtain ⟨k,hk⟩:=List.getElem?_of_mem hs
      have:=a5 k s hk
      simp only[iM,Bool.and_eq_true,decide_eq_true_eq] at this
      exact ⟨this.1.1,this.2⟩
  have hget:∀ x∈o,∃ (hx:x.toNat < g.ax.length),g.ax.getD x.toNat ⟨#[]⟩=g.ax[x.toNat]:=fun x hx=>by
    have:=h.inside x hx
    exact ⟨by omega,by simp[List.getD_eq_getElem?_getD,List.getElem?_eq_getElem (show x.toNat < g.ax.length by omega)]⟩
  have hrn:r.ax.Nodup:=by
    rw[h.ax,List.nodup_iff_pairwise_ne,List.pairwise_map]
    refine (List.Pairwise.and_mem.1 h.nodup).imp ?_
    rintro x y ⟨hx,hy,hne⟩ e
    obtain ⟨h1,h2⟩:=hget x hx
    obtain ⟨h3,h4⟩:=hget y hy
    rw[h2,h4] at e
    have h5:=(List.getElem_inj hgn.1).1 e
    have h6:=h.inside x hx
    have h7:=h.inside y hy
    exact hne (by omega)
  have hrules:(g.rules.filter (bI p q)).length≤g.rules.length:=List.length_filter_le _ _
  obtain ⟨R0,hR0,hk0,_⟩:=h.from_ _ h.start
  have hpos:0 < (g.rules.filter (bI p q)).length:=List.length_pos_of_mem (List.mem_filter.2 ⟨hR0,hk0⟩)
  have hrl:r.rules.length=(g.rules.filter (bI p q)).length:=by rw[h.rules]; simp
  refine ⟨⟨⟨⟨⟨⟨⟨by rw[h.ay]; exact a1,?_⟩,⟨by rw[h.len]; omega,by rw[h.len]; omega⟩,?_⟩,by omega⟩,by omega⟩,by rw[h.Cr]; omega⟩,by rw[h.Cr,h.len]; omega⟩,?_⟩
  · rw[h.ay,xz h.ay]; exact a2
  · rw[qp]
    intro k s hk
    have hm:=List.mem_of_getElem? hk
    have hidx:=(p8 r.ax).2 hrn k s hk
    rw[h.ax,List.mem_map] at hm
    obtain ⟨x,hx,rfl⟩:=hm
    obtain ⟨h1,h2⟩:=hget x hx
    obtain ⟨h3,h4⟩:=hgn.2 _ (h2 ▸ List.getElem_mem h1:g.ax.getD x.toNat ⟨#[]⟩∈g.ax)
    simp only[iM,vi,Bool.and_eq_true,beq_iff_eq,decide_eq_true_eq]
    refine ⟨⟨h3,by rw[hidx]; omega⟩,?_⟩
    simp only[jk,h.ay] at h4 ⊢
    exact h4
  · rw[h.rules]
    have:=uz (r:=r) h.nodup h.len (g.rules.filter (bI p q)) [] (by rw[h.oe]; rfl) (fun x hx=>?_)
    · simpa using this
    obtain ⟨hm,hk⟩:=List.mem_filter.1 hx
    obtain ⟨_,hin⟩:=h.kept x hm hk
    have hb:=(wh _ _ a10).2 x hm
    have hb:=hb.2.2
    simp only[eY,Bool.and_eq_true,decide_eq_true_eq,List.all_eq_true] at hb ⊢
    obtain ⟨⟨⟨b1,b2⟩,b3⟩,b4⟩:=hb
    refine ⟨⟨⟨by simpa [bu] using b1,b2⟩,by rw[h.ay]; exact b3⟩,fun s hs=>?_⟩
    simp only[bu,List.mem_map] at hs
    obtain ⟨s0,hs0,rfl⟩:=hs
    have b5:=b4 s0 hs0
    by_cases hn:s0 < 0
    · rw[if_pos hn]
      have hl:=jz (hin s0 hs0 hn)
      simp only[jm,j7,Bool.and_eq_true]
      rw[if_neg (by omega),decide_eq_false (p:=0≤-1 - bd o (-1 - s0)) (by omega)]
      simp only[h.len,decide_eq_true_eq,Bool.false_and,Bool.not_false,and_true]
      omega
    · rw[if_neg hn]
      simp only[jm,j7,h.ay] at b5 ⊢
      rw[if_pos (by omega)] at b5 ⊢
      exact b5
end
inductive r7 (g:aw):Int→Prop
  | mk (R:aY):R∈g.rules→(∀ s∈R.right,s < 0→r7 g (-1 - s))→r7 g R.left
inductive nd (g:aw) (p:List Bool):Int→Prop
  | start:nd g p g.start
  | next (R:aY) (s:Int):R∈g.rules→nd g p R.left→dC R.right p true=true→s∈R.right→s < 0→nd g p (-1 - s)
theorem tQ {l:List Int} {p:List Bool} : dC l p true=true↔∀ s∈l,s < 0→p.getD (-1 - s).toNat false=true:=by
  simp only[dC,List.all_eq_true]
  constructor
  · intro h s hs hn
    have:=h s hs
    rwa [if_neg (by omega)] at this
  · intro h s hs
    by_cases hn:s < 0
    · rw[if_neg (by omega)]; exact h s hs hn
    · rw[if_pos (by omega)]
theorem xV {l:List Bool} {i j:Nat} (h:(l.set i true).getD j false=true):j=i∨l.getD j false=true:=by
  by_cases e:i=j
  · exact .inl e.symm
  · right
    simp only[List.getD_eq_getElem?_getD,List.getElem?_set,if_neg e] at h ⊢
    exact h
theorem yS {g:aw} {i:Nat} : (cm g).getD i false=false:=by
  simp only[cm,List.getD_eq_getElem?_getD,List.getElem?_replicate]
  split <;> rfl
theorem Df {g:aw} (hr:br g=true):∀ i:Nat,(aT g true).getD i false=true→r7 g i:=by
  have hf:=bD hr
  have hst:∀ (is:List Bool) (R:aY),R∈g.rules→(∀ i:Nat,is.getD i false=true→r7 g i)→∀ i:Nat,(cL true is R).getD i false=true→r7 g i:=by
    intro is R hR h i hi
    unfold cL at hi
    split at hi
    · rename_i ha
      rcases xV hi with rfl | hi
      · have:=hf.left R hR
        have e:((R.left.toNat:Nat):Int)=R.left:=by omega
        rw[e]
        refine .mk R hR fun s hs hn=>?_
        have:=h _ (tQ.1 ha s hs hn)
        rwa [show (((-1 - s).toNat:Nat):Int) = -1 - s by omega] at this
      · exact h i hi
    · exact h i hi
  have hfold:∀ (l:List aY) (is:List Bool),(∀ R∈l,R∈g.rules)→(∀ i:Nat,is.getD i false=true→r7 g i)→∀ i:Nat,(l.foldl (cL true) is).getD i false=true→r7 g i:=by
    intro l
    induction l with
    | nil=>intro is _ h; exact h
    | cons R l ih=>intro is hl h; exact ih _ (fun x hx=>hl x (by simp[hx])) (hst is R (hl R (by simp)) h)
  have hit:∀ (n:Nat) (is:List Bool),(∀ i:Nat,is.getD i false=true→r7 g i)→∀ i:Nat,(iter (gp g true) n is).getD i false=true→r7 g i:=by
    intro n
    induction n with
    | zero=>intro is h; exact h
    | succ n ih=>intro is h; exact ih _ (hfold g.rules is (fun _ h=>h) h)
  rw[aT,if_pos hr]
  exact hit _ _ fun i hi=>by rw[yS] at hi; simp at hi
theorem Bv (t:Bool) (is:List Bool) (R:aY):fg is (cL t is R):=by
  unfold cL
  split
  · exact .set _ _
  · exact .refl _
theorem AL (t:Bool):∀ (l:List aY) (is:List Bool),fg is (l.foldl (cL t) is)
  | [],is=>.refl _
  | R :: l,is=>(Bv t is R).trans (AL t l _)
theorem zG {t:Bool} : ∀ {l:List aY} {is:List Bool},l.foldl (cL t) is=is→∀ R∈l,cL t is R=is
  | [],_,_,_,h=>by simp at h
  | R :: l,is,h,x,hx=>by
    rw[List.foldl_cons] at h
    have h1:=AL t l (cL t is R)
    rw[h] at h1
    have h2:=(h1.JG (Bv t is R))
    rcases List.mem_cons.1 hx with rfl | hx
    · exact h2
    · rw[h2] at h; exact zG h x hx
theorem Hw {g:aw} (hr:br g=true) (t:Bool):gp g t (aT g t)=aT g t:=by
  have hf:=bD hr
  have h:=p9 (yY t) g.rules 16 (cm g) (by have:=hf.ax; simp[cm]; omega)
  rw[Ep,MU hr] at h
  exact h.1
theorem pB {g:aw} (hr:br g=true) {t:Bool} {R:aY} (hR:R∈g.rules) (ha:dC R.right (aT g t) t=true):(aT g t).getD R.left.toNat false=true:=by
  have h1:=zG (Hw hr t) R hR
  have hf:=bD hr
  have hl:=qA hr t
  have hb:=hf.left R hR
  unfold cL at h1
  rw[if_pos ha] at h1
  rw[← h1]
  simp only[List.getD_eq_getElem?_getD]
  rw[List.getElem?_set_self (by omega)]
  rfl
theorem vS {g:aw} (hr:br g=true) {x:Int} (h:r7 g x):(aT g true).getD x.toNat false=true:=by
  induction h with
  | mk R hR _ ih=>exact pB hr hR (tQ.2 fun s hs hn=>ih s hs hn)
theorem C9 {g:aw} (hr:br g=true):∀ i:Nat,(bH g).getD i false=true→nd g (aT g true) i:=by
  have hf:=bD hr
  have hmk:∀ (R:aY),R∈g.rules→nd g (aT g true) R.left→dC R.right (aT g true) true=true→∀ (l:List Int) (is:List Bool),(∀ s∈l,s∈R.right)→(∀ i:Nat,is.getD i false=true→nd g (aT g true) i)→∀ i:Nat,(l.foldl mark is).getD i false=true→nd g (aT g true) i:=by
    intro R hR hl ha l
    induction l with
    | nil=>intro is _ h; exact h
    | cons s l ih =>
      intro is hs h
      refine ih _ (fun x hx=>hs x (by simp[hx])) fun i hi=>?_
      unfold mark at hi
      split at hi
      · rename_i hn
        rcases xV hi with rfl | hi
        · rw[show (((-1 - s).toNat:Nat):Int) = -1 - s by omega]
          exact .next R s hR hl ha (hs s (by simp)) hn
        · exact h i hi
      · exact h i hi
  have hst:∀ (is:List Bool) (R:aY),R∈g.rules→(∀ i:Nat,is.getD i false=true→nd g (aT g true) i)→∀ i:Nat,(dP (aT g true) is R).getD i false=true→nd g (aT g true) i:=by
    intro is R hR h
    unfold dP
    split
    · rename_i ha
      rw[Bool.and_eq_true] at ha
      have h1:=h _ ha.1
      have:=hf.left R hR
      rw[show ((R.left.toNat:Nat):Int)=R.left by omega] at h1
      exact hmk R hR h1 ha.2 R.right is (fun _ h=>h) h
    · exact h
  have hfold:∀ (l:List aY) (is:List Bool),(∀ R∈l,R∈g.rules)→(∀ i:Nat,is.getD i false=true→nd g (aT g true) i)→∀ i:Nat,(l.foldl (dP (aT g true)) is).getD i false=true→nd g (aT g true) i:=by
    intro l
    induction l with
    | nil=>intro is _ h; exact h
    | cons R l ih=>intro is hl h; exact ih _ (fun x hx=>hl x (by simp[hx])) (hst is R (hl R (by simp)) h)
  have hit:∀ (n:Nat) (is:List Bool),(∀ i:Nat,is.getD i false=true→nd g (aT g true) i)→∀ i:Nat,(iter (kc g (aT g true)) n is).getD i false=true→nd g (aT g true) i:=by
    intro n
    induction n with
    | zero=>intro is h; exact h
    | succ n ih=>intro is h; exact ih _ (hfold g.rules is (fun _ h=>h) h)
  rw[bH,if_pos hr]
  refine hit _ _ fun i hi=>?_
  rcases xV hi with rfl | hi
  · have:=hf.sM
    rw[show ((g.start.toNat:Nat):Int)=g.start by omega]
    exact .start
  · rw[yS] at hi; simp at hi
theorem vN {g:aw} (hr:br g=true) {x:Int} (h:nd g (aT g true) x):(bH g).getD x.toNat false=true:=by
  induction h with
  | start=>exact En hr
  | next R s hR _ ha hs hn ih=>exact Ga hr hR (by rw[bI,ih,ha]; rfl) hs hn
section
variable {g r:aw} {p q:List Bool} {o:List Int}
theorem dk.N5 (h:dk g p q o r) {x:Int} (hd:r7 g x):x∈o→r7 r (bd o x):=by
  induction hd with
  | mk R hR hsub ih =>
    intro hx
    obtain ⟨R1,hR1,hk1,e1⟩:=h.from_ _ hx
    have hk:bI p q R=true:=by
      rw[bI,Bool.and_eq_true] at hk1 ⊢
      refine ⟨by rw[← e1]; exact hk1.1,?_⟩
      rw[h.pe]
      exact tQ.2 fun s hs hn=>vS h.right (hsub s hs hn)
    have hin:=(h.kept R hR hk).2
    have hm:bu (bd o) R∈r.rules:=by rw[h.rules]; exact List.mem_map.2 ⟨R,List.mem_filter.2 ⟨hR,hk⟩,rfl⟩
    refine r7.mk (bu (bd o) R) hm fun s' hs' hn'=>?_
    simp only[bu,List.mem_map] at hs'
    obtain ⟨s,hs,rfl⟩:=hs'
    by_cases hn:s < 0
    · rw[if_pos hn]
      have:=ih s hs hn (hin s hs hn)
      rwa [show -1 - (-1 - bd o (-1 - s))=bd o (-1 - s) by omega]
    · rw[if_neg hn] at hn'; omega
theorem dk.Nm (h:dk g p q o r) {x:Int} (hx:x∈o):(aT r true).getD (bd o x).toNat false=true:=by
  obtain ⟨R,hR,hk,rfl⟩:=h.from_ _ hx
  rw[bI,Bool.and_eq_true,h.pe] at hk
  have h1:=pB h.right hR hk.2
  have h2:=Df h.right _ h1
  have:=(h.inside _ hx)
  rw[show ((R.left.toNat:Nat):Int)=R.left by omega] at h2
  exact vS h.jI (h.N5 h2 hx)
theorem dk.at_ (h:dk g p q o r) {k:Nat} (hk:k < o.length):∃ x∈o,bd o x=k∧o[k]?=some x:=⟨o[k],List.getElem_mem _,xe h.nodup (List.getElem?_eq_getElem hk),List.getElem?_eq_getElem hk⟩
theorem dk.AP (h:dk g p q o r) {k:Nat} (hk:k < o.length):(aT r true).getD k false=true:=by
  obtain ⟨x,hx,h1,_⟩:=h.at_ hk
  have:=h.Nm hx
  rwa [h1,Int.toNat_natCast] at this
theorem dk.He (h:dk g p q o r) {R:aY} (hR:R∈r.rules):dC R.right (aT r true) true=true:=by
  have hf:=bD h.jI
  refine tQ.2 fun s hs hn=>h.AP ?_
  have:=hf.neg hR hs hn
  rw[h.len] at this
  omega
theorem dk.N9 (h:dk g p q o r) {x:Int} (hd:nd g (aT g true) x):nd r (aT r true) (bd o x):=by
  induction hd with
  | start=>rw[← h.Cr]; exact .start
  | next R s hR h1 ha hs hn ih =>
    have hk:bI p q R=true:=by
      rw[bI,h.pe,h.qe,ha,vN h.right h1]; rfl
    have hm:bu (bd o) R∈r.rules:=by rw[h.rules]; exact List.mem_map.2 ⟨R,List.mem_filter.2 ⟨hR,hk⟩,rfl⟩
    have hin:=(h.kept R hR hk).2 s hs hn
    have h2:=jz hin
    have:=nd.next (g:=r) (p:=aT r true) (bu (bd o) R) (-1 - bd o (-1 - s)) hm ih (h.He hm) (by
      simp only[bu,List.mem_map]
      exact ⟨s,hs,by rw[if_pos hn]⟩) (by omega)
    rwa [show -1 - (-1 - bd o (-1 - s))=bd o (-1 - s) by omega] at this
theorem dk.I8 (h:dk g p q o r) {k:Nat} (hk:k < o.length):(bH r).getD k false=true:=by
  obtain ⟨x,hx,h1,_⟩:=h.at_ hk
  obtain ⟨R,hR,hkk,rfl⟩:=h.from_ _ hx
  rw[bI,Bool.and_eq_true,h.qe] at hkk
  have h2:=C9 h.right _ hkk.1
  have:=(h.inside _ hx)
  rw[show ((R.left.toNat:Nat):Int)=R.left by omega] at h2
  have:=vN h.jI (h.N9 h2)
  rwa [h1,Int.toNat_natCast] at this
def iP (n:Nat):List Int:=(List.range n).map fun (k:Nat)=>(k:Int)
theorem CS (n:Nat):(iP n).length=n:=by simp[iP]
theorem yh {n k:Nat} (h:k < n):(iP n)[k]?=some (k:Int):=by simp[iP,h]
theorem FW (n:Nat):(iP n).Nodup:=by
  rw[iP,List.nodup_iff_pairwise_ne,List.pairwise_map]
  exact (List.nodup_range (n:=n)).imp fun h e=>h (by omega)
theorem yb {n:Nat} {x:Int} (h0:0≤x) (h1:x < n):bd (iP n) x=x:=by
  have:=xe (FW n) (yh (n:=n) (k:=x.toNat) (by omega))
  rw[show ((x.toNat:Nat):Int)=x by omega] at this
  exact this
theorem Bq {p q:List Bool} : ∀ (l:List aY) (i:Int),(∀ R∈l,bI p q R=true)→cM p q l i=(List.range l.length).map fun (k:Nat)=>i+(k:Int)
  | [],_,_=>rfl
  | R :: l,i,h=>by
    rw[cM,if_pos (h R (by simp)),Bq l (i+1) (fun x hx=>h x (by simp[hx])),List.length_cons,List.range_succ_eq_map,List.map_cons,List.map_map]
    congr 1
    · omega
    · apply List.map_congr_left
      intro k _
      simp only[Function.comp]
      push_cast; omega
theorem sB {f:Int→Int} {o:List Int} (hf:∀ x∈o,∀ y∈o,f x=f y→x=y):∀ (l:List aY) (acc:List Int),(∀ x∈acc,x∈o)→(∀ R∈l,R.left∈o)→(l.map (bu f)).foldl dD (acc.map f)=(l.foldl dD acc).map f
  | [],_,_,_=>rfl
  | R :: l,acc,ha,hl=>by
    have e:dD (acc.map f) (bu f R)=(dD acc R).map f:=by
      have h1:(bu f R).left=f R.left:=rfl
      unfold dD
      rw[h1]
      by_cases h:R.left∈acc
      · rw[if_pos h,if_pos (List.mem_map.2 ⟨_,h,rfl⟩)]
      · rw[if_neg h,if_neg (fun hm=>by
          obtain ⟨y,hy,e⟩:=List.mem_map.1 hm
          exact h (hf y (ha y hy) _ (hl R (by simp)) e ▸ hy))]
        simp
    rw[List.map_cons,List.foldl_cons,List.foldl_cons,e]
    refine sB hf l (dD acc R) (fun x hx=>?_) (fun x hx=>hl x (by simp[hx]))
    unfold dD at hx
    split at hx
    · exact ha x hx
    · rcases List.mem_append.1 hx with hx | hx
      · exact ha x hx
      · simp at hx; subst hx; exact hl R (by simp)
theorem dk.inj (h:dk g p q o r):∀ x∈o,∀ y∈o,bd o x=bd o y→x=y:=by
  intro x hx y hy e
  have h1:=xZ hx
  have h2:=xZ hy
  rw[e,h2] at h1
  exact (Option.some.inj h1).symm
theorem dk.LD (h:dk g p q o r):o.map (bd o)=iP o.length:=by
  apply List.ext_getElem?
  intro k
  rw[List.getElem?_map]
  by_cases hk:k < o.length
  · rw[yh hk,List.getElem?_eq_getElem hk,Option.map_some,xe h.nodup (List.getElem?_eq_getElem hk)]
  · rw[List.getElem?_eq_none (by omega),List.getElem?_eq_none (by rw[CS]; omega)]; rfl
theorem dk.yl (h:dk g p q o r):∀ R∈r.rules,bI (aT r true) (bH r) R=true:=fun R hR=>by
  have hf:=bD h.jI
  have:=hf.left R hR
  rw[h.len] at this
  rw[bI,h.I8 (by omega),h.He hR]; rfl
theorem dk.ord (h:dk g p q o r):cD (aT r true) (bH r) r.rules=iP o.length:=by
  unfold cD
  rw[List.filter_eq_self.2 h.yl,h.rules]
  have:=sB h.inj (g.rules.filter (bI p q)) [] (by simp) (fun R hR=>by
    obtain ⟨h1,h2⟩:=List.mem_filter.1 hR
    exact (h.kept R h1 h2).1)
  rw[List.map_nil] at this
  rw[this,← h.LD]
  congr 1
  rw[h.oe]; rfl
theorem dk.once (h:dk g p q o r):hZ r=(r,iP r.rules.length,0):=by
  have hf:=bD h.jI
  have hst:=hf.start
  have hst0:=hf.sM
  rw[h.len] at hst
  rw[vr h.jI,if_pos (h.AP (by omega)),h.ord]
  have hk:cM (aT r true) (bH r) r.rules 0=iP r.rules.length:=by
    rw[Bq _ _ h.yl]
    unfold iP
    apply List.map_congr_left
    intro k _; omega
  have hr:rm r (bd (iP o.length)) (aT r true) (bH r)=r:=by
    unfold rm
    rw[h.ord,List.filter_eq_self.2 h.yl]
    have e1:((iP o.length).map fun x=>r.ax.getD x.toNat ⟨#[]⟩)=r.ax:=by
      apply List.ext_getElem?
      intro k
      rw[List.getElem?_map]
      by_cases hkk:k < o.length
      · rw[yh hkk,Option.map_some]
        simp[List.getD_eq_getElem?_getD,List.getElem?_eq_getElem (show k < r.ax.length by rw[h.len]; omega)]
      · rw[List.getElem?_eq_none (by rw[CS]; omega),List.getElem?_eq_none (by rw[h.len]; omega)]; rfl
    have e2:r.rules.map (bu (bd (iP o.length)))=r.rules:=by
      conv=>rhs; rw[← List.map_id r.rules]
      apply List.map_congr_left
      intro R hR
      have hl:=hf.left R hR
      rw[h.len] at hl
      unfold bu
      rw[yb hl.1 hl.2]
      have e3:(R.right.map fun s=>if s < 0 then -1 - bd (iP o.length) (-1 - s) else s)=R.right:=by
        conv=>rhs; rw[← List.map_id R.right]
        apply List.map_congr_left
        intro s hs
        by_cases hn:s < 0
        · have:=hf.neg hR hs hn
          rw[h.len] at this
          rw[if_pos hn,yb (by omega) this]
          simp only[id]; omega
        · rw[if_neg hn]; rfl
      rw[e3]; rfl
    rw[e1,e2,yb hst0 hst]
  rw[hr,hk]
end
def isRed (g:aw):Bool:=(hZ g).2.2 == 0 && decide (g=(hZ g).1)
def mQ (p:List Int) (i:Nat) (s:Int):Prop:=∃ c,p[i]?=some c∧(c=s∨c = -1)
inductive Sp (g:aw) (p:List Int):List Int→Nat→Nat→Prop
  | nil (i:Nat):Sp g p [] i i
  | term (s:Int) (l:List Int) (i j:Nat):0≤s→mQ p i s→Sp g p l (i+1) j→Sp g p (s :: l) i j
  | dc (s:Int) (l:List Int) (R:aY) (i k j:Nat):s < 0→R∈g.rules→R.left = -1 - s→Sp g p R.right i k→Sp g p l k j→Sp g p (s :: l) i j
theorem Sp.le {g:aw} {p:List Int} {l:List Int} {i j:Nat} (h:Sp g p l i j):i≤j:=by
  induction h with
  | nil=>exact Nat.le_refl _
  | term _ _ _ _ _ _ _ ih=>omega
  | dc _ _ _ _ _ _ _ _ _ _ _ ih1 ih2=>omega
theorem Sp.len {g:aw} {p:List Int} {l:List Int} {i j:Nat} (h:Sp g p l i j):i≤p.length→j≤p.length:=by
  induction h with
  | nil=>exact id
  | term _ _ i _ _ hf _ ih =>
    intro _
    obtain ⟨c,hc,_⟩:=hf
    have:=(List.getElem?_eq_some_iff.1 hc).1
    exact ih (by omega)
  | dc _ _ _ _ _ _ _ _ _ _ _ ih1 ih2=>exact fun h=>ih2 (ih1 h)
theorem Sp.app {g:aw} {p:List Int} {a:List Int} {i k:Nat} (h:Sp g p a i k):∀ {b:List Int} {j:Nat},Sp g p b k j→Sp g p (a ++ b) i j:=by
  induction h with
  | nil=>exact fun h=>h
  | term s l i _ h0 hf _ ih=>exact fun hb=>.term s _ i _ h0 hf (ih hb)
  | dc s l R i k _ h0 hR hl h1 _ _ ih2=>exact fun hb=>.dc s _ R i k _ h0 hR hl h1 (ih2 hb)
theorem Sp.split {g:aw} {p:List Int} : ∀ {a b:List Int} {i j:Nat},Sp g p (a ++ b) i j→∃ k,Sp g p a i k∧Sp g p b k j
  | [],b,i,j,h=>⟨i,.nil i,h⟩
  | s :: a,b,i,j,h=>by
    cases h with
    | term _ _ _ _ h0 hf h =>
      obtain ⟨k,h1,h2⟩:=Sp.split h
      exact ⟨k,.term s a i k h0 hf h1,h2⟩
    | dc _ _ R _ m _ h0 hR hl h1 h =>
      obtain ⟨k,h2,h3⟩:=Sp.split h
      exact ⟨k,.dc s a R i m k h0 hR hl h1 h2,h3⟩
structure Item where
  bN:Nat
  dot:Nat
  jC:Nat
  deriving DecidableEq
def Sound (g:aw) (p:List Int) (at_:Nat) (x:Item):Prop:=∃ R,g.rules[x.bN]?=some R∧x.dot≤R.right.length∧x.jC≤at_∧Sp g p (R.right.take x.dot) x.jC at_
structure N8 (g:aw) (p:List Int) (S:Nat→List Item):Prop where
  start:∀ (i:Nat) (R:aY),g.rules[i]?=some R→R.left=g.start→⟨i,0,0⟩∈S 0
  term:∀ a x R s,x∈S a→g.rules[x.bN]?=some R→R.right[x.dot]?=some s→0≤s→mQ p a s→⟨x.bN,x.dot+1,x.jC⟩∈S (a+1)
  pred:∀ a x R s i R',x∈S a→g.rules[x.bN]?=some R→R.right[x.dot]?=some s→s < 0→g.rules[i]?=some R'→R'.left = -1 - s→a≤p.length→⟨i,0,a⟩∈S a
  null:∀ a x R s,x∈S a→g.rules[x.bN]?=some R→R.right[x.dot]?=some s→s < 0→(aT g false).getD (-1 - s).toNat false=true→a≤p.length→⟨x.bN,x.dot+1,x.jC⟩∈S a
  comp:∀ a y R' x R s,y∈S a→g.rules[y.bN]?=some R'→y.dot=R'.right.length→y.jC < a→x∈S y.jC→g.rules[x.bN]?=some R→R.right[x.dot]?=some s→s < 0→R'.left = -1 - s→a≤p.length→⟨x.bN,x.dot+1,x.jC⟩∈S a
inductive In (p:List Int) (T:Nat→Nat→Nat→Prop):List Int→Nat→Nat→Prop
  | nil (i:Nat):In p T [] i i
  | term (s:Int) (l:List Int) (i j:Nat):0≤s→mQ p i s→In p T l (i+1) j→In p T (s :: l) i j
  | dc (s:Int) (l:List Int) (i k j:Nat):s < 0→T (-1 - s).toNat i k→In p T l k j→In p T (s :: l) i j
theorem In.app {p:List Int} {T:Nat→Nat→Nat→Prop} {a:List Int} {i k:Nat} (h:In p T a i k):∀ {b:List Int} {j:Nat},In p T b k j→In p T (a ++ b) i j:=by
  induction h with
  | nil=>exact fun h=>h
  | term s l i _ h0 hf _ ih=>exact fun hb=>.term s _ i _ h0 hf (ih hb)
  | dc s l i k _ h0 h1 _ ih=>exact fun hb=>.dc s _ i k _ h0 h1 (ih hb)
theorem In.split {p:List Int} {T:Nat→Nat→Nat→Prop} : ∀ {a b:List Int} {i j:Nat},In p T (a ++ b) i j→∃ k,In p T a i k∧In p T b k j
  | [],b,i,j,h=>⟨i,.nil i,h⟩
  | s :: a,b,i,j,h=>by
    cases h with
    | term _ _ _ _ h0 hf h =>
      obtain ⟨k,h1,h2⟩:=In.split h
      exact ⟨k,.term s a i k h0 hf h1,h2⟩
    | dc _ _ _ m _ h0 h1 h =>
      obtain ⟨k,h2,h3⟩:=In.split h
      exact ⟨k,.dc s a i m k h0 h1 h2,h3⟩
theorem In.le {p:List Int} {T:Nat→Nat→Nat→Prop} (hT:∀ n i j,T n i j→i≤j) {l:List Int} {i j:Nat} (h:In p T l i j):i≤j:=by
  induction h with
  | nil=>exact Nat.le_refl _
  | term _ _ _ _ _ _ _ ih=>omega
  | dc _ _ _ _ _ _ h1 _ ih=>have:=hT _ _ _ h1; omega
def stepT (p:List Int) (T:Nat→Nat→Nat→Prop) (s:Int) (i j:Nat):Prop:=if 0≤s then mQ p i s∧j=i+1 else T (-1 - s).toNat i j
theorem In.one {p:List Int} {T:Nat→Nat→Nat→Prop} {s:Int} {i j:Nat} : In p T [s] i j↔stepT p T s i j:=by
  unfold stepT
  constructor
  · intro h
    cases h with
    | term _ _ _ _ h0 hf h=>cases h; rw[if_pos h0]; exact ⟨hf,rfl⟩
    | dc _ _ _ _ _ h0 h1 h=>cases h; rw[if_neg (by omega)]; exact h1
  · intro h
    by_cases h0:0≤s
    · rw[if_pos h0] at h
      obtain ⟨hf,rfl⟩:=h
      exact .term s [] i _ h0 hf (.nil _)
    · rw[if_neg h0] at h
      exact .dc s [] i j j (by omega) h (.nil _)
abbrev Tb:=List (List (List Bool))
def yf (T:Tb) (N M:Nat):Prop:=T.length=N∧∀ r∈T,r.length=M∧∀ c∈r,c.length=M
theorem yf.row {T:Tb} {N M n:Nat} (h:yf T N M) (hn:n < N):∃ r,T[n]?=some r∧r.length=M∧T.getD n []=r:=by
  have:n < T.length:=by rw[h.1]; exact hn
  exact ⟨T[n],List.getElem?_eq_getElem this,(h.2 _ (List.getElem_mem _)).1,by simp[List.getD_eq_getElem?_getD,this]⟩
theorem yf.cell {T:Tb} {N M n i:Nat} (h:yf T N M) (hn:n < N) (hi:i < M):∃ r c,T[n]?=some r∧r[i]?=some c∧c.length=M∧(T.getD n []).getD i []=c:=by
  obtain ⟨r,hr,hl,hg⟩:=h.row hn
  have h1:i < r.length:=by omega
  refine ⟨r,r[i],hr,List.getElem?_eq_getElem h1,(h.2 r (List.mem_of_getElem? hr)).2 _ (List.getElem_mem _),?_⟩
  rw[hg]; simp[List.getD_eq_getElem?_getD,h1]
def Gg (T:Tb) (n i j:Nat):Tb:=T.set n ((T.getD n []).set i (((T.getD n []).getD i []).set j true))
def M1 (N M:Nat):Tb:=List.replicate N (List.replicate M (List.replicate M false))
def KW (T:Tb):V:=.aM (T.map fun r=>[.aM (r.map fun c=>[cO c])])
structure pg (H:View) (I N M:Nat) (R:Nat→Nat) (C:Nat→Nat→Nat) (T:Tb):Prop where
  top:H I=.arr 1 ((List.range N).map fun n=>[.sl (R n) 0 M 1])
  row:∀ n,n < N→H (R n)=.arr 1 ((List.range M).map fun i=>[.sl (C n i) 0 M 1])
  cell:∀ n i,n < N→i < M→H (C n i)=.arr 1 (ef ((T.getD n []).getD i []))
  inj:∀ n i n' i',n < N→i < M→n' < N→i' < M→C n i=C n' i'→n=n'∧i=i'
theorem ye {c:List Bool} {k:Nat} {F:Nat→List V} (hc:0 < c.length) (h:ef c=(List.range k).map F) (hF:∀ n x,F n≠[gb x]):False:=by
  cases c with
  | nil=>simp at hc
  | cons x c =>
    cases k with
    | zero=>simp at h
    | succ k =>
      rw[List.range_succ_eq_map] at h
      simp only[List.map_cons,List.cons.injEq] at h
      exact hF 0 x h.1.symm
theorem pg.keep {H H':View} {I N M:Nat} {R:Nat→Nat} {C:Nat→Nat→Nat} {T:Tb} (h:pg H I N M R C T) (hk:∀ id,H id≠.dead→H' id=H id):pg H' I N M R C T :=
  ⟨by rw[hk _ (by rw[h.top]; simp)]; exact h.top,fun n hn=>by rw[hk _ (by rw[h.row n hn]; simp)]; exact h.row n hn,fun n i hn hi=>by rw[hk _ (by rw[h.cell n i hn hi]; simp)]; exact h.cell n i hn hi,h.inj⟩
theorem pg.put {H:View} {I N M:Nat} {R:Nat→Nat} {C:Nat→Nat→Nat} {T:Tb} (h:pg H I N M R C T) (hT:yf T N M) {n i j:Nat} (hn:n < N) (hi:i < M) (hj:j < M) :
    pg (H.set (C n i) (.arr 1 (ef (((T.getD n []).getD i []).set j true)))) I N M R C (Gg T n i j):=by
  obtain ⟨r,c,hr,hc,hcl,hg⟩:=hT.cell hn hi
  have hcell:=h.cell n i hn hi
  rw[hg] at hcell
  have e1:I≠C n i:=fun e=>by
    have:=h.top
    rw[e,hcell] at this
    simp only[bK.arr.injEq,true_and] at this
    exact ye (by omega) this fun _ _=>by simp
  have e2:∀ m,m < N→R m≠C n i:=fun m hm e=>by
    have:=h.row m hm
    rw[e,hcell] at this
    simp only[bK.arr.injEq,true_and] at this
    exact ye (by omega) this fun _ _=>by simp
  refine ⟨by simp only[View.set,if_neg e1]; exact h.top,fun m hm=>by simp only[View.set,if_neg (e2 m hm)]; exact h.row m hm,fun m q hm hq=>?_,h.inj⟩
  obtain ⟨r',hr',hrl,hg'⟩:=hT.row hn
  rw[hr] at hr'; simp at hr'; subst hr'
  have hnl:n < T.length:=by rw[hT.1]; exact hn
  by_cases e:C m q=C n i
  · obtain ⟨rfl,rfl⟩:=h.inj m q n i hm hq hn hi e
    simp only[View.set,if_true]
    congr 2
    rw[Gg]
    simp[List.getD_eq_getElem?_getD,hnl]
    rw[List.getElem?_set]
    have:q < T[m].length:=by
      have:=(List.getElem?_eq_some_iff.1 hr).2
      rw[this,hrl]; exact hq
    simp[this]
  · simp only[View.set,if_neg e]
    rw[h.cell m q hm hq]
    congr 2
    rw[Gg]
    by_cases em:n=m
    · subst em
      have eq:i≠q:=fun e'=>e (by rw[e'])
      simp[List.getD_eq_getElem?_getD,hnl,eq]
    · simp[List.getD_eq_getElem?_getD,em]
theorem pg.NF {h:aE} {I N M:Nat} {R:Nat→Nat} {C:Nat→Nat→Nat} {T:Tb} (hG:pg h.view I N M R C T) (hT:yf T N M):dh h (.sl I 0 N 1) (KW T):=by
  refine .sl I 0 N 1 1 _ _ hG.top (by simp) (by simp[hT.1]) (fun n hn=>?_) (fun n j hn hj=>?_)
  · obtain ⟨r,hr,_⟩:=hT.row hn
    simp[List.getD_eq_getElem?_getD,hr,hn]
  · obtain ⟨r,hr,hrl,hrg⟩:=hT.row hn
    have e1:((T.map fun r=>[V.aM (r.map fun c=>[cO c])]).getD n [])=[V.aM (r.map fun c=>[cO c])]:=by simp[List.getD_eq_getElem?_getD,hr]
    have e2:(((List.range N).map fun n=>[V.sl (R n) 0 M 1]).getD (0+n) [])=[V.sl (R n) 0 M 1]:=by simp[List.getD_eq_getElem?_getD,hn]
    rw[e1] at hj ⊢
    rw[e2]
    have:j=0:=by simp at hj; omega
    subst this
    simp only[List.getD_cons_zero]
    refine .sl (R n) 0 M 1 1 _ _ (hG.row n hn) (by simp) (by simp[hrl]) (fun i hi=>?_) (fun i q hi hq=>?_)
    · simp[List.getD_eq_getElem?_getD,hi,show i < r.length by omega]
    · have hic:i < r.length:=by omega
      have f1:((r.map fun c=>[cO c]).getD i [])=[cO r[i]]:=by simp[List.getD_eq_getElem?_getD,hic]
      have f2:(((List.range M).map fun i=>[V.sl (C n i) 0 M 1]).getD (0+i) [])=[V.sl (C n i) 0 M 1]:=by simp[List.getD_eq_getElem?_getD,hi]
      rw[f1] at hq ⊢
      rw[f2]
      have:q=0:=by simp at hq; omega
      subst this
      simp only[List.getD_cons_zero]
      have hcell:=hG.cell n i hn hi
      have e3:(T.getD n []).getD i []=r[i]:=by rw[hrg]; simp[List.getD_eq_getElem?_getD,hic]
      rw[e3] at hcell
      have hcl:=(hT.2 r (List.mem_of_getElem? hr)).2 _ (List.getElem_mem hic)
      have:=pX (h:=h) (id:=C n i) (is:=r[i]) hcell
      rwa [hcl] at this
theorem dh.Mz {h:aE} {v t:V} (f:dh h v t):Fr h v t:=by
  induction f with
  | val v=>exact .tree _ (.val v)
  | emp k=>exact .emp k
  | sl id off len esz z es es' hH hle hlen hl _ ih=>exact .sl id off len esz z es es' hH hle hlen hl ih
  | agg cs cs' hl _ ih=>exact .agg cs cs' hl ih
  | bh cs cs' hl _ ih=>exact .bh cs cs' hl ih
theorem pg.Gw {H:View} {I N M:Nat} {R:Nat→Nat} {C:Nat→Nat→Nat} {T:Tb} (hG:pg H I N M R C T) (hT:yf T N M):cZ H (.sl I 0 N 1) (KW T):=by
  rintro h rfl
  exact (hG.NF hT).Mz
structure MF (H:View) (I N M k:Nat) (R:Nat→Nat) (C:Nat→Nat→Nat):Prop where
  top:H I=.arr 1 ((List.range N).map fun n=>[if n < k then .sl (R n) 0 M 1 else .emp 1])
  row:∀ n,n < k→H (R n)=.arr 1 ((List.range M).map fun i=>[.sl (C n i) 0 M 1])
  cell:∀ n i,n < k→i < M→H (C n i)=.arr 1 (List.replicate M [gb false])
  inj:∀ n i n' i',n < k→i < M→n' < k→i' < M→C n i=C n' i'→n=n'∧i=i'
  ne:∀ n,n < k→I≠R n
structure CH (H:View) (I N M k:Nat) (R:Nat→Nat) (C:Nat→Nat→Nat) (r i:Nat) (D:Nat→Nat):Prop where
  top:H I=.arr 1 ((List.range N).map fun n=>[if n < k then .sl (R n) 0 M 1 else if n=k then .sl r 0 M 1 else .emp 1])
  row:∀ n,n < k→H (R n)=.arr 1 ((List.range M).map fun i=>[.sl (C n i) 0 M 1])
  cell:∀ n i,n < k→i < M→H (C n i)=.arr 1 (List.replicate M [gb false])
  inj:∀ n i n' i',n < k→i < M→n' < k→i' < M→C n i=C n' i'→n=n'∧i=i'
  ne:∀ n,n < k→I≠R n
  MD:H r=.arr 1 ((List.range M).map fun j=>[if j < i then .sl (D j) 0 M 1 else .emp 1])
  B1:∀ j,j < i→H (D j)=.arr 1 (List.replicate M [gb false])
  ME:∀ j j',j < i→j' < i→D j=D j'→j=j'
  AQ:I≠r∧(∀ n,n < k→R n≠r)∧∀ n q j,n < k→q < M→j < i→C n q≠D j
theorem Fx {M i:Nat} {F:Nat→List V} {v:List V} : ((List.range M).map F).set i v=(List.range M).map fun j=>if j=i then v else F j:=by
  apply List.ext_getElem (by simp)
  intro j h1 h2
  simp only[List.getElem_set,List.getElem_map,List.getElem_range]
  by_cases e:i=j
  · subst e; simp
  · rw[if_neg e,if_neg (Ne.symm e)]
theorem MF.done {H:View} {I N M:Nat} {R:Nat→Nat} {C:Nat→Nat→Nat} (h:MF H I N M N R C):pg H I N M R C (M1 N M):=by
  refine ⟨?_,h.row,fun n i hn hi=>?_,h.inj⟩
  · rw[h.top]
    congr 1
    apply List.map_congr_left
    intro n hn
    rw[if_pos (by simpa using hn)]
  · rw[h.cell n i hn hi]
    simp[M1,List.getD_eq_getElem?_getD,hn,hi]
theorem CH.NX {H:View} {I N M k:Nat} {R:Nat→Nat} {C:Nat→Nat→Nat} {r:Nat} {D:Nat→Nat} (h:CH H I N M k R C r M D):MF H I N M (k+1) (fun n=>if n=k then r else R n) (fun n=>if n=k then D else C n):=by
  refine ⟨?_,fun n hn=>?_,fun n i hn hi=>?_,fun n i n' i' hn hi hn' hi' e=>?_,fun n hn=>?_⟩
  · rw[h.top]
    congr 1
    apply List.map_congr_left
    intro n _
    by_cases e1:n < k
    · rw[if_pos e1,if_pos (by omega),if_neg (by omega)]
    · by_cases e2:n=k
      · rw[if_neg e1,if_pos e2,if_pos (by omega),if_pos e2]
      · rw[if_neg e1,if_neg e2,if_neg (by omega)]
  · by_cases e:n=k
    · simp only[if_pos e]
      rw[h.MD]
      congr 1
      apply List.map_congr_left
      intro i hi
      rw[if_pos (by simpa using hi)]
    · simp only[if_neg e]; exact h.row n (by omega)
  · by_cases e:n=k
    · simp only[if_pos e]; exact h.B1 i hi
    · simp only[if_neg e]; exact h.cell n i (by omega) hi
  · by_cases e1:n=k
    · by_cases e2:n'=k
      · simp only[if_pos e1,if_pos e2] at e
        exact ⟨by omega,h.ME i i' hi hi' e⟩
      · simp only[if_pos e1,if_neg e2] at e
        exact absurd e.symm (h.AQ.2.2 n' i' i (by omega) hi' hi)
    · by_cases e2:n'=k
      · simp only[if_neg e1,if_pos e2] at e
        exact absurd e (h.AQ.2.2 n i i' (by omega) hi hi')
      · simp only[if_neg e1,if_neg e2] at e
        exact h.inj n i n' i' (by omega) hi (by omega) hi' e
  · by_cases e:n=k
    · simp only[if_pos e]; exact h.AQ.1
    · simp only[if_neg e]; exact h.ne n (by omega)
theorem CH.next {H H':View} {I N M k:Nat} {R:Nat→Nat} {C:Nat→Nat→Nat} {r i d:Nat} {D:Nat→Nat} (h:CH H I N M k R C r i D) (hN:0 < N) (hM:0 < M) (hd:H d=.dead)
    (hr':H' r=.arr 1 (((List.range M).map fun j=>[if j < i then V.sl (D j) 0 M 1 else .emp 1]).set i [.sl d 0 M 1])) (hd':H' d=.arr 1 (List.replicate M [gb false])) (ho:∀ id,H id≠.dead→id≠r→H' id=H id) :
    CH H' I N M k R C r (i+1) (fun j=>if j=i then d else D j):=by
  have live:∀ id,H id≠.dead→id≠d:=fun id hid e=>by subst e; exact hid hd
  have boolr:∀ id,H id=.arr 1 (List.replicate M [gb false])→id≠r:=fun id hid e=>by
    rw[e,h.MD] at hid
    simp only[bK.arr.injEq,true_and] at hid
    have:=congrArg (·[0]?) hid
    simp[hM] at this
    split at this <;> simp at this
  refine ⟨?_,fun n hn=>?_,fun n q hn hq=>?_,h.inj,h.ne,?_,fun j hj=>?_,fun j j' hj hj' e=>?_,⟨h.AQ.1,h.AQ.2.1,fun n q j hn hq hj=>?_⟩⟩
  · rw[ho I (by rw[h.top]; simp) h.AQ.1]; exact h.top
  · rw[ho _ (by rw[h.row n hn]; simp) (h.AQ.2.1 n hn)]; exact h.row n hn
  · have:=h.cell n q hn hq
    rw[ho _ (by rw[this]; simp) (boolr _ this)]; exact this
  · rw[hr',Fx]
    congr 1
    apply List.map_congr_left
    intro j _
    by_cases e:j=i
    · rw[if_pos e,if_pos (by omega),if_pos e]
    · rw[if_neg e]
      by_cases e2:j < i
      · rw[if_pos e2,if_pos (by omega),if_neg e]
      · rw[if_neg e2,if_neg (by omega)]
  · by_cases e:j=i
    · simp only[if_pos e]; exact hd'
    · simp only[if_neg e]
      have:=h.B1 j (by omega)
      rw[ho _ (by rw[this]; simp) (boolr _ this)]; exact this
  · by_cases e1:j=i
    · by_cases e2:j'=i
      · omega
      · simp only[if_pos e1,if_neg e2] at e
        exact absurd e.symm (live _ (by rw[h.B1 j' (by omega)]; simp))
    · by_cases e2:j'=i
      · simp only[if_neg e1,if_pos e2] at e
        exact absurd e (live _ (by rw[h.B1 j (by omega)]; simp))
      · simp only[if_neg e1,if_neg e2] at e
        exact h.ME j j' (by omega) (by omega) e
  · by_cases e:j=i
    · simp only[if_pos e]; exact live _ (by rw[h.cell n q hn hq]; simp)
    · simp only[if_neg e]; exact h.AQ.2.2 n q j hn hq (by omega)
def wi (g:aw) (w:List Int):Bool:=w.all fun x=>decide (0≤x) && decide (x < g.ay.length)
def fc (g:aw) (w:List Int):Bool:=br g && decide (w.length≤60) && wi g w
theorem B8 (g:aw) (w:List Int):∀ v∈[V.agg (av g),encI w],Tree v:=by
  intro v hv; simp at hv
  rcases hv with rfl | rfl
  · exact cy _ (cH g)
  · exact ej w
def kh:SC :=
  .seq (.seq (aq [aa 14 5,aa 15 1,aC 16 15,aF 17 .lss 14 16]) <|
  .cond (.tmp 17) (.skip) (.exit 0)) <|
  .seq (.block 1 (.seq (.region false [⟨none,[aa 20 1,aa 21 5,aG 22 1 20 21,ak 23 22,au 24 .lss 23 0,aa 25 24]⟩,⟨(some (25,false)),[aa 26 1,aa 27 5,aG 28 1 26 27,ak 29 28,an 30 0 2,ak 31 30,aC 32 31,aF 33 .geq 29 32]⟩,⟨none,[aX 34 25 33]⟩]) <|
  .cond (.tmp 34) (.seq (aq [aN 4 false]) <|
  .ret) (.skip))) <|
  aq [aa 18 5,au 19 .add 18 1,aa 5 19]
def nh:SF:=⟨.seq (aq [bA 2 0,aN 4 false]) <|
  .seq (.seq (.region false [⟨none,[aH 6 4 2,aI 7 48 [6],bB 8 7,aa 9 8]⟩,⟨(some (9,false)),[aa 10 1,aC 11 10,au 12 .gtr 11 60]⟩,⟨none,[aX 13 9 12]⟩]) <|
  .cond (.tmp 13) (.seq (aq [aN 4 false]) <|
  .ret) (.skip)) <|
  .seq (.seq (aq [aA 5 0]) <|
  .block 0 (.loop kh)) <|
  .seq (aq [aN 4 true]) <|
  .ret,
  [.tmp 4],35⟩
theorem rU:bo Tryz.prog 19 [2]=some nh:=by kernel_rfl
def sq:SF:=⟨.seq (aq [aN 3 false]) <|
  .seq (.region false [⟨none,[aa 4 0,au 5 .lss 4 0,aa 6 5]⟩,⟨(some (6,false)),[aa 7 0,an 8 0 1,ak 9 8,aC 10 9,aF 11 .geq 7 10]⟩,⟨none,[aX 12 6 11,aa 3 12]⟩]) <|
  .ret,
  [.tmp 3],13⟩
theorem xj:bo Tryz.prog 47 []=some sq:=by kernel_rfl
def wy:SF:=⟨.seq (aq [bA 2 0,aN 4 false]) <|
  .seq (.seq (.region false [⟨none,[aH 5 4 2,aI 6 45 [5],bB 7 6,aa 8 7]⟩,⟨(some (8,false)),[aa 9 1,aC 10 9,au 11 .gtr 10 60]⟩,⟨none,[aX 12 8 11]⟩]) <|
  .cond (.tmp 12) (.seq (aq [aN 4 false]) <|
  .ret) (.skip)) <|
  .seq (aq [aa 13 1,((some 14),.op (.q8 47 [] [(.tmp 2)])),aI 15 46 [13,14],bB 16 15,aa 4 16]) <|
  .ret,
  [.tmp 4],17⟩
theorem zM:bo Tryz.prog 18 [2]=some wy:=by kernel_rfl
set_option maxHeartbeats 2000000 in
theorem Bn (g:aw) (hg:g.Ok) (p:List Int) (hp:bc p) (hn:∀ x∈p,bW x):aJ Tryz.prog 19 [.agg (av g),encI p] (gb (fc g p)):=by
  refine aJ.val (B8 g p) fun H=>?_
  refine aL.of mixed rU ?_
  unfold bc at hp
  have hgt:=hg.ay
  unfold bc at hgt
  simp (disch:=omega) only [↓wr,↓reduceIte,wq,ai,Nat.reduceEqDiff,Nat.reduceAdd,Nat.reduceLeDiff,nh,av,encS,encI]
  refine aO.pure (iw g hg) (by kernel_rfl) ?_
  simp (disch:=omega) only [↓wr,↓reduceIte,wq]
  refine ar.split (fun hr=>?_) (fun hr=>?_)
  · simp (disch:=omega) only [↓wr,↓reduceIte,wq,ag,ao,Nat.reduceEqDiff]
    refine ar.dec (fun h6=>?_) (fun h6=>?_)
    · simp (disch:=omega) only [↓wr,↓reduceIte,wq,reduceCtorEq]
      rw[fc,decide_eq_false (show ¬ p.length≤60 by omega)]; simp
    · simp (disch:=omega) only [↓wr,wq]
      refine bC.up p.length (fun i T' H'=>wi g (p.take i)=true∧T' 1=encI p∧T' 2=.aQ (av g) 0∧T' 5=gi i) ⟨rfl,rfl,rfl,rfl⟩ ?_
      rintro i k T' H' hk ⟨hpt,t1,t2,t6⟩
      simp (disch:=omega) only [↓wr,↓reduceIte,wq,ag,ao,Nat.reduceEqDiff,reduceCtorEq,kh,t1,t6,encI]
      refine ar.dec (fun hc=>?_) (fun hc=>?_)
      · have hg1:p[i]?=some (p[i]'(by omega)):=List.getElem?_eq_getElem (by omega)
        have hmem:p[i]'(by omega)∈p:=List.getElem_mem _
        have htk:p.take (i+1)=p.take i ++ [p[i]'(by omega)]:=by rw[List.take_add_one,hg1]; rfl
        generalize p[i]'(by omega)=x at hg1 hmem htk
        have hpn:wi g (p.take (i+1))=(decide (0≤x) && decide (x < g.ay.length)):=by
          unfold wi at hpt ⊢
          rw[htk,List.all_append,hpt]; simp
        have hbx:(decide (0≤x) && decide (x < g.ay.length))=false→fc g p=false:=fun e=>by
          have:wi g p=false:=by
            unfold wi
            rw[List.all_eq_false]
            exact ⟨x,hmem,by rw[e]; simp⟩
          rw[fc,this,Bool.and_false]
        simp (disch:=omega) only [↓wr,↓reduceIte,wq,ag,Nat.reduceEqDiff,Nat.reduceLT,t1,t6,encI,av,encS,List.getElem?_map,hg1]
        refine ar.dec (fun h1=>?_) (fun h1=>?_)
        · simp (disch:=omega) only [↓wr,↓reduceIte,wq,ag,Nat.reduceEqDiff,reduceCtorEq,t6]
          rw[hbx (by rw[decide_eq_false (by omega)]; rfl)]
        · simp (disch:=omega) only [↓wr,↓reduceIte,wq,ag,ao,Nat.reduceEqDiff,Nat.reduceAdd,Nat.reduceLT,t1,t2,t6,encI,av,encS,List.getElem?_map,hg1]
          refine ar.dec (fun h2=>?_) (fun h2=>?_)
          · simp (disch:=omega) only [↓wr,↓reduceIte,wq,ag,Nat.reduceEqDiff,reduceCtorEq,t6]
            rw[hbx (by rw[decide_eq_false (show ¬ x < (g.ay.length:Int) by omega),Bool.and_false])]
          · simp (disch:=omega) only [↓wr,↓reduceIte,wq,ag,Nat.reduceEqDiff,reduceCtorEq,t6]
            exact bM hk (by omega) ⟨by rw[hpn,decide_eq_true (by omega),decide_eq_true (by omega)]; rfl,t1,t2,rfl⟩
      · rw[List.take_of_length_le (by omega)] at hpt
        simp (disch:=omega) only [↓wr,↓reduceIte,wq,Nat.reduceEqDiff,reduceCtorEq]
        rw[fc,hr,hpt,decide_eq_true (by omega)]; rfl
  · simp (disch:=omega) only [↓wr,↓reduceIte,wq,Nat.reduceEqDiff,reduceCtorEq]
    rw[fc,hr]; rfl
theorem Ja (g:aw) (hg:g.Ok) (x:Int) (hx:bW x):aJ Tryz.prog 47 [gi x,.aQ (av g) 0] (gb (!(decide (0≤x) && decide (x < g.ay.length)))):=by
  have hgt:=hg.ay
  unfold bc at hgt
  refine aJ.val (by
    intro v hv; simp at hv
    rcases hv with rfl | rfl
    · exact .val _
    · exact jE (cH g)) fun H=>?_
  refine aL.of mixed xj ?_
  simp (disch:=omega) only [↓wr,↓reduceIte,wq,ai,ag,Nat.reduceAdd,Nat.reduceLeDiff,reduceCtorEq,sq,av,encS]
  refine ar.dec (fun h1=>?_) (fun h1=>?_)
  · simp (disch:=omega) only [↓wr,↓reduceIte,wq,Nat.reduceEqDiff,reduceCtorEq]
    rw[decide_eq_false (show ¬ 0≤x by omega)]; rfl
  · simp (disch:=omega) only [↓wr,↓reduceIte,wq,ag,ao,Nat.reduceEqDiff,Nat.reduceAdd,Nat.reduceLT,reduceCtorEq]
    rw[decide_eq_true (show 0≤x by omega)]
    rw[Bool.true_and,← decide_not]; congr 2; exact decide_eq_decide.2 ⟨fun h=>Int.not_lt.2 h,fun h=>Int.not_lt.1 h⟩
set_option maxHeartbeats 2000000 in
theorem uc (g:aw) (hg:g.Ok) (hs:g.Small) (w:List Int) (hw:bc w) (hn:∀ x∈w,bW x):aJ Tryz.prog 18 [.agg (av g),encI w] (gb (fc g w)):=by
  refine aJ.val (B8 g w) fun H=>?_
  have hcf:=pc w hw 47 [.aQ (av g) 0] (by intro v hv; simp at hv; subst hv; exact jE (cH g)) (fun x=>!(decide (0≤x) && decide (x < g.ay.length))) (fun x hx=>Ja g hg x (hn x hx)) (by kernel_rfl)
  refine aL.of mixed zM ?_
  unfold bc at hw
  simp (disch:=omega) only [↓wr,↓reduceIte,wq,ai,Nat.reduceEqDiff,Nat.reduceAdd,Nat.reduceLeDiff,wy,av,encS]
  refine aO.pure (AG g hg hs.names) (by kernel_rfl) ?_
  simp only[av,encS] at hcf
  simp (disch:=omega) only [↓wr,↓reduceIte,wq]
  refine ar.split (fun hr=>?_) (fun hr=>?_)
  · simp (disch:=omega) only [↓wr,↓reduceIte,wq,ag,ao,Nat.reduceEqDiff,encI]
    refine ar.dec (fun h6=>?_) (fun h6=>?_)
    · simp (disch:=omega) only [↓wr,↓reduceIte,wq,reduceCtorEq]
      rw[fc,decide_eq_false (show ¬ w.length≤60 by omega)]; simp
    · simp (disch:=omega) only [↓wr,↓reduceIte,wq,Nat.reduceEqDiff]
      refine aO.pure hcf (by kernel_rfl) ?_
      simp (disch:=omega) only [↓wr,↓reduceIte,wq,reduceCtorEq]
      rw[fc,hr,decide_eq_true (show w.length≤60 by omega),← List.not_all_eq_any_not,Bool.not_not]; rfl
  · simp (disch:=omega) only [↓wr,↓reduceIte,wq,Nat.reduceEqDiff,reduceCtorEq]
    rw[fc,hr]; rfl
def cb (c:Cell):List V:=[gi c.kind,gi c.n]
abbrev wu (l:List Cell):V:=.aM (l.map cb)
def aP (t:c6):List V:=[.aM (t.aD.map fun r=>[wu r]),.aM (t.gotos.map fun r=>[encI r])]
theorem pj (c:Cell):∀ v∈cb c,Tree v:=by
  intro v hv; simp[cb] at hv; rcases hv with rfl | rfl <;> exact .val _
theorem D8 (l:List Cell):Tree (wu l):=fy _ _ fun c _ v hv=>pj c v hv
theorem iR (t:c6):∀ v∈aP t,Tree v:=by
  intro v hv
  simp only[aP,List.mem_cons,List.not_mem_nil,or_false] at hv
  rcases hv with rfl | rfl
  · exact fy _ _ fun r _ v hv=>by simp at hv; subst hv; exact D8 r
  · exact fy _ _ fun r _ v hv=>by simp at hv; subst hv; exact ej r
structure c6.Ok (t:c6):Prop where
  aD:bc t.aD
  gotos:bc t.gotos
  row:∀ r∈t.aD,bc r∧∀ c∈r,bW c.kind∧bW c.n
  go:∀ r∈t.gotos,bc r∧∀ x∈r,bW x
def nb:SF:=⟨.seq (aq [bA 3 0,bA 4 1,bA 5 2,aN 6 false]) <|
  .seq (.seq (aq [an 7 0 5,ak 8 7]) <|
  .block 0 (.seq (.seq (aq [au 10 .eql 8 0,aa 9 10]) <|
  .cond (.tmp 9) (.skip) (aq [au 11 .eql 8 3,aa 9 11])) <|
  .cond (.tmp 9) (.seq (aq [an 12 1 5,ak 13 12,au 14 .eql 13 0,aa 6 14]) <|
  .ret) (.seq (aq [au 16 .eql 8 1,aa 15 16]) <|
  .cond (.tmp 15) (.seq (.region false [⟨none,[an 17 1 5,ak 18 17,au 19 .geq 18 0,aa 20 19]⟩,⟨(some (20,true)),[an 21 1 5,ak 22 21,an 23 0 4,ak 24 23,aC 25 24,aF 26 .lss 22 25]⟩,⟨none,[bj 27 20 26,aa 6 27]⟩]) <|
  .ret) (.seq (aq [au 29 .eql 8 2,aa 28 29]) <|
  .cond (.tmp 28) (.seq (.region false [⟨none,[an 30 1 5,ak 31 30,au 32 .geq 31 0,aa 33 32]⟩,⟨(some (33,true)),[an 34 1 5,ak 35 34,an 36 2 3,ak 37 36,aC 38 37,aF 39 .lss 35 38]⟩,⟨none,[bj 40 33 39,aa 6 40]⟩]) <|
  .ret) (.skip))))) <|
  .seq (aq [aN 6 false]) <|
  .ret,
  [.tmp 6],41⟩
theorem sd:bo Tryz.prog 79 [3,4,5]=some nb:=by kernel_rfl
def jJ:SC :=
  .seq (.seq (aq [aa 62 6,an 63 0 3,ak 64 63,aa 65 5,aG 66 1 64 65,ak 67 66,aC 68 67,aF 69 .lss 62 68]) <|
  .cond (.tmp 69) (.skip) (.exit 2)) <|
  .seq (.block 3 (.seq (aq [aH 72 4 2,aH 73 2 3,an 74 0 3,ak 75 74,aa 76 5,aG 77 1 75 76,ak 78 77,aa 79 6,aG 80 2 78 79,aH 81 2 80,aI 82 79 [72,73,81],bB 83 82]) <|
  .cond (.tmp 83) (.seq (aq [aN 4 false]) <|
  .ret) (.skip))) <|
  aq [aa 70 6,au 71 .add 70 1,aa 6 71]
def jK:SC :=
  .seq (.seq (aq [aa 84 7,an 85 1 3,ak 86 85,aa 87 5,aG 88 1 86 87,ak 89 88,aC 90 89,aF 91 .lss 84 90]) <|
  .cond (.tmp 91) (.skip) (.exit 4)) <|
  .seq (.block 5 (.seq (.region false [⟨none,[an 94 1 3,ak 95 94,aa 96 5,aG 97 1 95 96,ak 98 97,aa 99 7,aG 100 1 98 99,ak 101 100,au 102 .lss 101 (-1),aa 103 102]⟩,⟨(some (103,false)),[an 104 1 3,ak 105 104,aa 106 5,aG 107 1 105 106,ak 108 107,aa 109 7,aG 110 1 108 109,ak 111 110,an 112 0 3,ak 113 112,aC 114 113,aF 115 .geq 111 114]⟩,⟨none,[aX 116 103 115]⟩]) <|
  .cond (.tmp 116) (.seq (aq [aN 4 false]) <|
  .ret) (.skip))) <|
  aq [aa 92 7,au 93 .add 92 1,aa 7 93]
def jV:SC :=
  .seq (.seq (aq [aa 32 5,an 33 0 3,ak 34 33,aC 35 34,aF 36 .lss 32 35]) <|
  .cond (.tmp 36) (.skip) (.exit 0)) <|
  .seq (.block 1 (.seq (.seq (.region false [⟨none,[an 39 0 3,ak 40 39,aa 41 5,aG 42 1 40 41,ak 43 42,aC 44 43,an 45 0 2,ak 46 45,aC 47 46,au 48 .add 47 1,aF 49 .neq 44 48,aa 50 49]⟩,⟨(some (50,false)),[an 51 1 3,ak 52 51,aa 53 5,aG 54 1 52 53,ak 55 54,aC 56 55,an 57 1 2,ak 58 57,aC 59 58,aF 60 .neq 56 59]⟩,⟨none,[aX 61 50 60]⟩]) <|
  .cond (.tmp 61) (.seq (aq [aN 4 false]) <|
  .ret) (.skip)) <|
  .seq (.seq (aq [aA 6 0]) <|
  .block 2 (.loop jJ)) <|
  .seq (aq [aA 7 0]) <|
  .block 4 (.loop jK))) <|
  aq [aa 37 5,au 38 .add 37 1,aa 5 38]
def lA:SF:=⟨.seq (aq [bA 2 0,bA 3 1,aN 4 false]) <|
  .seq (.seq (.region false [⟨none,[aH 8 4 2,aI 9 48 [8],bB 10 9,aa 11 10]⟩,⟨(some (11,false)),[an 12 0 3,ak 13 12,aC 14 13,au 15 .lss 14 1]⟩,⟨none,[aX 16 11 15,aa 17 16]⟩,⟨(some (17,false)),[an 18 0 3,ak 19 18,aC 20 19,au 21 .gtr 20 300]⟩,⟨none,[aX 22 17 21,aa 23 22]⟩,⟨(some (23,false)),[an 24 1 3,ak 25 24,aC 26 25,an 27 0 3,ak 28 27,aC 29 28,aF 30 .neq 26 29]⟩,⟨none,[aX 31 23 30]⟩]) <|
  .cond (.tmp 31) (.seq (aq [aN 4 false]) <|
  .ret) (.skip)) <|
  .seq (.seq (aq [aA 5 0]) <|
  .block 0 (.loop jV)) <|
  .seq (aq [aN 4 true]) <|
  .ret,
  [.tmp 4],117⟩
theorem ri:bo Tryz.prog 44 [2,3]=some lA:=by kernel_rfl
def vQ:SF:=⟨.seq (aq [bA 3 0,aN 6 false]) <|
  .seq (aq [aA 7 1]) <|
  .seq (.seq (aq [an 8 0 3,ak 9 8]) <|
  .block 0 (.seq (.seq (aq [au 11 .eql 9 0,aa 10 11]) <|
  .cond (.tmp 10) (.skip) (aq [au 12 .eql 9 3,aa 10 12])) <|
  .cond (.tmp 10) (.skip) (.seq (aq [au 14 .eql 9 1,aa 13 14]) <|
  .cond (.tmp 13) (aq [aa 15 1,aa 7 15]) (.seq (aq [au 17 .eql 9 2,aa 16 17]) <|
  .cond (.tmp 16) (aq [aa 18 2,aa 7 18]) (.seq (aq [aN 6 false]) <|
  .ret))))) <|
  .seq (.region false [⟨none,[an 19 1 3,ak 20 19,au 21 .geq 20 0,aa 22 21]⟩,⟨(some (22,true)),[an 23 1 3,ak 24 23,aa 25 7,aF 26 .lss 24 25]⟩,⟨none,[bj 27 22 26,aa 6 27]⟩]) <|
  .ret,
  [.tmp 6],28⟩
theorem yH:bo Tryz.prog 74 [3]=some vQ:=by kernel_rfl
def qk:SF:=⟨.seq (aq [bA 3 0,aN 4 false]) <|
  .seq (aq [aH 5 2 3,ak 6 1,an 7 2 2,ak 8 7,aC 9 8,aI 10 74 [5,6,9],bB 11 10,aa 4 11]) <|
  .ret,
  [.tmp 4],12⟩
theorem vI:bo Tryz.prog 73 [3]=some qk:=by kernel_rfl
def pU:SF:=⟨.seq (aq [aN 3 false]) <|
  .seq (.region false [⟨none,[aa 4 0,au 5 .lss 4 (-1),aa 6 5]⟩,⟨(some (6,false)),[aa 7 0,ak 8 1,aF 9 .geq 7 8]⟩,⟨none,[aX 10 6 9,aa 3 10]⟩]) <|
  .ret,
  [.tmp 3],11⟩
theorem wD:bo Tryz.prog 75 []=some pU:=by kernel_rfl
def qn:SC :=
  .seq (aq [aF 33 .lss 32 31]) <|
  .seq (.cond (.tmp 33) (.skip) (.exit 0)) <|
  .seq (.block 1 (.seq (aq [aa 34 32,aG 35 1 30 32,ak 36 35,aa 6 34,aa 7 36]) <|
  .seq (.seq (.region false [⟨none,[aa 37 7,aC 38 37,an 39 0 2,ak 40 39,aC 41 40,au 42 .add 41 1,aF 43 .neq 38 42,aa 44 43]⟩,⟨(some (44,false)),[an 45 1 3,ak 46 45,aa 47 6,aG 48 1 46 47,ak 49 48,aC 50 49,an 51 1 2,ak 52 51,aC 53 52,aF 54 .neq 50 53]⟩,⟨none,[aX 55 44 54]⟩]) <|
  .cond (.tmp 55) (.seq (aq [aN 4 false]) <|
  .ret) (.skip)) <|
  .seq (.seq (aq [aa 56 7,((some 57),.op (.q8 73 [] [(.tmp 5),(.tmp 2)])),aI 58 72 [56,57]]) <|
  .cond (.tmp 58) (.seq (aq [aN 4 false]) <|
  .ret) (.skip)) <|
  .seq (aq [an 59 1 3,ak 60 59,aa 61 6,aG 62 1 60 61,ak 63 62,((some 64),.op (.q8 75 [] [(.tmp 5)])),aI 65 46 [63,64]]) <|
  .cond (.tmp 65) (.seq (aq [aN 4 false]) <|
  .ret) (.skip))) <|
  aq [au 66 .add 32 1,aa 32 66]
def uL:SF:=⟨.seq (aq [bA 2 0,bA 3 1,aN 4 false]) <|
  .seq (aq [an 8 0 3,ak 9 8,aC 10 9,((some 5),.op (.alloc [(.val (.int .i64 0))])),(none,.op (.store 1 (.tmp 5) (.tmp 10)))]) <|
  .seq (.seq (.region false [⟨none,[aH 11 4 2,aI 12 45 [11],bB 13 12,aa 14 13]⟩,⟨(some (14,false)),[ak 15 5,au 16 .lss 15 1]⟩,⟨none,[aX 17 14 16,aa 18 17]⟩,⟨(some (18,false)),[ak 19 5,au 20 .gtr 19 300]⟩,⟨none,[aX 21 18 20,aa 22 21]⟩,⟨(some (22,false)),[an 23 1 3,ak 24 23,aC 25 24,ak 26 5,aF 27 .neq 25 26]⟩,⟨none,[aX 28 22 27]⟩]) <|
  .cond (.tmp 28) (.seq (aq [aN 4 false]) <|
  .ret) (.skip)) <|
  .seq (.seq (aq [an 29 0 3,ak 30 29,aC 31 30,aA 32 0]) <|
  .block 0 (.loop qn)) <|
  .seq (aq [aN 4 true]) <|
  .ret,
  [.tmp 4],67⟩
theorem xX:bo Tryz.prog 42 [2,3]=some uL:=by kernel_rfl
theorem Jd (g:aw) (t:c6) (c:Cell):aJ Tryz.prog 79 [.agg (av g),.agg (aP t),.agg (cb c)] (gb (ji g t.aD.length c)):=by
  refine aJ.val (by
    intro v hv; simp at hv
    rcases hv with rfl | rfl | rfl
    · exact cy _ (cH g)
    · exact cy _ (iR t)
    · exact cy _ (pj c)) fun H=>?_
  refine aL.of mixed sd ?_
  unfold ji
  simp (disch:=omega) only [↓wr,↓reduceIte,wq,ai,ag,Nat.reduceEqDiff,Nat.reduceAdd,Nat.reduceLT,Nat.reduceLeDiff,nb,cb,aP,av,encS]
  repeat' (first | (refine ar.dec (fun _=>?_) (fun _=>?_)) | (refine ar.eq (fun _=>?_) (fun _=>?_)) | (refine ar.ne (fun _=>?_) (fun _=>?_)) | (refine ar.split (fun _=>?_) (fun _=>?_)) | (simp (disch:=omega) only [↓wr,↓reduceIte,wq,ag,ao,Nat.reduceEqDiff,Nat.reduceAdd,Nat.reduceLT,reduceCtorEq]))
  all_goals simp_all
  all_goals first
    | omega
    | rfl
theorem JE (c:Cell) (a b:Int):aJ Tryz.prog 74 [.agg (cb c),gi a,gi b] (gb (if c.kind=0∨c.kind=3 then decide (c.n=0) else if c.kind=1 then decide (0≤c.n) && decide (c.n < a) else if c.kind=2 then decide (0≤c.n) && decide (c.n < b) else false)):=by
  refine aJ.val (by
    intro v hv; simp at hv
    rcases hv with rfl | rfl | rfl
    · exact cy _ (pj c)
    · exact .val _
    · exact .val _) fun H=>?_
  refine aL.of mixed yH ?_
  simp (disch:=omega) only [↓wr,↓reduceIte,wq,ai,ag,Nat.reduceEqDiff,Nat.reduceAdd,Nat.reduceLT,Nat.reduceLeDiff,vQ,cb]
  repeat' (first | (refine ar.dec (fun _=>?_) (fun _=>?_)) | (refine ar.eq (fun _=>?_) (fun _=>?_)) | (refine ar.ne (fun _=>?_) (fun _=>?_)) | (refine ar.split (fun _=>?_) (fun _=>?_)) | (simp (disch:=omega) only [↓wr,↓reduceIte,wq,ag,Nat.reduceEqDiff,Nat.reduceAdd,Nat.reduceLT,reduceCtorEq]))
  all_goals simp_all
  all_goals omega
theorem zN {g:aw} {t:c6} {i:Nat} (hi:i < t.aD.length) (h:tL g t.aD.length (t.aD.getD i []) (t.gotos.getD i [])=false):eC g t=false:=by
  rw[Bool.eq_false_iff]
  intro hr
  have:=(q9 hr).row i hi
  rw[h] at this; simp at this
theorem Ev (g:aw) (t:c6):∀ v∈[V.agg (av g),.agg (aP t)],Tree v:=by
  intro v hv; simp at hv
  rcases hv with rfl | rfl
  · exact cy _ (cH g)
  · exact cy _ (iR t)
set_option maxHeartbeats 8000000 in
theorem GB (g:aw) (hg:g.Ok) (t:c6) (ht:t.Ok):aJ Tryz.prog 44 [.agg (av g),.agg (aP t)] (gb (eC g t)):=by
  refine aJ.val (Ev g t) fun H=>?_
  have hc:=iw g hg
  have h1:=ht.aD
  have h2:=ht.gotos
  have h3:=hg.ay
  have h4:=hg.ax
  unfold bc at h1 h2 h3 h4
  refine aL.of mixed ri ?_
  simp only[av,encS] at hc
  simp (disch:=omega) only [↓wr,↓reduceIte,wq,ai,Nat.reduceEqDiff,Nat.reduceAdd,Nat.reduceLeDiff,lA,av,encS,aP]
  refine aO.pure hc (by kernel_rfl) ?_
  have hno:(br g && decide (1≤t.aD.length) && decide (t.aD.length≤300) && decide (t.gotos.length=t.aD.length))=false→eC g t=false:=fun h=>by unfold eC; rw[h]; rfl
  simp (disch:=omega) only [↓wr,↓reduceIte,wq]
  refine ar.split (fun hr=>?_) (fun hr=>?_)
  rotate_left
  · simp (disch:=omega) only [↓wr,↓reduceIte,wq,Nat.reduceEqDiff,reduceCtorEq]
    rw[hno (by rw[hr]; rfl)]
  simp (disch:=omega) only [↓wr,↓reduceIte,wq,ag,ao,Nat.reduceEqDiff,Nat.reduceAdd,Nat.reduceLT]
  refine ar.dec (fun c1=>?_) (fun c1=>?_)
  · simp (disch:=omega) only [↓wr,↓reduceIte,wq,Nat.reduceEqDiff,reduceCtorEq]
    rw[hno (by rw[hr]; simp; omega)]
  simp (disch:=omega) only [↓wr,↓reduceIte,wq,ag,ao,Nat.reduceEqDiff,Nat.reduceAdd,Nat.reduceLT]
  refine ar.dec (fun c2=>?_) (fun c2=>?_)
  · simp (disch:=omega) only [↓wr,↓reduceIte,wq,Nat.reduceEqDiff,reduceCtorEq]
    rw[hno (by rw[hr]; simp; omega)]
  simp (disch:=omega) only [↓wr,↓reduceIte,wq,ag,ao,Nat.reduceEqDiff,Nat.reduceAdd,Nat.reduceLT]
  refine ar.ne (fun c3=>?_) (fun c3=>?_)
  · simp (disch:=omega) only [↓wr,↓reduceIte,wq,reduceCtorEq]
    rw[hno (by rw[hr]; simp; omega)]
  simp (disch:=omega) only [↓wr,wq]
  have hf:=bD hr
  refine bC.up t.aD.length (fun i T H'=>(∀ k,k < i→tL g t.aD.length (t.aD.getD k []) (t.gotos.getD k [])=true)∧T 2=.aQ (av g) 0∧T 3=.aQ (aP t) 0∧T 5=gi i) ⟨fun k hk=>by omega,rfl,rfl,rfl⟩ ?_
  rintro i k T H' hk ⟨hall,t2,t3,t5⟩
  simp (disch:=omega) only [↓wr,↓reduceIte,wq,ag,ao,Nat.reduceEqDiff,Nat.reduceAdd,Nat.reduceLT,reduceCtorEq,jV,t3,t5,aP]
  refine ar.dec (fun hd=>?_) (fun hd=>?_)
  rotate_left
  · simp (disch:=omega) only [↓wr,↓reduceIte,wq,Nat.reduceEqDiff,reduceCtorEq]
    rw[show eC g t=true from by
      unfold eC
      rw[hr]
      simp only[Bool.and_eq_true,decide_eq_true_eq,List.all_eq_true,List.mem_range,Bool.true_and]
      exact ⟨⟨⟨by omega,by omega⟩,by omega⟩,fun k hk=>hall k (by omega)⟩]
  have hi:i < t.aD.length:=by omega
  have ha:t.aD[i]?=some (t.aD.getD i []):=getD_some hi
  have hl:t.gotos[i]?=some (t.gotos.getD i []):=getD_some (by omega)
  have ra:=ht.row _ (List.mem_of_getElem? ha)
  have rl:=ht.go _ (List.mem_of_getElem? hl)
  have hrow:=@zN g t i hi
  generalize ea:t.aD.getD i []=a at ha ra hrow
  generalize el:t.gotos.getD i []=l at hl rl hrow
  have hrs:tL g t.aD.length a l=(decide (a.length=g.ay.length+1) && decide (l.length=g.ax.length) && a.all (ji g t.aD.length) && l.all fun x=>decide (-1≤x) && decide (x < t.aD.length)):=rfl
  obtain ⟨sa,ra⟩:=ra
  obtain ⟨sl,rl⟩:=rl
  unfold bc at sa sl
  simp (disch:=omega) only [↓wr,↓reduceIte,wq,ag,ao,Nat.reduceEqDiff,Nat.reduceAdd,Nat.reduceLT,t2,t3,t5,aP,av,encS,List.getElem?_map,ha]
  refine ar.ne (fun d1=>?_) (fun d1=>?_)
  · simp (disch:=omega) only [↓wr,↓reduceIte,wq,ag,Nat.reduceEqDiff,reduceCtorEq]
    rw[hrow (by rw[hrs]; simp; omega)]
  simp (disch:=omega) only [↓wr,↓reduceIte,wq,ag,ao,Nat.reduceEqDiff,Nat.reduceAdd,Nat.reduceLT,t2,t3,t5,aP,av,encS,encI,List.getElem?_map,hl]
  refine ar.ne (fun d2=>?_) (fun d2=>?_)
  · simp (disch:=omega) only [↓wr,↓reduceIte,wq,ag,Nat.reduceEqDiff,reduceCtorEq]
    rw[hrow (by rw[hrs]; simp; omega)]
  simp (disch:=omega) only [↓wr,wq]
  refine bC.up a.length (fun j T H'=>(∀ k,k < j→ji g t.aD.length (a.getD k ⟨0,0⟩)=true)∧T 2=.aQ (av g) 0∧T 3=.aQ (aP t) 0∧T 5=gi i∧T 6=gi j) ⟨fun k hk=>by omega,t2,t3,t5,rfl⟩ ?_
  rintro j k' T' H'' hk' ⟨hfit,t2,t3,t5,t6⟩
  simp (disch:=omega) only [↓wr,↓reduceIte,wq,ag,ao,Nat.reduceEqDiff,Nat.reduceAdd,Nat.reduceLT,jJ,t3,t5,t6,aP,av,encS,List.getElem?_map,ha]
  refine ar.dec (fun hj=>?_) (fun hj=>?_)
  · have hja:a[j]?=some (a.getD j ⟨0,0⟩):=getD_some (by omega)
    have hmem:=List.mem_of_getElem? hja
    generalize ec:a.getD j ⟨0,0⟩=c at hja hmem
    have hcall:=Jd g t c
    simp only[av,encS,aP,cb] at hcall
    simp (disch:=omega) only [↓wr,↓reduceIte,wq,Nat.reduceEqDiff,Nat.reduceAdd,Nat.reduceLT,Nat.reduceLeDiff,t2,t3,t5,t6,aP,av,encS,List.getElem?_map,ha,hja,cb]
    refine aO.pure hcall (by kernel_rfl) ?_
    simp (disch:=omega) only [↓wr,↓reduceIte,wq]
    refine ar.split (fun hfc=>?_) (fun hfc=>?_)
    · simp (disch:=omega) only [↓wr,↓reduceIte,wq,ag,Nat.reduceEqDiff,reduceCtorEq,t5,t6]
      exact bM hk' (by omega) ⟨fun k hk=>by
        by_cases e:k=j
        · subst e; rw[ec]; exact hfc
        · exact hfit k (by omega),t2,t3,t5,rfl⟩
    · simp (disch:=omega) only [↓wr,↓reduceIte,wq,ag,Nat.reduceEqDiff,reduceCtorEq]
      rw[hrow (by
        rw[hrs,Bool.eq_false_iff]
        intro h
        simp only[Bool.and_eq_true,List.all_eq_true] at h
        have:=h.1.2 c hmem
        rw[hfc] at this; simp at this)]
  simp (disch:=omega) only [↓wr,↓reduceIte,wq,Nat.reduceEqDiff,reduceCtorEq,t5]
  refine bC.up l.length (fun j T H'=>(∀ k,k < j→-1≤l.getD k 0∧l.getD k 0 < t.aD.length)∧T 2=.aQ (av g) 0∧T 3=.aQ (aP t) 0∧T 5=gi i∧T 7=gi j) ⟨fun k hk=>by omega,t2,t3,t5,rfl⟩ ?_
  rintro j2 k2 T2 H2 hk2 ⟨hin,t2,t3,t5,t7⟩
  simp (disch:=omega) only [↓wr,↓reduceIte,wq,ag,ao,Nat.reduceEqDiff,Nat.reduceAdd,Nat.reduceLT,Int.reduceNeg,jK,t3,t5,t7,aP,encI,List.getElem?_map,hl]
  refine ar.dec (fun hj2=>?_) (fun hj2=>?_)
  · have hjl:l[j2]?=some (l.getD j2 0):=getD_some (by omega)
    have hmem:=List.mem_of_getElem? hjl
    generalize ec:l.getD j2 0=x at hjl hmem
    have bad:¬(-1≤x∧x < (t.aD.length:Int))→tL g t.aD.length a l=false:=fun hb=>by
      rw[hrs,Bool.eq_false_iff]
      intro h
      simp only[Bool.and_eq_true,List.all_eq_true,decide_eq_true_eq] at h
      exact hb (h.2 x hmem)
    simp (disch:=omega) only [↓wr,↓reduceIte,wq,ag,Nat.reduceEqDiff,Nat.reduceAdd,Nat.reduceLT,Int.reduceNeg,t3,t5,t7,aP,encI,List.getElem?_map,hl,hjl]
    refine ar.dec (fun hx=>?_) (fun hx=>?_)
    · simp (disch:=omega) only [↓wr,↓reduceIte,wq,ag,Nat.reduceEqDiff,Int.reduceNeg,reduceCtorEq]
      rw[hrow (bad (by omega))]
    simp (disch:=omega) only [↓wr,↓reduceIte,wq,ag,ao,Nat.reduceEqDiff,Nat.reduceAdd,Nat.reduceLT,Int.reduceNeg,t3,t5,t7,aP,encI,List.getElem?_map,hl,hjl]
    refine ar.dec (fun hy=>?_) (fun hy=>?_)
    · simp (disch:=omega) only [↓wr,↓reduceIte,wq,ag,Nat.reduceEqDiff,Int.reduceNeg,reduceCtorEq]
      rw[hrow (bad (by omega))]
    · simp (disch:=omega) only [↓wr,↓reduceIte,wq,ag,Nat.reduceEqDiff,Int.reduceNeg,reduceCtorEq,t5,t7]
      exact bM hk2 (by omega) ⟨fun k hk=>by
        by_cases e:k=j2
        · subst e; rw[ec]; omega
        · exact hin k (by omega),t2,t3,t5,rfl⟩
  · simp (disch:=omega) only [↓wr,↓reduceIte,wq,Nat.reduceEqDiff,reduceCtorEq,t5]
    refine bM hk (by omega) ⟨fun k hk=>?_,t2,t3,rfl⟩
    by_cases e:k=i
    · subst e
      rw[ea,el,hrs]
      simp only[Bool.and_eq_true,List.all_eq_true,decide_eq_true_eq]
      refine ⟨⟨⟨by omega,by omega⟩,fun c hc=>?_⟩,fun x hx=>?_⟩
      · obtain ⟨q,hq⟩:=List.mem_iff_getElem?.1 hc
        have hql:=(List.getElem?_eq_some_iff.1 hq).1
        have:=hfit q (by omega)
        rwa [List.getD_eq_getElem?_getD,hq] at this
      · obtain ⟨q,hq⟩:=List.mem_iff_getElem?.1 hx
        have hql:=(List.getElem?_eq_some_iff.1 hq).1
        have:=hin q (by omega)
        rwa [List.getD_eq_getElem?_getD,hq] at this
    · exact hall k (by omega)
def dF:SC :=
  .seq (aq [aF 9 .lss 8 7]) <|
  .seq (.cond (.tmp 9) (.skip) (.exit 0)) <|
  .seq (.block 1 (.seq (aq [aa 10 8,aa 5 10]) <|
  .seq (aq [aa 11 1,aa 12 0,aa 13 5,aG 14 2 12 13,aH 15 2 14,((some 16),.call (.tmp 11) [(.tmp 15)])]) <|
  .cond (.tmp 16) (.seq (aq [aa 17 5,aa 4 17]) <|
  .ret) (.skip))) <|
  aq [au 18 .add 8 1,aa 8 18]
def dL:SF:=⟨.seq (aq [aA 4 0]) <|
  .seq (.seq (aq [aa 6 0,aC 7 6,aA 8 0]) <|
  .block 0 (.loop dF)) <|
  .seq (aq [aA 4 (-1)]) <|
  .ret,
  [.tmp 4],19⟩
theorem fO:bo Tryz.prog 127 []=some dL:=by kernel_rfl
def dt:SF:=⟨.seq (aq [aN 4 false]) <|
  .seq (aq [aa 5 0,aa 6 1,aI 7 127 [5,6],au 8 .geq 7 0,aa 4 8]) <|
  .ret,
  [.tmp 4],9⟩
theorem fe:bo Tryz.prog 72 []=some dt:=by kernel_rfl
set_option maxHeartbeats 2000000 in
theorem BR (l:List Cell) (hl:bc l) (f:FuncId) (cap:List V) (p:Cell→Bool) (H:View) (hf:∀ x∈l,aL Tryz.prog f (.agg (cb x) :: cap) H fun r H'=>r=gb (p x)∧H'=H) :
    aL Tryz.prog 127 [.aM (l.map fun x=>cb x),.fn f [] cap] H fun r H'=>r=gi (cn p l 0)∧H'=H:=by
  refine aL.of mixed fO ?_
  unfold bc at hl
  simp (disch:=omega) only [↓wr,↓reduceIte,wq,ai,ao,Nat.reduceAdd,Nat.reduceLeDiff,Int.reduceNeg,reduceCtorEq,dL]
  refine bC.up l.length (fun i T H'=>H=H'∧cn p (l.drop i) i=cn p l 0∧T 0=.aM (l.map fun x=>cb x)∧T 1=.fn f [] cap∧T 7=gi l.length∧T 8=gi i) ⟨rfl,rfl,rfl,rfl,rfl,rfl⟩ ?_
  rintro i k T _ hk ⟨rfl,hi,h0,h1,h7,h8⟩
  simp (disch:=omega) only [↓wr,↓reduceIte,wq,ag,Int.reduceNeg,reduceCtorEq,dF,h7,h8]
  refine ar.dec (fun hc=>?_) (fun hc=>?_)
  · have hg:l[i]?=some (l[i]'(by omega)):=List.getElem?_eq_getElem (by omega)
    have hm:l[i]'(by omega)∈l:=List.getElem_mem _
    rw[dw (show i < l.length by omega)] at hi
    generalize l[i]'(by omega)=x at hg hm hi
    simp (disch:=omega) only [↓wr,↓reduceIte,wq,Nat.reduceEqDiff,Nat.reduceAdd,Nat.reduceLeDiff,Int.reduceNeg,reduceCtorEq,h0,h1,h8,List.getElem?_map,hg,cb]
    have hcall:=hf x hm
    simp only[cb] at hcall
    refine aO.nz (hcall.mono ?_)
    rintro r H2 ⟨rfl,rfl⟩
    simp only[cn] at hi
    simp (disch:=omega) only [↓wr,↓reduceIte,wq,Int.reduceNeg]
    refine ar.split (fun hp=>?_) (fun hp=>?_)
    · simp (disch:=omega) only [↓wr,↓reduceIte,wq,ag,Nat.reduceEqDiff,Int.reduceNeg,reduceCtorEq,h8]
      rw[← hi,if_pos hp]
    · simp (disch:=omega) only [↓wr,↓reduceIte,wq,ag,Nat.reduceEqDiff,Int.reduceNeg,reduceCtorEq,h8]
      refine bM hk (by omega) ⟨rfl,?_,h0,h1,h7,rfl⟩
      rw[if_neg (by simp[hp])] at hi
      push_cast; exact hi
  · rw[List.drop_eq_nil_of_le (by omega)] at hi
    simp (disch:=omega) only [↓wr,↓reduceIte,wq,Nat.reduceEqDiff,Int.reduceNeg,reduceCtorEq]
    rw[← hi]; rfl
theorem yi (l:List Cell) (hl:bc l) (f:FuncId) (cap:List V) (p:Cell→Bool) (H:View) (hf:∀ x∈l,aL Tryz.prog f (.agg (cb x) :: cap) H fun r H'=>r=gb (p x)∧H'=H) :
    aL Tryz.prog 72 [.aM (l.map fun x=>cb x),.fn f [] cap] H fun r H'=>r=gb (l.any p)∧H'=H:=by
  refine aL.of mixed fe ?_
  simp (disch:=omega) only [↓wr,↓reduceIte,wq,ai,Nat.reduceEqDiff,Nat.reduceAdd,Nat.reduceLeDiff,reduceCtorEq,dt]
  refine aO.nz ((BR l hl f cap p H hf).mono ?_)
  rintro r H2 ⟨rfl,rfl⟩
  simp (disch:=omega) only [↓wr,↓reduceIte,wq,ag,reduceCtorEq]
  rw[← lN _ l 0 (by omega)]
def B0 (x:Int):List V:=[gi x]
set_option maxHeartbeats 2000000 in
theorem CZ (l:List Int) (hl:bc l) (f:FuncId) (cap:List V) (p:Int→Bool) (H:View) (hf:∀ x∈l,aL Tryz.prog f (gi x :: cap) H fun r H'=>r=gb (p x)∧H'=H) :
    aL Tryz.prog 88 [.aM (l.map fun x=>B0 x),.fn f [] cap] H fun r H'=>r=gi (cn p l 0)∧H'=H:=by
  refine aL.of mixed eR ?_
  unfold bc at hl
  simp (disch:=omega) only [↓wr,↓reduceIte,wq,ai,ao,Nat.reduceAdd,Nat.reduceLeDiff,Int.reduceNeg,reduceCtorEq,dO]
  refine bC.up l.length (fun i T H'=>H=H'∧cn p (l.drop i) i=cn p l 0∧T 0=.aM (l.map fun x=>B0 x)∧T 1=.fn f [] cap∧T 7=gi l.length∧T 8=gi i) ⟨rfl,rfl,rfl,rfl,rfl,rfl⟩ ?_
  rintro i k T _ hk ⟨rfl,hi,h0,h1,h7,h8⟩
  simp (disch:=omega) only [↓wr,↓reduceIte,wq,ag,Int.reduceNeg,reduceCtorEq,dE,h7,h8]
  refine ar.dec (fun hc=>?_) (fun hc=>?_)
  · have hg:l[i]?=some (l[i]'(by omega)):=List.getElem?_eq_getElem (by omega)
    have hm:l[i]'(by omega)∈l:=List.getElem_mem _
    rw[dw (show i < l.length by omega)] at hi
    generalize l[i]'(by omega)=x at hg hm hi
    simp (disch:=omega) only [↓wr,↓reduceIte,wq,Nat.reduceEqDiff,Nat.reduceLT,Int.reduceNeg,reduceCtorEq,h0,h1,h8,List.getElem?_map,hg,B0]
    have hcall:=hf x hm
    refine aO.nz (hcall.mono ?_)
    rintro r H2 ⟨rfl,rfl⟩
    simp only[cn] at hi
    simp (disch:=omega) only [↓wr,↓reduceIte,wq,Int.reduceNeg]
    refine ar.split (fun hp=>?_) (fun hp=>?_)
    · simp (disch:=omega) only [↓wr,↓reduceIte,wq,ag,Nat.reduceEqDiff,Int.reduceNeg,reduceCtorEq,h8]
      rw[← hi,if_pos hp]
    · simp (disch:=omega) only [↓wr,↓reduceIte,wq,ag,Nat.reduceEqDiff,Int.reduceNeg,reduceCtorEq,h8]
      refine bM hk (by omega) ⟨rfl,?_,h0,h1,h7,rfl⟩
      rw[if_neg (by simp[hp])] at hi
      push_cast; exact hi
  · rw[List.drop_eq_nil_of_le (by omega)] at hi
    simp (disch:=omega) only [↓wr,↓reduceIte,wq,Nat.reduceEqDiff,Int.reduceNeg,reduceCtorEq]
    rw[← hi]; rfl
theorem y7 (l:List Int) (hl:bc l) (f:FuncId) (cap:List V) (p:Int→Bool) (H:View) (hf:∀ x∈l,aL Tryz.prog f (gi x :: cap) H fun r H'=>r=gb (p x)∧H'=H) :
    aL Tryz.prog 46 [.aM (l.map fun x=>B0 x),.fn f [] cap] H fun r H'=>r=gb (l.any p)∧H'=H:=by
  refine aL.of mixed ey ?_
  simp (disch:=omega) only [↓wr,↓reduceIte,wq,ai,Nat.reduceEqDiff,Nat.reduceAdd,Nat.reduceLeDiff,reduceCtorEq,dn]
  refine aO.nz ((CZ l hl f cap p H hf).mono ?_)
  rintro r H2 ⟨rfl,rfl⟩
  simp (disch:=omega) only [↓wr,↓reduceIte,wq,ag,reduceCtorEq]
  rw[← lN _ l 0 (by omega)]
theorem Mr (g:aw) (b n:Nat) (c:Cell) (H:View) (hb:H b=.arr 1 [[gi n]]):aL Tryz.prog 73 [.agg (cb c),.ptr b 0 0,.aQ (av g) 0] H fun r H'=>r=gb (!ji g n c)∧H'=H:=by
  refine aL.of mixed vI ?_
  have hcall:=JE c n g.rules.length
  simp only[cb] at hcall
  simp (disch:=omega) only [↓wr,↓reduceIte,wq,ai,ao,Nat.reduceEqDiff,Nat.reduceAdd,Nat.reduceLT,Nat.reduceLeDiff,qk,cb,av,encS,hb]
  refine aO.pure hcall (by kernel_rfl) ?_
  simp (disch:=omega) only [↓wr,↓reduceIte,wq,reduceCtorEq]
  rfl
theorem Mh (b n:Nat) (x:Int) (H:View) (hb:H b=.arr 1 [[gi n]]):aL Tryz.prog 75 [gi x,.ptr b 0 0] H fun r H'=>r=gb (!(decide (-1≤x) && decide (x < n)))∧H'=H:=by
  refine aL.of mixed wD ?_
  simp (disch:=omega) only [↓wr,↓reduceIte,wq,ai,ag,Nat.reduceAdd,Nat.reduceLeDiff,Int.reduceNeg,reduceCtorEq,pU]
  repeat' (first | (refine ar.dec (fun _=>?_) (fun _=>?_)) | (refine ar.eq (fun _=>?_) (fun _=>?_)) | (refine ar.ne (fun _=>?_) (fun _=>?_)) | (refine ar.split (fun _=>?_) (fun _=>?_)) | (simp (disch:=omega) only [↓wr,↓reduceIte,wq,ag,Nat.reduceEqDiff,Nat.reduceLT,Int.reduceNeg,reduceCtorEq,hb]))
  · rename_i hx
    rw[decide_eq_false (show ¬ -1≤x by omega)]; rfl
  · rename_i hx
    rw[decide_eq_true (show -1≤x by omega),Bool.true_and,← decide_not]
    rw[decide_eq_decide.2 (show (x≥(n:Int))↔¬ x < n by omega)]
set_option maxHeartbeats 8000000 in
theorem IQ (g:aw) (hg:g.Ok) (hsm:g.Small) (t:c6) (ht:t.Ok):aJ Tryz.prog 42 [.agg (av g),.agg (aP t)] (gb (eC g t)):=by
  refine aJ.val (Ev g t) fun H=>?_
  have hc:=AG g hg hsm.names
  have h1:=ht.aD
  have h2:=ht.gotos
  have h3:=hg.ay
  have h4:=hg.ax
  unfold bc at h1 h2 h3 h4
  refine aL.of mixed xX ?_
  simp only[av,encS] at hc
  simp (disch:=omega) only [↓wr,↓reduceIte,wq,ai,ao,ab,Nat.reduceEqDiff,Nat.reduceAdd,Nat.reduceLT,Nat.reduceLeDiff,uL,av,encS,aP]
  intro b hb
  rw[set_set]
  have hbn:(H.set b (.arr 1 [[gi t.aD.length]])) b=.arr 1 [[gi t.aD.length]]:=by simp[View.set]
  generalize H.set b (.arr 1 [[gi t.aD.length]])=H1 at hbn
  try simp (disch:=omega) only [↓wr,↓reduceIte,wq,ai,ag,ao,ab,ae,af,aj,isNil,Nat.reduceEqDiff,Nat.reduceAdd,Nat.reduceLT,Nat.reduceLeDiff,Int.reduceNeg,Int.reduceToNat,reduceCtorEq,aP,hbn]
  refine aO.pure hc (by kernel_rfl) ?_
  have hno:(br g && decide (1≤t.aD.length) && decide (t.aD.length≤300) && decide (t.gotos.length=t.aD.length))=false→eC g t=false:=fun h=>by unfold eC; rw[h]; rfl
  simp (disch:=omega) only [↓wr,↓reduceIte,wq]
  refine ar.split (fun hr=>?_) (fun hr=>?_)
  rotate_left
  · simp (disch:=omega) only [↓wr,↓reduceIte,wq,Nat.reduceEqDiff,reduceCtorEq]
    rw[hno (by rw[hr]; rfl)]
  simp (disch:=omega) only [↓wr,↓reduceIte,wq,ag,Nat.reduceEqDiff,Nat.reduceLT,hbn]
  refine ar.dec (fun c1=>?_) (fun c1=>?_)
  · simp (disch:=omega) only [↓wr,↓reduceIte,wq,Nat.reduceEqDiff,reduceCtorEq]
    rw[hno (by rw[hr]; simp; omega)]
  simp (disch:=omega) only [↓wr,↓reduceIte,wq,ag,Nat.reduceEqDiff,Nat.reduceLT,hbn]
  refine ar.dec (fun c2=>?_) (fun c2=>?_)
  · simp (disch:=omega) only [↓wr,↓reduceIte,wq,Nat.reduceEqDiff,reduceCtorEq]
    rw[hno (by rw[hr]; simp; omega)]
  simp (disch:=omega) only [↓wr,↓reduceIte,wq,ag,ao,Nat.reduceEqDiff,Nat.reduceAdd,Nat.reduceLT,hbn]
  refine ar.ne (fun c3=>?_) (fun c3=>?_)
  · simp (disch:=omega) only [↓wr,↓reduceIte,wq,reduceCtorEq]
    rw[hno (by rw[hr]; simp; omega)]
  simp (disch:=omega) only [↓wr,↓reduceIte,wq,ao,Nat.reduceEqDiff,Nat.reduceAdd,Nat.reduceLT]
  have hf:=bD hr
  refine bC.up t.aD.length (fun i T H'=>H1=H'∧(∀ k,k < i→tL g t.aD.length (t.aD.getD k []) (t.gotos.getD k [])=true)∧T 2=.aQ (av g) 0∧T 3=.aQ (aP t) 0∧T 5=.ptr b 0 0∧T 30=.aM (t.aD.map fun r=>[wu r])∧T 31=gi t.aD.length∧T 32=gi i) ⟨rfl,fun k hk=>by omega,rfl,rfl,rfl,rfl,rfl,rfl⟩ ?_
  rintro i k T _ hk ⟨rfl,hall,t2,t3,t5,t30,t31,t32⟩
  simp (disch:=omega) only [↓wr,↓reduceIte,wq,ag,reduceCtorEq,qn,t31,t32,aP]
  refine ar.dec (fun hd=>?_) (fun hd=>?_)
  rotate_left
  · simp (disch:=omega) only [↓wr,↓reduceIte,wq,Nat.reduceEqDiff,reduceCtorEq]
    rw[show eC g t=true from by
      unfold eC
      rw[hr]
      simp only[Bool.and_eq_true,decide_eq_true_eq,List.all_eq_true,List.mem_range,Bool.true_and]
      exact ⟨⟨⟨by omega,by omega⟩,by omega⟩,fun k hk=>hall k (by omega)⟩]
  have hi:i < t.aD.length:=by omega
  have ha:t.aD[i]?=some (t.aD.getD i []):=getD_some hi
  have hl:t.gotos[i]?=some (t.gotos.getD i []):=getD_some (by omega)
  have ra:=ht.row _ (List.mem_of_getElem? ha)
  have rl:=ht.go _ (List.mem_of_getElem? hl)
  have hrow:=@zN g t i hi
  generalize ea:t.aD.getD i []=a at ha ra hrow
  generalize el:t.gotos.getD i []=l at hl rl hrow
  have hrs:tL g t.aD.length a l=(decide (a.length=g.ay.length+1) && decide (l.length=g.ax.length) && a.all (ji g t.aD.length) && l.all fun x=>decide (-1≤x) && decide (x < t.aD.length)):=rfl
  obtain ⟨sa,ra⟩:=ra
  obtain ⟨sl,rl⟩:=rl
  have hsa:=sa
  have hsl:=sl
  unfold bc at sa sl
  simp (disch:=omega) only [↓wr,↓reduceIte,wq,ag,ao,Nat.reduceEqDiff,Nat.reduceAdd,Nat.reduceLT,t2,t30,t32,av,encS,List.getElem?_map,ha]
  refine ar.ne (fun d1=>?_) (fun d1=>?_)
  · simp (disch:=omega) only [↓wr,↓reduceIte,wq,ag,Nat.reduceEqDiff,reduceCtorEq]
    rw[hrow (by rw[hrs]; simp; omega)]
  simp (disch:=omega) only [↓wr,↓reduceIte,wq,ag,ao,Nat.reduceEqDiff,Nat.reduceAdd,Nat.reduceLT,t2,t3,aP,av,encS,encI,List.getElem?_map,hl]
  refine ar.ne (fun d2=>?_) (fun d2=>?_)
  · simp (disch:=omega) only [↓wr,↓reduceIte,wq,ag,Nat.reduceEqDiff,reduceCtorEq]
    rw[hrow (by rw[hrs]; simp; omega)]
  simp (disch:=omega) only [↓wr,↓reduceIte,wq,Nat.reduceEqDiff,t2,t5]
  refine aO.nz ((yi a hsa 73 [.ptr b 0 0,.aQ (av g) 0] (fun c=>!ji g t.aD.length c) H1 fun c _=>Mr g b t.aD.length c H1 hbn).mono ?_)
  rintro r H2 ⟨rfl,rfl⟩
  simp (disch:=omega) only [↓wr,↓reduceIte,wq]
  refine ar.split (fun hx=>?_) (fun hx=>?_)
  · simp (disch:=omega) only [↓wr,↓reduceIte,wq,ag,Nat.reduceEqDiff,reduceCtorEq]
    rw[hrow (by
      obtain ⟨c,hcm,hcf⟩:=List.any_eq_true.1 hx
      rw[hrs,Bool.eq_false_iff]
      intro h
      simp only[Bool.and_eq_true,List.all_eq_true] at h
      have:=h.1.2 c hcm
      rw[this] at hcf; simp at hcf)]
  simp (disch:=omega) only [↓wr,↓reduceIte,wq,Nat.reduceEqDiff,Nat.reduceAdd,Nat.reduceLT,t3,t5,aP,encI,List.getElem?_map,hl]
  refine aO.nz ((y7 l hsl 75 [.ptr b 0 0] (fun x=>!(decide (-1≤x) && decide (x < t.aD.length))) H2 fun x _=>Mh b t.aD.length x H2 hbn).mono ?_)
  rintro r H2 ⟨rfl,rfl⟩
  simp (disch:=omega) only [↓wr,↓reduceIte,wq,Int.reduceNeg]
  refine ar.split (fun hy=>?_) (fun hy=>?_)
  · simp (disch:=omega) only [↓wr,↓reduceIte,wq,ag,Nat.reduceEqDiff,Int.reduceNeg,reduceCtorEq]
    rw[hrow (by
      obtain ⟨c,hcm,hcf⟩:=List.any_eq_true.1 hy
      rw[hrs,Bool.eq_false_iff]
      intro h
      simp only[Bool.and_eq_true,List.all_eq_true] at h
      have:=h.2 c hcm
      simp only[this.1,this.2] at hcf; simp at hcf)]
  · simp (disch:=omega) only [↓wr,↓reduceIte,wq,ag,Nat.reduceEqDiff,Int.reduceNeg,reduceCtorEq,t32]
    refine bM hk (by omega) ⟨rfl,fun k hk=>?_,t2,t3,t5,t30,t31,rfl⟩
    by_cases e:k=i
    · subst e
      rw[ea,el,hrs]
      rw[List.any_eq_false] at hx hy
      simp only[Bool.and_eq_true,List.all_eq_true,decide_eq_true_eq]
      refine ⟨⟨⟨by omega,by omega⟩,fun c hc=>?_⟩,fun x hx'=>?_⟩
      · simpa using hx c hc
      · simpa using hy x hx'
    · exact hall k (by omega)
end Gv
