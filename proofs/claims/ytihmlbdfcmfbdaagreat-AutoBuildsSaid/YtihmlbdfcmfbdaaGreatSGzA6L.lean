/-
  Part 12 of the proof: what the machine does and what the functions answer.
  Conditions: those that each lemma names.
-/
import Derived.Test.YtihmlbdfcmfbdaaGreatSGzA6K
set_option linter.unusedSimpArgs false
set_option linter.unusedVariables false
set_option maxRecDepth 100000
namespace Gv
open Go Go.Proofs
structure Cell where
  kind:Int
  n:Int
  deriving DecidableEq
structure xq where
  cJ:List (List Cell)
  gotos:List (List Int)
  deriving DecidableEq
def IB (g:ao) (n:Nat) (c:Cell):Bool:=if c.kind=0∨c.kind=3 then decide (c.n=0) else if c.kind=1 then decide (0≤c.n) && decide (c.n < n) else if c.kind=2 then decide (0≤c.n) && decide (c.n < g.rules.length) else false
def OE (g:ao) (n:Nat) (a:List Cell) (l:List Int):Bool:=decide (a.length=g.az.length+1) && decide (l.length=g.ay.length) && a.all (IB g n) && l.all fun x=>decide (-1≤x) && decide (x < n)
def H8 (t:xq) (s x:Int):Cell:=(t.cJ.getD s.toNat []).getD x.toNat ⟨0,0⟩
def DE (t:xq) (s x:Int):Int:=(t.gotos.getD s.toNat []).getD x.toNat (-1)
def BS (st:List Int):Int:=st.getD (st.length - 1) 0
def dC (g:ao) (k:Int):aT:=g.rules.getD k.toNat ⟨0,[],0⟩
def Ly (t:xq) (st:List Int):Prop:=st≠[]∧∀ x∈st,0≤x∧x < t.cJ.length
theorem getD_some {α:Type} {l:List α} {j:Nat} {d:α} (h:j < l.length):l[j]?=some (l.getD j d):=by simp[List.getD_eq_getElem?_getD,h]
theorem MC (st:List Int) (x:Int):BS (st ++ [x])=x:=by simp[BS,List.getD_eq_getElem?_getD]
theorem Ly.app {t:xq} {st:List Int} {x:Int} (h:∀ y∈st,0≤y∧y < t.cJ.length) (hx:0≤x∧x < t.cJ.length):Ly t (st ++ [x]):=by
  refine ⟨by simp,fun y hy=>?_⟩
  rcases List.mem_append.1 hy with hy | hy
  · exact h y hy
  · simp at hy; subst hy; exact hx
theorem Ly.take {t:xq} {st:List Int} (h:Ly t st) {k:Nat} (hk:0 < k):Ly t (st.take k):=by
  refine ⟨?_,fun y hy=>h.2 y (List.mem_of_mem_take hy)⟩
  intro e
  rcases List.take_eq_nil_iff.1 e with e | e
  · omega
  · exact h.1 e
structure qi (g:ao) (t:xq):Prop where
  right:bK g=true
  n1:1≤t.cJ.length
  Ra:t.cJ.length≤300
  len:t.gotos.length=t.cJ.length
  row:∀ i,i < t.cJ.length→OE g t.cJ.length (t.cJ.getD i []) (t.gotos.getD i [])=true
theorem qi.Aj {g:ao} {t:xq} (h:qi g t) {i:Nat} (hi:i < t.cJ.length):(t.cJ.getD i []).length=g.az.length+1∧(t.gotos.getD i []).length=g.ay.length∧(∀ c∈t.cJ.getD i [],IB g t.cJ.length c=true)∧∀ x∈t.gotos.getD i [],-1≤x∧x < t.cJ.length:=by
  have:=h.row i hi
  unfold OE at this
  simp only[Bool.and_eq_true,decide_eq_true_eq,List.all_eq_true] at this
  exact ⟨this.1.1.1,this.1.1.2,this.1.2,this.2⟩
theorem qi.cell {g:ao} {t:xq} (h:qi g t) {s x:Int} (hs:0≤s∧s < t.cJ.length) (hx:0≤x∧x≤g.az.length):IB g t.cJ.length (H8 t s x)=true∧(t.cJ.getD s.toNat [])[x.toNat]?=some (H8 t s x):=by
  have hi:s.toNat < t.cJ.length:=by omega
  obtain ⟨h1,_,h3,_⟩:=h.Aj hi
  have hj:x.toNat < (t.cJ.getD s.toNat []).length:=by omega
  have e:(t.cJ.getD s.toNat [])[x.toNat]?=some (H8 t s x):=getD_some hj
  exact ⟨h3 _ (List.mem_of_getElem? e),e⟩
theorem qi.go {g:ao} {t:xq} (h:qi g t) {s x:Int} (hs:0≤s∧s < t.cJ.length) (hx:0≤x∧x < g.ay.length):(-1≤DE t s x∧DE t s x < t.cJ.length)∧(t.gotos.getD s.toNat [])[x.toNat]?=some (DE t s x):=by
  have hi:s.toNat < t.cJ.length:=by omega
  obtain ⟨_,h2,_,h4⟩:=h.Aj hi
  have hj:x.toNat < (t.gotos.getD s.toNat []).length:=by omega
  have e:(t.gotos.getD s.toNat [])[x.toNat]?=some (DE t s x):=getD_some hj
  exact ⟨h4 _ (List.mem_of_getElem? e),e⟩
theorem E0 {x:Int} : ∀ (o:List Int) (i:Int),x∈o→∃ k:Nat,dz (fun y=>y == x) o i=i+k∧o[k]?=some x
  | [],_,h=>by simp at h
  | y :: o,i,h=>by
    by_cases e:y=x
    · exact ⟨0,by simp[dz,e],by simp[e]⟩
    · have hx:x∈o:=by
        rcases List.mem_cons.1 h with rfl | h
        · exact absurd rfl e
        · exact h
      obtain ⟨k,h1,h2⟩:=E0 o (i+1) hx
      exact ⟨k+1,by simp only[dz]; rw[if_neg (by simp[e]),h1]; push_cast; omega,by simpa using h2⟩
theorem y3 {o:List Int} {x:Int} (h:x∈o):o[(bp o x).toNat]?=some x:=by
  obtain ⟨k,h1,h2⟩:=E0 o 0 h
  have:bp o x=k:=by unfold bp; omega
  rw[this]; simpa using h2
theorem xV {o:List Int} (hn:o.Nodup) {k:Nat} {x:Int} (h:o[k]?=some x):bp o x=k:=by
  have hx:=List.mem_of_getElem? h
  have h1:=y3 hx
  have h2:=jZ hx
  obtain ⟨hk,h3⟩:=List.getElem?_eq_some_iff.1 h
  obtain ⟨hk2,h4⟩:=List.getElem?_eq_some_iff.1 h1
  have:=(List.getElem_inj hn).1 (h4.trans h3.symm)
  omega
theorem MH (acc:List Int) (r:aT):∃ m,dA acc r=acc ++ m:=by
  unfold dA
  split
  · exact ⟨[],by simp⟩
  · exact ⟨_,rfl⟩
theorem sX:∀ (l:List aT) (acc:List Int),∃ m,l.foldl dA acc=acc ++ m
  | [],acc=>⟨[],by simp⟩
  | r :: l,acc=>by
    obtain ⟨m,hm⟩:=MH acc r
    obtain ⟨k,hk⟩:=sX l (dA acc r)
    exact ⟨m ++ k,by rw[List.foldl_cons,hk,hm,List.append_assoc]⟩
theorem Ma {a b:List Int} {x:Int} (h:x∈a):bp (a ++ b) x=bp a x:=by
  unfold bp
  rw[sK _ _ _ _ (by omega)]
  have:=jZ h
  unfold bp at this
  rw[if_pos this.1]
theorem uW {r:ao} {o:List Int} (ho:o.Nodup) (hr:r.ay.length=o.length):∀ (l:List aT) (acc:List Int),o=l.foldl dA acc→(∀ x∈l,gA r (bk (bp o) x)=true)→fU r (l.map (bk (bp o))) ((acc.length:Int) - 1)=true
  | [],acc,h,_=>by
    simp only[List.foldl_nil] at h
    simp[fU,hr,h]
  | x :: l,acc,h,hb=>by
    simp only[List.map_cons,fU,Bool.and_eq_true,decide_eq_true_eq]
    rw[List.foldl_cons] at h
    have h1:(bk (bp o) x).left=bp o x.left:=rfl
    obtain ⟨m,hm⟩:=sX l (dA acc x)
    rw[← h] at hm
    by_cases hx:x.left∈acc
    · have e:dA acc x=acc:=by unfold dA; rw[if_pos hx]
      rw[e] at hm h
      have h2:=jZ hx
      have h3:bp o x.left=bp acc x.left:=by rw[hm]; exact Ma hx
      rw[h1,h3,if_neg (by omega)]
      exact ⟨⟨⟨h2.1,by omega⟩,hb x (by simp)⟩,uW ho hr l acc h fun y hy=>hb y (by simp[hy])⟩
    · have e:dA acc x=acc ++ [x.left]:=by unfold dA; rw[if_neg hx]
      rw[e] at hm h
      have h3:bp o x.left=acc.length:=xV ho (by rw[hm]; simp)
      rw[h1,h3,if_pos (by omega)]
      refine ⟨⟨⟨by omega,by omega⟩,hb x (by simp)⟩,?_⟩
      have:=uW ho hr l (acc ++ [x.left]) h fun y hy=>hb y (by simp[hy])
      rw[List.length_append] at this
      simpa using this
theorem yw {g r:ao} (h:r.az=g.az):∀ (l:List Term) (i:Int),iP r l i=iP g l i
  | [],_=>rfl
  | t :: l,i=>by
    simp only[iP,yw h l]
    congr 1
    simp only[jm,kL,pX,h]
theorem pB {o:List Int} {n:Nat} (h:o.Nodup) (hb:∀ x∈o,0≤x∧x < n):o.length≤n:=by
  have:=lf o ((List.range n).map fun (k:Nat)=>(k:Int)) h fun x hx=>by
    have:=hb x hx
    exact List.mem_map.2 ⟨x.toNat,List.mem_range.2 (by omega),by omega⟩
  simpa using this
structure er (g:ao) (p q:List Bool) (o:List Int) (r:ao):Prop where
  right:bK g=true
  pe:p=aM g true
  qe:q=bH g
  oe:o=bN p q g.rules
  re:r=kp g (bp o) p q
  nodup:o.Nodup
  inside:∀ x∈o,0≤x∧x < g.ay.length
  kept:∀ R∈g.rules,bE p q R=true→R.left∈o∧∀ s∈R.right,s < 0→-1 - s∈o
  from_:∀ x∈o,∃ R∈g.rules,bE p q R=true∧R.left=x
  start:g.start∈o
section
variable {g r:ao} {p q:List Bool} {o:List Int}
theorem er.rules (h:er g p q o r):r.rules=(g.rules.filter (bE p q)).map (bk (bp o)):=by rw[h.re]; rfl
theorem er.ay (h:er g p q o r):r.ay=o.map fun x=>g.ay.getD x.toNat ⟨#[]⟩:=by rw[h.re,h.oe]; rfl
theorem er.az (h:er g p q o r):r.az=g.az:=by rw[h.re]; rfl
theorem er.DU (h:er g p q o r):r.start=bp o g.start:=by rw[h.re]; rfl
theorem er.len (h:er g p q o r):r.ay.length=o.length:=by rw[h.ay]; simp
theorem er.lp (h:er g p q o r):bK r=true:=by
  have hf:=bL h.right
  have hR:=h.right
  simp only[bK,iU,jq,Bool.and_eq_true,decide_eq_true_eq] at hR ⊢
  obtain ⟨⟨⟨⟨⟨⟨⟨a1,a2⟩,⟨a3,a4⟩,a5⟩,a6⟩,a7⟩,a8⟩,a9⟩,a10⟩:=hR
  have hst:=jZ h.start
  have hol:o.length≤g.ay.length:=pB h.nodup h.inside
  have hgn:g.ay.Nodup∧∀ s∈g.ay,fB (eE s)=true∧kL g s < 0:=by
    rw[rO] at a5
    refine ⟨(rY g.ay).1 fun k s hk=>?_,fun s hs=>?_⟩
    · have:=a5 k s hk
      simp only[kx,wP,Bool.and_eq_true,beq_iff_eq] at this
      have:=this.1.2
      omega
    · obtain ⟨k,hk⟩:=List.getElem?_of_mem hs
      have:=a5 k s hk
      simp only[kx,Bool.and_eq_true,decide_eq_true_eq] at this
      exact ⟨this.1.1,this.2⟩
  have hget:∀ x∈o,∃ (hx:x.toNat < g.ay.length),g.ay.getD x.toNat ⟨#[]⟩=g.ay[x.toNat]:=fun x hx=>by
    have:=h.inside x hx
    exact ⟨by omega,by simp[List.getD_eq_getElem?_getD,List.getElem?_eq_getElem (show x.toNat < g.ay.length by omega)]⟩
  have hrn:r.ay.Nodup:=by
    rw[h.ay,List.nodup_iff_pairwise_ne,List.pairwise_map]
    refine (List.Pairwise.and_mem.1 h.nodup).imp ?_
    rintro x y ⟨hx,hy,hne⟩ e
    obtain ⟨h1,h2⟩:=hget x hx
    obtain ⟨h3,h4⟩:=hget y hy
    rw[h2,h4] at e
    have h5:=(List.getElem_inj hgn.1).1 e
    have h6:=h.inside x hx
    have h7:=h.inside y hy
    exact hne (by omega)
  have hrules:(g.rules.filter (bE p q)).length≤g.rules.length:=List.length_filter_le _ _
  obtain ⟨R0,hR0,hk0,_⟩:=h.from_ _ h.start
  have hpos:0 < (g.rules.filter (bE p q)).length:=List.length_pos_of_mem (List.mem_filter.2 ⟨hR0,hk0⟩)
  have hrl:r.rules.length=(g.rules.filter (bE p q)).length:=by rw[h.rules]; simp
  refine ⟨⟨⟨⟨⟨⟨⟨by rw[h.az]; exact a1,?_⟩,⟨by rw[h.len]; omega,by rw[h.len]; omega⟩,?_⟩,by omega⟩,by omega⟩,by rw[h.DU]; omega⟩,by rw[h.DU,h.len]; omega⟩,?_⟩
  · rw[h.az,yw h.az]; exact a2
  · rw[rO]
    intro k s hk
    have hm:=List.mem_of_getElem? hk
    have hidx:=(rY r.ay).2 hrn k s hk
    rw[h.ay,List.mem_map] at hm
    obtain ⟨x,hx,rfl⟩:=hm
    obtain ⟨h1,h2⟩:=hget x hx
    obtain ⟨h3,h4⟩:=hgn.2 _ (h2 ▸ List.getElem_mem h1:g.ay.getD x.toNat ⟨#[]⟩∈g.ay)
    simp only[kx,wP,Bool.and_eq_true,beq_iff_eq,decide_eq_true_eq]
    refine ⟨⟨h3,by rw[hidx]; omega⟩,?_⟩
    simp only[kL,h.az] at h4 ⊢
    exact h4
  · rw[h.rules]
    have:=uW (r:=r) h.nodup h.len (g.rules.filter (bE p q)) [] (by rw[h.oe]; rfl) (fun x hx=>?_)
    · simpa using this
    obtain ⟨hm,hk⟩:=List.mem_filter.1 hx
    obtain ⟨_,hin⟩:=h.kept x hm hk
    have hb:=(wY _ _ a10).2 x hm
    have hb:=hb.2.2
    simp only[gA,Bool.and_eq_true,decide_eq_true_eq,List.all_eq_true] at hb ⊢
    obtain ⟨⟨⟨b1,b2⟩,b3⟩,b4⟩:=hb
    refine ⟨⟨⟨by simpa [bk] using b1,b2⟩,by rw[h.az]; exact b3⟩,fun s hs=>?_⟩
    simp only[bk,List.mem_map] at hs
    obtain ⟨s0,hs0,rfl⟩:=hs
    have b5:=b4 s0 hs0
    by_cases hn:s0 < 0
    · rw[if_pos hn]
      have hl:=jZ (hin s0 hs0 hn)
      simp only[kY,hU,Bool.and_eq_true]
      rw[if_neg (by omega),decide_eq_false (p:=0≤-1 - bp o (-1 - s0)) (by omega)]
      simp only[h.len,decide_eq_true_eq,Bool.false_and,Bool.not_false,and_true]
      omega
    · rw[if_neg hn]
      simp only[kY,hU,h.az] at b5 ⊢
      rw[if_pos (by omega)] at b5 ⊢
      exact b5
end
inductive sV (g:ao):Int→Prop
  | mk (R:aT):R∈g.rules→(∀ s∈R.right,s < 0→sV g (-1 - s))→sV g R.left
inductive oR (g:ao) (p:List Bool):Int→Prop
  | start:oR g p g.start
  | next (R:aT) (s:Int):R∈g.rules→oR g p R.left→dP R.right p true=true→s∈R.right→s < 0→oR g p (-1 - s)
theorem uG {l:List Int} {p:List Bool} : dP l p true=true↔∀ s∈l,s < 0→p.getD (-1 - s).toNat false=true:=by
  simp only[dP,List.all_eq_true]
  constructor
  · intro h s hs hn
    have:=h s hs
    rwa [if_neg (by omega)] at this
  · intro h s hs
    by_cases hn:s < 0
    · rw[if_neg (by omega)]; exact h s hs hn
    · rw[if_pos (by omega)]
theorem yZ {l:List Bool} {i j:Nat} (h:(l.set i true).getD j false=true):j=i∨l.getD j false=true:=by
  by_cases e:i=j
  · exact .inl e.symm
  · right
    simp only[List.getD_eq_getElem?_getD,List.getElem?_set,if_neg e] at h ⊢
    exact h
theorem z7 {g:ao} {i:Nat} : (bW g).getD i false=false:=by
  simp only[bW,List.getD_eq_getElem?_getD,List.getElem?_replicate]
  split <;> rfl
theorem E9 {g:ao} (hr:bK g=true):∀ i:Nat,(aM g true).getD i false=true→sV g i:=by
  have hf:=bL hr
  have hst:∀ (is:List Bool) (R:aT),R∈g.rules→(∀ i:Nat,is.getD i false=true→sV g i)→∀ i:Nat,(dL true is R).getD i false=true→sV g i:=by
    intro is R hR h i hi
    unfold dL at hi
    split at hi
    · rename_i ha
      rcases yZ hi with rfl | hi
      · have:=hf.left R hR
        have e:((R.left.toNat:Nat):Int)=R.left:=by omega
        rw[e]
        refine .mk R hR fun s hs hn=>?_
        have:=h _ (uG.1 ha s hs hn)
        rwa [show (((-1 - s).toNat:Nat):Int) = -1 - s by omega] at this
      · exact h i hi
    · exact h i hi
  have hfold:∀ (l:List aT) (is:List Bool),(∀ R∈l,R∈g.rules)→(∀ i:Nat,is.getD i false=true→sV g i)→∀ i:Nat,(l.foldl (dL true) is).getD i false=true→sV g i:=by
    intro l
    induction l with
    | nil=>intro is _ h; exact h
    | cons R l ih=>intro is hl h; exact ih _ (fun x hx=>hl x (by simp[hx])) (hst is R (hl R (by simp)) h)
  have hit:∀ (n:Nat) (is:List Bool),(∀ i:Nat,is.getD i false=true→sV g i)→∀ i:Nat,(iter (iV g true) n is).getD i false=true→sV g i:=by
    intro n
    induction n with
    | zero=>intro is h; exact h
    | succ n ih=>intro is h; exact ih _ (hfold g.rules is (fun _ h=>h) h)
  rw[aM,if_pos hr]
  exact hit _ _ fun i hi=>by rw[z7] at hi; simp at hi
theorem CR (t:Bool) (is:List Bool) (R:aT):fT is (dL t is R):=by
  unfold dL
  split
  · exact .set _ _
  · exact .refl _
theorem CN (t:Bool):∀ (l:List aT) (is:List Bool),fT is (l.foldl (dL t) is)
  | [],is=>.refl _
  | R :: l,is=>(CR t is R).trans (CN t l _)
theorem AT {t:Bool} : ∀ {l:List aT} {is:List Bool},l.foldl (dL t) is=is→∀ R∈l,dL t is R=is
  | [],_,_,_,h=>by simp at h
  | R :: l,is,h,x,hx=>by
    rw[List.foldl_cons] at h
    have h1:=CN t l (dL t is R)
    rw[h] at h1
    have h2:=(h1.IJ (CR t is R))
    rcases List.mem_cons.1 hx with rfl | hx
    · exact h2
    · rw[h2] at h; exact AT h x hx
theorem Lh {g:ao} (hr:bK g=true) (t:Bool):iV g t (aM g t)=aM g t:=by
  have hf:=bL hr
  have h:=rK (qq t) g.rules 16 (bW g) (by have:=hf.ay; simp[bW]; omega)
  rw[GU,Lj hr] at h
  exact h.1
theorem qL {g:ao} (hr:bK g=true) {t:Bool} {R:aT} (hR:R∈g.rules) (ha:dP R.right (aM g t) t=true):(aM g t).getD R.left.toNat false=true:=by
  have h1:=AT (Lh hr t) R hR
  have hf:=bL hr
  have hl:=iS hr t
  have hb:=hf.left R hR
  unfold dL at h1
  rw[if_pos ha] at h1
  rw[← h1]
  simp only[List.getD_eq_getElem?_getD]
  rw[List.getElem?_set_self (by omega)]
  rfl
theorem xo {g:ao} (hr:bK g=true) {x:Int} (h:sV g x):(aM g true).getD x.toNat false=true:=by
  induction h with
  | mk R hR _ ih=>exact qL hr hR (uG.2 fun s hs hn=>ih s hs hn)
theorem FT {g:ao} (hr:bK g=true):∀ i:Nat,(bH g).getD i false=true→oR g (aM g true) i:=by
  have hf:=bL hr
  have hmk:∀ (R:aT),R∈g.rules→oR g (aM g true) R.left→dP R.right (aM g true) true=true→∀ (l:List Int) (is:List Bool),(∀ s∈l,s∈R.right)→(∀ i:Nat,is.getD i false=true→oR g (aM g true) i)→∀ i:Nat,(l.foldl mark is).getD i false=true→oR g (aM g true) i:=by
    intro R hR hl ha l
    induction l with
    | nil=>intro is _ h; exact h
    | cons s l ih =>
      intro is hs h
      refine ih _ (fun x hx=>hs x (by simp[hx])) fun i hi=>?_
      unfold mark at hi
      split at hi
      · rename_i hn
        rcases yZ hi with rfl | hi
        · rw[show (((-1 - s).toNat:Nat):Int) = -1 - s by omega]
          exact .next R s hR hl ha (hs s (by simp)) hn
        · exact h i hi
      · exact h i hi
  have hst:∀ (is:List Bool) (R:aT),R∈g.rules→(∀ i:Nat,is.getD i false=true→oR g (aM g true) i)→∀ i:Nat,(eZ (aM g true) is R).getD i false=true→oR g (aM g true) i:=by
    intro is R hR h
    unfold eZ
    split
    · rename_i ha
      rw[Bool.and_eq_true] at ha
      have h1:=h _ ha.1
      have:=hf.left R hR
      rw[show ((R.left.toNat:Nat):Int)=R.left by omega] at h1
      exact hmk R hR h1 ha.2 R.right is (fun _ h=>h) h
    · exact h
  have hfold:∀ (l:List aT) (is:List Bool),(∀ R∈l,R∈g.rules)→(∀ i:Nat,is.getD i false=true→oR g (aM g true) i)→∀ i:Nat,(l.foldl (eZ (aM g true)) is).getD i false=true→oR g (aM g true) i:=by
    intro l
    induction l with
    | nil=>intro is _ h; exact h
    | cons R l ih=>intro is hl h; exact ih _ (fun x hx=>hl x (by simp[hx])) (hst is R (hl R (by simp)) h)
  have hit:∀ (n:Nat) (is:List Bool),(∀ i:Nat,is.getD i false=true→oR g (aM g true) i)→∀ i:Nat,(iter (lV g (aM g true)) n is).getD i false=true→oR g (aM g true) i:=by
    intro n
    induction n with
    | zero=>intro is h; exact h
    | succ n ih=>intro is h; exact ih _ (hfold g.rules is (fun _ h=>h) h)
  rw[bH,if_pos hr]
  refine hit _ _ fun i hi=>?_
  rcases yZ hi with rfl | hi
  · have:=hf.jJ
    rw[show ((g.start.toNat:Nat):Int)=g.start by omega]
    exact .start
  · rw[z7] at hi; simp at hi
theorem wT {g:ao} (hr:bK g=true) {x:Int} (h:oR g (aM g true) x):(bH g).getD x.toNat false=true:=by
  induction h with
  | start=>exact yk hr
  | next R s hR _ ha hs hn ih=>exact Ad hr hR (by rw[bE,ih,ha]; rfl) hs hn
section
variable {g r:ao} {p q:List Bool} {o:List Int}
theorem er.Q2 (h:er g p q o r) {x:Int} (hd:sV g x):x∈o→sV r (bp o x):=by
  induction hd with
  | mk R hR hsub ih =>
    intro hx
    obtain ⟨R1,hR1,hk1,e1⟩:=h.from_ _ hx
    have hk:bE p q R=true:=by
      rw[bE,Bool.and_eq_true] at hk1 ⊢
      refine ⟨by rw[← e1]; exact hk1.1,?_⟩
      rw[h.pe]
      exact uG.2 fun s hs hn=>xo h.right (hsub s hs hn)
    have hin:=(h.kept R hR hk).2
    have hm:bk (bp o) R∈r.rules:=by rw[h.rules]; exact List.mem_map.2 ⟨R,List.mem_filter.2 ⟨hR,hk⟩,rfl⟩
    refine sV.mk (bk (bp o) R) hm fun s' hs' hn'=>?_
    simp only[bk,List.mem_map] at hs'
    obtain ⟨s,hs,rfl⟩:=hs'
    by_cases hn:s < 0
    · rw[if_pos hn]
      have:=ih s hs hn (hin s hs hn)
      rwa [show -1 - (-1 - bp o (-1 - s))=bp o (-1 - s) by omega]
    · rw[if_neg hn] at hn'; omega
theorem er.PF (h:er g p q o r) {x:Int} (hx:x∈o):(aM r true).getD (bp o x).toNat false=true:=by
  obtain ⟨R,hR,hk,rfl⟩:=h.from_ _ hx
  rw[bE,Bool.and_eq_true,h.pe] at hk
  have h1:=qL h.right hR hk.2
  have h2:=E9 h.right _ h1
  have:=(h.inside _ hx)
  rw[show ((R.left.toNat:Nat):Int)=R.left by omega] at h2
  exact xo h.lp (h.Q2 h2 hx)
theorem er.at_ (h:er g p q o r) {k:Nat} (hk:k < o.length):∃ x∈o,bp o x=k∧o[k]?=some x:=⟨o[k],List.getElem_mem _,xV h.nodup (List.getElem?_eq_getElem hk),List.getElem?_eq_getElem hk⟩
theorem er.C1 (h:er g p q o r) {k:Nat} (hk:k < o.length):(aM r true).getD k false=true:=by
  obtain ⟨x,hx,h1,_⟩:=h.at_ hk
  have:=h.PF hx
  rwa [h1,Int.toNat_natCast] at this
theorem er.Kx (h:er g p q o r) {R:aT} (hR:R∈r.rules):dP R.right (aM r true) true=true:=by
  have hf:=bL h.lp
  refine uG.2 fun s hs hn=>h.C1 ?_
  have:=hf.neg hR hs hn
  rw[h.len] at this
  omega
theorem er.Q1 (h:er g p q o r) {x:Int} (hd:oR g (aM g true) x):oR r (aM r true) (bp o x):=by
  induction hd with
  | start=>rw[← h.DU]; exact .start
  | next R s hR h1 ha hs hn ih =>
    have hk:bE p q R=true:=by
      rw[bE,h.pe,h.qe,ha,wT h.right h1]; rfl
    have hm:bk (bp o) R∈r.rules:=by rw[h.rules]; exact List.mem_map.2 ⟨R,List.mem_filter.2 ⟨hR,hk⟩,rfl⟩
    have hin:=(h.kept R hR hk).2 s hs hn
    have h2:=jZ hin
    have:=oR.next (g:=r) (p:=aM r true) (bk (bp o) R) (-1 - bp o (-1 - s)) hm ih (h.Kx hm) (by
      simp only[bk,List.mem_map]
      exact ⟨s,hs,by rw[if_pos hn]⟩) (by omega)
    rwa [show -1 - (-1 - bp o (-1 - s))=bp o (-1 - s) by omega] at this
theorem er.Kv (h:er g p q o r) {k:Nat} (hk:k < o.length):(bH r).getD k false=true:=by
  obtain ⟨x,hx,h1,_⟩:=h.at_ hk
  obtain ⟨R,hR,hkk,rfl⟩:=h.from_ _ hx
  rw[bE,Bool.and_eq_true,h.qe] at hkk
  have h2:=FT h.right _ hkk.1
  have:=(h.inside _ hx)
  rw[show ((R.left.toNat:Nat):Int)=R.left by omega] at h2
  have:=wT h.lp (h.Q1 h2)
  rwa [h1,Int.toNat_natCast] at this
def ky (n:Nat):List Int:=(List.range n).map fun (k:Nat)=>(k:Int)
theorem EM (n:Nat):(ky n).length=n:=by simp[ky]
theorem yT {n k:Nat} (h:k < n):(ky n)[k]?=some (k:Int):=by simp[ky,h]
theorem IM (n:Nat):(ky n).Nodup:=by
  rw[ky,List.nodup_iff_pairwise_ne,List.pairwise_map]
  exact (List.nodup_range (n:=n)).imp fun h e=>h (by omega)
theorem zy {n:Nat} {x:Int} (h0:0≤x) (h1:x < n):bp (ky n) x=x:=by
  have:=xV (IM n) (yT (n:=n) (k:=x.toNat) (by omega))
  rw[show ((x.toNat:Nat):Int)=x by omega] at this
  exact this
theorem CK {p q:List Bool} : ∀ (l:List aT) (i:Int),(∀ R∈l,bE p q R=true)→cn p q l i=(List.range l.length).map fun (k:Nat)=>i+(k:Int)
  | [],_,_=>rfl
  | R :: l,i,h=>by
    rw[cn,if_pos (h R (by simp)),CK l (i+1) (fun x hx=>h x (by simp[hx])),List.length_cons,List.range_succ_eq_map,List.map_cons,List.map_map]
    congr 1
    · omega
    · apply List.map_congr_left
      intro k _
      simp only[Function.comp]
      push_cast; omega
theorem tT {f:Int→Int} {o:List Int} (hf:∀ x∈o,∀ y∈o,f x=f y→x=y):∀ (l:List aT) (acc:List Int),(∀ x∈acc,x∈o)→(∀ R∈l,R.left∈o)→(l.map (bk f)).foldl dA (acc.map f)=(l.foldl dA acc).map f
  | [],_,_,_=>rfl
  | R :: l,acc,ha,hl=>by
    have e:dA (acc.map f) (bk f R)=(dA acc R).map f:=by
      have h1:(bk f R).left=f R.left:=rfl
      unfold dA
      rw[h1]
      by_cases h:R.left∈acc
      · rw[if_pos h,if_pos (List.mem_map.2 ⟨_,h,rfl⟩)]
      · rw[if_neg h,if_neg (fun hm=>by
          obtain ⟨y,hy,e⟩:=List.mem_map.1 hm
          exact h (hf y (ha y hy) _ (hl R (by simp)) e ▸ hy))]
        simp
    rw[List.map_cons,List.foldl_cons,List.foldl_cons,e]
    refine tT hf l (dA acc R) (fun x hx=>?_) (fun x hx=>hl x (by simp[hx]))
    unfold dA at hx
    split at hx
    · exact ha x hx
    · rcases List.mem_append.1 hx with hx | hx
      · exact ha x hx
      · simp at hx; subst hx; exact hl R (by simp)
theorem er.inj (h:er g p q o r):∀ x∈o,∀ y∈o,bp o x=bp o y→x=y:=by
  intro x hx y hy e
  have h1:=y3 hx
  have h2:=y3 hy
  rw[e,h2] at h1
  exact (Option.some.inj h1).symm
theorem er.Ow (h:er g p q o r):o.map (bp o)=ky o.length:=by
  apply List.ext_getElem?
  intro k
  rw[List.getElem?_map]
  by_cases hk:k < o.length
  · rw[yT hk,List.getElem?_eq_getElem hk,Option.map_some,xV h.nodup (List.getElem?_eq_getElem hk)]
  · rw[List.getElem?_eq_none (by omega),List.getElem?_eq_none (by rw[EM]; omega)]; rfl
theorem er.zA (h:er g p q o r):∀ R∈r.rules,bE (aM r true) (bH r) R=true:=fun R hR=>by
  have hf:=bL h.lp
  have:=hf.left R hR
  rw[h.len] at this
  rw[bE,h.Kv (by omega),h.Kx hR]; rfl
theorem er.ord (h:er g p q o r):bN (aM r true) (bH r) r.rules=ky o.length:=by
  unfold bN
  rw[List.filter_eq_self.2 h.zA,h.rules]
  have:=tT h.inj (g.rules.filter (bE p q)) [] (by simp) (fun R hR=>by
    obtain ⟨h1,h2⟩:=List.mem_filter.1 hR
    exact (h.kept R h1 h2).1)
  rw[List.map_nil] at this
  rw[this,← h.Ow]
  congr 1
  rw[h.oe]; rfl
theorem er.once (h:er g p q o r):fi r=(r,ky r.rules.length,0):=by
  have hf:=bL h.lp
  have hst:=hf.start
  have hst0:=hf.jJ
  rw[h.len] at hst
  rw[xF h.lp,if_pos (h.C1 (by omega)),h.ord]
  have hk:cn (aM r true) (bH r) r.rules 0=ky r.rules.length:=by
    rw[CK _ _ h.zA]
    unfold ky
    apply List.map_congr_left
    intro k _; omega
  have hr:kp r (bp (ky o.length)) (aM r true) (bH r)=r:=by
    unfold kp
    rw[h.ord,List.filter_eq_self.2 h.zA]
    have e1:((ky o.length).map fun x=>r.ay.getD x.toNat ⟨#[]⟩)=r.ay:=by
      apply List.ext_getElem?
      intro k
      rw[List.getElem?_map]
      by_cases hkk:k < o.length
      · rw[yT hkk,Option.map_some]
        simp[List.getD_eq_getElem?_getD,List.getElem?_eq_getElem (show k < r.ay.length by rw[h.len]; omega)]
      · rw[List.getElem?_eq_none (by rw[EM]; omega),List.getElem?_eq_none (by rw[h.len]; omega)]; rfl
    have e2:r.rules.map (bk (bp (ky o.length)))=r.rules:=by
      conv=>rhs; rw[← List.map_id r.rules]
      apply List.map_congr_left
      intro R hR
      have hl:=hf.left R hR
      rw[h.len] at hl
      unfold bk
      rw[zy hl.1 hl.2]
      have e3:(R.right.map fun s=>if s < 0 then -1 - bp (ky o.length) (-1 - s) else s)=R.right:=by
        conv=>rhs; rw[← List.map_id R.right]
        apply List.map_congr_left
        intro s hs
        by_cases hn:s < 0
        · have:=hf.neg hR hs hn
          rw[h.len] at this
          rw[if_pos hn,zy (by omega) this]
          simp only[id]; omega
        · rw[if_neg hn]; rfl
      rw[e3]; rfl
    rw[e1,e2,zy hst0 hst]
  rw[hr,hk]
end
def isRed (g:ao):Bool:=(fi g).2.2 == 0 && decide (g=(fi g).1)
def pa (p:List Int) (i:Nat) (s:Int):Prop:=∃ c,p[i]?=some c∧(c=s∨c = -1)
inductive Sp (g:ao) (p:List Int):List Int→Nat→Nat→Prop
  | nil (i:Nat):Sp g p [] i i
  | term (s:Int) (l:List Int) (i j:Nat):0≤s→pa p i s→Sp g p l (i+1) j→Sp g p (s :: l) i j
  | ec (s:Int) (l:List Int) (R:aT) (i k j:Nat):s < 0→R∈g.rules→R.left = -1 - s→Sp g p R.right i k→Sp g p l k j→Sp g p (s :: l) i j
theorem Sp.le {g:ao} {p:List Int} {l:List Int} {i j:Nat} (h:Sp g p l i j):i≤j:=by
  induction h with
  | nil=>exact Nat.le_refl _
  | term _ _ _ _ _ _ _ ih=>omega
  | ec _ _ _ _ _ _ _ _ _ _ _ ih1 ih2=>omega
theorem Sp.len {g:ao} {p:List Int} {l:List Int} {i j:Nat} (h:Sp g p l i j):i≤p.length→j≤p.length:=by
  induction h with
  | nil=>exact id
  | term _ _ i _ _ hf _ ih =>
    intro _
    obtain ⟨c,hc,_⟩:=hf
    have:=(List.getElem?_eq_some_iff.1 hc).1
    exact ih (by omega)
  | ec _ _ _ _ _ _ _ _ _ _ _ ih1 ih2=>exact fun h=>ih2 (ih1 h)
theorem Sp.app {g:ao} {p:List Int} {a:List Int} {i k:Nat} (h:Sp g p a i k):∀ {b:List Int} {j:Nat},Sp g p b k j→Sp g p (a ++ b) i j:=by
  induction h with
  | nil=>exact fun h=>h
  | term s l i _ h0 hf _ ih=>exact fun hb=>.term s _ i _ h0 hf (ih hb)
  | ec s l R i k _ h0 hR hl h1 _ _ ih2=>exact fun hb=>.ec s _ R i k _ h0 hR hl h1 (ih2 hb)
theorem Sp.split {g:ao} {p:List Int} : ∀ {a b:List Int} {i j:Nat},Sp g p (a ++ b) i j→∃ k,Sp g p a i k∧Sp g p b k j
  | [],b,i,j,h=>⟨i,.nil i,h⟩
  | s :: a,b,i,j,h=>by
    cases h with
    | term _ _ _ _ h0 hf h =>
      obtain ⟨k,h1,h2⟩:=Sp.split h
      exact ⟨k,.term s a i k h0 hf h1,h2⟩
    | ec _ _ R _ m _ h0 hR hl h1 h =>
      obtain ⟨k,h2,h3⟩:=Sp.split h
      exact ⟨k,.ec s a R i m k h0 hR hl h1 h2,h3⟩
structure Item where
  aH:Nat
  dot:Nat
  ln:Nat
  deriving DecidableEq
def Sound (g:ao) (p:List Int) (at_:Nat) (x:Item):Prop:=∃ R,g.rules[x.aH]?=some R∧x.dot≤R.right.length∧x.ln≤at_∧Sp g p (R.right.take x.dot) x.ln at_
structure QY (g:ao) (p:List Int) (S:Nat→List Item):Prop where
  start:∀ (i:Nat) (R:aT),g.rules[i]?=some R→R.left=g.start→⟨i,0,0⟩∈S 0
  term:∀ a x R s,x∈S a→g.rules[x.aH]?=some R→R.right[x.dot]?=some s→0≤s→pa p a s→⟨x.aH,x.dot+1,x.ln⟩∈S (a+1)
  pred:∀ a x R s i R',x∈S a→g.rules[x.aH]?=some R→R.right[x.dot]?=some s→s < 0→g.rules[i]?=some R'→R'.left = -1 - s→a≤p.length→⟨i,0,a⟩∈S a
  null:∀ a x R s,x∈S a→g.rules[x.aH]?=some R→R.right[x.dot]?=some s→s < 0→(aM g false).getD (-1 - s).toNat false=true→a≤p.length→⟨x.aH,x.dot+1,x.ln⟩∈S a
  comp:∀ a y R' x R s,y∈S a→g.rules[y.aH]?=some R'→y.dot=R'.right.length→y.ln < a→x∈S y.ln→g.rules[x.aH]?=some R→R.right[x.dot]?=some s→s < 0→R'.left = -1 - s→a≤p.length→⟨x.aH,x.dot+1,x.ln⟩∈S a
inductive In (p:List Int) (T:Nat→Nat→Nat→Prop):List Int→Nat→Nat→Prop
  | nil (i:Nat):In p T [] i i
  | term (s:Int) (l:List Int) (i j:Nat):0≤s→pa p i s→In p T l (i+1) j→In p T (s :: l) i j
  | ec (s:Int) (l:List Int) (i k j:Nat):s < 0→T (-1 - s).toNat i k→In p T l k j→In p T (s :: l) i j
theorem In.app {p:List Int} {T:Nat→Nat→Nat→Prop} {a:List Int} {i k:Nat} (h:In p T a i k):∀ {b:List Int} {j:Nat},In p T b k j→In p T (a ++ b) i j:=by
  induction h with
  | nil=>exact fun h=>h
  | term s l i _ h0 hf _ ih=>exact fun hb=>.term s _ i _ h0 hf (ih hb)
  | ec s l i k _ h0 h1 _ ih=>exact fun hb=>.ec s _ i k _ h0 h1 (ih hb)
theorem In.split {p:List Int} {T:Nat→Nat→Nat→Prop} : ∀ {a b:List Int} {i j:Nat},In p T (a ++ b) i j→∃ k,In p T a i k∧In p T b k j
  | [],b,i,j,h=>⟨i,.nil i,h⟩
  | s :: a,b,i,j,h=>by
    cases h with
    | term _ _ _ _ h0 hf h =>
      obtain ⟨k,h1,h2⟩:=In.split h
      exact ⟨k,.term s a i k h0 hf h1,h2⟩
    | ec _ _ _ m _ h0 h1 h =>
      obtain ⟨k,h2,h3⟩:=In.split h
      exact ⟨k,.ec s a i m k h0 h1 h2,h3⟩
theorem In.le {p:List Int} {T:Nat→Nat→Nat→Prop} (hT:∀ n i j,T n i j→i≤j) {l:List Int} {i j:Nat} (h:In p T l i j):i≤j:=by
  induction h with
  | nil=>exact Nat.le_refl _
  | term _ _ _ _ _ _ _ ih=>omega
  | ec _ _ _ _ _ _ h1 _ ih=>have:=hT _ _ _ h1; omega
def stepT (p:List Int) (T:Nat→Nat→Nat→Prop) (s:Int) (i j:Nat):Prop:=if 0≤s then pa p i s∧j=i+1 else T (-1 - s).toNat i j
theorem In.one {p:List Int} {T:Nat→Nat→Nat→Prop} {s:Int} {i j:Nat} : In p T [s] i j↔stepT p T s i j:=by
  unfold stepT
  constructor
  · intro h
    cases h with
    | term _ _ _ _ h0 hf h=>cases h; rw[if_pos h0]; exact ⟨hf,rfl⟩
    | ec _ _ _ _ _ h0 h1 h=>cases h; rw[if_neg (by omega)]; exact h1
  · intro h
    by_cases h0:0≤s
    · rw[if_pos h0] at h
      obtain ⟨hf,rfl⟩:=h
      exact .term s [] i _ h0 hf (.nil _)
    · rw[if_neg h0] at h
      exact .ec s [] i j j (by omega) h (.nil _)
theorem In.snoc {p:List Int} {T:Nat→Nat→Nat→Prop} {a:List Int} {s:Int} {i j:Nat} : In p T (a ++ [s]) i j↔∃ k,In p T a i k∧stepT p T s k j :=
  ⟨fun h=>by obtain ⟨k,h1,h2⟩:=h.split; exact ⟨k,h1,In.one.1 h2⟩,fun ⟨k,h1,h2⟩=>h1.app (In.one.2 h2)⟩
abbrev Tb:=List (List (List Bool))
def ze (T:Tb) (N M:Nat):Prop:=T.length=N∧∀ r∈T,r.length=M∧∀ c∈r,c.length=M
theorem ze.row {T:Tb} {N M n:Nat} (h:ze T N M) (hn:n < N):∃ r,T[n]?=some r∧r.length=M∧T.getD n []=r:=by
  have:n < T.length:=by rw[h.1]; exact hn
  exact ⟨T[n],List.getElem?_eq_getElem this,(h.2 _ (List.getElem_mem _)).1,by simp[List.getD_eq_getElem?_getD,this]⟩
theorem ze.cell {T:Tb} {N M n i:Nat} (h:ze T N M) (hn:n < N) (hi:i < M):∃ r c,T[n]?=some r∧r[i]?=some c∧c.length=M∧(T.getD n []).getD i []=c:=by
  obtain ⟨r,hr,hl,hg⟩:=h.row hn
  have h1:i < r.length:=by omega
  refine ⟨r,r[i],hr,List.getElem?_eq_getElem h1,(h.2 r (List.mem_of_getElem? hr)).2 _ (List.getElem_mem _),?_⟩
  rw[hg]; simp[List.getD_eq_getElem?_getD,h1]
def Jq (T:Tb) (n i j:Nat):Tb:=T.set n ((T.getD n []).set i (((T.getD n []).getD i []).set j true))
def Pd (N M:Nat):Tb:=List.replicate N (List.replicate M (List.replicate M false))
def NG (T:Tb):V:=.aZ (T.map fun r=>[.aZ (r.map fun c=>[bO c])])
structure qJ (H:View) (I N M:Nat) (R:Nat→Nat) (C:Nat→Nat→Nat) (T:Tb):Prop where
  top:H I=.arr 1 ((List.range N).map fun n=>[.sl (R n) 0 M 1])
  row:∀ n,n < N→H (R n)=.arr 1 ((List.range M).map fun i=>[.sl (C n i) 0 M 1])
  cell:∀ n i,n < N→i < M→H (C n i)=.arr 1 (ct ((T.getD n []).getD i []))
  inj:∀ n i n' i',n < N→i < M→n' < N→i' < M→C n i=C n' i'→n=n'∧i=i'
theorem yY {c:List Bool} {k:Nat} {F:Nat→List V} (hc:0 < c.length) (h:ct c=(List.range k).map F) (hF:∀ n x,F n≠[gb x]):False:=by
  cases c with
  | nil=>simp at hc
  | cons x c =>
    cases k with
    | zero=>simp at h
    | succ k =>
      rw[List.range_succ_eq_map] at h
      simp only[List.map_cons,List.cons.injEq] at h
      exact hF 0 x h.1.symm
theorem qJ.keep {H H':View} {I N M:Nat} {R:Nat→Nat} {C:Nat→Nat→Nat} {T:Tb} (h:qJ H I N M R C T) (hk:∀ id,H id≠.dead→H' id=H id):qJ H' I N M R C T :=
  ⟨by rw[hk _ (by rw[h.top]; simp)]; exact h.top,fun n hn=>by rw[hk _ (by rw[h.row n hn]; simp)]; exact h.row n hn,fun n i hn hi=>by rw[hk _ (by rw[h.cell n i hn hi]; simp)]; exact h.cell n i hn hi,h.inj⟩
theorem qJ.put {H:View} {I N M:Nat} {R:Nat→Nat} {C:Nat→Nat→Nat} {T:Tb} (h:qJ H I N M R C T) (hT:ze T N M) {n i j:Nat} (hn:n < N) (hi:i < M) (hj:j < M) :
    qJ (H.set (C n i) (.arr 1 (ct (((T.getD n []).getD i []).set j true)))) I N M R C (Jq T n i j):=by
  obtain ⟨r,c,hr,hc,hcl,hg⟩:=hT.cell hn hi
  have hcell:=h.cell n i hn hi
  rw[hg] at hcell
  have e1:I≠C n i:=fun e=>by
    have:=h.top
    rw[e,hcell] at this
    simp only[bM.arr.injEq,true_and] at this
    exact yY (by omega) this fun _ _=>by simp
  have e2:∀ m,m < N→R m≠C n i:=fun m hm e=>by
    have:=h.row m hm
    rw[e,hcell] at this
    simp only[bM.arr.injEq,true_and] at this
    exact yY (by omega) this fun _ _=>by simp
  refine ⟨by simp only[View.set,if_neg e1]; exact h.top,fun m hm=>by simp only[View.set,if_neg (e2 m hm)]; exact h.row m hm,fun m q hm hq=>?_,h.inj⟩
  obtain ⟨r',hr',hrl,hg'⟩:=hT.row hn
  rw[hr] at hr'; simp at hr'; subst hr'
  have hnl:n < T.length:=by rw[hT.1]; exact hn
  by_cases e:C m q=C n i
  · obtain ⟨rfl,rfl⟩:=h.inj m q n i hm hq hn hi e
    simp only[View.set,if_true]
    congr 2
    rw[Jq]
    simp[List.getD_eq_getElem?_getD,hnl]
    rw[List.getElem?_set]
    have:q < T[m].length:=by
      have:=(List.getElem?_eq_some_iff.1 hr).2
      rw[this,hrl]; exact hq
    simp[this]
  · simp only[View.set,if_neg e]
    rw[h.cell m q hm hq]
    congr 2
    rw[Jq]
    by_cases em:n=m
    · subst em
      have eq:i≠q:=fun e'=>e (by rw[e'])
      simp[List.getD_eq_getElem?_getD,hnl,List.getElem?_set,eq]
    · simp[List.getD_eq_getElem?_getD,List.getElem?_set,em]
theorem qJ.PX {h:aE} {I N M:Nat} {R:Nat→Nat} {C:Nat→Nat→Nat} {T:Tb} (hG:qJ h.view I N M R C T) (hT:ze T N M):dN h (.sl I 0 N 1) (NG T):=by
  refine .sl I 0 N 1 1 _ _ hG.top (by simp) (by simp[hT.1]) (fun n hn=>?_) (fun n j hn hj=>?_)
  · obtain ⟨r,hr,_⟩:=hT.row hn
    simp[List.getD_eq_getElem?_getD,hr,hn]
  · obtain ⟨r,hr,hrl,hrg⟩:=hT.row hn
    have e1:((T.map fun r=>[V.aZ (r.map fun c=>[bO c])]).getD n [])=[V.aZ (r.map fun c=>[bO c])]:=by simp[List.getD_eq_getElem?_getD,hr]
    have e2:(((List.range N).map fun n=>[V.sl (R n) 0 M 1]).getD (0+n) [])=[V.sl (R n) 0 M 1]:=by simp[List.getD_eq_getElem?_getD,hn]
    rw[e1] at hj ⊢
    rw[e2]
    have:j=0:=by simp at hj; omega
    subst this
    simp only[List.getD_cons_zero]
    refine .sl (R n) 0 M 1 1 _ _ (hG.row n hn) (by simp) (by simp[hrl]) (fun i hi=>?_) (fun i q hi hq=>?_)
    · simp[List.getD_eq_getElem?_getD,hi,show i < r.length by omega]
    · have hic:i < r.length:=by omega
      have f1:((r.map fun c=>[bO c]).getD i [])=[bO r[i]]:=by simp[List.getD_eq_getElem?_getD,hic]
      have f2:(((List.range M).map fun i=>[V.sl (C n i) 0 M 1]).getD (0+i) [])=[V.sl (C n i) 0 M 1]:=by simp[List.getD_eq_getElem?_getD,hi]
      rw[f1] at hq ⊢
      rw[f2]
      have:q=0:=by simp at hq; omega
      subst this
      simp only[List.getD_cons_zero]
      have hcell:=hG.cell n i hn hi
      have e3:(T.getD n []).getD i []=r[i]:=by rw[hrg]; simp[List.getD_eq_getElem?_getD,hic]
      rw[e3] at hcell
      have hcl:=(hT.2 r (List.mem_of_getElem? hr)).2 _ (List.getElem_mem hic)
      have:=oJ (h:=h) (id:=C n i) (is:=r[i]) hcell
      rwa [hcl] at this
theorem dN.Pq {h:aE} {v t:V} (f:dN h v t):Fr h v t:=by
  induction f with
  | val v=>exact .tree _ (.val v)
  | emp k=>exact .emp k
  | sl id off len esz z es es' hH hle hlen hl _ ih=>exact .sl id off len esz z es es' hH hle hlen hl ih
  | agg cs cs' hl _ ih=>exact .agg cs cs' hl ih
  | bu cs cs' hl _ ih=>exact .bu cs cs' hl ih
theorem qJ.Ih {H:View} {I N M:Nat} {R:Nat→Nat} {C:Nat→Nat→Nat} {T:Tb} (hG:qJ H I N M R C T) (hT:ze T N M):dD H (.sl I 0 N 1) (NG T):=by
  rintro h rfl
  exact (hG.PX hT).Pq
structure OW (H:View) (I N M k:Nat) (R:Nat→Nat) (C:Nat→Nat→Nat):Prop where
  top:H I=.arr 1 ((List.range N).map fun n=>[if n < k then .sl (R n) 0 M 1 else .emp 1])
  row:∀ n,n < k→H (R n)=.arr 1 ((List.range M).map fun i=>[.sl (C n i) 0 M 1])
  cell:∀ n i,n < k→i < M→H (C n i)=.arr 1 (List.replicate M [gb false])
  inj:∀ n i n' i',n < k→i < M→n' < k→i' < M→C n i=C n' i'→n=n'∧i=i'
  ne:∀ n,n < k→I≠R n
structure E5 (H:View) (I N M k:Nat) (R:Nat→Nat) (C:Nat→Nat→Nat) (r i:Nat) (D:Nat→Nat):Prop where
  top:H I=.arr 1 ((List.range N).map fun n=>[if n < k then .sl (R n) 0 M 1 else if n=k then .sl r 0 M 1 else .emp 1])
  row:∀ n,n < k→H (R n)=.arr 1 ((List.range M).map fun i=>[.sl (C n i) 0 M 1])
  cell:∀ n i,n < k→i < M→H (C n i)=.arr 1 (List.replicate M [gb false])
  inj:∀ n i n' i',n < k→i < M→n' < k→i' < M→C n i=C n' i'→n=n'∧i=i'
  ne:∀ n,n < k→I≠R n
  OK:H r=.arr 1 ((List.range M).map fun j=>[if j < i then .sl (D j) 0 M 1 else .emp 1])
  DD:∀ j,j < i→H (D j)=.arr 1 (List.replicate M [gb false])
  Pg:∀ j j',j < i→j' < i→D j=D j'→j=j'
  CB:I≠r∧(∀ n,n < k→R n≠r)∧∀ n q j,n < k→q < M→j < i→C n q≠D j
theorem GP {M i:Nat} {F:Nat→List V} {v:List V} : ((List.range M).map F).set i v=(List.range M).map fun j=>if j=i then v else F j:=by
  apply List.ext_getElem (by simp)
  intro j h1 h2
  simp only[List.getElem_set,List.getElem_map,List.getElem_range]
  by_cases e:i=j
  · subst e; simp
  · rw[if_neg e,if_neg (Ne.symm e)]
theorem OW.done {H:View} {I N M:Nat} {R:Nat→Nat} {C:Nat→Nat→Nat} (h:OW H I N M N R C):qJ H I N M R C (Pd N M):=by
  refine ⟨?_,h.row,fun n i hn hi=>?_,h.inj⟩
  · rw[h.top]
    congr 1
    apply List.map_congr_left
    intro n hn
    rw[if_pos (by simpa using hn)]
  · rw[h.cell n i hn hi]
    simp[Pd,List.getD_eq_getElem?_getD,hn,hi]
theorem E5.Qr {H:View} {I N M k:Nat} {R:Nat→Nat} {C:Nat→Nat→Nat} {r:Nat} {D:Nat→Nat} (h:E5 H I N M k R C r M D):OW H I N M (k+1) (fun n=>if n=k then r else R n) (fun n=>if n=k then D else C n):=by
  refine ⟨?_,fun n hn=>?_,fun n i hn hi=>?_,fun n i n' i' hn hi hn' hi' e=>?_,fun n hn=>?_⟩
  · rw[h.top]
    congr 1
    apply List.map_congr_left
    intro n _
    by_cases e1:n < k
    · rw[if_pos e1,if_pos (by omega),if_neg (by omega)]
    · by_cases e2:n=k
      · rw[if_neg e1,if_pos e2,if_pos (by omega),if_pos e2]
      · rw[if_neg e1,if_neg e2,if_neg (by omega)]
  · by_cases e:n=k
    · simp only[if_pos e]
      rw[h.OK]
      congr 1
      apply List.map_congr_left
      intro i hi
      rw[if_pos (by simpa using hi)]
    · simp only[if_neg e]; exact h.row n (by omega)
  · by_cases e:n=k
    · simp only[if_pos e]; exact h.DD i hi
    · simp only[if_neg e]; exact h.cell n i (by omega) hi
  · by_cases e1:n=k
    · by_cases e2:n'=k
      · simp only[if_pos e1,if_pos e2] at e
        exact ⟨by omega,h.Pg i i' hi hi' e⟩
      · simp only[if_pos e1,if_neg e2] at e
        exact absurd e.symm (h.CB.2.2 n' i' i (by omega) hi' hi)
    · by_cases e2:n'=k
      · simp only[if_neg e1,if_pos e2] at e
        exact absurd e (h.CB.2.2 n i i' (by omega) hi hi')
      · simp only[if_neg e1,if_neg e2] at e
        exact h.inj n i n' i' (by omega) hi (by omega) hi' e
  · by_cases e:n=k
    · simp only[if_pos e]; exact h.CB.1
    · simp only[if_neg e]; exact h.ne n (by omega)
theorem E5.next {H H':View} {I N M k:Nat} {R:Nat→Nat} {C:Nat→Nat→Nat} {r i d:Nat} {D:Nat→Nat} (h:E5 H I N M k R C r i D) (hN:0 < N) (hM:0 < M) (hd:H d=.dead)
    (hr':H' r=.arr 1 (((List.range M).map fun j=>[if j < i then V.sl (D j) 0 M 1 else .emp 1]).set i [.sl d 0 M 1])) (hd':H' d=.arr 1 (List.replicate M [gb false])) (ho:∀ id,H id≠.dead→id≠r→H' id=H id) :
    E5 H' I N M k R C r (i+1) (fun j=>if j=i then d else D j):=by
  have live:∀ id,H id≠.dead→id≠d:=fun id hid e=>by subst e; exact hid hd
  have boolr:∀ id,H id=.arr 1 (List.replicate M [gb false])→id≠r:=fun id hid e=>by
    rw[e,h.OK] at hid
    simp only[bM.arr.injEq,true_and] at hid
    have:=congrArg (·[0]?) hid
    simp[hM] at this
    split at this <;> simp at this
  refine ⟨?_,fun n hn=>?_,fun n q hn hq=>?_,h.inj,h.ne,?_,fun j hj=>?_,fun j j' hj hj' e=>?_,⟨h.CB.1,h.CB.2.1,fun n q j hn hq hj=>?_⟩⟩
  · rw[ho I (by rw[h.top]; simp) h.CB.1]; exact h.top
  · rw[ho _ (by rw[h.row n hn]; simp) (h.CB.2.1 n hn)]; exact h.row n hn
  · have:=h.cell n q hn hq
    rw[ho _ (by rw[this]; simp) (boolr _ this)]; exact this
  · rw[hr',GP]
    congr 1
    apply List.map_congr_left
    intro j _
    by_cases e:j=i
    · rw[if_pos e,if_pos (by omega),if_pos e]
    · rw[if_neg e]
      by_cases e2:j < i
      · rw[if_pos e2,if_pos (by omega),if_neg e]
      · rw[if_neg e2,if_neg (by omega)]
  · by_cases e:j=i
    · simp only[if_pos e]; exact hd'
    · simp only[if_neg e]
      have:=h.DD j (by omega)
      rw[ho _ (by rw[this]; simp) (boolr _ this)]; exact this
  · by_cases e1:j=i
    · by_cases e2:j'=i
      · omega
      · simp only[if_pos e1,if_neg e2] at e
        exact absurd e.symm (live _ (by rw[h.DD j' (by omega)]; simp))
    · by_cases e2:j'=i
      · simp only[if_neg e1,if_pos e2] at e
        exact absurd e (live _ (by rw[h.DD j (by omega)]; simp))
      · simp only[if_neg e1,if_neg e2] at e
        exact h.Pg j j' (by omega) (by omega) e
  · by_cases e:j=i
    · simp only[if_pos e]; exact live _ (by rw[h.cell n q hn hq]; simp)
    · simp only[if_neg e]; exact h.CB.2.2 n q j hn hq (by omega)
structure xq.Ok (t:xq):Prop where
  cJ:aW t.cJ
  gotos:aW t.gotos
  row:∀ r∈t.cJ,aW r∧∀ c∈r,cz c.kind∧cz c.n
  go:∀ r∈t.gotos,aW r∧∀ x∈r,cz x
structure bU where
  aH:Int
  cW:Int
  rules:Int
  az:Int
def qF:bU:=⟨(-1),0,0,0⟩
def fX:bU:=⟨0,0,0,0⟩
def cH (P:List bU) (m:Nat):bU:=P.getD m qF
abbrev qz (x:Int):Nat:=(-1 - x).toNat
def ga (P:List bU):List Int→bU→bU × Bool
  | [],s=>(s,true)
  | x :: l,s=>if 0≤x then ga P l ⟨s.aH,s.cW,s.rules,min 1048576 (s.az+1)⟩
    else if (cH P (qz x)).aH < 0 then (s,false)
    else ga P l ⟨s.aH,max s.cW (cH P (qz x)).cW,min 1048576 (s.rules+(cH P (qz x)).rules),min 1048576 (s.az+(cH P (qz x)).az)⟩
def c6 (P:List bU) (m:Nat):Prop:=0≤(cH P m).aH
def vc (P:List bU) (l:List Int):Prop:=∀ x∈l,x < 0→c6 P (qz x)
theorem tc (P:List bU):∀ (l:List Int) (s:bU),(ga P l s).2=true↔vc P l
  | [],s=>by simp[ga,vc]
  | x :: l,s=>by
    simp only[ga,vc,List.mem_cons]
    by_cases h:0≤x
    · rw[if_pos h,tc P l]
      refine ⟨fun k y hy hn=>?_,fun k y hy=>k y (.inr hy)⟩
      rcases hy with rfl | hy
      · omega
      · exact k y hy hn
    · rw[if_neg h]
      by_cases h2:(cH P (qz x)).aH < 0
      · rw[if_pos h2]
        simp only[Bool.false_eq_true,false_iff]
        intro k
        have:=k x (.inl rfl) (by omega)
        unfold c6 at this; omega
      · rw[if_neg h2,tc P l]
        refine ⟨fun k y hy hn=>?_,fun k y hy=>k y (.inr hy)⟩
        rcases hy with rfl | hy
        · unfold c6; omega
        · exact k y hy hn
theorem oq (P:List bU) (k:Int):∀ (l:List Int) (s:bU),vc P l→((ga P l s).1.cW≤k↔s.cW≤k∧∀ x∈l,x < 0→(cH P (qz x)).cW≤k)
  | [],s,_=>by simp[ga]
  | x :: l,s,h=>by
    have hl:vc P l:=fun y hy=>h y (by simp[hy])
    simp only[ga,List.mem_cons]
    by_cases h0:0≤x
    · rw[if_pos h0,oq P k l _ hl]
      refine ⟨fun ⟨a,b⟩=>⟨a,fun y hy hn=>?_⟩,fun ⟨a,b⟩=>⟨a,fun y hy=>b y (.inr hy)⟩⟩
      rcases hy with rfl | hy
      · omega
      · exact b y hy hn
    · have:=h x (by simp) (by omega)
      unfold c6 at this
      rw[if_neg h0,if_neg (by omega),oq P k l _ hl]
      refine ⟨fun ⟨a,b⟩=>⟨by simp only at a; omega,fun y hy hn=>?_⟩,fun ⟨a,b⟩=>⟨by have:=b x (.inl rfl) (by omega); simp only; omega,fun y hy=>b y (.inr hy)⟩⟩
      rcases hy with rfl | hy
      · simp only at a; omega
      · exact b y hy hn
theorem wK (P:List bU):∀ (l:List Int) (s:bU),s.cW≤(ga P l s).1.cW
  | [],s=>Int.le_refl _
  | x :: l,s=>by
    simp only[ga]
    split
    · exact wK P l _
    · split
      · exact Int.le_refl _
      · have:=wK P l ⟨s.aH,max s.cW (cH P (qz x)).cW,min 1048576 (s.rules+(cH P (qz x)).rules),min 1048576 (s.az+(cH P (qz x)).az)⟩
        simp only at this ⊢; omega
def oG (P:List bU) (i:Nat) (r:aT):bU:=⟨i,(ga P r.right fX).1.cW+1,min 1048576 ((ga P r.right fX).1.rules+1),(ga P r.right fX).1.az⟩
def DM (P:List bU) (i:Nat) (N:List bU) (r:aT):List bU :=
  if 0≤(cH N r.left.toNat).aH then N else if (ga P r.right fX).2=true then N.set r.left.toNat (oG P i r) else N
def ua (P:List bU):Nat→List bU→List aT→List bU
  | _,N,[]=>N
  | i,N,r :: l=>ua P (i+1) (DM P i N r) l
def Ax (rules:List aT) (P:List bU):List bU:=ua P 0 P rules
def mr (P:List bU) (m:Nat):Nat→List aT→Option bU
  | _,[]=>none
  | i,r :: l=>if r.left.toNat=m∧(ga P r.right fX).2=true then some (oG P i r) else mr P m (i+1) l
theorem GN {N:List bU} {i m:Nat} {p:bU} (hm:m < N.length):cH (N.set i p) m=if i=m then p else cH N m:=by
  simp only[cH,List.getD_eq_getElem?_getD,List.getElem?_set]
  split
  · rename_i e; subst e; simp[hm]
  · rfl
theorem CQ (P:List bU) (i:Nat) (N:List bU) (r:aT):(DM P i N r).length=N.length:=by
  unfold DM; split; · rfl
  split <;> simp
theorem Dj (P:List bU):∀ (l:List aT) (i:Nat) (N:List bU),(ua P i N l).length=N.length
  | [],_,_=>rfl
  | r :: l,i,N=>by rw[ua,Dj P l,CQ]
theorem Eh (P:List bU) (m:Nat):∀ (l:List aT) (i:Nat) (N:List bU),m < N.length→cH (ua P i N l) m=if 0≤(cH N m).aH then cH N m else (mr P m i l).getD (cH N m)
  | [],i,N,hm=>by simp[ua,mr]
  | r :: l,i,N,hm=>by
    rw[ua,Eh P m l (i+1) _ (by rw[CQ]; exact hm),mr]
    unfold DM
    by_cases h1:0≤(cH N r.left.toNat).aH
    · rw[if_pos h1]
      by_cases h2:r.left.toNat=m
      · subst h2
        rw[if_pos h1,if_pos h1]
      · rw[if_neg (c:=r.left.toNat=m∧_) (fun e=>h2 e.1)]
    · rw[if_neg h1]
      by_cases h3:(ga P r.right fX).2=true
      · rw[if_pos h3]
        by_cases h2:r.left.toNat=m
        · subst h2
          rw[GN hm,if_pos rfl,if_neg h1,if_pos (show (0:Int)≤(oG P i r).aH by simp only[oG]; omega),if_pos (c:=r.left.toNat=r.left.toNat∧_) (And.intro rfl h3)]
          rfl
        · rw[GN hm,if_neg h2,if_neg (c:=r.left.toNat=m∧_) (fun e=>h2 e.1)]
      · rw[if_neg h3,if_neg (c:=r.left.toNat=m∧_) (fun e=>h3 e.2)]
theorem oN {P:List bU} {m:Nat} : ∀ {l:List aT} {i:Nat} {p:bU},mr P m i l=some p→∃ (j:Nat) (r:aT),l[j]?=some r∧r.left.toNat=m∧vc P r.right∧p=oG P (i+j) r∧∀ (j':Nat) (r':aT),j' < j→l[j']?=some r'→r'.left.toNat=m→¬ vc P r'.right
  | [],i,p,h=>by simp[mr] at h
  | r :: l,i,p,h=>by
    rw[mr] at h
    by_cases hc:r.left.toNat=m∧(ga P r.right fX).2=true
    · rw[if_pos hc] at h
      exact ⟨0,r,rfl,hc.1,(tc P _ _).1 hc.2,by simpa using h.symm,fun j' r' hj=>by omega⟩
    · rw[if_neg hc] at h
      obtain ⟨j,r2,a,b,c,d,e⟩:=oN h
      refine ⟨j+1,r2,by simpa using a,b,c,by rw[d]; congr 1; omega,fun j' r' hj hr hl hk=>?_⟩
      cases j' with
      | zero =>
        simp at hr; subst hr
        exact hc ⟨hl,(tc P _ _).2 hk⟩
      | succ j'=>exact e j' r' (by omega) (by simpa using hr) hl hk
theorem C3 {P:List bU} {m:Nat} : ∀ {l:List aT} {i:Nat},mr P m i l=none→∀ r∈l,r.left.toNat=m→¬ vc P r.right
  | [],i,h,r,hr,_,_=>by simp at hr
  | r :: l,i,h,r',hr,hl,hk=>by
    rw[mr] at h
    by_cases hc:r.left.toNat=m∧(ga P r.right fX).2=true
    · rw[if_pos hc] at h; simp at h
    · rw[if_neg hc] at h
      rcases List.mem_cons.1 hr with rfl | hr
      · exact hc ⟨hl,(tc P _ _).2 hk⟩
      · exact C3 h r' hr hl hk
def bA (g:ao) (k:Nat):List bU:=iter (Ax g.rules) k (List.replicate g.ay.length qF)
theorem Db {α:Type} (f:α→α):∀ (k:Nat) (x:α),iter f (k+1) x=f (iter f k x)
  | 0,x=>rfl
  | k+1,x=>by rw[iter,Db f k,iter]
theorem A9 (g:ao) (k:Nat):bA g (k+1)=Ax g.rules (bA g k):=Db _ _ _
theorem lk (g:ao):∀ k,(bA g k).length=g.ay.length
  | 0=>by simp[bA,iter]
  | k+1=>by rw[A9,Ax,Dj,lk g k]
theorem s9 {P:List bU} {m:Nat} (h:P.length≤m):cH P m=qF:=by simp[cH,List.getD_eq_getElem?_getD,List.getElem?_eq_none h]
theorem Mw {P:List bU} {m:Nat} (h:c6 P m):m < P.length:=by
  rcases Nat.lt_or_ge m P.length with h1 | h1
  · exact h1
  · unfold c6 at h; rw[s9 h1] at h; simp[qF] at h
theorem qE (g:ao) (k m:Nat):cH (bA g (k+1)) m=if 0≤(cH (bA g k) m).aH then cH (bA g k) m else if m < g.ay.length then (mr (bA g k) m 0 g.rules).getD (cH (bA g k) m) else cH (bA g k) m:=by
  by_cases hm:m < g.ay.length
  · rw[A9,Ax,Eh _ _ _ _ _ (by rw[lk]; exact hm),if_pos hm]
  · rw[if_neg hm,s9 (by rw[lk]; omega),s9 (by rw[lk]; omega)]
    simp
theorem II {g:ao} {k m:Nat} (h:c6 (bA g k) m):cH (bA g (k+1)) m=cH (bA g k) m:=by
  rw[qE]; unfold c6 at h; rw[if_pos h]
theorem yl {g:ao} {k m:Nat} (h:c6 (bA g k) m):∀ d,cH (bA g (k+d)) m=cH (bA g k) m
  | 0=>rfl
  | d+1=>by
    have ih:=yl h d
    have:c6 (bA g (k+d)) m:=by unfold c6 at h ⊢; rw[ih]; exact h
    rw[← ih,← II this]; rfl
theorem mL {g:ao} {k m j:Nat} (h:c6 (bA g k) m) (hj:k≤j):cH (bA g j) m=cH (bA g k) m∧c6 (bA g j) m:=by
  obtain ⟨d,rfl⟩:∃ d,j=k+d:=⟨j - k,by omega⟩
  have:=yl h d
  exact ⟨this,by unfold c6 at h ⊢; rw[this]; exact h⟩
theorem Ci {g:ao} {k m:Nat} (h0:¬ c6 (bA g k) m) (h:c6 (bA g (k+1)) m):mr (bA g k) m 0 g.rules=some (cH (bA g (k+1)) m):=by
  unfold c6 at h h0
  rw[qE,if_neg h0] at h
  rw[qE,if_neg h0]
  split at h
  · rename_i hm
    rw[if_pos hm]
    cases hc:mr (bA g k) m 0 g.rules with
    | none=>rw[hc] at h; exact absurd h h0
    | some p=>rfl
  · exact absurd h h0
theorem uE {g:ao} {m:Nat} : ∀ {k:Nat},¬ c6 (bA g k) m→cH (bA g k) m=qF
  | 0,_=>by
    simp only[bA,iter,cH,List.getD_eq_getElem?_getD,List.getElem?_replicate]
    split <;> rfl
  | k+1,h=>by
    have h0:¬ c6 (bA g k) m:=fun e=>h (mL e (by omega)).2
    unfold c6 at h h0
    rw[qE,if_neg h0] at h ⊢
    split
    · rename_i hm
      rw[if_pos hm] at h
      cases hc:mr (bA g k) m 0 g.rules with
      | none=>exact uE (k:=k) h0
      | some p =>
        rw[hc] at h
        obtain ⟨j,r,_,_,_,rfl,_⟩:=oN hc
        simp only[Option.getD_some,oG] at h; omega
    · exact uE (k:=k) h0
theorem qo (g:ao):∀ k:Nat,∀ m,c6 (bA g k) m→1≤(cH (bA g k) m).cW∧(cH (bA g k) m).cW≤k∧∀ j:Nat,j≤k→(cH (bA g k) m).cW≤j→c6 (bA g j) m
  | 0,m,h=>by
    unfold c6 at h
    have:cH (bA g 0) m=qF:=by
      simp only[bA,iter,cH,List.getD_eq_getElem?_getD,List.getElem?_replicate]
      split <;> rfl
    rw[this] at h; simp[qF] at h
  | k+1,m,h=>by
    have ih:=qo g k
    by_cases h0:c6 (bA g k) m
    · obtain ⟨a,b,c⟩:=ih m h0
      rw[(mL h0 (Nat.le_succ k)).1]
      refine ⟨a,by push_cast; omega,fun j hj hh=>?_⟩
      rcases Nat.lt_or_ge k j with e | e
      · exact (mL h0 (by omega)).2
      · exact c j e hh
    · have hc:=Ci h0 h
      obtain ⟨i,r,hr,hl,hk,hp,_⟩:=oN hc
      have hh:(cH (bA g (k+1)) m).cW=(ga (bA g k) r.right fX).1.cW+1:=by rw[hp]; rfl
      have h1:=wK (bA g k) r.right fX
      have h2:=(oq (bA g k) k r.right fX hk).2 ⟨by simp[fX],fun x hx hn=>(ih _ (hk x hx hn)).2.1⟩
      have h3:¬ (ga (bA g k) r.right fX).1.cW≤(k:Int) - 1:=by
        intro hle
        have hz:(0:Int)≤(ga (bA g k) r.right fX).1.cW:=h1
        obtain ⟨d,rfl⟩:∃ d,k=d+1:=⟨k - 1,by omega⟩
        have h4:=((oq (bA g (d+1)) _ r.right fX hk).1 hle).2
        have h5:vc (bA g d) r.right:=fun x hx hn=>(ih _ (hk x hx hn)).2.2 d (by omega) (by have:=h4 x hx hn; push_cast at this; omega)
        apply h0
        by_cases h6:c6 (bA g d) m
        · exact (mL h6 (by omega)).2
        · unfold c6 at h6 ⊢
          have hm:=Mw h
          rw[lk] at hm
          rw[qE,if_neg h6,if_pos hm]
          cases hc2:mr (bA g d) m 0 g.rules with
          | none=>exact absurd h5 (C3 hc2 r (List.mem_of_getElem? hr) hl)
          | some p =>
            obtain ⟨j,r2,_,_,_,rfl,_⟩:=oN hc2
            simp only[Option.getD_some,oG]; omega
      have hz:(0:Int)≤(ga (bA g k) r.right fX).1.cW:=h1
      refine ⟨by omega,by push_cast; omega,fun j hj hle=>?_⟩
      have:j=k+1:=by omega
      subst this; exact h
def dS (g:ao):List bU:=bA g g.ay.length
theorem xp (g:ao):(dS g).length=g.ay.length:=lk _ _
theorem yi {g:ao} {m:Nat} (h:c6 (dS g) m):1≤(cH (dS g) m).cW∧(cH (dS g) m).cW≤g.ay.length:=⟨(qo g _ m h).1,(qo g _ m h).2.1⟩
theorem E2 {g:ao} {m:Nat} (h:¬ c6 (dS g) m):cH (dS g) m=qF:=uE h
def OF (h:List Int) (m:Nat):Int:=h.getD m 0
abbrev O9 (P:List bU):List Int:=P.map bU.cW
theorem N1 (P:List bU) (m:Nat):OF (O9 P) m=(cH P m).cW:=by
  simp only[OF,cH,List.getD_eq_getElem?_getD,List.getElem?_map]
  cases P[m]? <;> rfl
def NJ (P:List bU):Prop:=∀ m,(c6 P m→1≤(cH P m).cW)∧(¬ c6 P m→cH P m=qF)
theorem NJ.zero {P:List bU} (h:NJ P) (m:Nat):OF (O9 P) m=0↔¬ c6 P m:=by
  rw[N1]
  constructor
  · intro e k; have:=(h m).1 k; omega
  · intro k; rw[(h m).2 k]; rfl
def qB (S:List (Int × Int)) (m:Nat):Int × Int:=S.getD m (0,0)
def xm (p:bU):Int × Int:=(min 1000 p.rules,min 1000 p.az)
def mG (p:bU):Prop:=(0≤p.rules∧p.rules≤1048576)∧(0≤p.az∧p.az≤1048576)
theorem y9 {P:List bU} (hP:∀ m,mG (cH P m)):∀ (l:List Int) (s:bU),mG s→mG (ga P l s).1
  | [],s,h=>h
  | x :: l,s,h=>by
    have hx:=hP (qz x)
    unfold mG at h hx
    simp only[ga]
    split
    · exact y9 hP l _ (by unfold mG; simp only; omega)
    · split
      · exact h
      · exact y9 hP l _ (by unfold mG; simp only; omega)
theorem MY:mG fX:=by unfold mG; simp[fX]
theorem KU:mG qF:=by unfold mG; simp[qF]
theorem wi (g:ao):∀ k m,mG (cH (bA g k) m)
  | 0,m=>by
    have:cH (bA g 0) m=qF:=by
      simp only[bA,iter,cH,List.getD_eq_getElem?_getD,List.getElem?_replicate]
      split <;> rfl
    rw[this]; exact KU
  | k+1,m=>by
    by_cases h:c6 (bA g (k+1)) m
    · by_cases h0:c6 (bA g k) m
      · rw[(mL h0 (Nat.le_succ k)).1]; exact wi g k m
      · obtain ⟨i,r,_,_,_,hp,_⟩:=oN (Ci h0 h)
        rw[hp]
        have:=y9 (wi g k) r.right fX MY
        unfold mG at this ⊢
        simp only[oG]; omega
    · rw[uE h]; exact KU
inductive xl (g:ao):List Int→List Int→List Int→Prop
  | nil:xl g [] [] []
  | term (s:Int) (l t w:List Int):0≤s→xl g l t w→xl g (s :: l) t (s :: w)
  | ec (s:Int) (l:List Int) (k:Nat) (R:aT) (t1 w1 t w:List Int):s < 0→g.rules[k]?=some R→R.left = -1 - s→xl g R.right t1 w1→xl g l t w→xl g (s :: l) (((k:Int) :: t1) ++ t) (w1 ++ w)
theorem xl.app {g:ao} {a t w:List Int} (h:xl g a t w) {b t' w':List Int} (k:xl g b t' w'):xl g (a ++ b) (t ++ t') (w ++ w'):=by
  induction h with
  | nil=>exact k
  | term s l t w h0 _ ih=>exact .term s _ _ _ h0 ih
  | ec s l k R t1 w1 t w h0 hR hl h1 _ _ ih =>
    have:=xl.ec s _ k R t1 w1 _ _ h0 hR hl h1 ih
    simpa using this
structure Wk where
  rest:List Int
  word:List Int
  post:List Int
  high:Nat
structure Way where
  ec:Int
  aH:Int
  place:Int
def kM (F:List Way):List Int:=F.map Way.ec
structure rW (g:ao) (F:List Way):Prop where
  first:F[0]?=some ⟨g.start,-1,0⟩
  nodup:(kM F).Nodup
  from_:∀ i x,F[i]?=some x→0 < i→∃ (k j:Nat) (R:aT),x.aH=(k:Int)∧x.place=(j:Int)∧g.rules[k]?=some R∧R.right[j]?=some (-1 - x.ec)∧0≤x.ec∧∃ m y,m < i∧F[m]?=some y∧y.ec=R.left
theorem rW.pre {g:ao} {F:List Way} (h:rW g F) {i m:Nat} {x:Way} (hx:F[i]?=some x) (w:Way):(F ++ [w])[i]?=some x:=by
  rw[List.getElem?_append_left (List.getElem?_eq_some_iff.1 hx).1]; exact hx
theorem rW.inside {g:ao} {F:List Way} (h:rW g F) (h0:0≤g.start∧g.start < g.ay.length) (hs:∀ R∈g.rules,∀ s∈R.right,s < 0→-1 - s < g.ay.length):∀ n∈kM F,0≤n∧n < g.ay.length:=by
  intro n hn
  simp only[kM,List.mem_map] at hn
  obtain ⟨x,hx,rfl⟩:=hn
  obtain ⟨i,hi⟩:=List.mem_iff_getElem?.1 hx
  by_cases hi0:i=0
  · subst hi0
    rw[h.first] at hi
    simp at hi; subst hi
    exact h0
  · obtain ⟨k,j,R,_,_,h3,h4,h5,_⟩:=h.from_ i x hi (by omega)
    have:=hs R (List.mem_of_getElem? h3) _ (List.mem_of_getElem? h4) (by omega)
    omega
theorem rW.len {g:ao} {F:List Way} (h:rW g F) (h0:0≤g.start∧g.start < g.ay.length) (hs:∀ R∈g.rules,∀ s∈R.right,s < 0→-1 - s < g.ay.length):F.length≤g.ay.length:=by
  have:=pB h.nodup (h.inside h0 hs)
  simpa [kM] using this
def lookW (F:List Way) (n:Int):Option Way:=F.find? fun x=>x.ec == n
def EP (F:List Way) (n:Int):Nat:=F.findIdx fun x=>x.ec == n
theorem NW {F:List Way} {n:Int} (h:n∈kM F):∃ x,lookW F n=some x∧F[EP F n]?=some x∧x.ec=n:=by
  induction F with
  | nil=>simp[kM] at h
  | cons y F ih =>
    by_cases e:y.ec=n
    · exact ⟨y,by simp[lookW,e],by simp[EP,List.findIdx_cons,e],e⟩
    · have h':n∈kM F:=by
        simp only[kM,List.map_cons,List.mem_cons] at h ⊢
        rcases h with h | h
        · exact absurd h.symm e
        · exact h
      obtain ⟨x,h1,h2,h3⟩:=ih h'
      refine ⟨x,by simpa [lookW,e] using h1,?_,h3⟩
      have:EP (y :: F) n=EP F n+1:=by simp[EP,List.findIdx_cons,show (y.ec == n)=false by simpa using e]
      rw[this]; simpa using h2
theorem OX:rP.Ok:=by
  refine ⟨by unfold aW; decide,by unfold aW; decide,by unfold aW; decide,by unfold cz; decide,?_,?_⟩
  · intro t ht; simp[rP] at ht
  · intro r hr; simp[rP] at hr
theorem sR:∀ (l:List aT) (acc:List Int),(l.foldl dA acc).length≤acc.length+l.length
  | [],acc=>by simp
  | r :: l,acc=>by
    have h1:=sR l (dA acc r)
    have h2:(dA acc r).length≤acc.length+1:=by unfold dA; split <;> simp
    simp only[List.foldl_cons,List.length_cons]
    omega
theorem MX (p q:List Bool) (l:List aT):(bN p q l).length≤l.length:=by
  have h1:=sR (l.filter (bE p q)) []
  have h2:=List.length_filter_le (bE p q) l
  unfold bN
  simp only[List.length_nil] at h1
  omega
theorem Oy {g:ao} (hg:g.Ok) (p q:List Bool):(kp g (bp (bN p q g.rules)) p q).Ok:=by
  have ho:=MX p q g.rules
  have h3:=hg.rules
  unfold aW at h3
  have hb:∀ x,cz (bp (bN p q g.rules) x):=fun x=>by
    have:=Bl (bN p q g.rules) x
    unfold cz; omega
  have hb2:∀ x,cz (-1 - bp (bN p q g.rules) x):=fun x=>by
    have:=Bl (bN p q g.rules) x
    unfold cz; omega
  refine ⟨hg.az,?_,?_,hb _,hg.term,fun r hr=>?_⟩
  · unfold aW; simp only[kp,List.length_map]; omega
  · have:=List.length_filter_le (bE p q) g.rules
    unfold aW; simp only[kp,List.length_map]; omega
  · simp only[kp,List.mem_map,List.mem_filter] at hr
    obtain ⟨r0,⟨h0,_⟩,rfl⟩:=hr
    obtain ⟨_,i2,i3,i4⟩:=hg.aH r0 h0
    refine ⟨hb _,i2,by unfold aW at i3 ⊢; simpa [bk] using i3,fun x hx=>?_⟩
    simp only[bk,List.mem_map] at hx
    obtain ⟨s,hs,rfl⟩:=hx
    split
    · exact hb2 _
    · exact i4 s hs
section
variable {g r:ao} {p q:List Bool} {o:List Int}
theorem er.ok (h:er g p q o r) (hg:g.Ok):r.Ok:=by
  have:=Oy hg p q
  rw[← h.oe,← h.re] at this
  exact this
theorem er.small (h:er g p q o r) (hs:g.Small):r.Small:=by
  have:=pB h.nodup h.inside
  have:=hs.names
  exact ⟨by rw[h.len,h.az]; omega⟩
end
theorem bytes_beq (a b:ByteArray):(a == b)=decide (a=b):=by
  cases a with | mk a=>cases b with | mk b =>
  rw[Bool.eq_iff_iff]
  show (ByteArray.beq ⟨a⟩ ⟨b⟩=true)↔_
  simp only[ByteArray.beq]
  simp
theorem CA (a b:ByteArray):gP a b=decide (a=b):=by
  cases a with | mk a=>cases b with | mk b =>
  rw[Bool.eq_iff_iff]
  simp[gP]
theorem np {α:Type} {a b:List α} {i:Nat} {x y:α} (hx:a[i]?=some x) (hy:b[i]?=some y) (h:a.take i=b.take i) (e:x=y):a.take (i+1)=b.take (i+1):=by
  rw[List.take_add_one,List.take_add_one,h,hx,hy,e]
theorem qI {α:Type} {a b:List α} {i:Nat} (ha:a.length≤i) (hb:b.length≤i) (h:a.take i=b.take i):a=b:=by
  rwa [List.take_of_length_le ha,List.take_of_length_le hb] at h
theorem uR {α:Type} {a b:List α} {i:Nat} {x y:α} (hx:a[i]?=some x) (hy:b[i]?=some y) (e:x≠y):a≠b:=by
  rintro rfl; rw[hx] at hy; exact e (by simpa using hy)
theorem q4 {α:Type} {a b:List α} (h:¬ a.length=b.length):a≠b:=fun e=>h (by rw[e])
theorem yx (x y:Term):fj Tryz.prog 9998 #[.string x.name,.int .i64 x.level,.int .i64 x.assoc] #[.string y.name,.int .i64 y.level,.int .i64 y.assoc]
    [{ name:= "Name",type:=9,offset:=0,embedded:=false,tag:= "",pkgPath:= "",byteOffset:=0 },{ name:= "Level",type:=3,offset:=1,embedded:=false,tag:= "",pkgPath:= "",byteOffset:=16 },
        { name:= "Assoc",type:=3,offset:=2,embedded:=false,tag:= "",pkgPath:= "",byteOffset:=24 }] (x.name == y.name && (x.level == y.level && (x.assoc == y.assoc && true))) :=
  .str _ _ _ _ _ (by decide) Tryz.underlying9 rfl rfl (.int _ _ _ _ _ _ (by decide) Tryz.underlying3 rfl rfl (.int _ _ _ _ _ _ (by decide) Tryz.underlying3 rfl rfl .nil))
theorem G0 (x y:Term):(x.name == y.name && (x.level == y.level && (x.assoc == y.assoc && true)))=decide (x=y):=by
  rw[bytes_beq,Bool.eq_iff_iff]
  cases x; cases y
  simp
theorem NN (a b:Int):(a == b)=decide (a=b):=by rw[Bool.eq_iff_iff]; simp
theorem MR (x y:aT):decide (x=y)=(decide (x.left=y.left) && (decide (x.prec=y.prec) && decide (x.right=y.right))):=by
  cases x; cases y
  rw[Bool.eq_iff_iff]
  simp[and_comm]
theorem FA (x y:ao):decide (x=y)=(decide (x.az=y.az) && (decide (x.ay=y.ay) && (decide (x.rules=y.rules) && decide (x.start=y.start)))):=by
  cases x; cases y
  rw[Bool.eq_iff_iff]
  simp
theorem CS (g k:ao):∀ v∈[V.agg (aw g),V.agg (aw k)],Tree v:=by
  intro v hv; simp at hv
  rcases hv with rfl | rfl <;> exact dd _ (dT _)
def my:SC :=
  .seq (.seq (ak [aa 42 5,av 43 0 2,au 44 43,aJ 45 44,aN 46 .lss 42 45]) <|
  .cond (.tmp 46) (.skip) (.exit 0)) <|
  .seq (.block 1 (.seq (ak [av 49 0 2,au 50 49,aa 51 5,aP 52 3 50 51,aK 53 3 52,av 54 0 3,au 55 54,aa 56 5,aP 57 3 55 56,aK 58 3 57,((some 59),.op (.old (.binOp .neq 129 (.tmp 53) (.tmp 58) 129) 4))]) <|
  .cond (.tmp 59) (.seq (ak [aX 4 false]) <|
  .ret) (.skip))) <|
  ak [aa 47 5,aA 48 .add 47 1,aa 5 48]
def lN:SC :=
  .seq (.seq (ak [aa 60 6,av 61 1 2,au 62 61,aJ 63 62,aN 64 .lss 60 63]) <|
  .cond (.tmp 64) (.skip) (.exit 2)) <|
  .seq (.block 3 (.seq (ak [av 67 1 2,au 68 67,aa 69 6,aP 70 1 68 69,au 71 70,av 72 1 3,au 73 72,aa 74 6,aP 75 1 73 74,au 76 75,((some 77),.op (.iR .neq (.tmp 71) (.tmp 76)))]) <|
  .cond (.tmp 77) (.seq (ak [aX 4 false]) <|
  .ret) (.skip))) <|
  ak [aa 65 6,aA 66 .add 65 1,aa 6 66]
def lJ:SC :=
  .seq (.seq (ak [aa 78 7,av 79 2 2,au 80 79,aJ 81 80,aN 82 .lss 78 81]) <|
  .cond (.tmp 82) (.skip) (.exit 4)) <|
  .seq (.block 5 (.seq (ak [av 85 2 2,au 86 85,aa 87 7,aP 88 3 86 87,aK 89 3 88,av 90 2 3,au 91 90,aa 92 7,aP 93 3 91 92,aK 94 3 93,((some 8),.op (.alloc [(.val (.int .i64 0)),(.emp 1),(.val (.int .i64 0))])),((some 9),.op (.alloc [(.val (.int .i64 0)),(.emp 1),(.val (.int .i64 0))])),(none,.op (.store 3 (.tmp 8) (.tmp 89))),(none,.op (.store 3 (.tmp 9) (.tmp 94)))]) <|
  .seq (.region false [⟨none,[av 95 0 8,au 96 95,av 97 0 9,au 98 97,aN 99 .neq 96 98,aa 100 99]⟩,⟨(some (100,false)),[av 101 2 8,au 102 101,av 103 2 9,au 104 103,aN 105 .neq 102 104]⟩,⟨none,[bJ 106 100 105,aa 107 106]⟩,⟨(some (107,false)),[av 108 1 8,au 109 108,av 110 1 9,au 111 110,aI 112 37 [109,111],b6 113 112]⟩,⟨none,[bJ 114 107 113]⟩]) <|
  .cond (.tmp 114) (.seq (ak [aX 4 false]) <|
  .ret) (.skip))) <|
  ak [aa 83 7,aA 84 .add 83 1,aa 7 84]
def ov:SF:=⟨.seq (ak [bZ 2 0,bZ 3 1,aX 4 false]) <|
  .seq (.seq (.region false [⟨none,[av 10 0 2,au 11 10,aJ 12 11,av 13 0 3,au 14 13,aJ 15 14,aN 16 .neq 12 15,aa 17 16]⟩,⟨(some (17,false)),[av 18 1 2,au 19 18,aJ 20 19,av 21 1 3,au 22 21,aJ 23 22,aN 24 .neq 20 23]⟩,⟨none,[bJ 25 17 24,aa 26 25]⟩,⟨(some (26,false)),[av 27 2 2,au 28 27,aJ 29 28,av 30 2 3,au 31 30,aJ 32 31,aN 33 .neq 29 32]⟩,⟨none,[bJ 34 26 33,aa 35 34]⟩,⟨(some (35,false)),[av 36 3 2,au 37 36,av 38 3 3,au 39 38,aN 40 .neq 37 39]⟩,⟨none,[bJ 41 35 40]⟩]) <|
  .cond (.tmp 41) (.seq (ak [aX 4 false]) <|
  .ret) (.skip)) <|
  .seq (.seq (ak [aF 5 0]) <|
  .block 0 (.loop my)) <|
  .seq (.seq (ak [aF 6 0]) <|
  .block 2 (.loop lN)) <|
  .seq (.seq (ak [aF 7 0]) <|
  .block 4 (.loop lJ)) <|
  .seq (ak [aX 4 true]) <|
  .ret,
  [.tmp 4],115⟩
theorem s6:bf Tryz.prog 36 [2,3]=some ov:=by kernel_rfl
set_option maxHeartbeats 2000000 in
theorem JL (g k:ao) (hg:g.Ok):aD Tryz.prog 36 [.agg (aw g),.agg (aw k)] (gb (decide (g=k))):=by
  refine aD.val (CS g k) fun H=>?_
  rw[FA]
  refine aC.of mixed s6 ?_
  have h1:=hg.az
  have h2:=hg.ay
  have h3:=hg.rules
  unfold aW at h1 h2 h3
  simp (disch:=omega) only [↓wr,↓reduceIte,wq,ah,ag,aj,ab,ae,af,ai,isNil,Nat.reduceEqDiff,Nat.reduceAdd,Nat.reduceLT,Nat.reduceLeDiff,Int.reduceNeg,Int.reduceToNat,reduceCtorEq,ov,aw,encS]
  repeat' (first | (refine ax.dec (fun _=>?_) (fun _=>?_)) | (refine ax.eq (fun _=>?_) (fun _=>?_)) | (refine ax.ne (fun _=>?_) (fun _=>?_)) | (refine ax.split (fun _=>?_) (fun _=>?_)) | (simp (disch:=omega) only [↓wr,↓reduceIte,wq,ah,ag,aj,ab,ae,af,ai,isNil,Nat.reduceEqDiff,Nat.reduceAdd,Nat.reduceLT,Nat.reduceLeDiff,Int.reduceNeg,Int.reduceToNat,reduceCtorEq,aw,encS]))
  · rename_i e; rw[decide_eq_false (q4 (by omega))]; rfl
  · rename_i e; rw[decide_eq_false (p:=g.ay=k.ay) (q4 (by omega))]; simp
  · rename_i e; rw[decide_eq_false (p:=g.rules=k.rules) (q4 (by omega))]; simp
  · rename_i e; rw[decide_eq_false e]; simp
  rename_i l1 l2 l3 l4
  refine bz.up g.az.length (fun i T _=>g.az.take i=k.az.take i∧T 2=.aR (aw g) 0∧T 3=.aR (aw k) 0∧T 5=gi i) ⟨by simp,rfl,rfl,rfl⟩ ?_
  rintro i m T H hm ⟨hi,t2,t3,t5⟩
  simp (disch:=omega) only [↓wr,↓reduceIte,wq,ah,ag,aj,ab,ae,af,ai,isNil,Nat.reduceEqDiff,Nat.reduceAdd,Nat.reduceLT,Nat.reduceLeDiff,Int.reduceNeg,Int.reduceToNat,reduceCtorEq,my,t2,t3,t5,aw,encS]
  refine ax.dec (fun hc=>?_) (fun hc=>?_)
  · have hx:=List.getElem?_eq_getElem (l:=g.az) (i:=i) (by omega)
    have hy:=List.getElem?_eq_getElem (l:=k.az) (i:=i) (by omega)
    generalize g.az[i]'(by omega)=x at hx
    generalize k.az[i]'(by omega)=y at hy
    simp (disch:=omega) only [↓wr,↓reduceIte,wq,ah,ag,aj,ab,ae,af,ai,isNil,Nat.reduceEqDiff,Nat.reduceAdd,Nat.reduceLT,Nat.reduceLeDiff,Int.reduceNeg,Int.reduceToNat,reduceCtorEq,t2,t3,t5,List.getElem?_map,hx,hy,cE,aw,encS]
    refine gS (xs:=#[.string x.name,.int .i64 x.level,.int .i64 x.assoc]) (ys:=#[.string y.name,.int .i64 y.level,.int .i64 y.assoc]) Tryz.underlying129 (by kernel_rfl) (by kernel_rfl) ?_ ?_ (yx x y) (.inr ⟨rfl,rfl⟩) ?_
    · rfl
    · rfl
    rw[G0]
    simp (disch:=omega) only [↓wr,↓reduceIte,wq,ah,ag,aj,ab,ae,af,ai,isNil,Nat.reduceEqDiff,Nat.reduceAdd,Nat.reduceLT,Nat.reduceLeDiff,Int.reduceNeg,Int.reduceToNat,reduceCtorEq,t2,t3,t5]
    refine ax.split (fun e=>?_) (fun e=>?_)
    · simp (disch:=omega) only [↓wr,↓reduceIte,wq,ah,ag,aj,ab,ae,af,ai,isNil,Nat.reduceEqDiff,Nat.reduceAdd,Nat.reduceLT,Nat.reduceLeDiff,Int.reduceNeg,Int.reduceToNat,reduceCtorEq,t2,t3,t5]
      exact bq hm (by omega) ⟨np hx hy hi (by simpa using e),t2,t3,rfl⟩
    · simp (disch:=omega) only [↓wr,↓reduceIte,wq,ah,ag,aj,ab,ae,af,ai,isNil,Nat.reduceEqDiff,Nat.reduceAdd,Nat.reduceLT,Nat.reduceLeDiff,Int.reduceNeg,Int.reduceToNat,reduceCtorEq,t2,t3,t5]
      rw[decide_eq_false (uR hx hy (by simpa using e))]; rfl
  have e1:g.az=k.az:=qI (by omega) (by omega) hi
  simp (disch:=omega) only [↓wr,↓reduceIte,wq,ah,ag,aj,ab,ae,af,ai,isNil,Nat.reduceEqDiff,Nat.reduceAdd,Nat.reduceLT,Nat.reduceLeDiff,Int.reduceNeg,Int.reduceToNat,reduceCtorEq,t2,t3,t5]
  clear hi hc hm
  refine bz.up g.ay.length (fun i T _=>g.ay.take i=k.ay.take i∧T 2=.aR (aw g) 0∧T 3=.aR (aw k) 0∧T 6=gi i) ⟨by simp,t2,t3,rfl⟩ ?_
  clear t2 t3 t5 T H i m
  rintro i m T H hm ⟨hi,t2,t3,t5⟩
  simp (disch:=omega) only [↓wr,↓reduceIte,wq,ah,ag,aj,ab,ae,af,ai,isNil,Nat.reduceEqDiff,Nat.reduceAdd,Nat.reduceLT,Nat.reduceLeDiff,Int.reduceNeg,Int.reduceToNat,reduceCtorEq,lN,t2,t3,t5,aw,encS]
  refine ax.dec (fun hc=>?_) (fun hc=>?_)
  · have hx:=List.getElem?_eq_getElem (l:=g.ay) (i:=i) (by omega)
    have hy:=List.getElem?_eq_getElem (l:=k.ay) (i:=i) (by omega)
    generalize g.ay[i]'(by omega)=x at hx
    generalize k.ay[i]'(by omega)=y at hy
    simp (disch:=omega) only [↓wr,↓reduceIte,wq,ah,ag,aj,ab,ae,af,ai,isNil,Nat.reduceEqDiff,Nat.reduceAdd,Nat.reduceLT,Nat.reduceLeDiff,Int.reduceNeg,Int.reduceToNat,reduceCtorEq,t2,t3,t5,List.getElem?_map,hx,hy,cE,aw,encS,CA]
    refine ax.split (fun e=>?_) (fun e=>?_)
    · simp (disch:=omega) only [↓wr,↓reduceIte,wq,ah,ag,aj,ab,ae,af,ai,isNil,Nat.reduceEqDiff,Nat.reduceAdd,Nat.reduceLT,Nat.reduceLeDiff,Int.reduceNeg,Int.reduceToNat,reduceCtorEq,t2,t3,t5]
      exact bq hm (by omega) ⟨np hx hy hi (by simpa using e),t2,t3,rfl⟩
    · simp (disch:=omega) only [↓wr,↓reduceIte,wq,ah,ag,aj,ab,ae,af,ai,isNil,Nat.reduceEqDiff,Nat.reduceAdd,Nat.reduceLT,Nat.reduceLeDiff,Int.reduceNeg,Int.reduceToNat,reduceCtorEq,t2,t3,t5]
      rw[decide_eq_false (p:=g.ay=k.ay) (uR hx hy (by simpa using e))]; simp
  have e2:g.ay=k.ay:=qI (by omega) (by omega) hi
  simp (disch:=omega) only [↓wr,↓reduceIte,wq,ah,ag,aj,ab,ae,af,ai,isNil,Nat.reduceEqDiff,Nat.reduceAdd,Nat.reduceLT,Nat.reduceLeDiff,Int.reduceNeg,Int.reduceToNat,reduceCtorEq,t2,t3,t5]
  clear hi hc hm
  refine bz.up g.rules.length (fun i T _=>g.rules.take i=k.rules.take i∧T 2=.aR (aw g) 0∧T 3=.aR (aw k) 0∧T 7=gi i) ⟨by simp,t2,t3,rfl⟩ ?_
  clear t2 t3 t5 T H i m
  rintro i m T H hm ⟨hi,t2,t3,t5⟩
  simp (disch:=omega) only [↓wr,↓reduceIte,wq,ah,ag,aj,ab,ae,af,ai,isNil,Nat.reduceEqDiff,Nat.reduceAdd,Nat.reduceLT,Nat.reduceLeDiff,Int.reduceNeg,Int.reduceToNat,reduceCtorEq,lJ,t2,t3,t5,aw,encS]
  refine ax.dec (fun hc=>?_) (fun hc=>?_)
  · have hx:=List.getElem?_eq_getElem (l:=g.rules) (i:=i) (by omega)
    have hy:=List.getElem?_eq_getElem (l:=k.rules) (i:=i) (by omega)
    have hmx:g.rules[i]'(by omega)∈g.rules:=List.getElem_mem _
    generalize g.rules[i]'(by omega)=x at hx hmx
    generalize k.rules[i]'(by omega)=y at hy
    have hsx:=(hg.aH x hmx).2.2.1
    simp (disch:=omega) only [↓wr,↓reduceIte,wq,ah,ag,aj,ab,ae,af,ai,isNil,Nat.reduceEqDiff,Nat.reduceAdd,Nat.reduceLT,Nat.reduceLeDiff,Int.reduceNeg,Int.reduceToNat,reduceCtorEq,t2,t3,t5,List.getElem?_map,hx,hy,ba,encI,aw,encS]
    intro n hn
    try simp (disch:=omega) only [↓wr,↓reduceIte,wq,ah,ag,aj,ab,ae,af,ai,isNil,Nat.reduceEqDiff,Nat.reduceAdd,Nat.reduceLT,Nat.reduceLeDiff,Int.reduceNeg,Int.reduceToNat,reduceCtorEq,t2,t3,t5,ba,encI]
    intro n2 hn2
    have hmn:=(cR hn2 cK).1
    try simp (disch:=omega) only [↓wr,↓reduceIte,wq,ah,ag,aj,ab,ae,af,ai,isNil,Nat.reduceEqDiff,Nat.reduceAdd,Nat.reduceLT,Nat.reduceLeDiff,Int.reduceNeg,Int.reduceToNat,reduceCtorEq,t2,t3,t5,ba,encI,hmn,hmn.symm]
    have hne:x≠y→V.val (Value.bool false)=V.val (Value.bool (decide (g.az=k.az) && (decide (g.ay=k.ay) && (decide (g.rules=k.rules) && decide (g.start=k.start))))):=fun e=>by
      rw[decide_eq_false (p:=g.rules=k.rules) (uR hx hy e)]; simp
    repeat' (first | (refine ax.dec (fun _=>?_) (fun _=>?_)) | (refine ax.eq (fun _=>?_) (fun _=>?_)) | (refine ax.ne (fun _=>?_) (fun _=>?_)) | (refine ax.split (fun _=>?_) (fun _=>?_)) | (refine aG.pure (OC x.right y.right hsx) (by kernel_rfl) ?_) | (simp (disch:=omega) only [↓wr,↓reduceIte,wq,ah,ag,aj,ab,ae,af,ai,isNil,Nat.reduceEqDiff,Nat.reduceAdd,Nat.reduceLT,Nat.reduceLeDiff,Int.reduceNeg,Int.reduceToNat,reduceCtorEq,t2,t3,t5,ba,encI,hmn,hmn.symm]))
    · rename_i e; exact hne fun h=>e (by rw[h])
    · rename_i e; exact hne fun h=>e (by rw[h])
    · rename_i e3 e2 e1
      refine bq hm (by omega) ⟨np hx hy hi ?_,t2,t3,rfl⟩
      cases x; cases y
      simp_all
    · rename_i e; exact hne fun h=>by rw[h] at e; simp at e
  · have e3:g.rules=k.rules:=qI (by omega) (by omega) hi
    simp (disch:=omega) only [↓wr,↓reduceIte,wq,ah,ag,aj,ab,ae,af,ai,isNil,Nat.reduceEqDiff,Nat.reduceAdd,Nat.reduceLT,Nat.reduceLeDiff,Int.reduceNeg,Int.reduceToNat,reduceCtorEq,t2,t3,t5]
    simp[e1,e2,e3,l4]
def fA:SC :=
  .seq (ak [aN 14 .lss 13 12]) <|
  .seq (.cond (.tmp 14) (.skip) (.exit 0)) <|
  .seq (.block 1 (.seq (ak [aa 15 13,aa 5 15]) <|
  .seq (ak [aa 16 0,aa 17 5,aP 18 3 16 17,aK 19 3 18,aa 20 1,aa 21 5,aP 22 3 20 21,aK 23 3 22,((some 24),.op (.old (.binOp .neq 129 (.tmp 19) (.tmp 23) 129) 4))]) <|
  .cond (.tmp 24) (.seq (ak [aX 4 false]) <|
  .ret) (.skip))) <|
  ak [aA 25 .add 13 1,aa 13 25]
def fN:SF:=⟨.seq (ak [aX 4 false]) <|
  .seq (.seq (ak [aa 6 0,aJ 7 6,aa 8 1,aJ 9 8,aN 10 .neq 7 9]) <|
  .cond (.tmp 10) (.seq (ak [aX 4 false]) <|
  .ret) (.skip)) <|
  .seq (.seq (ak [aa 11 0,aJ 12 11,aF 13 0]) <|
  .block 0 (.loop fA)) <|
  .seq (ak [aX 4 true]) <|
  .ret,
  [.tmp 4],26⟩
theorem iY:bf Tryz.prog 162 []=some fN:=by kernel_rfl
def gm:SC :=
  .seq (ak [aN 14 .lss 13 12]) <|
  .seq (.cond (.tmp 14) (.skip) (.exit 0)) <|
  .seq (.block 1 (.seq (ak [aa 15 13,aa 5 15]) <|
  .seq (ak [aa 16 0,aa 17 5,aP 18 1 16 17,au 19 18,aa 20 1,aa 21 5,aP 22 1 20 21,au 23 22,((some 24),.op (.iR .neq (.tmp 19) (.tmp 23)))]) <|
  .cond (.tmp 24) (.seq (ak [aX 4 false]) <|
  .ret) (.skip))) <|
  ak [aA 25 .add 13 1,aa 13 25]
def gD:SF:=⟨.seq (ak [aX 4 false]) <|
  .seq (.seq (ak [aa 6 0,aJ 7 6,aa 8 1,aJ 9 8,aN 10 .neq 7 9]) <|
  .cond (.tmp 10) (.seq (ak [aX 4 false]) <|
  .ret) (.skip)) <|
  .seq (.seq (ak [aa 11 0,aJ 12 11,aF 13 0]) <|
  .block 0 (.loop gm)) <|
  .seq (ak [aX 4 true]) <|
  .ret,
  [.tmp 4],26⟩
theorem ko:bf Tryz.prog 163 []=some gD:=by kernel_rfl
def ix:SC :=
  .seq (ak [aN 14 .lss 13 12]) <|
  .seq (.cond (.tmp 14) (.skip) (.exit 0)) <|
  .seq (.block 1 (.seq (ak [aa 15 13,aa 5 15]) <|
  .seq (ak [aa 16 0,aa 17 5,aP 18 1 16 17,au 19 18,aa 20 1,aa 21 5,aP 22 1 20 21,au 23 22,aN 24 .neq 19 23]) <|
  .cond (.tmp 24) (.seq (ak [aX 4 false]) <|
  .ret) (.skip))) <|
  ak [aA 25 .add 13 1,aa 13 25]
def jj:SF:=⟨.seq (ak [aX 4 false]) <|
  .seq (.seq (ak [aa 6 0,aJ 7 6,aa 8 1,aJ 9 8,aN 10 .neq 7 9]) <|
  .cond (.tmp 10) (.seq (ak [aX 4 false]) <|
  .ret) (.skip)) <|
  .seq (.seq (ak [aa 11 0,aJ 12 11,aF 13 0]) <|
  .block 0 (.loop ix)) <|
  .seq (ak [aX 4 true]) <|
  .ret,
  [.tmp 4],26⟩
theorem nE:bf Tryz.prog 198 []=some jj:=by kernel_rfl
def yq:SF:=⟨.seq (ak [bZ 2 0,bZ 3 1,aX 4 false]) <|
  .seq (.region false [⟨none,[av 5 0 2,au 6 5,av 7 0 3,au 8 7,aN 9 .eql 6 8,aa 10 9]⟩,⟨(some (10,true)),[av 11 2 2,au 12 11,av 13 2 3,au 14 13,aN 15 .eql 12 14]⟩,⟨none,[bG 16 10 15,aa 17 16]⟩,⟨(some (17,true)),[av 18 1 2,au 19 18,av 20 1 3,au 21 20,aI 22 198 [19,21]]⟩,⟨none,[bG 23 17 22,aa 4 23]⟩]) <|
  .ret,
  [.tmp 4],24⟩
theorem BN:bf Tryz.prog 165 [2,3]=some yq:=by kernel_rfl
def cZ:SC :=
  .seq (ak [aN 18 .lss 17 16]) <|
  .seq (.cond (.tmp 18) (.skip) (.exit 0)) <|
  .seq (.block 1 (.seq (ak [aa 19 17,aP 20 3 15 17,aK 21 3 20,((some 8),.op (.alloc [(.val (.int .i64 0)),(.emp 1),(.val (.int .i64 0))])),aa 7 19,(none,.op (.store 3 (.tmp 8) (.tmp 21)))]) <|
  .seq (ak [aa 22 1,aa 23 7,aP 24 3 22 23,aK 25 3 24,((some 9),.op (.alloc [(.val (.int .i64 0)),(.emp 1),(.val (.int .i64 0))])),(none,.op (.store 3 (.tmp 9) (.tmp 25)))]) <|
  .seq (ak [aa 26 2,aK 27 3 8,aK 28 3 9,((some 29),.call (.tmp 26) [(.tmp 27),(.tmp 28)]),b6 30 29]) <|
  .cond (.tmp 30) (.seq (ak [aX 6 false]) <|
  .ret) (.skip))) <|
  ak [aA 31 .add 17 1,aa 17 31]
def c8:SF:=⟨.seq (ak [aX 6 false]) <|
  .seq (.seq (ak [aa 10 0,aJ 11 10,aa 12 1,aJ 13 12,aN 14 .neq 11 13]) <|
  .cond (.tmp 14) (.seq (ak [aX 6 false]) <|
  .ret) (.skip)) <|
  .seq (.seq (ak [aa 15 0,aJ 16 15,aF 17 0]) <|
  .block 0 (.loop cZ)) <|
  .seq (ak [aX 6 true]) <|
  .ret,
  [.tmp 6],32⟩
theorem eD:bf Tryz.prog 164 []=some c8:=by kernel_rfl
def AK:SF:=⟨.seq (ak [bZ 2 0,bZ 3 1,aX 4 false]) <|
  .seq (.region false [⟨none,[av 5 0 2,au 6 5,av 7 0 3,au 8 7,aI 9 162 [6,8],aa 10 9]⟩,⟨(some (10,true)),[av 11 1 2,au 12 11,av 13 1 3,au 14 13,aI 15 163 [12,14]]⟩,⟨none,[bG 16 10 15,aa 17 16]⟩,⟨(some (17,true)),[av 18 2 2,au 19 18,av 20 2 3,au 21 20,c9 22 164 [(.tmp 19),(.tmp 21),(.val (.fn 165 [] []))]]⟩,⟨none,[bG 23 17 22,aa 24 23]⟩,⟨(some (24,true)),[av 25 3 2,au 26 25,av 27 3 3,au 28 27,aN 29 .eql 26 28]⟩,⟨none,[bG 30 24 29,aa 4 30]⟩]) <|
  .ret,
  [.tmp 4],31⟩
theorem Dk:bf Tryz.prog 110 [2,3]=some AK:=by kernel_rfl
theorem LG {α:Type} {f g:α→List V} {a b:List α} (hf:∀ x,∀ v∈f x,Tree v) (hg:∀ x,∀ v∈g x,Tree v):∀ v∈[V.aZ (a.map f),V.aZ (b.map g)],Tree v:=by
  intro v hv; simp at hv
  rcases hv with rfl | rfl
  · exact eF _ _ fun x _=>hf x
  · exact eF _ _ fun x _=>hg x
theorem JC (a b:List Term) (ha:aW a) (H:View):aC Tryz.prog 162 [.aZ (a.map cE),.aZ (b.map cE)] H fun r _=>r=gb (decide (a=b)):=by
  refine aC.of mixed iY ?_
  unfold aW at ha
  simp (disch:=omega) only [↓wr,↓reduceIte,wq,ah,ag,aj,ab,ae,af,ai,isNil,Nat.reduceEqDiff,Nat.reduceAdd,Nat.reduceLT,Nat.reduceLeDiff,Int.reduceNeg,Int.reduceToNat,reduceCtorEq,fN]
  refine ax.ne (fun h=>?_) (fun h=>?_)
  · simp (disch:=omega) only [↓wr,↓reduceIte,wq,ah,ag,aj,ab,ae,af,ai,isNil,Nat.reduceEqDiff,Nat.reduceAdd,Nat.reduceLT,Nat.reduceLeDiff,Int.reduceNeg,Int.reduceToNat,reduceCtorEq]
    rw[decide_eq_false (q4 (by omega))]
  · simp (disch:=omega) only [↓wr,↓reduceIte,wq,ah,ag,aj,ab,ae,af,ai,isNil,Nat.reduceEqDiff,Nat.reduceAdd,Nat.reduceLT,Nat.reduceLeDiff,Int.reduceNeg,Int.reduceToNat,reduceCtorEq]
    refine bz.up a.length (fun i T _=>a.take i=b.take i∧T 0=.aZ (a.map cE)∧T 1=.aZ (b.map cE)∧T 12=gi a.length∧T 13=gi i) ⟨by simp,rfl,rfl,rfl,rfl⟩ ?_
    rintro i k T H hk ⟨hi,h0,h1,h7,h8⟩
    simp (disch:=omega) only [↓wr,↓reduceIte,wq,ah,ag,aj,ab,ae,af,ai,isNil,Nat.reduceEqDiff,Nat.reduceAdd,Nat.reduceLT,Nat.reduceLeDiff,Int.reduceNeg,Int.reduceToNat,reduceCtorEq,fA,h0,h1,h7,h8]
    refine ax.dec (fun hc=>?_) (fun hc=>?_)
    · have h2:a[i]?=some (a[i]'(by omega)):=List.getElem?_eq_getElem (by omega)
      have h3:b[i]?=some (b[i]'(by omega)):=List.getElem?_eq_getElem (by omega)
      generalize a[i]'(by omega)=x at h2
      generalize b[i]'(by omega)=y at h3
      simp (disch:=omega) only [↓wr,↓reduceIte,wq,ah,ag,aj,ab,ae,af,ai,isNil,Nat.reduceEqDiff,Nat.reduceAdd,Nat.reduceLT,Nat.reduceLeDiff,Int.reduceNeg,Int.reduceToNat,reduceCtorEq,h0,h1,h7,h8,List.getElem?_map,h2,h3,cE]
      refine gS (xs:=#[.string x.name,.int .i64 x.level,.int .i64 x.assoc]) (ys:=#[.string y.name,.int .i64 y.level,.int .i64 y.assoc]) Tryz.underlying129 (by kernel_rfl) (by kernel_rfl) ?_ ?_ (yx x y) (.inr ⟨rfl,rfl⟩) ?_
      · rfl
      · rfl
      rw[G0]
      simp (disch:=omega) only [↓wr,↓reduceIte,wq,ah,ag,aj,ab,ae,af,ai,isNil,Nat.reduceEqDiff,Nat.reduceAdd,Nat.reduceLT,Nat.reduceLeDiff,Int.reduceNeg,Int.reduceToNat,reduceCtorEq,h0,h1,h7,h8]
      refine ax.split (fun e=>?_) (fun e=>?_)
      · simp (disch:=omega) only [↓wr,↓reduceIte,wq,ah,ag,aj,ab,ae,af,ai,isNil,Nat.reduceEqDiff,Nat.reduceAdd,Nat.reduceLT,Nat.reduceLeDiff,Int.reduceNeg,Int.reduceToNat,reduceCtorEq,h0,h1,h7,h8]
        exact bq hk (by omega) ⟨np h2 h3 hi (by simpa using e),h0,h1,h7,rfl⟩
      · simp (disch:=omega) only [↓wr,↓reduceIte,wq,ah,ag,aj,ab,ae,af,ai,isNil,Nat.reduceEqDiff,Nat.reduceAdd,Nat.reduceLT,Nat.reduceLeDiff,Int.reduceNeg,Int.reduceToNat,reduceCtorEq,h0,h1,h7,h8]
        rw[decide_eq_false (uR h2 h3 (by simpa using e))]
    · simp (disch:=omega) only [↓wr,↓reduceIte,wq,ah,ag,aj,ab,ae,af,ai,isNil,Nat.reduceEqDiff,Nat.reduceAdd,Nat.reduceLT,Nat.reduceLeDiff,Int.reduceNeg,Int.reduceToNat,reduceCtorEq,h0,h1,h7,h8]
      rw[decide_eq_true (qI (by omega) (by omega) hi)]
theorem LD (a b:List ByteArray) (ha:aW a) (H:View):aC Tryz.prog 163 [encS a,encS b] H fun r _=>r=gb (decide (a=b)):=by
  refine aC.of mixed ko ?_
  unfold aW at ha
  simp (disch:=omega) only [↓wr,↓reduceIte,wq,ah,ag,aj,ab,ae,af,ai,isNil,Nat.reduceEqDiff,Nat.reduceAdd,Nat.reduceLT,Nat.reduceLeDiff,Int.reduceNeg,Int.reduceToNat,reduceCtorEq,gD,encS]
  refine ax.ne (fun h=>?_) (fun h=>?_)
  · simp (disch:=omega) only [↓wr,↓reduceIte,wq,ah,ag,aj,ab,ae,af,ai,isNil,Nat.reduceEqDiff,Nat.reduceAdd,Nat.reduceLT,Nat.reduceLeDiff,Int.reduceNeg,Int.reduceToNat,reduceCtorEq]
    rw[decide_eq_false (q4 (by omega))]
  · simp (disch:=omega) only [↓wr,↓reduceIte,wq,ah,ag,aj,ab,ae,af,ai,isNil,Nat.reduceEqDiff,Nat.reduceAdd,Nat.reduceLT,Nat.reduceLeDiff,Int.reduceNeg,Int.reduceToNat,reduceCtorEq]
    refine bz.up a.length (fun i T _=>a.take i=b.take i∧T 0=encS a∧T 1=encS b∧T 12=gi a.length∧T 13=gi i) ⟨by simp,rfl,rfl,rfl,rfl⟩ ?_
    rintro i k T H hk ⟨hi,h0,h1,h7,h8⟩
    simp (disch:=omega) only [↓wr,↓reduceIte,wq,ah,ag,aj,ab,ae,af,ai,isNil,Nat.reduceEqDiff,Nat.reduceAdd,Nat.reduceLT,Nat.reduceLeDiff,Int.reduceNeg,Int.reduceToNat,reduceCtorEq,gm,h0,h1,h7,h8,encS]
    refine ax.dec (fun hc=>?_) (fun hc=>?_)
    · have h2:a[i]?=some (a[i]'(by omega)):=List.getElem?_eq_getElem (by omega)
      have h3:b[i]?=some (b[i]'(by omega)):=List.getElem?_eq_getElem (by omega)
      generalize a[i]'(by omega)=x at h2
      generalize b[i]'(by omega)=y at h3
      simp (disch:=omega) only [↓wr,↓reduceIte,wq,ah,ag,aj,ab,ae,af,ai,isNil,Nat.reduceEqDiff,Nat.reduceAdd,Nat.reduceLT,Nat.reduceLeDiff,Int.reduceNeg,Int.reduceToNat,reduceCtorEq,h0,h1,h7,h8,encS,List.getElem?_map,h2,h3,CA]
      refine ax.split (fun e=>?_) (fun e=>?_)
      · simp (disch:=omega) only [↓wr,↓reduceIte,wq,ah,ag,aj,ab,ae,af,ai,isNil,Nat.reduceEqDiff,Nat.reduceAdd,Nat.reduceLT,Nat.reduceLeDiff,Int.reduceNeg,Int.reduceToNat,reduceCtorEq,h0,h1,h7,h8]
        exact bq hk (by omega) ⟨np h2 h3 hi (by simpa using e),h0,h1,h7,rfl⟩
      · simp (disch:=omega) only [↓wr,↓reduceIte,wq,ah,ag,aj,ab,ae,af,ai,isNil,Nat.reduceEqDiff,Nat.reduceAdd,Nat.reduceLT,Nat.reduceLeDiff,Int.reduceNeg,Int.reduceToNat,reduceCtorEq,h0,h1,h7,h8]
        rw[decide_eq_false (uR h2 h3 (by simpa using e))]
    · simp (disch:=omega) only [↓wr,↓reduceIte,wq,ah,ag,aj,ab,ae,af,ai,isNil,Nat.reduceEqDiff,Nat.reduceAdd,Nat.reduceLT,Nat.reduceLeDiff,Int.reduceNeg,Int.reduceToNat,reduceCtorEq,h0,h1,h7,h8]
      rw[decide_eq_true (qI (by omega) (by omega) hi)]
theorem K3 (a b:List Int) (ha:aW a) (H:View):aC Tryz.prog 198 [encI a,encI b] H fun r _=>r=gb (decide (a=b)):=by
  refine aC.of mixed nE ?_
  unfold aW at ha
  simp (disch:=omega) only [↓wr,↓reduceIte,wq,ah,ag,aj,ab,ae,af,ai,isNil,Nat.reduceEqDiff,Nat.reduceAdd,Nat.reduceLT,Nat.reduceLeDiff,Int.reduceNeg,Int.reduceToNat,reduceCtorEq,jj,encI]
  refine ax.ne (fun h=>?_) (fun h=>?_)
  · simp (disch:=omega) only [↓wr,↓reduceIte,wq,ah,ag,aj,ab,ae,af,ai,isNil,Nat.reduceEqDiff,Nat.reduceAdd,Nat.reduceLT,Nat.reduceLeDiff,Int.reduceNeg,Int.reduceToNat,reduceCtorEq]
    rw[decide_eq_false (q4 (by omega))]
  · simp (disch:=omega) only [↓wr,↓reduceIte,wq,ah,ag,aj,ab,ae,af,ai,isNil,Nat.reduceEqDiff,Nat.reduceAdd,Nat.reduceLT,Nat.reduceLeDiff,Int.reduceNeg,Int.reduceToNat,reduceCtorEq]
    refine bz.up a.length (fun i T _=>a.take i=b.take i∧T 0=encI a∧T 1=encI b∧T 12=gi a.length∧T 13=gi i) ⟨by simp,rfl,rfl,rfl,rfl⟩ ?_
    rintro i k T H hk ⟨hi,h0,h1,h7,h8⟩
    simp (disch:=omega) only [↓wr,↓reduceIte,wq,ah,ag,aj,ab,ae,af,ai,isNil,Nat.reduceEqDiff,Nat.reduceAdd,Nat.reduceLT,Nat.reduceLeDiff,Int.reduceNeg,Int.reduceToNat,reduceCtorEq,ix,h0,h1,h7,h8,encI]
    refine ax.dec (fun hc=>?_) (fun hc=>?_)
    · have h2:a[i]?=some (a[i]'(by omega)):=List.getElem?_eq_getElem (by omega)
      have h3:b[i]?=some (b[i]'(by omega)):=List.getElem?_eq_getElem (by omega)
      generalize a[i]'(by omega)=x at h2
      generalize b[i]'(by omega)=y at h3
      simp (disch:=omega) only [↓wr,↓reduceIte,wq,ah,ag,aj,ab,ae,af,ai,isNil,Nat.reduceEqDiff,Nat.reduceAdd,Nat.reduceLT,Nat.reduceLeDiff,Int.reduceNeg,Int.reduceToNat,reduceCtorEq,h0,h1,h7,h8,encI,List.getElem?_map,h2,h3]
      refine ax.ne (fun e=>?_) (fun e=>?_)
      · simp (disch:=omega) only [↓wr,↓reduceIte,wq,ah,ag,aj,ab,ae,af,ai,isNil,Nat.reduceEqDiff,Nat.reduceAdd,Nat.reduceLT,Nat.reduceLeDiff,Int.reduceNeg,Int.reduceToNat,reduceCtorEq,h0,h1,h7,h8]
        rw[decide_eq_false (uR h2 h3 e)]
      · simp (disch:=omega) only [↓wr,↓reduceIte,wq,ah,ag,aj,ab,ae,af,ai,isNil,Nat.reduceEqDiff,Nat.reduceAdd,Nat.reduceLT,Nat.reduceLeDiff,Int.reduceNeg,Int.reduceToNat,reduceCtorEq,h0,h1,h7,h8]
        exact bq hk (by omega) ⟨np h2 h3 hi e,h0,h1,h7,rfl⟩
    · simp (disch:=omega) only [↓wr,↓reduceIte,wq,ah,ag,aj,ab,ae,af,ai,isNil,Nat.reduceEqDiff,Nat.reduceAdd,Nat.reduceLT,Nat.reduceLeDiff,Int.reduceNeg,Int.reduceToNat,reduceCtorEq,h0,h1,h7,h8]
      rw[decide_eq_true (qI (by omega) (by omega) hi)]
theorem Le (a b:List Term) (ha:aW a):aD Tryz.prog 162 [.aZ (a.map cE),.aZ (b.map cE)] (gb (decide (a=b))):=aD.val (LG rJ rJ) (JC a b ha)
theorem La (a b:List ByteArray) (ha:aW a):aD Tryz.prog 163 [encS a,encS b] (gb (decide (a=b))):=aD.val (by
  intro v hv; simp at hv
  rcases hv with rfl | rfl <;> exact xj _) (LD a b ha)
theorem JI (a b:List Int) (ha:aW a):aD Tryz.prog 198 [encI a,encI b] (gb (decide (a=b))):=aD.val (by
  intro v hv; simp at hv
  rcases hv with rfl | rfl <;> exact gp _) (K3 a b ha)
theorem Nh (x y:aT) (hx:aW x.right):aD Tryz.prog 165 [.agg (ba x),.agg (ba y)] (gb (decide (x=y))):=by
  refine aD.val (by
    intro v hv; simp at hv
    rcases hv with rfl | rfl <;> exact dd _ (gg _)) fun H=>?_
  rw[MR]
  refine aC.of mixed BN ?_
  simp (disch:=omega) only [↓wr,↓reduceIte,wq,ah,ag,aj,ab,ae,af,ai,isNil,Nat.reduceEqDiff,Nat.reduceAdd,Nat.reduceLT,Nat.reduceLeDiff,Int.reduceNeg,Int.reduceToNat,reduceCtorEq,yq,ba,encI]
  repeat' (first | (refine ax.dec (fun _=>?_) (fun _=>?_)) | (refine ax.eq (fun _=>?_) (fun _=>?_)) | (refine ax.ne (fun _=>?_) (fun _=>?_)) | (refine ax.split (fun _=>?_) (fun _=>?_)) | (refine aG.pure (JI x.right y.right hx) (by kernel_rfl) ?_) | (simp (disch:=omega) only [↓wr,↓reduceIte,wq,ah,ag,aj,ab,ae,af,ai,isNil,Nat.reduceEqDiff,Nat.reduceAdd,Nat.reduceLT,Nat.reduceLeDiff,Int.reduceNeg,Int.reduceToNat,reduceCtorEq,ba]))
  all_goals simp[*]
theorem Ed (a b:List aT) (ha:aW a) (hr:∀ r∈a,aW r.right) (H:View):aC Tryz.prog 164 [.aZ (a.map ba),.aZ (b.map ba),.fn 165 [] []] H fun r _=>r=gb (decide (a=b)):=by
  refine aC.of mixed eD ?_
  unfold aW at ha
  simp (disch:=omega) only [↓wr,↓reduceIte,wq,ah,ag,aj,ab,ae,af,ai,isNil,Nat.reduceEqDiff,Nat.reduceAdd,Nat.reduceLT,Nat.reduceLeDiff,Int.reduceNeg,Int.reduceToNat,reduceCtorEq,c8]
  refine ax.ne (fun h=>?_) (fun h=>?_)
  · simp (disch:=omega) only [↓wr,↓reduceIte,wq,ah,ag,aj,ab,ae,af,ai,isNil,Nat.reduceEqDiff,Nat.reduceAdd,Nat.reduceLT,Nat.reduceLeDiff,Int.reduceNeg,Int.reduceToNat,reduceCtorEq]
    rw[decide_eq_false (q4 (by omega))]
  · simp (disch:=omega) only [↓wr,↓reduceIte,wq,ah,ag,aj,ab,ae,af,ai,isNil,Nat.reduceEqDiff,Nat.reduceAdd,Nat.reduceLT,Nat.reduceLeDiff,Int.reduceNeg,Int.reduceToNat,reduceCtorEq]
    refine bz.up a.length (fun i T _=>a.take i=b.take i∧T 15=.aZ (a.map ba)∧T 1=.aZ (b.map ba)∧T 2=.fn 165 [] []∧T 16=gi a.length∧T 17=gi i) ⟨by simp,rfl,rfl,rfl,rfl,rfl⟩ ?_
    rintro i k T H hk ⟨hi,h0,h1,h6,h7,h8⟩
    simp (disch:=omega) only [↓wr,↓reduceIte,wq,ah,ag,aj,ab,ae,af,ai,isNil,Nat.reduceEqDiff,Nat.reduceAdd,Nat.reduceLT,Nat.reduceLeDiff,Int.reduceNeg,Int.reduceToNat,reduceCtorEq,cZ,h0,h1,h6,h7,h8]
    refine ax.dec (fun hc=>?_) (fun hc=>?_)
    · have h2:a[i]?=some (a[i]'(by omega)):=List.getElem?_eq_getElem (by omega)
      have h3:b[i]?=some (b[i]'(by omega)):=List.getElem?_eq_getElem (by omega)
      have hm:a[i]'(by omega)∈a:=List.getElem_mem _
      generalize a[i]'(by omega)=x at h2 hm
      generalize b[i]'(by omega)=y at h3
      have hsx:=hr x hm
      simp (disch:=omega) only [↓wr,↓reduceIte,wq,ah,ag,aj,ab,ae,af,ai,isNil,Nat.reduceEqDiff,Nat.reduceAdd,Nat.reduceLT,Nat.reduceLeDiff,Int.reduceNeg,Int.reduceToNat,reduceCtorEq,h0,h1,h6,h7,h8,List.getElem?_map,h2,h3,ba,encI]
      intro n hn
      try simp (disch:=omega) only [↓wr,↓reduceIte,wq,ah,ag,aj,ab,ae,af,ai,isNil,Nat.reduceEqDiff,Nat.reduceAdd,Nat.reduceLT,Nat.reduceLeDiff,Int.reduceNeg,Int.reduceToNat,reduceCtorEq,h0,h1,h6,h7,h8,List.getElem?_map,h2,h3,ba,encI]
      intro m hmd
      have hmn:=(cR hmd cK).1
      try simp (disch:=omega) only [↓wr,↓reduceIte,wq,ah,ag,aj,ab,ae,af,ai,isNil,Nat.reduceEqDiff,Nat.reduceAdd,Nat.reduceLT,Nat.reduceLeDiff,Int.reduceNeg,Int.reduceToNat,reduceCtorEq,h0,h1,h6,h7,h8,List.getElem?_map,h2,h3,ba,encI,hmn,hmn.symm]
      refine aG.pure (Nh x y hsx) (by kernel_rfl) ?_
      simp (disch:=omega) only [↓wr,↓reduceIte,wq,ah,ag,aj,ab,ae,af,ai,isNil,Nat.reduceEqDiff,Nat.reduceAdd,Nat.reduceLT,Nat.reduceLeDiff,Int.reduceNeg,Int.reduceToNat,reduceCtorEq,h0,h1,h6,h7,h8]
      refine ax.split (fun e=>?_) (fun e=>?_)
      · simp (disch:=omega) only [↓wr,↓reduceIte,wq,ah,ag,aj,ab,ae,af,ai,isNil,Nat.reduceEqDiff,Nat.reduceAdd,Nat.reduceLT,Nat.reduceLeDiff,Int.reduceNeg,Int.reduceToNat,reduceCtorEq,h0,h1,h6,h7,h8]
        exact bq hk (by omega) ⟨np h2 h3 hi (by simpa using e),h0,h1,h6,h7,rfl⟩
      · simp (disch:=omega) only [↓wr,↓reduceIte,wq,ah,ag,aj,ab,ae,af,ai,isNil,Nat.reduceEqDiff,Nat.reduceAdd,Nat.reduceLT,Nat.reduceLeDiff,Int.reduceNeg,Int.reduceToNat,reduceCtorEq,h0,h1,h6,h7,h8]
        rw[decide_eq_false (uR h2 h3 (by simpa using e))]
    · simp (disch:=omega) only [↓wr,↓reduceIte,wq,ah,ag,aj,ab,ae,af,ai,isNil,Nat.reduceEqDiff,Nat.reduceAdd,Nat.reduceLT,Nat.reduceLeDiff,Int.reduceNeg,Int.reduceToNat,reduceCtorEq,h0,h1,h6,h7,h8]
      rw[decide_eq_true (qI (by omega) (by omega) hi)]
theorem D3 (a b:List aT) (ha:aW a) (hr:∀ r∈a,aW r.right):aD Tryz.prog 164 [.aZ (a.map ba),.aZ (b.map ba),.fn 165 [] []] (gb (decide (a=b))):=aD.val (by
  intro v hv; simp at hv
  rcases hv with rfl | rfl | rfl
  · exact eF _ _ fun x _=>gg x
  · exact eF _ _ fun x _=>gg x
  · exact Bj (by simp) (by simp)) (Ed a b ha hr)
theorem Mv (g k:ao) (hg:g.Ok):aD Tryz.prog 110 [.agg (aw g),.agg (aw k)] (gb (decide (g=k))):=by
  refine aD.val (CS g k) fun H=>?_
  rw[FA]
  refine aC.of mixed Dk ?_
  simp (disch:=omega) only [↓wr,↓reduceIte,wq,ah,ag,aj,ab,ae,af,ai,isNil,Nat.reduceEqDiff,Nat.reduceAdd,Nat.reduceLT,Nat.reduceLeDiff,Int.reduceNeg,Int.reduceToNat,reduceCtorEq,AK,aw,encS]
  repeat' (first | (refine ax.dec (fun _=>?_) (fun _=>?_)) | (refine ax.eq (fun _=>?_) (fun _=>?_)) | (refine ax.ne (fun _=>?_) (fun _=>?_)) | (refine ax.split (fun _=>?_) (fun _=>?_)) | (refine aG.pure (Le g.az k.az hg.az) (by kernel_rfl) ?_) | (refine aG.pure (La g.ay k.ay hg.ay) (by kernel_rfl) ?_) | (refine aG.pure (D3 g.rules k.rules hg.rules (fun r hr=>(hg.aH r hr).2.2.1)) (by kernel_rfl) ?_) | (simp (disch:=omega) only [↓wr,↓reduceIte,wq,ah,ag,aj,ab,ae,af,ai,isNil,Nat.reduceEqDiff,Nat.reduceAdd,Nat.reduceLT,Nat.reduceLeDiff,Int.reduceNeg,Int.reduceToNat,reduceCtorEq,aw,encS]))
  all_goals simp_all [NN]
def Dd:SF:=⟨.seq (ak [bZ 1 0,aX 2 false]) <|
  .seq (ak [aK 7 4 1,aI 8 109 [7],aa 6 8,cG 9 0 6,cG 10 1 6,cG 11 2 6,((some 3),.op (.alloc [(.emp 1),(.emp 1),(.emp 1),(.val (.int .i64 0))])),(none,.op (.store 4 (.tmp 3) (.tmp 9))),aa 4 10,aa 5 11]) <|
  .seq (.region false [⟨none,[aa 12 5,aA 13 .eql 12 0,aa 14 13]⟩,⟨(some (14,true)),[aK 15 4 1,aK 16 4 3,aI 17 110 [15,16]]⟩,⟨none,[bG 18 14 17,aa 2 18]⟩]) <|
  .ret,
  [.tmp 2],19⟩
theorem FW:bf Tryz.prog 61 [1]=some Dd:=by kernel_rfl
def qQ:SF:=⟨.seq (ak [bZ 1 0,aX 2 false]) <|
  .seq (ak [aK 7 4 1,aI 8 70 [7],aa 6 8,cG 9 0 6,cG 10 1 6,cG 11 2 6,((some 3),.op (.alloc [(.emp 1),(.emp 1),(.emp 1),(.val (.int .i64 0))])),(none,.op (.store 4 (.tmp 3) (.tmp 9))),aa 4 10,aa 5 11]) <|
  .seq (.region false [⟨none,[aa 12 5,aA 13 .eql 12 0,aa 14 13]⟩,⟨(some (14,true)),[aK 15 4 1,aK 16 4 3,aI 17 36 [15,16]]⟩,⟨none,[bG 18 14 17,aa 2 18]⟩]) <|
  .ret,
  [.tmp 2],19⟩
theorem vR:bf Tryz.prog 30 [1]=some qQ:=by kernel_rfl
theorem F5 (g:ao) (hg:g.Ok) (hs:g.Small):aD Tryz.prog 61 [.agg (aw g)] (gb (isRed g)):=by
  refine aD.val (eN g) fun H=>?_
  refine aC.of mixed FW ?_
  simp (disch:=omega) only [↓wr,↓reduceIte,wq,ah,ag,aj,ab,ae,af,ai,isNil,Nat.reduceEqDiff,Nat.reduceAdd,Nat.reduceLT,Nat.reduceLeDiff,Int.reduceNeg,Int.reduceToNat,reduceCtorEq,Dd,aw,encS]
  refine aG.pure (Jl g hg hs).pure (by kernel_rfl) ?_
  unfold isRed
  generalize fi g=x
  obtain ⟨k,il,e⟩:=x
  simp (disch:=omega) only [↓wr,↓reduceIte,wq,ah,ag,aj,ab,ae,af,ai,isNil,Nat.reduceEqDiff,Nat.reduceAdd,Nat.reduceLT,Nat.reduceLeDiff,Int.reduceNeg,Int.reduceToNat,reduceCtorEq,uq,aw,encS]
  intro n hn
  refine ax.eq (fun h=>?_) (fun h=>?_)
  · simp (disch:=omega) only [↓wr,↓reduceIte,wq,ah,ag,aj,ab,ae,af,ai,isNil,Nat.reduceEqDiff,Nat.reduceAdd,Nat.reduceLT,Nat.reduceLeDiff,Int.reduceNeg,Int.reduceToNat,reduceCtorEq,uq,aw,encS]
    refine aG.pure (Mv g k hg) (by kernel_rfl) ?_
    simp (disch:=omega) only [↓wr,↓reduceIte,wq,ah,ag,aj,ab,ae,af,ai,isNil,Nat.reduceEqDiff,Nat.reduceAdd,Nat.reduceLT,Nat.reduceLeDiff,Int.reduceNeg,Int.reduceToNat,reduceCtorEq]
    simp[h]
  · simp (disch:=omega) only [↓wr,↓reduceIte,wq,ah,ag,aj,ab,ae,af,ai,isNil,Nat.reduceEqDiff,Nat.reduceAdd,Nat.reduceLT,Nat.reduceLeDiff,Int.reduceNeg,Int.reduceToNat,reduceCtorEq]
    simp[h]
theorem OY (g:ao) (hg:g.Ok):aD Tryz.prog 30 [.agg (aw g)] (gb (isRed g)):=by
  refine aD.val (eN g) fun H=>?_
  refine aC.of mixed vR ?_
  simp (disch:=omega) only [↓wr,↓reduceIte,wq,ah,ag,aj,ab,ae,af,ai,isNil,Nat.reduceEqDiff,Nat.reduceAdd,Nat.reduceLT,Nat.reduceLeDiff,Int.reduceNeg,Int.reduceToNat,reduceCtorEq,qQ,aw,encS]
  refine aG.pure (Gn g hg).pure (by kernel_rfl) ?_
  unfold isRed
  generalize fi g=x
  obtain ⟨k,il,e⟩:=x
  simp (disch:=omega) only [↓wr,↓reduceIte,wq,ah,ag,aj,ab,ae,af,ai,isNil,Nat.reduceEqDiff,Nat.reduceAdd,Nat.reduceLT,Nat.reduceLeDiff,Int.reduceNeg,Int.reduceToNat,reduceCtorEq,uq,aw,encS]
  intro n hn
  refine ax.eq (fun h=>?_) (fun h=>?_)
  · simp (disch:=omega) only [↓wr,↓reduceIte,wq,ah,ag,aj,ab,ae,af,ai,isNil,Nat.reduceEqDiff,Nat.reduceAdd,Nat.reduceLT,Nat.reduceLeDiff,Int.reduceNeg,Int.reduceToNat,reduceCtorEq,uq,aw,encS]
    refine aG.pure (JL g k hg) (by kernel_rfl) ?_
    simp (disch:=omega) only [↓wr,↓reduceIte,wq,ah,ag,aj,ab,ae,af,ai,isNil,Nat.reduceEqDiff,Nat.reduceAdd,Nat.reduceLT,Nat.reduceLeDiff,Int.reduceNeg,Int.reduceToNat,reduceCtorEq]
    simp[h]
  · simp (disch:=omega) only [↓wr,↓reduceIte,wq,ah,ag,aj,ab,ae,af,ai,isNil,Nat.reduceEqDiff,Nat.reduceAdd,Nat.reduceLT,Nat.reduceLeDiff,Int.reduceNeg,Int.reduceToNat,reduceCtorEq]
    simp[h]
def PM:ao:=⟨[⟨⟨#[39,97,39]⟩,0,0⟩,⟨⟨#[39,98,39]⟩,0,0⟩,⟨⟨#[39,99,39]⟩,0,0⟩,⟨⟨#[39,100,39]⟩,0,0⟩],[⟨#[115]⟩,⟨#[117]⟩,⟨#[118]⟩],[⟨0,[0,(-2)],0⟩,⟨0,[1],1⟩,⟨0,[],(-1)⟩,⟨1,[(-2),2],2⟩,⟨2,[3,(-1)],3⟩],0⟩
def O1:ao:=⟨PM.az,[⟨#[115]⟩],[⟨0,[1],1⟩,⟨0,[],(-1)⟩],0⟩
theorem nj:isRed O1=true:=by kernel_rfl
structure ao.Q9 (g:ao):Prop where
  az:g.az.length≤40
  ay:g.ay.length≤40
  rules:g.rules.length≤60
  right:∀ r∈g.rules,r.right.length≤20
theorem dN.fr {h:aE} {v t:V} (f:dN h v t):Fr h v t:=by
  induction f with
  | val v=>exact .tree _ (.val _)
  | emp k=>exact .emp k
  | sl id off len esz z es es' h1 h2 h3 h4 _ ih=>exact .sl id off len esz z es es' h1 h2 h3 h4 ih
  | agg cs cs' h1 _ ih=>exact .agg cs cs' h1 ih
  | bu cs cs' h1 _ ih=>exact .bu cs cs' h1 ih
def A5 (p:bU):List V:=[gi p.aH,gi p.cW,gi p.rules,gi p.az]
abbrev IZ (P:List bU):V:=.aZ (P.map A5)
theorem Jj (P:List bU):Tree (IZ P):=eF _ _ fun x _ v hv=>by
  simp[A5] at hv
  rcases hv with rfl | rfl | rfl | rfl <;> exact .val _
theorem Jk (p:bU):∀ v∈A5 p,Tree v:=by
  intro v hv; simp[A5] at hv
  rcases hv with rfl | rfl | rfl | rfl <;> exact .val _
def zm (H:View) (u:V) (P:List bU):Prop:=u=IZ P∨aQ H u 4 (P.map A5)
theorem zm.Ih {H:View} {u:V} {P:List bU} (h:zm H u P):dD H u (IZ P):=by
  rcases h with rfl | h
  · exact dD.tree (Jj P)
  · exact dD.own h fun e he v hv=>by
      obtain ⟨p,_,rfl⟩:=List.mem_map.1 he
      exact Jk p v hv
theorem zm.keep {H H':View} {u:V} {P:List bU} (h:zm H u P) (hk:∀ id,owner u=some id→H' id=H id):zm H' u P:=h.imp id fun h=>h.keep hk
theorem zm.live {H:View} {u:V} {P:List bU} (h:zm H u P) {id:Nat} (hid:owner u=some id):H id≠.dead:=by
  rcases h with rfl | h
  · simp[owner] at hid
  · rw[(h.live hid).1]; simp
end Gv
