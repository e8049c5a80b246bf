/-
  Part 11 of the proof: what the machine does and what the functions answer.
  Conditions: those that each lemma names.
-/
import Derived.Test.YtgniimkconobpaaGreatSGzOJ
set_option linter.unusedSimpArgs false
set_option linter.unusedVariables false
set_option linter.unusedSimpArgs false
namespace Gv
open Go Go.Proofs
inductive qu (g:au):Int→Prop
  | mk (R:aZ):R∈g.rules→(∀ s∈R.right,s < 0→qu g (-1 - s))→qu g R.left
inductive lP (g:au) (p:List Bool):Int→Prop
  | start:lP g p g.start
  | next (R:aZ) (s:Int):R∈g.rules→lP g p R.left→da R.right p true=true→s∈R.right→s < 0→lP g p (-1 - s)
theorem rv {l:List Int} {p:List Bool} : da l p true=true↔∀ s∈l,s < 0→p.getD (-1 - s).toNat false=true:=by
  simp only[da,List.all_eq_true]
  constructor
  · intro h s hs hn
    have:=h s hs
    rwa [if_neg (by omega)] at this
  · intro h s hs
    by_cases hn:s < 0
    · rw[if_neg (by omega)]; exact h s hs hn
    · rw[if_pos (by omega)]
theorem rm {l:List Bool} {i j:Nat} (h:(l.set i true).getD j false=true):j=i∨l.getD j false=true:=by
  by_cases e:i=j
  · exact .inl e.symm
  · right
    simp only[List.getD_eq_getElem?_getD,List.getElem?_set,if_neg e] at h ⊢
    exact h
theorem qT {g:au} {i:Nat} : (cX g).getD i false=false:=by
  simp only[cX,List.getD_eq_getElem?_getD,List.getElem?_replicate]
  split <;> rfl
theorem zU {g:au} (hr:aT g=true):∀ i:Nat,(aH g true).getD i false=true→qu g i:=by
  have hf:=bt hr
  have hst:∀ (is:List Bool) (R:aZ),R∈g.rules→(∀ i:Nat,is.getD i false=true→qu g i)→∀ i:Nat,(cT true is R).getD i false=true→qu g i:=by
    intro is R hR h i hi
    unfold cT at hi
    split at hi
    · rename_i ha
      rcases rm hi with rfl | hi
      · have:=hf.left R hR
        have e:((R.left.toNat:Nat):Int)=R.left:=by omega
        rw[e]
        refine .mk R hR fun s hs hn=>?_
        have:=h _ (rv.1 ha s hs hn)
        rwa [show (((-1 - s).toNat:Nat):Int) = -1 - s by omega] at this
      · exact h i hi
    · exact h i hi
  have hfold:∀ (l:List aZ) (is:List Bool),(∀ R∈l,R∈g.rules)→(∀ i:Nat,is.getD i false=true→qu g i)→∀ i:Nat,(l.foldl (cT true) is).getD i false=true→qu g i:=by
    intro l
    induction l with
    | nil=>intro is _ h; exact h
    | cons R l ih=>intro is hl h; exact ih _ (fun x hx=>hl x (by simp[hx])) (hst is R (hl R (by simp)) h)
  have hit:∀ (n:Nat) (is:List Bool),(∀ i:Nat,is.getD i false=true→qu g i)→∀ i:Nat,(iter (jo g true) n is).getD i false=true→qu g i:=by
    intro n
    induction n with
    | zero=>intro is h; exact h
    | succ n ih=>intro is h; exact ih _ (hfold g.rules is (fun _ h=>h) h)
  rw[aH,if_pos hr]
  exact hit _ _ fun i hi=>by rw[qT] at hi; simp at hi
theorem yc (t:Bool) (is:List Bool) (R:aZ):dT is (cT t is R):=by
  unfold cT
  split
  · exact .set _ _
  · exact .refl _
theorem x8 (t:Bool):∀ (l:List aZ) (is:List Bool),dT is (l.foldl (cT t) is)
  | [],is=>.refl _
  | R :: l,is=>(yc t is R).trans (x8 t l _)
theorem v8 {t:Bool} : ∀ {l:List aZ} {is:List Bool},l.foldl (cT t) is=is→∀ R∈l,cT t is R=is
  | [],_,_,_,h=>by simp at h
  | R :: l,is,h,x,hx=>by
    rw[List.foldl_cons] at h
    have h1:=x8 t l (cT t is R)
    rw[h] at h1
    have h2:=(h1.Gq (yc t is R))
    rcases List.mem_cons.1 hx with rfl | hx
    · exact h2
    · rw[h2] at h; exact v8 h x hx
theorem E8 {g:au} (hr:aT g=true) (t:Bool):jo g t (aH g t)=aH g t:=by
  have hf:=bt hr
  have h:=oz (nP t) g.rules 16 (cX g) (by have:=hf.aD; simp[cX]; omega)
  rw[Cm,Fg hr] at h
  exact h.1
theorem gz {g:au} (hr:aT g=true) {t:Bool} {R:aZ} (hR:R∈g.rules) (ha:da R.right (aH g t) t=true):(aH g t).getD R.left.toNat false=true:=by
  have h1:=v8 (E8 hr t) R hR
  have hf:=bt hr
  have hl:=pA hr t
  have hb:=hf.left R hR
  unfold cT at h1
  rw[if_pos ha] at h1
  rw[← h1]
  simp only[List.getD_eq_getElem?_getD]
  rw[List.getElem?_set_self (by omega)]
  rfl
theorem sG {g:au} (hr:aT g=true) {x:Int} (h:qu g x):(aH g true).getD x.toNat false=true:=by
  induction h with
  | mk R hR _ ih=>exact gz hr hR (rv.2 fun s hs hn=>ih s hs hn)
theorem zE {g:au} (hr:aT g=true):∀ i:Nat,(bR g).getD i false=true→lP g (aH g true) i:=by
  have hf:=bt hr
  have hmk:∀ (R:aZ),R∈g.rules→lP g (aH g true) R.left→da R.right (aH g true) true=true→∀ (l:List Int) (is:List Bool),(∀ s∈l,s∈R.right)→(∀ i:Nat,is.getD i false=true→lP g (aH g true) i)→∀ i:Nat,(l.foldl mark is).getD i false=true→lP g (aH g true) i:=by
    intro R hR hl ha l
    induction l with
    | nil=>intro is _ h; exact h
    | cons s l ih =>
      intro is hs h
      refine ih _ (fun x hx=>hs x (by simp[hx])) fun i hi=>?_
      unfold mark at hi
      split at hi
      · rename_i hn
        rcases rm hi with rfl | hi
        · rw[show (((-1 - s).toNat:Nat):Int) = -1 - s by omega]
          exact .next R s hR hl ha (hs s (by simp)) hn
        · exact h i hi
      · exact h i hi
  have hst:∀ (is:List Bool) (R:aZ),R∈g.rules→(∀ i:Nat,is.getD i false=true→lP g (aH g true) i)→∀ i:Nat,(fQ (aH g true) is R).getD i false=true→lP g (aH g true) i:=by
    intro is R hR h
    unfold fQ
    split
    · rename_i ha
      rw[Bool.and_eq_true] at ha
      have h1:=h _ ha.1
      have:=hf.left R hR
      rw[show ((R.left.toNat:Nat):Int)=R.left by omega] at h1
      exact hmk R hR h1 ha.2 R.right is (fun _ h=>h) h
    · exact h
  have hfold:∀ (l:List aZ) (is:List Bool),(∀ R∈l,R∈g.rules)→(∀ i:Nat,is.getD i false=true→lP g (aH g true) i)→∀ i:Nat,(l.foldl (fQ (aH g true)) is).getD i false=true→lP g (aH g true) i:=by
    intro l
    induction l with
    | nil=>intro is _ h; exact h
    | cons R l ih=>intro is hl h; exact ih _ (fun x hx=>hl x (by simp[hx])) (hst is R (hl R (by simp)) h)
  have hit:∀ (n:Nat) (is:List Bool),(∀ i:Nat,is.getD i false=true→lP g (aH g true) i)→∀ i:Nat,(iter (qc g (aH g true)) n is).getD i false=true→lP g (aH g true) i:=by
    intro n
    induction n with
    | zero=>intro is h; exact h
    | succ n ih=>intro is h; exact ih _ (hfold g.rules is (fun _ h=>h) h)
  rw[bR,if_pos hr]
  refine hit _ _ fun i hi=>?_
  rcases rm hi with rfl | hi
  · have:=hf.qw
    rw[show ((g.start.toNat:Nat):Int)=g.start by omega]
    exact .start
  · rw[qT] at hi; simp at hi
theorem sZ {g:au} (hr:aT g=true) {x:Int} (h:lP g (aH g true) x):(bR g).getD x.toNat false=true:=by
  induction h with
  | start=>exact BI hr
  | next R s hR _ ha hs hn ih=>exact DQ hr hR (by rw[cJ,ih,ha]; rfl) hs hn
section
variable {g r:au} {p q:List Bool} {o:List Int}
theorem c8.J0 (h:c8 g p q o r) {x:Int} (hd:qu g x):x∈o→qu r (bA o x):=by
  induction hd with
  | mk R hR hsub ih =>
    intro hx
    obtain ⟨R1,hR1,hk1,e1⟩:=h.from_ _ hx
    have hk:cJ p q R=true:=by
      rw[cJ,Bool.and_eq_true] at hk1 ⊢
      refine ⟨by rw[← e1]; exact hk1.1,?_⟩
      rw[h.pe]
      exact rv.2 fun s hs hn=>sG h.right (hsub s hs hn)
    have hin:=(h.kept R hR hk).2
    have hm:cg (bA o) R∈r.rules:=by rw[h.rules]; exact List.mem_map.2 ⟨R,List.mem_filter.2 ⟨hR,hk⟩,rfl⟩
    refine qu.mk (cg (bA o) R) hm fun s' hs' hn'=>?_
    simp only[cg,List.mem_map] at hs'
    obtain ⟨s,hs,rfl⟩:=hs'
    by_cases hn:s < 0
    · rw[if_pos hn]
      have:=ih s hs hn (hin s hs hn)
      rwa [show -1 - (-1 - bA o (-1 - s))=bA o (-1 - s) by omega]
    · rw[if_neg hn] at hn'; omega
theorem c8.Jw (h:c8 g p q o r) {x:Int} (hx:x∈o):(aH r true).getD (bA o x).toNat false=true:=by
  obtain ⟨R,hR,hk,rfl⟩:=h.from_ _ hx
  rw[cJ,Bool.and_eq_true,h.pe] at hk
  have h1:=gz h.right hR hk.2
  have h2:=zU h.right _ h1
  have:=(h.inside _ hx)
  rw[show ((R.left.toNat:Nat):Int)=R.left by omega] at h2
  exact sG h.js (h.J0 h2 hx)
theorem c8.at_ (h:c8 g p q o r) {k:Nat} (hk:k < o.length):∃ x∈o,bA o x=k∧o[k]?=some x:=⟨o[k],List.getElem_mem _,tW h.nodup (List.getElem?_eq_getElem hk),List.getElem?_eq_getElem hk⟩
theorem c8.yb (h:c8 g p q o r) {k:Nat} (hk:k < o.length):(aH r true).getD k false=true:=by
  obtain ⟨x,hx,h1,_⟩:=h.at_ hk
  have:=h.Jw hx
  rwa [h1,Int.toNat_natCast] at this
theorem c8.Ek (h:c8 g p q o r) {R:aZ} (hR:R∈r.rules):da R.right (aH r true) true=true:=by
  have hf:=bt h.js
  refine rv.2 fun s hs hn=>h.yb ?_
  have:=hf.neg hR hs hn
  rw[h.len] at this
  omega
theorem c8.J1 (h:c8 g p q o r) {x:Int} (hd:lP g (aH g true) x):lP r (aH r true) (bA o x):=by
  induction hd with
  | start=>rw[← h.AJ]; exact .start
  | next R s hR h1 ha hs hn ih =>
    have hk:cJ p q R=true:=by
      rw[cJ,h.pe,h.qe,ha,sZ h.right h1]; rfl
    have hm:cg (bA o) R∈r.rules:=by rw[h.rules]; exact List.mem_map.2 ⟨R,List.mem_filter.2 ⟨hR,hk⟩,rfl⟩
    have hin:=(h.kept R hR hk).2 s hs hn
    have h2:=jj hin
    have:=lP.next (g:=r) (p:=aH r true) (cg (bA o) R) (-1 - bA o (-1 - s)) hm ih (h.Ek hm) (by
      simp only[cg,List.mem_map]
      exact ⟨s,hs,by rw[if_pos hn]⟩) (by omega)
    rwa [show -1 - (-1 - bA o (-1 - s))=bA o (-1 - s) by omega] at this
theorem c8.Ez (h:c8 g p q o r) {k:Nat} (hk:k < o.length):(bR r).getD k false=true:=by
  obtain ⟨x,hx,h1,_⟩:=h.at_ hk
  obtain ⟨R,hR,hkk,rfl⟩:=h.from_ _ hx
  rw[cJ,Bool.and_eq_true,h.qe] at hkk
  have h2:=zE h.right _ hkk.1
  have:=(h.inside _ hx)
  rw[show ((R.left.toNat:Nat):Int)=R.left by omega] at h2
  have:=sZ h.js (h.J1 h2)
  rwa [h1,Int.toNat_natCast] at this
def ig (n:Nat):List Int:=(List.range n).map fun (k:Nat)=>(k:Int)
theorem A7 (n:Nat):(ig n).length=n:=by simp[ig]
theorem vc {n k:Nat} (h:k < n):(ig n)[k]?=some (k:Int):=by simp[ig,h]
theorem Di (n:Nat):(ig n).Nodup:=by
  rw[ig,List.nodup_iff_pairwise_ne,List.pairwise_map]
  exact (List.nodup_range (n:=n)).imp fun h e=>h (by omega)
theorem uZ {n:Nat} {x:Int} (h0:0≤x) (h1:x < n):bA (ig n) x=x:=by
  have:=tW (Di n) (vc (n:=n) (k:=x.toNat) (by omega))
  rw[show ((x.toNat:Nat):Int)=x by omega] at this
  exact this
theorem yD {p q:List Bool} : ∀ (l:List aZ) (i:Int),(∀ R∈l,cJ p q R=true)→rP p q l i=(List.range l.length).map fun (k:Nat)=>i+(k:Int)
  | [],_,_=>rfl
  | R :: l,i,h=>by
    rw[rP,if_pos (h R (by simp)),yD l (i+1) (fun x hx=>h x (by simp[hx])),List.length_cons,List.range_succ_eq_map,List.map_cons,List.map_map]
    congr 1
    · omega
    · apply List.map_congr_left
      intro k _
      simp only[Function.comp]
      push_cast; omega
theorem qC {f:Int→Int} {o:List Int} (hf:∀ x∈o,∀ y∈o,f x=f y→x=y):∀ (l:List aZ) (acc:List Int),(∀ x∈acc,x∈o)→(∀ R∈l,R.left∈o)→(l.map (cg f)).foldl eA (acc.map f)=(l.foldl eA acc).map f
  | [],_,_,_=>rfl
  | R :: l,acc,ha,hl=>by
    have e:eA (acc.map f) (cg f R)=(eA acc R).map f:=by
      have h1:(cg f R).left=f R.left:=rfl
      unfold eA
      rw[h1]
      by_cases h:R.left∈acc
      · rw[if_pos h,if_pos (List.mem_map.2 ⟨_,h,rfl⟩)]
      · rw[if_neg h,if_neg (fun hm=>by
          obtain ⟨y,hy,e⟩:=List.mem_map.1 hm
          exact h (hf y (ha y hy) _ (hl R (by simp)) e ▸ hy))]
        simp
    rw[List.map_cons,List.foldl_cons,List.foldl_cons,e]
    refine qC hf l (eA acc R) (fun x hx=>?_) (fun x hx=>hl x (by simp[hx]))
    unfold eA at hx
    split at hx
    · exact ha x hx
    · rcases List.mem_append.1 hx with hx | hx
      · exact ha x hx
      · simp at hx; subst hx; exact hl R (by simp)
theorem c8.inj (h:c8 g p q o r):∀ x∈o,∀ y∈o,bA o x=bA o y→x=y:=by
  intro x hx y hy e
  have h1:=uR hx
  have h2:=uR hy
  rw[e,h2] at h1
  exact (Option.some.inj h1).symm
theorem c8.HL (h:c8 g p q o r):o.map (bA o)=ig o.length:=by
  apply List.ext_getElem?
  intro k
  rw[List.getElem?_map]
  by_cases hk:k < o.length
  · rw[vc hk,List.getElem?_eq_getElem hk,Option.map_some,tW h.nodup (List.getElem?_eq_getElem hk)]
  · rw[List.getElem?_eq_none (by omega),List.getElem?_eq_none (by rw[A7]; omega)]; rfl
theorem c8.u4 (h:c8 g p q o r):∀ R∈r.rules,cJ (aH r true) (bR r) R=true:=fun R hR=>by
  have hf:=bt h.js
  have:=hf.left R hR
  rw[h.len] at this
  rw[cJ,h.Ez (by omega),h.Ek hR]; rfl
theorem c8.ord (h:c8 g p q o r):kK (aH r true) (bR r) r.rules=ig o.length:=by
  unfold kK
  rw[List.filter_eq_self.2 h.u4,h.rules]
  have:=qC h.inj (g.rules.filter (cJ p q)) [] (by simp) (fun R hR=>by
    obtain ⟨h1,h2⟩:=List.mem_filter.1 hR
    exact (h.kept R h1 h2).1)
  rw[List.map_nil] at this
  rw[this,← h.HL]
  congr 1
  rw[h.oe]; rfl
theorem c8.once (h:c8 g p q o r):vp r=(r,ig r.rules.length,0):=by
  have hf:=bt h.js
  have hst:=hf.start
  have hst0:=hf.qw
  rw[h.len] at hst
  rw[z8 h.js,if_pos (h.yb (by omega)),h.ord]
  have hk:rP (aH r true) (bR r) r.rules 0=ig r.rules.length:=by
    rw[yD _ _ h.u4]
    unfold ig
    apply List.map_congr_left
    intro k _; omega
  have hr:rn r (bA (ig o.length)) (aH r true) (bR r)=r:=by
    unfold rn
    rw[h.ord,List.filter_eq_self.2 h.u4]
    have e1:((ig o.length).map fun x=>r.aD.getD x.toNat ⟨#[]⟩)=r.aD:=by
      apply List.ext_getElem?
      intro k
      rw[List.getElem?_map]
      by_cases hkk:k < o.length
      · rw[vc hkk,Option.map_some]
        simp[List.getD_eq_getElem?_getD,List.getElem?_eq_getElem (show k < r.aD.length by rw[h.len]; omega)]
      · rw[List.getElem?_eq_none (by rw[A7]; omega),List.getElem?_eq_none (by rw[h.len]; omega)]; rfl
    have e2:r.rules.map (cg (bA (ig o.length)))=r.rules:=by
      conv=>rhs; rw[← List.map_id r.rules]
      apply List.map_congr_left
      intro R hR
      have hl:=hf.left R hR
      rw[h.len] at hl
      unfold cg
      rw[uZ hl.1 hl.2]
      have e3:(R.right.map fun s=>if s < 0 then -1 - bA (ig o.length) (-1 - s) else s)=R.right:=by
        conv=>rhs; rw[← List.map_id R.right]
        apply List.map_congr_left
        intro s hs
        by_cases hn:s < 0
        · have:=hf.neg hR hs hn
          rw[h.len] at this
          rw[if_pos hn,uZ (by omega) this]
          simp only[id]; omega
        · rw[if_neg hn]; rfl
      rw[e3]; rfl
    rw[e1,e2,uZ hst0 hst]
  rw[hr,hk]
end
end Gv
set_option linter.unusedSimpArgs false
namespace Gv
open Go Go.Proofs
def fc (p:List Int) (i:Nat) (s:Int):Prop:=∃ c,p[i]?=some c∧(c=s∨c = -1)
inductive Sp (g:au) (p:List Int):List Int→Nat→Nat→Prop
  | nil (i:Nat):Sp g p [] i i
  | term (s:Int) (l:List Int) (i j:Nat):0≤s→fc p i s→Sp g p l (i+1) j→Sp g p (s :: l) i j
  | bU (s:Int) (l:List Int) (R:aZ) (i k j:Nat):s < 0→R∈g.rules→R.left = -1 - s→Sp g p R.right i k→Sp g p l k j→Sp g p (s :: l) i j
theorem Sp.le {g:au} {p:List Int} {l:List Int} {i j:Nat} (h:Sp g p l i j):i≤j:=by
  induction h with
  | nil=>exact Nat.le_refl _
  | term _ _ _ _ _ _ _ ih=>omega
  | bU _ _ _ _ _ _ _ _ _ _ _ ih1 ih2=>omega
theorem Sp.len {g:au} {p:List Int} {l:List Int} {i j:Nat} (h:Sp g p l i j):i≤p.length→j≤p.length:=by
  induction h with
  | nil=>exact id
  | term _ _ i _ _ hf _ ih =>
    intro _
    obtain ⟨c,hc,_⟩:=hf
    have:=(List.getElem?_eq_some_iff.1 hc).1
    exact ih (by omega)
  | bU _ _ _ _ _ _ _ _ _ _ _ ih1 ih2=>exact fun h=>ih2 (ih1 h)
theorem Sp.app {g:au} {p:List Int} {a:List Int} {i k:Nat} (h:Sp g p a i k):∀ {b:List Int} {j:Nat},Sp g p b k j→Sp g p (a ++ b) i j:=by
  induction h with
  | nil=>exact fun h=>h
  | term s l i _ h0 hf _ ih=>exact fun hb=>.term s _ i _ h0 hf (ih hb)
  | bU s l R i k _ h0 hR hl h1 _ _ ih2=>exact fun hb=>.bU s _ R i k _ h0 hR hl h1 (ih2 hb)
theorem Sp.split {g:au} {p:List Int} : ∀ {a b:List Int} {i j:Nat},Sp g p (a ++ b) i j→∃ k,Sp g p a i k∧Sp g p b k j
  | [],b,i,j,h=>⟨i,.nil i,h⟩
  | s :: a,b,i,j,h=>by
    cases h with
    | term _ _ _ _ h0 hf h =>
      obtain ⟨k,h1,h2⟩:=Sp.split h
      exact ⟨k,.term s a i k h0 hf h1,h2⟩
    | bU _ _ R _ m _ h0 hR hl h1 h =>
      obtain ⟨k,h2,h3⟩:=Sp.split h
      exact ⟨k,.bU s a R i m k h0 hR hl h1 h2,h3⟩
theorem Ia {g:au} (hr:aT g=true) {p l:List Int} {i j:Nat} (h:Sp g p l i j):i=j→da l (aH g false) false=true:=by
  induction h with
  | nil=>intro _; rfl
  | term _ _ _ _ _ _ h _=>intro e; have:=h.le; omega
  | bU s l R i k j h0 hR hl h1 h2 ih1 ih2 =>
    intro e
    have l1:=h1.le
    have l2:=h2.le
    have g1:=gz hr hR (ih1 (by omega))
    rw[hl] at g1
    have g2:=ih2 (by omega)
    simp only[da,List.all_cons,Bool.and_eq_true] at g2 ⊢
    rw[if_neg (by omega)]
    exact ⟨g1,g2⟩
def ow (g:au) (is:List Bool):Prop:=∀ i,is.getD i false=true→∃ R∈g.rules,R.left.toNat=i∧∀ (p:List Int) (k:Nat),Sp g p R.right k k
theorem AM {g:au} (hf:∀ r∈g.rules,0≤r.left) {is:List Bool} (h:ow g is):∀ l:List Int,da l is false=true→∀ (p:List Int) (k:Nat),Sp g p l k k
  | [],_,p,k=>.nil k
  | s :: l,ha,p,k=>by
    simp only[da,List.all_cons,Bool.and_eq_true] at ha
    obtain ⟨h1,h2⟩:=ha
    by_cases h0:0≤s
    · rw[if_pos h0] at h1; simp at h1
    · rw[if_neg h0] at h1
      obtain ⟨R,hR,hl,hs⟩:=h _ h1
      have:=hf R hR
      exact .bU s l R k k k (by omega) hR (by omega) (hs p k) (AM hf h l h2 p k)
theorem Db {g:au} (hr:aT g=true):ow g (aH g false):=by
  have hf:=bt hr
  have hl:=fun r hr'=>(hf.left r hr').1
  have hst:∀ (is:List Bool) (R:aZ),R∈g.rules→ow g is→ow g (cT false is R):=by
    intro is R hR h i hi
    unfold cT at hi
    split at hi
    · rename_i ha
      rcases rm hi with rfl | hi
      · exact ⟨R,hR,rfl,AM hl h R.right ha⟩
      · exact h i hi
    · exact h i hi
  have hfold:∀ (l:List aZ) (is:List Bool),(∀ R∈l,R∈g.rules)→ow g is→ow g (l.foldl (cT false) is):=by
    intro l
    induction l with
    | nil=>intro is _ h; exact h
    | cons R l ih=>intro is hl h; exact ih _ (fun x hx=>hl x (by simp[hx])) (hst is R (hl R (by simp)) h)
  have hit:∀ (n:Nat) (is:List Bool),ow g is→ow g (iter (jo g false) n is):=by
    intro n
    induction n with
    | zero=>intro is h; exact h
    | succ n ih=>intro is h; exact ih _ (hfold g.rules is (fun _ h=>h) h)
  unfold aH
  rw[if_pos hr]
  exact hit _ _ fun i hi=>by rw[qT] at hi; simp at hi
structure Item where
  bq:Nat
  dot:Nat
  b8:Nat
  deriving DecidableEq
def Sound (g:au) (p:List Int) (at_:Nat) (x:Item):Prop:=∃ R,g.rules[x.bq]?=some R∧x.dot≤R.right.length∧x.b8≤at_∧Sp g p (R.right.take x.dot) x.b8 at_
structure wP (g:au) (p:List Int) (S:Nat→List Item):Prop where
  start:∀ (i:Nat) (R:aZ),g.rules[i]?=some R→R.left=g.start→⟨i,0,0⟩∈S 0
  term:∀ a x R s,x∈S a→g.rules[x.bq]?=some R→R.right[x.dot]?=some s→0≤s→fc p a s→⟨x.bq,x.dot+1,x.b8⟩∈S (a+1)
  pred:∀ a x R s i R',x∈S a→g.rules[x.bq]?=some R→R.right[x.dot]?=some s→s < 0→g.rules[i]?=some R'→R'.left = -1 - s→a≤p.length→⟨i,0,a⟩∈S a
  null:∀ a x R s,x∈S a→g.rules[x.bq]?=some R→R.right[x.dot]?=some s→s < 0→(aH g false).getD (-1 - s).toNat false=true→a≤p.length→⟨x.bq,x.dot+1,x.b8⟩∈S a
  comp:∀ a y R' x R s,y∈S a→g.rules[y.bq]?=some R'→y.dot=R'.right.length→y.b8 < a→x∈S y.b8→g.rules[x.bq]?=some R→R.right[x.dot]?=some s→s < 0→R'.left = -1 - s→a≤p.length→⟨x.bq,x.dot+1,x.b8⟩∈S a
theorem Dz {g:au} (hr:aT g=true) {p:List Int} {S:Nat→List Item} (hc:wP g p S) {l:List Int} {a j:Nat} (h:Sp g p l a j) :
    ∀ (x:Item) (R:aZ),x∈S a→g.rules[x.bq]?=some R→R.right.drop x.dot=l→x.dot≤R.right.length→a≤p.length→⟨x.bq,R.right.length,x.b8⟩∈S j:=by
  induction h with
  | nil i =>
    intro x R hx hR hd hle _
    have:x.dot=R.right.length:=by
      have:=congrArg List.length hd
      simp at this; omega
    rw[← this]; exact hx
  | term s l i j h0 hf _ ih =>
    intro x R hx hR hd hle hp
    have hs:R.right[x.dot]?=some s:=by
      have:=congrArg (·[0]?) hd
      simpa using this
    have hlt:=(List.getElem?_eq_some_iff.1 hs).1
    have h1:=hc.term i x R s hx hR hs h0 hf
    obtain ⟨c,hc',_⟩:=hf
    have hpl:=(List.getElem?_eq_some_iff.1 hc').1
    refine ih ⟨x.bq,x.dot+1,x.b8⟩ R h1 hR ?_ hlt (by omega)
    have:=congrArg List.tail hd
    simpa using this
  | bU s l Q i k j h0 hQ hl hs1 hs2 ih1 ih2 =>
    intro x R hx hR hd hle hp
    have hs:R.right[x.dot]?=some s:=by
      have:=congrArg (·[0]?) hd
      simpa using this
    have hlt:=(List.getElem?_eq_some_iff.1 hs).1
    obtain ⟨q,hq,hqe⟩:=List.getElem_of_mem hQ
    have hq':g.rules[q]?=some Q:=by rw[List.getElem?_eq_getElem hq,hqe]
    have hpr:=hc.pred i x R s q Q hx hR hs h0 hq' hl hp
    have hdone:=ih1 ⟨q,0,i⟩ Q hpr hq' (by simp) (by simp) hp
    have hk:=hs1.len hp
    have hadv:⟨x.bq,x.dot+1,x.b8⟩∈S k:=by
      rcases Nat.lt_or_eq_of_le hs1.le with e | e
      · exact hc.comp k ⟨q,Q.right.length,i⟩ Q x R s hdone hq' rfl e hx hR hs h0 hl hk
      · subst e
        have:=gz hr hQ (Ia hr hs1 rfl)
        rw[hl] at this
        exact hc.null i x R s hx hR hs h0 this hp
    refine ih2 ⟨x.bq,x.dot+1,x.b8⟩ R hadv hR ?_ hlt hk
    have:=congrArg List.tail hd
    simpa using this
theorem F1 {g:au} (hr:aT g=true) {p:List Int} {S:Nat→List Item} (hc:wP g p S) (hs:∀ a x,x∈S a→Sound g p a x) :
    (∃ x∈S p.length,∃ R,g.rules[x.bq]?=some R∧R.left=g.start∧x.b8=0∧x.dot=R.right.length)↔Sp g p [-1 - g.start] 0 p.length:=by
  have hf:=bt hr
  have h0:=hf.qw
  constructor
  · rintro ⟨x,hx,R,hR,hl,hfr,hd⟩
    obtain ⟨R',hR',_,_,hsp⟩:=hs _ x hx
    rw[hR] at hR'; simp at hR'; subst hR'
    rw[hd,List.take_length,hfr] at hsp
    exact .bU _ _ R 0 p.length p.length (by omega) (List.mem_of_getElem? hR) (by omega) hsp (.nil _)
  · intro h
    cases h with
    | term _ _ _ _ h1 _ _=>omega
    | bU _ _ R _ k _ h1 hR hl hsp hn =>
      cases hn
      obtain ⟨q,hq,hqe⟩:=List.getElem_of_mem hR
      have hq':g.rules[q]?=some R:=by rw[List.getElem?_eq_getElem hq,hqe]
      have:=Dz hr hc hsp ⟨q,0,0⟩ R (hc.start q R hq' (by omega)) hq' (by simp) (by simp) (by omega)
      exact ⟨_,this,R,hq',by omega,rfl,rfl⟩
inductive In (p:List Int) (T:Nat→Nat→Nat→Prop):List Int→Nat→Nat→Prop
  | nil (i:Nat):In p T [] i i
  | term (s:Int) (l:List Int) (i j:Nat):0≤s→fc p i s→In p T l (i+1) j→In p T (s :: l) i j
  | bU (s:Int) (l:List Int) (i k j:Nat):s < 0→T (-1 - s).toNat i k→In p T l k j→In p T (s :: l) i j
theorem Hw {g:au} {p:List Int} {T:Nat→Nat→Nat→Prop} (hT:∀ n i j,T n i j→Sp g p [-1 - (n:Int)] i j) {l:List Int} {i j:Nat} (h:In p T l i j):Sp g p l i j:=by
  induction h with
  | nil i=>exact .nil i
  | term s l i j h0 hf _ ih=>exact .term s l i j h0 hf ih
  | bU s l i k j h0 h1 _ ih =>
    have:=hT _ _ _ h1
    rw[show -1 - (((-1 - s).toNat:Nat):Int)=s by omega] at this
    exact Sp.app this ih
theorem Jl {g:au} (hf:∀ r∈g.rules,0≤r.left) {p:List Int} {T:Nat→Nat→Nat→Prop} (hT:∀ R∈g.rules,∀ i j,i≤p.length→In p T R.right i j→T R.left.toNat i j) {l:List Int} {i j:Nat} (h:Sp g p l i j):i≤p.length→In p T l i j:=by
  induction h with
  | nil i=>intro _; exact .nil i
  | term s l i j h0 hfi _ ih =>
    intro _
    obtain ⟨c,hc,hcs⟩:=hfi
    have:=(List.getElem?_eq_some_iff.1 hc).1
    exact .term s l i j h0 ⟨c,hc,hcs⟩ (ih (by omega))
  | bU s l R i k j h0 hR hl h1 _ ih1 ih2 =>
    intro hp
    have:=hT R hR i k hp (ih1 hp)
    rw[hl] at this
    exact .bU s l i k j h0 this (ih2 (h1.len hp))
theorem Fq {g:au} (hf:∀ r∈g.rules,0≤r.left) {p:List Int} {T:Nat→Nat→Nat→Prop} (hs:∀ n i j,T n i j→Sp g p [-1 - (n:Int)] i j) (hc:∀ R∈g.rules,∀ i j,i≤p.length→In p T R.right i j→T R.left.toNat i j) {n i j:Nat} (hi:i≤p.length) :
    T n i j↔Sp g p [-1 - (n:Int)] i j:=by
  refine ⟨hs n i j,fun h=>?_⟩
  cases h with
  | term _ _ _ _ h0 _ _=>omega
  | bU _ _ R _ k _ h0 hR hl h1 h2 =>
    cases h2
    have:=hc R hR i _ hi (Jl hf hc h1 hi)
    rw[show R.left.toNat=n by omega] at this
    exact this
end Gv
set_option linter.unusedSimpArgs false
namespace Gv
open Go Go.Proofs
theorem In.app {p:List Int} {T:Nat→Nat→Nat→Prop} {a:List Int} {i k:Nat} (h:In p T a i k):∀ {b:List Int} {j:Nat},In p T b k j→In p T (a ++ b) i j:=by
  induction h with
  | nil=>exact fun h=>h
  | term s l i _ h0 hf _ ih=>exact fun hb=>.term s _ i _ h0 hf (ih hb)
  | bU s l i k _ h0 h1 _ ih=>exact fun hb=>.bU s _ i k _ h0 h1 (ih hb)
theorem In.split {p:List Int} {T:Nat→Nat→Nat→Prop} : ∀ {a b:List Int} {i j:Nat},In p T (a ++ b) i j→∃ k,In p T a i k∧In p T b k j
  | [],b,i,j,h=>⟨i,.nil i,h⟩
  | s :: a,b,i,j,h=>by
    cases h with
    | term _ _ _ _ h0 hf h =>
      obtain ⟨k,h1,h2⟩:=In.split h
      exact ⟨k,.term s a i k h0 hf h1,h2⟩
    | bU _ _ _ m _ h0 h1 h =>
      obtain ⟨k,h2,h3⟩:=In.split h
      exact ⟨k,.bU s a i m k h0 h1 h2,h3⟩
theorem In.le {p:List Int} {T:Nat→Nat→Nat→Prop} (hT:∀ n i j,T n i j→i≤j) {l:List Int} {i j:Nat} (h:In p T l i j):i≤j:=by
  induction h with
  | nil=>exact Nat.le_refl _
  | term _ _ _ _ _ _ _ ih=>omega
  | bU _ _ _ _ _ _ h1 _ ih=>have:=hT _ _ _ h1; omega
def stepT (p:List Int) (T:Nat→Nat→Nat→Prop) (s:Int) (i j:Nat):Prop:=if 0≤s then fc p i s∧j=i+1 else T (-1 - s).toNat i j
theorem In.one {p:List Int} {T:Nat→Nat→Nat→Prop} {s:Int} {i j:Nat} : In p T [s] i j↔stepT p T s i j:=by
  unfold stepT
  constructor
  · intro h
    cases h with
    | term _ _ _ _ h0 hf h=>cases h; rw[if_pos h0]; exact ⟨hf,rfl⟩
    | bU _ _ _ _ _ h0 h1 h=>cases h; rw[if_neg (by omega)]; exact h1
  · intro h
    by_cases h0:0≤s
    · rw[if_pos h0] at h
      obtain ⟨hf,rfl⟩:=h
      exact .term s [] i _ h0 hf (.nil _)
    · rw[if_neg h0] at h
      exact .bU s [] i j j (by omega) h (.nil _)
theorem In.snoc {p:List Int} {T:Nat→Nat→Nat→Prop} {a:List Int} {s:Int} {i j:Nat} : In p T (a ++ [s]) i j↔∃ k,In p T a i k∧stepT p T s k j :=
  ⟨fun h=>by obtain ⟨k,h1,h2⟩:=h.split; exact ⟨k,h1,In.one.1 h2⟩,fun ⟨k,h1,h2⟩=>h1.app (In.one.2 h2)⟩
abbrev Tb:=List (List (List Bool))
def dM (T:Tb) (n i j:Nat):Bool:=((T.getD n []).getD i []).getD j false
def fa (T:Tb) (N M:Nat):Prop:=T.length=N∧∀ r∈T,r.length=M∧∀ c∈r,c.length=M
theorem fa.row {T:Tb} {N M n:Nat} (h:fa T N M) (hn:n < N):∃ r,T[n]?=some r∧r.length=M∧T.getD n []=r:=by
  have:n < T.length:=by rw[h.1]; exact hn
  exact ⟨T[n],List.getElem?_eq_getElem this,(h.2 _ (List.getElem_mem _)).1,by simp[List.getD_eq_getElem?_getD,this]⟩
theorem fa.cell {T:Tb} {N M n i:Nat} (h:fa T N M) (hn:n < N) (hi:i < M):∃ r c,T[n]?=some r∧r[i]?=some c∧c.length=M∧(T.getD n []).getD i []=c:=by
  obtain ⟨r,hr,hl,hg⟩:=h.row hn
  have h1:i < r.length:=by omega
  refine ⟨r,r[i],hr,List.getElem?_eq_getElem h1,(h.2 r (List.mem_of_getElem? hr)).2 _ (List.getElem_mem _),?_⟩
  rw[hg]; simp[List.getD_eq_getElem?_getD,h1]
def jS (T:Tb) (n i j:Nat):Tb:=T.set n ((T.getD n []).set i (((T.getD n []).getD i []).set j true))
def tE (N M:Nat):Tb:=List.replicate N (List.replicate M (List.replicate M false))
theorem BS (N M:Nat):fa (tE N M) N M:=by
  refine ⟨by simp[tE],fun r hr=>?_⟩
  simp only[tE,List.mem_replicate] at hr
  obtain ⟨_,rfl⟩:=hr
  refine ⟨by simp,fun c hc=>?_⟩
  simp only[List.mem_replicate] at hc
  obtain ⟨_,rfl⟩:=hc
  simp
theorem Im (N M n i j:Nat):dM (tE N M) n i j=false:=by
  simp only[dM,tE,List.getD_eq_getElem?_getD,List.getElem?_replicate]
  split
  · simp only[Option.getD_some,List.getElem?_replicate]
    split
    · simp only[Option.getD_some,List.getElem?_replicate]
      split <;> rfl
    · rfl
  · rfl
theorem GO {T:Tb} {N M n i j:Nat} (h:fa T N M) (hn:n < N) (hi:i < M):fa (jS T n i j) N M:=by
  obtain ⟨r,c,hr,hc,hcl,hg⟩:=h.cell hn hi
  obtain ⟨r',hr',hrl,hg'⟩:=h.row hn
  rw[hr] at hr'; simp at hr'; subst hr'
  refine ⟨by simp[jS,h.1],fun x hx=>?_⟩
  rw[jS,hg',] at hx
  rcases List.mem_or_eq_of_mem_set hx with hx | rfl
  · exact h.2 x hx
  · refine ⟨by simp[hrl],fun y hy=>?_⟩
    rcases List.mem_or_eq_of_mem_set hy with hy | rfl
    · exact (h.2 r (List.mem_of_getElem? hr)).2 y hy
    · rw[hg'] at hg
      rw[hg]; simp[hcl]
theorem GI {T:Tb} {N M n i j n' i' j':Nat} (h:fa T N M) (hn:n < N) (hi:i < M) (hj:j < M):dM (jS T n i j) n' i' j'=if n'=n∧i'=i∧j'=j then true else dM T n' i' j':=by
  obtain ⟨r,c,hr,hc,hcl,hg⟩:=h.cell hn hi
  obtain ⟨r',hr',hrl,hg'⟩:=h.row hn
  rw[hr] at hr'; simp at hr'; subst hr'
  have hT:n < T.length:=by rw[h.1]; exact hn
  have hi':i < r.length:=by omega
  have hj':j < c.length:=by omega
  rw[hg'] at hg
  have hcc:r.getD i []=c:=hg
  simp only[dM,jS,hg',hcc]
  by_cases e1:n'=n
  · subst e1
    have a1:(T.set n' (r.set i (c.set j true))).getD n' []=r.set i (c.set j true):=by simp[List.getD_eq_getElem?_getD,hT]
    rw[a1,hg']
    by_cases e2:i'=i
    · subst e2
      have a2:(r.set i' (c.set j true)).getD i' []=c.set j true:=by simp[List.getD_eq_getElem?_getD,hi']
      rw[a2,hcc]
      by_cases e3:j'=j
      · subst e3
        rw[if_pos ⟨rfl,rfl,rfl⟩]
        simp[List.getD_eq_getElem?_getD,hj']
      · rw[if_neg (fun e=>e3 e.2.2)]
        simp[List.getD_eq_getElem?_getD,List.getElem?_set,Ne.symm e3]
    · rw[if_neg (fun e=>e2 e.2.1)]
      simp[List.getD_eq_getElem?_getD,List.getElem?_set,Ne.symm e2]
  · rw[if_neg (fun e=>e1 e.1)]
    simp[List.getD_eq_getElem?_getD,List.getElem?_set,Ne.symm e1]
end Gv
set_option linter.unusedSimpArgs false
set_option maxRecDepth 100000
namespace Gv
open Go Go.Proofs
def eU (p:List Int) (T:Tb) (s:Int) (a j:Nat):Bool :=
  if 0≤s then decide (a < p.length) && (p.getD a 0 == s || p.getD a 0 == -1) && decide (j=a+1) else decide (a≤j) && dM T (-1 - s).toNat a j
def cH (p:List Int) (T:Tb) (s:Int) (now:List Bool) (f a0 j:Nat):Bool:=(List.range a0).any fun a=>decide (f≤a) && now.getD a false && eU p T s a j
def di (M:Nat) (F:Nat→Bool):List Bool:=(List.range M).map F
def iC (p:List Int) (T:Tb) (f:Nat) (now:List Bool) (s:Int):List Bool:=di (p.length+1) (cH p T s now f (p.length+1))
def fR (p:List Int) (T:Tb) (l:List Int) (f:Nat):List Bool:=l.foldl (iC p T f) (di (p.length+1) fun j=>decide (j=f))
theorem fF (M:Nat) (F:Nat→Bool):(di M F).length=M:=by simp[di]
theorem zj {M j:Nat} {F:Nat→Bool} (h:j < M):(di M F).getD j false=F j:=by simp[di,List.getD_eq_getElem?_getD,h]
theorem Cl {M i:Nat} {F:Nat→Bool} (v:Bool):(di M F).set i v=di M fun j=>if j=i then v else F j:=by
  apply List.ext_getElem (by simp[di])
  intro j h1 h2
  simp only[di,List.length_map,List.length_range] at h2
  simp only[di,List.getElem_set,List.getElem_map,List.getElem_range]
  by_cases e:i=j
  · subst e; simp
  · rw[if_neg e,if_neg (Ne.symm e)]
theorem gh {M:Nat} {F G:Nat→Bool} (h:∀ j,j < M→F j=G j):di M F=di M G:=by
  unfold di
  apply List.map_congr_left
  intro j hj
  exact h j (by simpa using hj)
theorem tu (p:List Int) (T:Tb) (f:Nat):∀ (l:List Int) (now:List Bool),now.length=p.length+1→(l.foldl (iC p T f) now).length=p.length+1
  | [],_,h=>h
  | s :: l,now,_=>tu p T f l _ (by rw[iC,fF])
theorem yS (p:List Int) (T:Tb) (l:List Int) (f:Nat):(fR p T l f).length=p.length+1:=tu p T f l _ (fF _ _)
theorem DK (p:List Int) (T:Tb) (s:Int) (now:List Bool) (f a j:Nat):cH p T s now f (a+1) j=(cH p T s now f a j || (decide (f≤a) && now.getD a false && eU p T s a j)):=by
  simp[cH,List.range_succ]
theorem Bt (p:List Int) (T:Tb) (s:Int) (now:List Bool) (f j:Nat):cH p T s now f f j=false:=by
  simp only[cH,List.any_eq_false,List.mem_range]
  intro a ha
  rw[decide_eq_false (by omega)]; simp
def iE (T:Tb):V:=.aY (T.map fun r=>[.aY (r.map fun c=>[cE c])])
theorem C8 (T:Tb):Tree (iE T):=fq _ _ fun r _ v hv=>by
  simp at hv; subst hv
  exact fq _ _ fun c _ v hv=>by simp at hv; subst hv; exact oK c
def kc:SC :=
  .seq (.seq (al [aa 75 13,aa 76 1,aI 77 76,aK 78 .leq 75 77]) <|
  .cond (.tmp 78) (.skip) (.exit 4)) <|
  .seq (.block 5 (.region false [⟨none,[aa 81 11,aa 82 13,aa 83 11,aa 84 13,aX 85 1 83 84,ao 86 85,aa 87 86]⟩,⟨(some (87,false)),[aa 88 2,aa 89 0,aa 90 10,aX 91 1 89 90,ao 92 91,((some 93),.op (.arith .sub (.val (.val (.int .i64 (-1)))) (.tmp 92))),aX 94 1 88 93,ao 95 94,aa 96 12,aX 97 1 95 96,ao 98 97,aa 99 13,aX 100 1 98 99,ao 101 100]⟩,⟨none,[bf 102 87 101,aX 103 1 81 82,(none,.op (.store 1 (.tmp 103) (.tmp 102)))]⟩])) <|
  al [aa 79 13,ax 80 .add 79 1,aa 13 80]
def j5:SC :=
  .seq (.seq (al [aa 32 12,aa 33 1,aI 34 33,aK 35 .leq 32 34]) <|
  .cond (.tmp 35) (.skip) (.exit 2)) <|
  .seq (.block 3 (.seq (.seq (al [aa 38 9,aa 39 12,aX 40 1 38 39,ao 41 40,bQ 42 41]) <|
  .cond (.tmp 42) (.exit 3) (.skip)) <|
  .seq (.seq (al [aa 43 0,aa 44 10,aX 45 1 43 44,ao 46 45,ax 47 .geq 46 0]) <|
  .cond (.tmp 47) (.seq (.seq (.region false [⟨none,[aa 48 12,aa 49 1,aI 50 49,aK 51 .lss 48 50,aa 52 51]⟩,⟨(some (52,true)),[aa 53 1,aa 54 12,aX 55 1 53 54,ao 56 55,aa 57 0,aa 58 10,aX 59 1 57 58,ao 60 59,aK 61 .eql 56 60,aa 62 61]⟩,⟨(some (62,false)),[aa 63 1,aa 64 12,aX 65 1 63 64,ao 66 65,ax 67 .eql 66 (-1)]⟩,⟨(some (52,true)),[bf 68 62 67]⟩,⟨none,[bk 69 52 68]⟩]) <|
  .cond (.tmp 69) (al [aa 70 11,aa 71 12,ax 72 .add 71 1,aX 73 1 70 72,(none,.op (.store 1 (.tmp 73) (.val (.val (.bool true)))))]) (.skip)) <|
  .exit 3) (.skip)) <|
  .seq (al [aa 74 12,aa 13 74]) <|
  .block 4 (.loop kc))) <|
  al [aa 36 12,ax 37 .add 36 1,aa 12 37]
def j9:SC :=
  .seq (.seq (al [aa 21 10,aa 22 0,aI 23 22,aK 24 .lss 21 23]) <|
  .cond (.tmp 24) (.skip) (.exit 0)) <|
  .seq (.block 1 (.seq (al [aa 27 1,aI 28 27,ax 29 .add 28 1,((some 30),.op (.make 1 1 [(.val (.bool false))] (.tmp 29) (.tmp 29))),aa 11 30]) <|
  .seq (.seq (al [aa 31 3,aa 12 31]) <|
  .block 2 (.loop j5)) <|
  al [aa 104 11,aa 9 104])) <|
  al [aa 25 10,ax 26 .add 25 1,aa 10 26]
def lR:SF:=⟨.seq (al [((some 8),.op (.bg (.val (.emp 1))))]) <|
  .seq (al [aa 14 1,aI 15 14,ax 16 .add 15 1,((some 17),.op (.make 1 1 [(.val (.bool false))] (.tmp 16) (.tmp 16))),aa 9 17]) <|
  .seq (al [aa 18 9,aa 19 3,aX 20 1 18 19,(none,.op (.store 1 (.tmp 20) (.val (.val (.bool true)))))]) <|
  .seq (.seq (al [aG 10 0]) <|
  .block 0 (.loop j9)) <|
  .seq (al [aa 105 9,aa 8 105]) <|
  .ret,
  [.tmp 8],106⟩
theorem pU:aR Tryz.prog 71 []=some lR:=by kernel_rfl
theorem m5 {l:List Bool} {i:Nat} (h:i < l.length):(bw l).getD i []=[gb (l.getD i false)]:=by simp[List.getD_eq_getElem?_getD,h]
set_option maxHeartbeats 4000000 in
theorem HY (l p:List Int) (T:Tb) (f N:Nat) (hl:aL l) (hp:p.length≤1000) (hT:fa T N (p.length+1)) (hf:f≤p.length) (hn:∀ x∈l,bJ x∧(x < 0→-1 - x < N)) :
    cG Tryz.prog 71 [encI l,encI p,iE T,gi f] (cE (fR p T l f)):=by
  unfold aL at hl
  have hM:((p.length:Int)+1).toNat=p.length+1:=by omega
  refine cG.of (by
    intro v hv; simp at hv
    rcases hv with rfl | rfl | rfl | rfl
    · exact cn l
    · exact cn p
    · exact C8 T
    · exact .val _) ?_
  refine aB.of mixed pU ?_
  simp (disch:=omega) only [↓wr,↓reduceIte,wq,ai,ah,ak,ae,af,ag,aj,isNil,Nat.reduceEqDiff,Nat.reduceAdd,Nat.reduceLT,Nat.reduceLeDiff,Int.reduceNeg,Int.reduceToNat,reduceCtorEq,lR,encI]
  refine ⟨⟨by omega,by unfold aM; omega,by unfold aM; omega⟩,fun h=>by omega,?_⟩
  intro _ b
  try simp (disch:=omega) only [↓wr,↓reduceIte,wq,ai,ah,ak,ae,af,ag,aj,isNil,Nat.reduceEqDiff,Nat.reduceAdd,Nat.reduceLT,Nat.reduceLeDiff,Int.reduceNeg,Int.reduceToNat,reduceCtorEq,encI]
  refine ⟨by omega,by simp; omega,?_⟩
  have hinit:(List.replicate (p.length+1) [gb false]).set f [gb true]=bw (di (p.length+1) fun j=>decide (j=f)):=by
    rw[show List.replicate (p.length+1) [gb false]=bw (List.replicate (p.length+1) false) by simp,jg]
    congr 1
    apply List.ext_getElem (by simp[di])
    intro j h1 h2
    simp only[di,List.getElem_set,List.getElem_replicate,List.getElem_map,List.getElem_range]
    by_cases e:f=j
    · subst e; simp
    · rw[if_neg e]; simp[Ne.symm e]
  refine bo.up l.length (fun q T' H'=>∃ (b:Nat),T' 9=.sl b 0 (p.length+1) 1∧H' b=.arr 1 (bw ((l.take q).foldl (iC p T f) (di (p.length+1) fun j=>decide (j=f))))∧T' 0=encI l∧T' 1=encI p∧T' 2=iE T∧T' 3=gi f∧T' 10=gi q) ?_ ?_
  · refine ⟨b,rfl,?_,rfl,rfl,rfl,rfl,rfl⟩
    simp only[View.set,if_true]
    rw[List.getD_eq_getElem?_getD,List.getElem?_replicate,if_pos (by omega)]
    rw[List.take_zero,List.foldl_nil,← hinit]; rfl
  rintro q k T' H hk ⟨b,t9,hb,t0,t1,t2,t3,t10⟩
  have hnl:=tu p T f (l.take q) (di (p.length+1) fun j=>decide (j=f)) (fF _ _)
  have hfold:∀ x,l[q]?=some x→(l.take (q+1)).foldl (iC p T f) (di (p.length+1) fun j=>decide (j=f))=iC p T f ((l.take q).foldl (iC p T f) (di (p.length+1) fun j=>decide (j=f))) x:=fun x hx=>by
    rw[List.take_add_one,hx,List.foldl_append]; rfl
  simp (disch:=omega) only [↓wr,↓reduceIte,wq,ai,ah,ak,ae,af,ag,aj,isNil,Nat.reduceEqDiff,Nat.reduceAdd,Nat.reduceLT,Nat.reduceLeDiff,Int.reduceNeg,Int.reduceToNat,reduceCtorEq,j9,t0,t1,t2,t3,t9,t10,encI]
  refine an.dec (fun hc=>?_) (fun hc=>?_)
  · have hg:l[q]?=some (l[q]'(by omega)):=List.getElem?_eq_getElem (by omega)
    have hmem:l[q]'(by omega)∈l:=List.getElem_mem _
    have hf2:=hfold _ hg
    generalize l[q]'(by omega)=s at hg hmem hf2
    generalize (l.take q).foldl (iC p T f) (di (p.length+1) fun j=>decide (j=f))=now at hb hnl hf2
    obtain ⟨⟨hs1,hs2⟩,hs3⟩:=hn s hmem
    simp (disch:=omega) only [↓wr,↓reduceIte,wq,ai,ah,ak,ae,af,ag,aj,isNil,Nat.reduceEqDiff,Nat.reduceAdd,Nat.reduceLT,Nat.reduceLeDiff,Int.reduceNeg,Int.reduceToNat,reduceCtorEq,t0,t1,t2,t3,t9,t10,encI]
    refine ⟨⟨by omega,by unfold aM; omega,by unfold aM; omega⟩,fun h=>by omega,?_⟩
    intro _ d hd
    have hbd:b≠d:=by rintro rfl; rw[hb] at hd; simp at hd
    try simp (disch:=omega) only [↓wr,↓reduceIte,wq,ai,ah,ak,ae,af,ag,aj,isNil,Nat.reduceEqDiff,Nat.reduceAdd,Nat.reduceLT,Nat.reduceLeDiff,Int.reduceNeg,Int.reduceToNat,reduceCtorEq,t0,t1,t2,t3,t9,t10,encI]
    refine bo.up (p.length+1 - f) (fun i T' H'=>H' b=.arr 1 (bw now)∧H' d=.arr 1 (bw (di (p.length+1) (cH p T s now f (f+i))))∧T' 9=.sl b 0 (p.length+1) 1∧T' 11=.sl d 0 (p.length+1) 1∧T' 0=encI l∧T' 1=encI p∧T' 2=iE T∧T' 3=gi f∧T' 10=gi q∧T' 12=gi ((f+i:Nat):Int)) ?_ ?_
    · refine ⟨by simp[View.set,hbd,hb],?_,t9,rfl,t0,t1,t2,t3,t10,rfl⟩
      simp only[View.set,if_true]
      rw[hM,show List.replicate (p.length+1) [V.val (Value.bool false)]=bw (List.replicate (p.length+1) false) by simp]
      congr 2
      apply List.ext_getElem (by simp[di])
      intro j h1 h2
      simp only[di,List.getElem_replicate,List.getElem_map,List.getElem_range]
      rw[Nat.add_zero,Bt]
    clear hd hb t0 t1 t2 t3 t9 t10
    rintro i m T' H hm ⟨hb,hd,t9,t11,t0,t1,t2,t3,t10,t12⟩
    simp (disch:=omega) only [↓wr,↓reduceIte,wq,ai,ah,ak,ae,af,ag,aj,isNil,Nat.reduceEqDiff,Nat.reduceAdd,Nat.reduceLT,Nat.reduceLeDiff,Int.reduceNeg,Int.reduceToNat,reduceCtorEq,j5,t0,t1,t2,t3,t9,t10,t11,t12,encI]
    refine an.dec (fun hc2=>?_) (fun hc2=>?_)
    · have hgn:=m5 (l:=now) (i:=f+i) (by omega)
      simp (disch:=omega) only [↓wr,↓reduceIte,wq,ai,ah,ak,ae,af,ag,aj,isNil,Nat.reduceEqDiff,Nat.reduceAdd,Nat.reduceLT,Nat.reduceLeDiff,Int.reduceNeg,Int.reduceToNat,reduceCtorEq,t0,t1,t2,t3,t9,t10,t11,t12,hb,hgn]
      refine ⟨by omega,by omega,?_⟩
      have hpb:=DK p T s now f (f+i)
      rw[decide_eq_true (show f≤f+i by omega),Bool.true_and] at hpb
      have hdd:∀ j,(fun j=>cH p T s now f (f+i) j) j=cH p T s now f (f+i) j:=fun _=>rfl
      generalize now.getD (f+i) false=bn at hpb
      refine an.split (fun hbn=>?_) (fun hbn=>?_)
      · subst hbn
        simp only[Bool.true_and] at hpb
        simp (disch:=omega) only [↓wr,↓reduceIte,wq,ai,ah,ak,ae,af,ag,aj,isNil,Nat.reduceEqDiff,Nat.reduceAdd,Nat.reduceLT,Nat.reduceLeDiff,Int.reduceNeg,Int.reduceToNat,reduceCtorEq,t0,t1,t2,t3,t9,t10,t11,t12,encI,List.getElem?_map,hg]
        refine an.dec (fun hs0=>?_) (fun hs0=>?_)
        · have hst:∀ j,eU p T s (f+i) j=(decide (f+i < p.length) && (p.getD (f+i) 0 == s || p.getD (f+i) 0 == -1) && decide (j=f+i+1)):=fun j=>by rw[eU,if_pos (show 0≤s from hs0)]
          simp (disch:=omega) only [↓wr,↓reduceIte,wq,ai,ah,ak,ae,af,ag,aj,isNil,Nat.reduceEqDiff,Nat.reduceAdd,Nat.reduceLT,Nat.reduceLeDiff,Int.reduceNeg,Int.reduceToNat,reduceCtorEq,t0,t1,t2,t3,t9,t10,t11,t12,encI]
          refine an.dec (fun ha=>?_) (fun ha=>?_)
          · have hgp:p[f+i]?=some (p.getD (f+i) 0):=by simp[List.getD_eq_getElem?_getD,show f+i < p.length by omega]
            generalize p.getD (f+i) 0=c at hgp hst
            have hset:∀ v:Bool,(bw (di (p.length+1) (cH p T s now f (f+i)))).set (f+i+1) [gb v]=bw (di (p.length+1) fun j=>if j=f+i+1 then v else cH p T s now f (f+i) j):=fun v=>by rw[jg,Cl]
            have hgd:=m5 (l:=di (p.length+1) (cH p T s now f (f+i))) (i:=f+i+1) (by rw[fF]; omega)
            have hup:(c=s∨c = -1)→bw (di (p.length+1) (cH p T s now f (f+(i+1))))=bw (di (p.length+1) fun j=>if j=f+i+1 then true else cH p T s now f (f+i) j):=fun hcs=>by
              congr 1
              refine gh fun j _=>?_
              rw[← Nat.add_assoc,hpb,hst]
              by_cases e:j=f+i+1
              · rw[if_pos e,decide_eq_true (show f+i < p.length by omega),decide_eq_true e]
                rcases hcs with h | h <;> simp[h]
              · rw[if_neg e,decide_eq_false e]; simp
            have hno:¬ (c=s∨c = -1)→bw (di (p.length+1) (cH p T s now f (f+(i+1))))=bw (di (p.length+1) (cH p T s now f (f+i))):=fun hcs=>by
              congr 1
              refine gh fun j _=>?_
              rw[← Nat.add_assoc,hpb,hst,show (c == s || c == -1)=false by simp; omega]; simp
            have eat:((f+i:Nat):Int)+1=((f+i+1:Nat):Int):=by omega
            have ga:∀ {T2:Env} {H2:View},T2 9=.sl b 0 (p.length+1) 1→T2 11=.sl d 0 (p.length+1) 1→T2 0=encI l→T2 1=encI p→T2 2=iE T→T2 3=gi f→T2 10=gi q→T2 12=gi (((f+i:Nat):Int)+1)→H2 b=.arr 1 (bw now)→H2 d=.arr 1 (bw (di (p.length+1) (cH p T s now f (f+(i+1))))) →
                ∃ k',k' < m∧BM (p.length+1 - f) k' (fun i T' H'=>H' b=.arr 1 (bw now)∧H' d=.arr 1 (bw (di (p.length+1) (cH p T s now f (f+i))))∧T' 9=.sl b 0 (p.length+1) 1∧T' 11=.sl d 0 (p.length+1) 1∧T' 0=encI l∧T' 1=encI p∧T' 2=iE T∧T' 3=gi f∧T' 10=gi q∧T' 12=gi ((f+i:Nat):Int)) T2 H2:=fun a9 a11 a0 a1 a2 a3 a10 a12 ab ad=>bb hm (by omega) ⟨ab,ad,a9,a11,a0,a1,a2,a3,a10,by rw[a12]; rfl⟩
            simp (disch:=omega) only [↓wr,↓reduceIte,wq,ai,ah,ak,ae,af,ag,aj,isNil,Nat.reduceEqDiff,Nat.reduceAdd,Nat.reduceLT,Nat.reduceLeDiff,Int.reduceNeg,Int.reduceToNat,reduceCtorEq,t0,t1,t2,t3,t9,t10,t11,t12,encI,List.getElem?_map,hg,hgp]
            refine an.eq (fun hcs=>?_) (fun hcs=>?_)
            · simp (disch:=omega) only [↓wr,↓reduceIte,wq,ai,ah,ak,ae,af,ag,aj,isNil,Nat.reduceEqDiff,Nat.reduceAdd,Nat.reduceLT,Nat.reduceLeDiff,Int.reduceNeg,Int.reduceToNat,reduceCtorEq,t0,t1,t2,t3,t9,t10,t11,t12,eat,hd]
              refine ⟨by omega,by rw[fF]; omega,?_⟩
              refine ga t9 t11 t0 t1 t2 t3 t10 rfl (by simp[View.set,hbd,hb]) ?_
              simp only[View.set,if_true]
              rw[hgd,hup (.inl hcs),← hset true]; rfl
            · simp (disch:=omega) only [↓wr,↓reduceIte,wq,ai,ah,ak,ae,af,ag,aj,isNil,Nat.reduceEqDiff,Nat.reduceAdd,Nat.reduceLT,Nat.reduceLeDiff,Int.reduceNeg,Int.reduceToNat,reduceCtorEq,t0,t1,t2,t3,t9,t10,t11,t12,encI,List.getElem?_map,hg,hgp]
              refine an.eq (fun hcm=>?_) (fun hcm=>?_)
              · simp (disch:=omega) only [↓wr,↓reduceIte,wq,ai,ah,ak,ae,af,ag,aj,isNil,Nat.reduceEqDiff,Nat.reduceAdd,Nat.reduceLT,Nat.reduceLeDiff,Int.reduceNeg,Int.reduceToNat,reduceCtorEq,t0,t1,t2,t3,t9,t10,t11,t12,eat,hd]
                refine ⟨by omega,by rw[fF]; omega,?_⟩
                refine ga t9 t11 t0 t1 t2 t3 t10 rfl (by simp[View.set,hbd,hb]) ?_
                simp only[View.set,if_true]
                rw[hgd,hup (.inr hcm),← hset true]; rfl
              · simp (disch:=omega) only [↓wr,↓reduceIte,wq,ai,ah,ak,ae,af,ag,aj,isNil,Nat.reduceEqDiff,Nat.reduceAdd,Nat.reduceLT,Nat.reduceLeDiff,Int.reduceNeg,Int.reduceToNat,reduceCtorEq,t0,t1,t2,t3,t9,t10,t11,t12]
                exact ga t9 t11 t0 t1 t2 t3 t10 rfl hb (by rw[hno (by omega)]; exact hd)
          · simp (disch:=omega) only [↓wr,↓reduceIte,wq,ai,ah,ak,ae,af,ag,aj,isNil,Nat.reduceEqDiff,Nat.reduceAdd,Nat.reduceLT,Nat.reduceLeDiff,Int.reduceNeg,Int.reduceToNat,reduceCtorEq,t0,t1,t2,t3,t9,t10,t11,t12]
            refine bb hm (by omega) ⟨hb,?_,t9,t11,t0,t1,t2,t3,t10,rfl⟩
            rw[hd,← Nat.add_assoc]
            refine congrArg (fun l=>br.arr 1 (bw l)) (gh fun j _=>?_)
            rw[hpb,hst,decide_eq_false (show ¬ f+i < p.length by omega)]; simp
        · have hsn : -1 - s < N:=hs3 (by omega)
          obtain ⟨row,cell,hrow,hcell,hcl,hcg⟩:=hT.cell (n:=(-1 - s).toNat) (i:=f+i) (by omega) (by omega)
          have hst:∀ j,eU p T s (f+i) j=(decide (f+i≤j) && cell.getD j false):=fun j=>by
            rw[eU,if_neg (show ¬ 0≤s from hs0),dM,hcg]
          simp (disch:=omega) only [↓wr,↓reduceIte,wq,ai,ah,ak,ae,af,ag,aj,isNil,Nat.reduceEqDiff,Nat.reduceAdd,Nat.reduceLT,Nat.reduceLeDiff,Int.reduceNeg,Int.reduceToNat,reduceCtorEq,t0,t1,t2,t3,t9,t10,t11,t12]
          refine bo.up (p.length+1 - (f+i)) (fun r T' H'=>H' b=.arr 1 (bw now)∧H' d=.arr 1 (bw (di (p.length+1) fun j=>cH p T s now f (f+i) j || (decide (j < f+i+r) && eU p T s (f+i) j)))∧T' 9=.sl b 0 (p.length+1) 1∧T' 11=.sl d 0 (p.length+1) 1∧T' 0=encI l∧T' 1=encI p∧T' 2=iE T∧T' 3=gi f∧T' 10=gi q∧T' 12=gi ((f+i:Nat):Int)∧T' 13=gi ((f+i+r:Nat):Int)) ?_ ?_
          · refine ⟨hb,?_,t9,t11,t0,t1,t2,t3,t10,t12,rfl⟩
            rw[hd]
            refine congrArg (fun l=>br.arr 1 (bw l)) (gh fun j _=>?_)
            rw[hst]
            by_cases e:j < f+i
            · rw[decide_eq_false (show ¬ f+i≤j by omega)]; simp
            · rw[decide_eq_false (show ¬ j < f+i+0 by omega)]; simp
          clear hd hb t0 t1 t2 t3 t9 t10 t11 t12
          rintro r u T' H hu ⟨hb,hd,t9,t11,t0,t1,t2,t3,t10,t12,t13⟩
          simp (disch:=omega) only [↓wr,↓reduceIte,wq,ai,ah,ak,ae,af,ag,aj,isNil,Nat.reduceEqDiff,Nat.reduceAdd,Nat.reduceLT,Nat.reduceLeDiff,Int.reduceNeg,Int.reduceToNat,reduceCtorEq,kc,t0,t1,t2,t3,t9,t10,t11,t12,t13,encI]
          refine an.dec (fun hc3=>?_) (fun hc3=>?_)
          · have hF:∀ j,(cH p T s now f (f+i) j || (decide (j < f+i+(r+1)) && eU p T s (f+i) j))=if j=f+i+r then (cH p T s now f (f+i) j || eU p T s (f+i) j) else (cH p T s now f (f+i) j || (decide (j < f+i+r) && eU p T s (f+i) j)):=fun j=>by
              by_cases e:j=f+i+r
              · rw[if_pos e,decide_eq_true (show j < f+i+(r+1) by omega),Bool.true_and]
              · rw[if_neg e]
                congr 2
                simp only[decide_eq_decide]; omega
            have hgd:=m5 (l:=di (p.length+1) fun j=>cH p T s now f (f+i) j || (decide (j < f+i+r) && eU p T s (f+i) j)) (i:=f+i+r) (by rw[fF]; omega)
            rw[zj (by omega),decide_eq_false (show ¬ f+i+r < f+i+r by omega),Bool.false_and,Bool.or_false] at hgd
            have hsb:=hst (f+i+r)
            rw[decide_eq_true (show f+i≤f+i+r by omega),Bool.true_and] at hsb
            have hcr:cell[f+i+r]?=some (cell.getD (f+i+r) false):=by simp[List.getD_eq_getElem?_getD,show f+i+r < cell.length by omega]
            have hset:∀ v,v=(cH p T s now f (f+i) (f+i+r) || eU p T s (f+i) (f+i+r))→(bw (di (p.length+1) fun j=>cH p T s now f (f+i) j || (decide (j < f+i+r) && eU p T s (f+i) j))).set (f+i+r) [gb v]=bw (di (p.length+1) fun j=>cH p T s now f (f+i) j || (decide (j < f+i+(r+1)) && eU p T s (f+i) j)):=fun v hv=>by
              rw[jg,Cl]
              refine congrArg bw (gh fun j _=>?_)
              rw[hF]
              by_cases e:j=f+i+r
              · subst e; rw[if_pos rfl,if_pos rfl,hv]
              · rw[if_neg e,if_neg e]
            rw[hsb] at hset
            generalize cell.getD (f+i+r) false=cv at hcr hset
            generalize cH p T s now f (f+i) (f+i+r)=pv at hgd hset
            simp (disch:=omega) only [↓wr,↓reduceIte,wq,ai,ah,ak,ae,af,ag,aj,isNil,Nat.reduceEqDiff,Nat.reduceAdd,Nat.reduceLT,Nat.reduceLeDiff,Int.reduceNeg,Int.reduceToNat,reduceCtorEq,t0,t1,t2,t3,t9,t10,t11,t12,t13,hd,hgd]
            refine ⟨by omega,by rw[fF]; omega,?_⟩
            refine an.split (fun hpv=>?_) (fun hpv=>?_)
            · simp (disch:=omega) only [↓wr,↓reduceIte,wq,ai,ah,ak,ae,af,ag,aj,isNil,Nat.reduceEqDiff,Nat.reduceAdd,Nat.reduceLT,Nat.reduceLeDiff,Int.reduceNeg,Int.reduceToNat,reduceCtorEq,t0,t1,t2,t3,t9,t10,t11,t12,t13,hd]
              refine ⟨by omega,by rw[fF]; omega,bb hu (by omega) ⟨by simp[View.set,hbd,hb],?_,t9,t11,t0,t1,t2,t3,t10,t12,rfl⟩⟩
              simp only[View.set,if_true]
              rw[hgd,← hset true (by rw[hpv]; rfl)]; rfl
            · simp (disch:=omega) only [↓wr,↓reduceIte,wq,ai,ah,ak,ae,af,ag,aj,isNil,Nat.reduceEqDiff,Nat.reduceAdd,Nat.reduceLT,Nat.reduceLeDiff,Int.reduceNeg,Int.reduceToNat,reduceCtorEq,t0,t1,t2,t3,t9,t10,t11,t12,t13,encI,iE,cE,List.getElem?_map,hg,hrow,hcell,hcr,hd]
              refine ⟨by omega,by rw[fF]; omega,bb hu (by omega) ⟨by simp[View.set,hbd,hb],?_,t9,t11,t0,t1,t2,t3,t10,t12,rfl⟩⟩
              simp only[View.set,if_true]
              rw[hgd,← hset cv (by rw[hpv]; rfl)]; rfl
          · simp (disch:=omega) only [↓wr,↓reduceIte,wq,ai,ah,ak,ae,af,ag,aj,isNil,Nat.reduceEqDiff,Nat.reduceAdd,Nat.reduceLT,Nat.reduceLeDiff,Int.reduceNeg,Int.reduceToNat,reduceCtorEq,t0,t1,t2,t3,t9,t10,t11,t12,t13]
            have hr:f+i+r=p.length+1:=by omega
            refine bb hm (by omega) ⟨hb,?_,t9,t11,t0,t1,t2,t3,t10,rfl⟩
            rw[hd,← Nat.add_assoc]
            refine congrArg (fun l=>br.arr 1 (bw l)) (gh fun j hj=>?_)
            rw[hpb,hr,decide_eq_true hj,Bool.true_and]
      · subst hbn
        simp only[Bool.false_and,Bool.or_false] at hpb
        simp (disch:=omega) only [↓wr,↓reduceIte,wq,ai,ah,ak,ae,af,ag,aj,isNil,Nat.reduceEqDiff,Nat.reduceAdd,Nat.reduceLT,Nat.reduceLeDiff,Int.reduceNeg,Int.reduceToNat,reduceCtorEq,t0,t1,t2,t3,t9,t10,t11,t12]
        refine bb hm (by omega) ⟨hb,?_,t9,t11,t0,t1,t2,t3,t10,by rfl⟩
        rw[hd,← Nat.add_assoc]
        exact congrArg (fun l=>br.arr 1 (bw l)) (gh fun j _=>(hpb j).symm)
    · have hi:f+i=p.length+1:=by omega
      rw[hi] at hd
      simp (disch:=omega) only [↓wr,↓reduceIte,wq,ai,ah,ak,ae,af,ag,aj,isNil,Nat.reduceEqDiff,Nat.reduceAdd,Nat.reduceLT,Nat.reduceLeDiff,Int.reduceNeg,Int.reduceToNat,reduceCtorEq,t0,t1,t2,t3,t9,t10,t11,t12]
      refine bb hk (by omega) ⟨d,rfl,?_,t0,t1,t2,t3,rfl⟩
      rw[hf2]; exact hd
  · have e:q=l.length:=by omega
    subst e
    rw[List.take_length] at hb hnl
    simp (disch:=omega) only [↓wr,↓reduceIte,wq,ai,ah,ak,ae,af,ag,aj,isNil,Nat.reduceEqDiff,Nat.reduceAdd,Nat.reduceLT,Nat.reduceLeDiff,Int.reduceNeg,Int.reduceToNat,reduceCtorEq,t0,t1,t2,t3,t9,t10]
    intro h' hh
    have:=oo (h:=h') (id:=b) (is:=fR p T l f) (by rw[hh]; exact hb)
    rwa [yS] at this
end Gv
set_option linter.unusedSimpArgs false
set_option maxRecDepth 100000
namespace Gv
open Go Go.Proofs
def vJ (T:Tb) (n i j:Nat):Prop:=i≤j∧dM T n i j=true
theorem x9 {p:List Int} {T:Tb} {s:Int} {a j:Nat} : eU p T s a j=true↔stepT p (vJ T) s a j:=by
  unfold eU stepT
  split
  · simp only[Bool.and_eq_true,decide_eq_true_eq,Bool.or_eq_true,beq_iff_eq]
    constructor
    · rintro ⟨⟨h1,h2⟩,h3⟩
      exact ⟨⟨p.getD a 0,by simp[List.getD_eq_getElem?_getD,h1],h2⟩,h3⟩
    · rintro ⟨⟨c,hc,h2⟩,h3⟩
      have h1:=(List.getElem?_eq_some_iff.1 hc).1
      have:p.getD a 0=c:=by simp[List.getD_eq_getElem?_getD,hc]
      exact ⟨⟨h1,by rw[this]; exact h2⟩,h3⟩
  · simp only[Bool.and_eq_true,decide_eq_true_eq]; rfl
theorem Ba {T:Tb} : ∀ n i j,vJ T n i j→i≤j:=fun _ _ _ h=>h.1
theorem zq {p:List Int} {T:Tb} {f:Nat} (hf:f≤p.length):∀ (l pre:List Int) (now:List Bool),(∀ j,j≤p.length→(now.getD j false=true↔In p (vJ T) pre f j)) →
    ∀ j,j≤p.length→((l.foldl (iC p T f) now).getD j false=true↔In p (vJ T) (pre ++ l) f j)
  | [],pre,now,h,j,hj=>by rw[List.append_nil]; exact h j hj
  | s :: l,pre,now,h,j,hj=>by
    have h2:∀ j,j≤p.length→((iC p T f now s).getD j false=true↔In p (vJ T) (pre ++ [s]) f j):=fun j hj=>by
      rw[iC,zj (by omega),In.snoc]
      simp only[cH,List.any_eq_true,List.mem_range,Bool.and_eq_true,decide_eq_true_eq]
      constructor
      · rintro ⟨a,ha,⟨_,h3⟩,h4⟩
        exact ⟨a,(h a (by omega)).1 h3,x9.1 h4⟩
      · rintro ⟨a,h3,h4⟩
        have hle:=h3.le Ba
        have ha:a≤p.length:=by
          have h5:=h4
          unfold stepT at h5
          split at h5
          · omega
          · have:=h5.1; omega
        exact ⟨a,by omega,⟨hle,(h a ha).2 h3⟩,x9.2 h4⟩
    have:=zq hf l (pre ++ [s]) (iC p T f now s) h2 j hj
    rwa [List.append_assoc] at this
theorem Bg {p:List Int} {T:Tb} {l:List Int} {f:Nat} (hf:f≤p.length) {j:Nat} (hj:j≤p.length):(fR p T l f).getD j false=true↔In p (vJ T) l f j:=by
  have:=zq (T:=T) hf l [] (di (p.length+1) fun j=>decide (j=f)) (fun j hj=>by
    rw[zj (by omega),decide_eq_true_eq]
    constructor
    · rintro rfl; exact .nil _
    · intro h; cases h; rfl) j hj
  exact this
open Classical in
noncomputable def uk (g:au) (p:List Int):Tb:=(List.range g.aD.length).map fun (n:Nat)=>(List.range (p.length+1)).map fun (i:Nat)=>(List.range (p.length+1)).map fun (j:Nat)=>decide (Sp g p [-1 - (n:Int)] i j)
theorem FF (g:au) (p:List Int):fa (uk g p) g.aD.length (p.length+1):=by
  refine ⟨by simp[uk],fun r hr=>?_⟩
  simp only[uk,List.mem_map] at hr
  obtain ⟨n,_,rfl⟩:=hr
  refine ⟨by simp,fun c hc=>?_⟩
  simp only[List.mem_map] at hc
  obtain ⟨i,_,rfl⟩:=hc
  simp
theorem Em {g:au} {p:List Int} {n i j:Nat} (hn:n < g.aD.length) (hi:i≤p.length) (hj:j≤p.length):dM (uk g p) n i j=true↔Sp g p [-1 - (n:Int)] i j:=by
  simp[dM,uk,List.getD_eq_getElem?_getD,hn,show i < p.length+1 by omega,show j < p.length+1 by omega]
theorem IP {S T:Tb} {N M:Nat} (hS:fa S N M) (hT:fa T N M) (h:∀ n i j,n < N→i < M→j < M→dM S n i j=dM T n i j):S=T:=by
  apply List.ext_getElem (by rw[hS.1,hT.1])
  intro n h1 h2
  have hn:n < N:=by rw[← hS.1]; exact h1
  have a1:=(hS.2 _ (List.getElem_mem h1)).1
  have a2:=(hT.2 _ (List.getElem_mem h2)).1
  apply List.ext_getElem (by rw[a1,a2])
  intro i h3 h4
  have hi:i < M:=by omega
  have b1:=(hS.2 _ (List.getElem_mem h1)).2 _ (List.getElem_mem h3)
  have b2:=(hT.2 _ (List.getElem_mem h2)).2 _ (List.getElem_mem h4)
  apply List.ext_getElem (by rw[b1,b2])
  intro j h5 h6
  have:=h n i j hn hi (by omega)
  simpa [dM,List.getD_eq_getElem?_getD,h1,h2,h3,h4,h5,h6] using this
theorem I5 {g:au} {p:List Int} {T:Tb} (hf:∀ r∈g.rules,0≤r.left) (hl:∀ r∈g.rules,r.left < g.aD.length) (hT:fa T g.aD.length (p.length+1)) (hs:∀ n i j,vJ T n i j→Sp g p [-1 - (n:Int)] i j)
    (ht:∀ n i j,dM T n i j=true→i≤j) (hc:∀ R∈g.rules,∀ i j,i≤j→j≤p.length→(fR p T R.right i).getD j false=true→dM T R.left.toNat i j=true):T=uk g p:=by
  refine IP hT (FF g p) fun n i j hn hi hj=>?_
  rw[Bool.eq_iff_iff,Em hn (by omega) (by omega)]
  have hc':∀ R∈g.rules,∀ i j,i≤p.length→In p (vJ T) R.right i j→vJ T R.left.toNat i j:=fun R hR i j hi h=>by
    have hle:=h.le Ba
    have hlen:=(Hw hs h).len hi
    exact ⟨hle,hc R hR i j hle hlen ((Bg hi hlen).2 h)⟩
  rw[← Fq hf hs hc' (by omega)]
  exact ⟨fun h=>⟨ht n i j h,h⟩,fun h=>h.2⟩
end Gv
set_option linter.unusedSimpArgs false
set_option maxRecDepth 100000
namespace Gv
open Go Go.Proofs
structure jE (H:View) (I N M:Nat) (R:Nat→Nat) (C:Nat→Nat→Nat) (T:Tb):Prop where
  top:H I=.arr 1 ((List.range N).map fun n=>[.sl (R n) 0 M 1])
  row:∀ n,n < N→H (R n)=.arr 1 ((List.range M).map fun i=>[.sl (C n i) 0 M 1])
  cell:∀ n i,n < N→i < M→H (C n i)=.arr 1 (bw ((T.getD n []).getD i []))
  inj:∀ n i n' i',n < N→i < M→n' < N→i' < M→C n i=C n' i'→n=n'∧i=i'
theorem vt {c:List Bool} {k:Nat} {F:Nat→List V} (hc:0 < c.length) (h:bw c=(List.range k).map F) (hF:∀ n x,F n≠[gb x]):False:=by
  cases c with
  | nil=>simp at hc
  | cons x c =>
    cases k with
    | zero=>simp at h
    | succ k =>
      rw[List.range_succ_eq_map] at h
      simp only[List.map_cons,List.cons.injEq] at h
      exact hF 0 x h.1.symm
theorem jE.keep {H H':View} {I N M:Nat} {R:Nat→Nat} {C:Nat→Nat→Nat} {T:Tb} (h:jE H I N M R C T) (hk:∀ id,H id≠.dead→H' id=H id):jE H' I N M R C T :=
  ⟨by rw[hk _ (by rw[h.top]; simp)]; exact h.top,fun n hn=>by rw[hk _ (by rw[h.row n hn]; simp)]; exact h.row n hn,fun n i hn hi=>by rw[hk _ (by rw[h.cell n i hn hi]; simp)]; exact h.cell n i hn hi,h.inj⟩
theorem jE.put {H:View} {I N M:Nat} {R:Nat→Nat} {C:Nat→Nat→Nat} {T:Tb} (h:jE H I N M R C T) (hT:fa T N M) {n i j:Nat} (hn:n < N) (hi:i < M) (hj:j < M) :
    jE (H.set (C n i) (.arr 1 (bw (((T.getD n []).getD i []).set j true)))) I N M R C (jS T n i j):=by
  obtain ⟨r,c,hr,hc,hcl,hg⟩:=hT.cell hn hi
  have hcell:=h.cell n i hn hi
  rw[hg] at hcell
  have e1:I≠C n i:=fun e=>by
    have:=h.top
    rw[e,hcell] at this
    simp only[br.arr.injEq,true_and] at this
    exact vt (by omega) this fun _ _=>by simp
  have e2:∀ m,m < N→R m≠C n i:=fun m hm e=>by
    have:=h.row m hm
    rw[e,hcell] at this
    simp only[br.arr.injEq,true_and] at this
    exact vt (by omega) this fun _ _=>by simp
  refine ⟨by simp only[View.set,if_neg e1]; exact h.top,fun m hm=>by simp only[View.set,if_neg (e2 m hm)]; exact h.row m hm,fun m q hm hq=>?_,h.inj⟩
  obtain ⟨r',hr',hrl,hg'⟩:=hT.row hn
  rw[hr] at hr'; simp at hr'; subst hr'
  have hnl:n < T.length:=by rw[hT.1]; exact hn
  by_cases e:C m q=C n i
  · obtain ⟨rfl,rfl⟩:=h.inj m q n i hm hq hn hi e
    simp only[View.set,if_true]
    congr 2
    rw[jS]
    simp[List.getD_eq_getElem?_getD,hnl]
    rw[List.getElem?_set]
    have:q < T[m].length:=by
      have:=(List.getElem?_eq_some_iff.1 hr).2
      rw[this,hrl]; exact hq
    simp[this]
  · simp only[View.set,if_neg e]
    rw[h.cell m q hm hq]
    congr 2
    rw[jS]
    by_cases em:n=m
    · subst em
      have eq:i≠q:=fun e'=>e (by rw[e'])
      simp[List.getD_eq_getElem?_getD,hnl,List.getElem?_set,eq]
    · simp[List.getD_eq_getElem?_getD,List.getElem?_set,em]
theorem jE.Ev {h:aE} {I N M:Nat} {R:Nat→Nat} {C:Nat→Nat→Nat} {T:Tb} (hG:jE h.view I N M R C T) (hT:fa T N M):dA h (.sl I 0 N 1) (iE T):=by
  refine .sl I 0 N 1 1 _ _ hG.top (by simp) (by simp[hT.1]) (fun n hn=>?_) (fun n j hn hj=>?_)
  · obtain ⟨r,hr,_⟩:=hT.row hn
    simp[List.getD_eq_getElem?_getD,hr,hn]
  · obtain ⟨r,hr,hrl,hrg⟩:=hT.row hn
    have e1:((T.map fun r=>[V.aY (r.map fun c=>[cE c])]).getD n [])=[V.aY (r.map fun c=>[cE c])]:=by simp[List.getD_eq_getElem?_getD,hr]
    have e2:(((List.range N).map fun n=>[V.sl (R n) 0 M 1]).getD (0+n) [])=[V.sl (R n) 0 M 1]:=by simp[List.getD_eq_getElem?_getD,hn]
    rw[e1] at hj ⊢
    rw[e2]
    have:j=0:=by simp at hj; omega
    subst this
    simp only[List.getD_cons_zero]
    refine .sl (R n) 0 M 1 1 _ _ (hG.row n hn) (by simp) (by simp[hrl]) (fun i hi=>?_) (fun i q hi hq=>?_)
    · simp[List.getD_eq_getElem?_getD,hi,show i < r.length by omega]
    · have hic:i < r.length:=by omega
      have f1:((r.map fun c=>[cE c]).getD i [])=[cE r[i]]:=by simp[List.getD_eq_getElem?_getD,hic]
      have f2:(((List.range M).map fun i=>[V.sl (C n i) 0 M 1]).getD (0+i) [])=[V.sl (C n i) 0 M 1]:=by simp[List.getD_eq_getElem?_getD,hi]
      rw[f1] at hq ⊢
      rw[f2]
      have:q=0:=by simp at hq; omega
      subst this
      simp only[List.getD_cons_zero]
      have hcell:=hG.cell n i hn hi
      have e3:(T.getD n []).getD i []=r[i]:=by rw[hrg]; simp[List.getD_eq_getElem?_getD,hic]
      rw[e3] at hcell
      have hcl:=(hT.2 r (List.mem_of_getElem? hr)).2 _ (List.getElem_mem hic)
      have:=oo (h:=h) (id:=C n i) (is:=r[i]) hcell
      rwa [hcl] at this
theorem dA.Bh {h:aE} {v t:V} (f:dA h v t):Fr h v t:=by
  induction f with
  | val v=>exact .tree _ (.val v)
  | emp k=>exact .emp k
  | sl id off len esz z es es' hH hle hlen hl _ ih=>exact .sl id off len esz z es es' hH hle hlen hl ih
  | agg cs cs' hl _ ih=>exact .agg cs cs' hl ih
  | bp cs cs' hl _ ih=>exact .bp cs cs' hl ih
theorem jE.uG {H:View} {I N M:Nat} {R:Nat→Nat} {C:Nat→Nat→Nat} {T:Tb} (hG:jE H I N M R C T) (hT:fa T N M):cO H (.sl I 0 N 1) (iE T):=by
  rintro h rfl
  exact (hG.Ev hT).Bh
end Gv
set_option linter.unusedSimpArgs false
set_option maxRecDepth 100000
namespace Gv
open Go Go.Proofs
structure HC (H:View) (I N M k:Nat) (R:Nat→Nat) (C:Nat→Nat→Nat):Prop where
  top:H I=.arr 1 ((List.range N).map fun n=>[if n < k then .sl (R n) 0 M 1 else .emp 1])
  row:∀ n,n < k→H (R n)=.arr 1 ((List.range M).map fun i=>[.sl (C n i) 0 M 1])
  cell:∀ n i,n < k→i < M→H (C n i)=.arr 1 (List.replicate M [gb false])
  inj:∀ n i n' i',n < k→i < M→n' < k→i' < M→C n i=C n' i'→n=n'∧i=i'
  ne:∀ n,n < k→I≠R n
structure xm (H:View) (I N M k:Nat) (R:Nat→Nat) (C:Nat→Nat→Nat) (r i:Nat) (D:Nat→Nat):Prop where
  top:H I=.arr 1 ((List.range N).map fun n=>[if n < k then .sl (R n) 0 M 1 else if n=k then .sl r 0 M 1 else .emp 1])
  row:∀ n,n < k→H (R n)=.arr 1 ((List.range M).map fun i=>[.sl (C n i) 0 M 1])
  cell:∀ n i,n < k→i < M→H (C n i)=.arr 1 (List.replicate M [gb false])
  inj:∀ n i n' i',n < k→i < M→n' < k→i' < M→C n i=C n' i'→n=n'∧i=i'
  ne:∀ n,n < k→I≠R n
  Hl:H r=.arr 1 ((List.range M).map fun j=>[if j < i then .sl (D j) 0 M 1 else .emp 1])
  ze:∀ j,j < i→H (D j)=.arr 1 (List.replicate M [gb false])
  Jh:∀ j j',j < i→j' < i→D j=D j'→j=j'
  yy:I≠r∧(∀ n,n < k→R n≠r)∧∀ n q j,n < k→q < M→j < i→C n q≠D j
theorem xf {M i:Nat} {F:Nat→List V} {v:List V} : ((List.range M).map F).set i v=(List.range M).map fun j=>if j=i then v else F j:=by
  apply List.ext_getElem (by simp)
  intro j h1 h2
  simp only[List.getElem_set,List.getElem_map,List.getElem_range]
  by_cases e:i=j
  · subst e; simp
  · rw[if_neg e,if_neg (Ne.symm e)]
theorem dn {M i:Nat} {F:Nat→List V} (h:i < M):((List.range M).map F).getD i []=F i:=by simp[List.getD_eq_getElem?_getD,h]
theorem HC.done {H:View} {I N M:Nat} {R:Nat→Nat} {C:Nat→Nat→Nat} (h:HC H I N M N R C):jE H I N M R C (tE N M):=by
  refine ⟨?_,h.row,fun n i hn hi=>?_,h.inj⟩
  · rw[h.top]
    congr 1
    apply List.map_congr_left
    intro n hn
    rw[if_pos (by simpa using hn)]
  · rw[h.cell n i hn hi]
    simp[tE,List.getD_eq_getElem?_getD,hn,hi]
theorem xm.JN {H:View} {I N M k:Nat} {R:Nat→Nat} {C:Nat→Nat→Nat} {r:Nat} {D:Nat→Nat} (h:xm H I N M k R C r M D):HC H I N M (k+1) (fun n=>if n=k then r else R n) (fun n=>if n=k then D else C n):=by
  refine ⟨?_,fun n hn=>?_,fun n i hn hi=>?_,fun n i n' i' hn hi hn' hi' e=>?_,fun n hn=>?_⟩
  · rw[h.top]
    congr 1
    apply List.map_congr_left
    intro n _
    by_cases e1:n < k
    · rw[if_pos e1,if_pos (by omega),if_neg (by omega)]
    · by_cases e2:n=k
      · rw[if_neg e1,if_pos e2,if_pos (by omega),if_pos e2]
      · rw[if_neg e1,if_neg e2,if_neg (by omega)]
  · by_cases e:n=k
    · simp only[if_pos e]
      rw[h.Hl]
      congr 1
      apply List.map_congr_left
      intro i hi
      rw[if_pos (by simpa using hi)]
    · simp only[if_neg e]; exact h.row n (by omega)
  · by_cases e:n=k
    · simp only[if_pos e]; exact h.ze i hi
    · simp only[if_neg e]; exact h.cell n i (by omega) hi
  · by_cases e1:n=k
    · by_cases e2:n'=k
      · simp only[if_pos e1,if_pos e2] at e
        exact ⟨by omega,h.Jh i i' hi hi' e⟩
      · simp only[if_pos e1,if_neg e2] at e
        exact absurd e.symm (h.yy.2.2 n' i' i (by omega) hi' hi)
    · by_cases e2:n'=k
      · simp only[if_neg e1,if_pos e2] at e
        exact absurd e (h.yy.2.2 n i i' (by omega) hi hi')
      · simp only[if_neg e1,if_neg e2] at e
        exact h.inj n i n' i' (by omega) hi (by omega) hi' e
  · by_cases e:n=k
    · simp only[if_pos e]; exact h.yy.1
    · simp only[if_neg e]; exact h.ne n (by omega)
theorem xm.next {H H':View} {I N M k:Nat} {R:Nat→Nat} {C:Nat→Nat→Nat} {r i d:Nat} {D:Nat→Nat} (h:xm H I N M k R C r i D) (hN:0 < N) (hM:0 < M) (hd:H d=.dead)
    (hr':H' r=.arr 1 (((List.range M).map fun j=>[if j < i then V.sl (D j) 0 M 1 else .emp 1]).set i [.sl d 0 M 1])) (hd':H' d=.arr 1 (List.replicate M [gb false])) (ho:∀ id,H id≠.dead→id≠r→H' id=H id) :
    xm H' I N M k R C r (i+1) (fun j=>if j=i then d else D j):=by
  have live:∀ id,H id≠.dead→id≠d:=fun id hid e=>by subst e; exact hid hd
  have boolr:∀ id,H id=.arr 1 (List.replicate M [gb false])→id≠r:=fun id hid e=>by
    rw[e,h.Hl] at hid
    simp only[br.arr.injEq,true_and] at hid
    have:=congrArg (·[0]?) hid
    simp[hM] at this
    split at this <;> simp at this
  refine ⟨?_,fun n hn=>?_,fun n q hn hq=>?_,h.inj,h.ne,?_,fun j hj=>?_,fun j j' hj hj' e=>?_,⟨h.yy.1,h.yy.2.1,fun n q j hn hq hj=>?_⟩⟩
  · rw[ho I (by rw[h.top]; simp) h.yy.1]; exact h.top
  · rw[ho _ (by rw[h.row n hn]; simp) (h.yy.2.1 n hn)]; exact h.row n hn
  · have:=h.cell n q hn hq
    rw[ho _ (by rw[this]; simp) (boolr _ this)]; exact this
  · rw[hr',xf]
    congr 1
    apply List.map_congr_left
    intro j _
    by_cases e:j=i
    · rw[if_pos e,if_pos (by omega),if_pos e]
    · rw[if_neg e]
      by_cases e2:j < i
      · rw[if_pos e2,if_pos (by omega),if_neg e]
      · rw[if_neg e2,if_neg (by omega)]
  · by_cases e:j=i
    · simp only[if_pos e]; exact hd'
    · simp only[if_neg e]
      have:=h.ze j (by omega)
      rw[ho _ (by rw[this]; simp) (boolr _ this)]; exact this
  · by_cases e1:j=i
    · by_cases e2:j'=i
      · omega
      · simp only[if_pos e1,if_neg e2] at e
        exact absurd e.symm (live _ (by rw[h.ze j' (by omega)]; simp))
    · by_cases e2:j'=i
      · simp only[if_neg e1,if_pos e2] at e
        exact absurd e (live _ (by rw[h.ze j (by omega)]; simp))
      · simp only[if_neg e1,if_neg e2] at e
        exact h.Jh j j' (by omega) (by omega) e
  · by_cases e:j=i
    · simp only[if_pos e]; exact live _ (by rw[h.cell n q hn hq]; simp)
    · simp only[if_neg e]; exact h.yy.2.2 n q j hn hq (by omega)
theorem xH:∀ (l:List Nat) (i v:Nat) (h:i < l.length),(l.set i v).sum+l[i]=l.sum+v
  | x :: l,0,v,_=>by simp; omega
  | x :: l,i+1,v,h=>by
    have:=xH l i v (by simpa using h)
    simp; omega
theorem Bi:∀ (l:List Nat) (b:Nat),(∀ x∈l,x≤b)→l.sum≤l.length * b
  | [],_,_=>by simp
  | x :: l,b,h=>by
    have h1:=Bi l b fun y hy=>h y (by simp[hy])
    have h2:=h x (by simp)
    simp only[List.sum_cons,List.length_cons,Nat.add_mul]; omega
theorem yE:∀ (c:List Bool) (j:Nat),j < c.length→c.getD j false=false→bS (c.set j true)=bS c+1
  | x :: c,0,_,h=>by
    have:x=false:=by simpa using h
    subst this
    simp[bS]
  | x :: c,j+1,hj,h=>by
    have:=yE c j (by simpa using hj) (by simpa using h)
    unfold bS at this ⊢
    simp only[List.set_cons_succ,List.countP_cons,this]; omega
def vq (r:List (List Bool)):Nat:=(r.map bS).sum
def kW (T:Tb):Nat:=(T.map vq).sum
theorem AK {T:Tb} {N M:Nat} (h:fa T N M):kW T≤N * (M * M):=by
  have:=Bi (T.map vq) (M * M) (fun x hx=>by
    obtain ⟨r,hr,rfl⟩:=List.mem_map.1 hx
    have:=Bi (r.map bS) M (fun y hy=>by
      obtain ⟨c,hc,rfl⟩:=List.mem_map.1 hy
      rw[← (h.2 r hr).2 c hc]; exact q6 c)
    rw[List.length_map,(h.2 r hr).1] at this
    exact this)
  rw[List.length_map,h.1] at this
  exact this
theorem Iq {T:Tb} {N M n i j:Nat} (h:fa T N M) (hn:n < N) (hi:i < M) (hj:j < M) (hf:dM T n i j=false):kW (jS T n i j)=kW T+1:=by
  obtain ⟨r,c,hr,hc,hcl,hg⟩:=h.cell hn hi
  obtain ⟨r',hr',hrl,hg'⟩:=h.row hn
  rw[hr] at hr'; simp at hr'; subst hr'
  have hcc:r.getD i []=c:=by rw[← hg']; exact hg
  have hnl:n < T.length:=by rw[h.1]; exact hn
  have hil:i < r.length:=by omega
  have hTn:T[n]=r:=(List.getElem?_eq_some_iff.1 hr).2
  have hri:r[i]=c:=(List.getElem?_eq_some_iff.1 hc).2
  have h1:bS (c.set j true)=bS c+1:=yE c j (by omega) (by rw[← hg]; exact hf)
  have h2:vq (r.set i (c.set j true))=vq r+1:=by
    have:=xH (r.map bS) i (bS (c.set j true)) (by simpa using hil)
    unfold vq
    rw[List.map_set]
    simp only[List.getElem_map,hri] at this
    omega
  have:=xH (T.map vq) n (vq (r.set i (c.set j true))) (by simpa using hnl)
  unfold kW jS
  rw[hg',hcc,List.map_set]
  simp only[List.getElem_map,hTn] at this
  omega
def mg:SC :=
  .seq (.seq (al [aa 31 7,aa 32 1,aI 33 32,aK 34 .leq 31 33]) <|
  .cond (.tmp 34) (.skip) (.exit 2)) <|
  .seq (.block 3 (al [aa 37 5,aa 38 6,aX 39 1 37 38,ao 40 39,aa 41 7,aa 42 1,aI 43 42,ax 44 .add 43 1,((some 45),.op (.make 1 1 [(.val (.bool false))] (.tmp 44) (.tmp 44))),aX 46 1 40 41,(none,.op (.store 1 (.tmp 46) (.tmp 45)))])) <|
  al [aa 35 7,ax 36 .add 35 1,aa 7 36]
def lx:SC :=
  .seq (.seq (al [aa 18 6,aa 19 5,aI 20 19,aK 21 .lss 18 20]) <|
  .cond (.tmp 21) (.skip) (.exit 0)) <|
  .seq (.block 1 (.seq (al [aa 24 5,aa 25 6,aa 26 1,aI 27 26,ax 28 .add 27 1,((some 29),.op (.make 1 24 [(.emp 1)] (.tmp 28) (.tmp 28))),aX 30 1 24 25,(none,.op (.store 1 (.tmp 30) (.tmp 29)))]) <|
  .seq (al [aG 7 0]) <|
  .block 2 (.loop mg))) <|
  al [aa 22 6,ax 23 .add 22 1,aa 6 23]
def l7:SC :=
  .seq (.seq (al [aa 73 13,aa 74 1,aI 75 74,aK 76 .leq 73 75]) <|
  .cond (.tmp 76) (.skip) (.exit 10)) <|
  .seq (.block 11 (.seq (.region false [⟨none,[aa 79 12,aa 80 13,aX 81 1 79 80,ao 82 81,aa 83 82]⟩,⟨(some (83,true)),[aa 84 5,aq 85 0 10,ao 86 85,aX 87 1 84 86,ao 88 87,aa 89 11,aX 90 1 88 89,ao 91 90,aa 92 13,aX 93 1 91 92,ao 94 93,bQ 95 94]⟩,⟨none,[bk 96 83 95]⟩]) <|
  .cond (.tmp 96) (.seq (al [aa 97 5,aq 98 0 10,ao 99 98,aX 100 1 97 99,ao 101 100,aa 102 11,aX 103 1 101 102,ao 104 103,aa 105 13,aX 106 1 104 105,(none,.op (.store 1 (.tmp 106) (.val (.val (.bool true)))))]) <|
  al [aP 8 true]) (.skip))) <|
  al [aa 77 13,ax 78 .add 77 1,aa 13 78]
def lq:SC :=
  .seq (.seq (al [aa 60 11,aa 61 1,aI 62 61,aK 63 .leq 60 62]) <|
  .cond (.tmp 63) (.skip) (.exit 8)) <|
  .seq (.block 9 (.seq (al [aq 66 1 10,ao 67 66,aa 68 1,aa 69 5,aa 70 11,aF 71 71 [67,68,69,70],aa 12 71]) <|
  .seq (al [aa 72 11,aa 13 72]) <|
  .block 10 (.loop l7))) <|
  al [aa 64 11,ax 65 .add 64 1,aa 11 65]
def lW:SC :=
  .seq (.seq (al [aa 48 9,aq 49 2 2,ao 50 49,aI 51 50,aK 52 .lss 48 51]) <|
  .cond (.tmp 52) (.skip) (.exit 6)) <|
  .seq (.block 7 (.seq (al [aq 55 2 2,ao 56 55,aa 57 9,aX 58 3 56 57,aO 59 3 58,((some 10),.op (.alloc [(.val (.int .i64 0)),(.emp 1),(.val (.int .i64 0))])),(none,.op (.store 3 (.tmp 10) (.tmp 59)))]) <|
  .seq (al [aG 11 0]) <|
  .block 8 (.loop lq))) <|
  al [aa 53 9,ax 54 .add 53 1,aa 9 54]
def gB:SC :=
  .seq (.seq (al [aa 47 8]) <|
  .cond (.tmp 47) (.skip) (.exit 4)) <|
  .block 5 (.seq (al [aP 8 false]) <|
  .seq (al [aG 9 0]) <|
  .block 6 (.loop lW))
def nJ:SF:=⟨.seq (al [b7 2 0,((some 4),.op (.bg (.val (.emp 1))))]) <|
  .seq (al [aq 14 1 2,ao 15 14,aI 16 15,((some 17),.op (.make 1 24 [(.emp 1)] (.tmp 16) (.tmp 16))),aa 5 17]) <|
  .seq (.seq (al [aG 6 0]) <|
  .block 0 (.loop lx)) <|
  .seq (al [aP 8 true]) <|
  .seq (.block 4 (.loop gB)) <|
  .seq (al [aa 107 5,aa 4 107]) <|
  .ret,
  [.tmp 4],108⟩
theorem sw:aR Tryz.prog 42 [2]=some nJ:=by kernel_rfl
def Gm (g:au) (p:List Int) (I:Nat) (R:Nat→Nat) (C:Nat→Nat→Nat) (T0:Tb) (D:Prop) (T:Env) (H:View):Prop :=
  ∃ T1,jE H I g.aD.length (p.length+1) R C T1∧fa T1 g.aD.length (p.length+1)∧(∀ n i j,dM T1 n i j=true→i≤j∧Sp g p [-1 - (n:Int)] i j) ∧
    ((T 8=gb false∧T1=T0∧D)∨(T 8=gb true∧kW T0 < kW T1))∧T 1=encI p∧T 2=.aJ (ar g) 0∧T 5=.sl I 0 g.aD.length 1
def fH (p:List Int) (T0:Tb) (r:aZ) (f:Nat):Prop:=∀ j,f≤j→j≤p.length→(fR p T0 r.right f).getD j false=true→dM T0 r.left.toNat f j=true
set_option maxHeartbeats 4000000 in
theorem Jk (g:au) (hg:g.Ok) (hf:g.nB) (p:List Int) (hp:p.length≤1000):cG Tryz.prog 42 [.agg (ar g),encI p] (iE (uk g p)):=by
  have z1:=hf.HG
  have z2:=hf.aD
  have z3:=hf.rules
  refine cG.of (by
    intro v hv; simp at hv
    rcases hv with rfl | rfl
    · exact bF _ (bB g)
    · exact cn p) ?_
  refine aB.of mixed sw ?_
  have hM:((p.length:Int)+1).toNat=p.length+1:=by omega
  simp (disch:=omega) only [↓wr,↓reduceIte,wq,ai,ah,ak,ae,af,ag,aj,isNil,Nat.reduceEqDiff,Nat.reduceAdd,Nat.reduceLT,Nat.reduceLeDiff,Int.reduceNeg,Int.reduceToNat,reduceCtorEq,nJ,ar,encS]
  refine ⟨⟨by omega,by unfold aM; omega,by unfold aM; omega⟩,fun h=>by omega,?_⟩
  intro _ I
  try simp (disch:=omega) only [↓wr,↓reduceIte,wq,ai,ah,ak,ae,af,ag,aj,isNil,Nat.reduceEqDiff,Nat.reduceAdd,Nat.reduceLT,Nat.reduceLeDiff,Int.reduceNeg,Int.reduceToNat,reduceCtorEq,ar,encS]
  refine bo.up g.aD.length (fun k T' H'=>(∃ R C,HC H' I g.aD.length (p.length+1) k R C)∧T' 1=encI p∧T' 2=.aJ (ar g) 0∧T' 5=.sl I 0 g.aD.length 1∧T' 6=gi k) ?_ ?_
  · refine ⟨⟨fun _=>0,fun _ _=>0,⟨?_,fun n hn=>by omega,fun n i hn=>by omega,fun n i n' i' hn=>by omega,fun n hn=>by omega⟩⟩,rfl,rfl,rfl,rfl⟩
    simp[View.set]
    apply List.ext_getElem (by simp)
    intro n h1 h2
    simp
  rintro k m T' H hk ⟨⟨R,C,hB⟩,t1,t2,t5,t6⟩
  simp (disch:=omega) only [↓wr,↓reduceIte,wq,ai,ah,ak,ae,af,ag,aj,isNil,Nat.reduceEqDiff,Nat.reduceAdd,Nat.reduceLT,Nat.reduceLeDiff,Int.reduceNeg,Int.reduceToNat,reduceCtorEq,lx,t1,t2,t5,t6]
  refine an.dec (fun hc=>?_) (fun hc=>?_)
  · have ht:=hB.top
    simp (disch:=omega) only [↓wr,↓reduceIte,wq,ai,ah,ak,ae,af,ag,aj,isNil,Nat.reduceEqDiff,Nat.reduceAdd,Nat.reduceLT,Nat.reduceLeDiff,Int.reduceNeg,Int.reduceToNat,reduceCtorEq,t1,t2,t5,t6,encI,ht]
    refine ⟨⟨by omega,by unfold aM; omega,by unfold aM; omega⟩,fun h=>by omega,?_⟩
    intro _ r hr
    have hIr:I≠r:=by rintro rfl; rw[ht] at hr; simp at hr
    try simp (disch:=omega) only [↓wr,↓reduceIte,wq,ai,ah,ak,ae,af,ag,aj,isNil,Nat.reduceEqDiff,Nat.reduceAdd,Nat.reduceLT,Nat.reduceLeDiff,Int.reduceNeg,Int.reduceToNat,reduceCtorEq,t1,t2,t5,t6,encI,ht,hM,hIr]
    refine ⟨by omega,by simp; omega,?_⟩
    try simp (disch:=omega) only [↓wr,↓reduceIte,wq,ai,ah,ak,ae,af,ag,aj,isNil,Nat.reduceEqDiff,Nat.reduceAdd,Nat.reduceLT,Nat.reduceLeDiff,Int.reduceNeg,Int.reduceToNat,reduceCtorEq,t1,t2,t5,t6,encI,ht,hM,hIr]
    refine bo.up (p.length+1) (fun i T' H'=>(∃ D,xm H' I g.aD.length (p.length+1) k R C r i D)∧T' 1=encI p∧T' 2=.aJ (ar g) 0∧T' 5=.sl I 0 g.aD.length 1∧T' 6=gi k∧T' 7=gi i) ?_ ?_
    · refine ⟨⟨fun _=>0,?_⟩,t1,t2,t5,t6,rfl⟩
      have bc:∀ id,H id≠.dead→id≠I→∀ o1 o2,((H.set r o1).set I o2) id=H id:=fun id hid hI o1 o2=>by
        have:id≠r:=by rintro rfl; exact hid hr
        simp[View.set,hI,this]
      have rne:∀ n,n < k→R n≠r:=fun n hn e=>by have:=hB.row n hn; rw[e,hr] at this; simp at this
      have cI:∀ n i,n < k→i < p.length+1→C n i≠I:=fun n i hn hi e=>by
        have h1:=hB.cell n i hn hi
        rw[e,ht] at h1
        simp only[br.arr.injEq,true_and] at h1
        have:=congrArg (·[0]?) h1
        simp[show 0 < g.aD.length by omega] at this
        split at this <;> simp at this
      refine ⟨?_,fun n hn=>?_,fun n i hn hi=>?_,hB.inj,hB.ne,?_,fun j hj=>by omega,fun j j' hj=>by omega,⟨hIr,rne,fun n q j _ _ hj=>by omega⟩⟩
      · simp only[View.set,if_true]
        rw[dn (by omega)]
        simp only[List.drop_succ_cons,List.drop_nil,List.drop_zero]
        rw[xf]
        congr 1
        apply List.map_congr_left
        intro n _
        by_cases e1:n=k
        · rw[if_pos e1,if_neg (by omega),if_pos e1]
        · rw[if_neg e1]
          by_cases e2:n < k
          · rw[if_pos e2,if_pos e2]
          · rw[if_neg e2,if_neg e2,if_neg e1]
      · rw[bc _ (by rw[hB.row n hn]; simp) (hB.ne n hn).symm]; exact hB.row n hn
      · rw[bc _ (by rw[hB.cell n i hn hi]; simp) (cI n i hn hi)]; exact hB.cell n i hn hi
      · simp only[View.set,if_neg hIr.symm,if_true]
        congr 1
        apply List.ext_getElem (by simp)
        intro n h1 h2
        simp
    clear ht hr hB t1 t2 t5 t6
    rintro i q T' H hq ⟨⟨D,hB⟩,t1,t2,t5,t6,t7⟩
    simp (disch:=omega) only [↓wr,↓reduceIte,wq,ai,ah,ak,ae,af,ag,aj,isNil,Nat.reduceEqDiff,Nat.reduceAdd,Nat.reduceLT,Nat.reduceLeDiff,Int.reduceNeg,Int.reduceToNat,reduceCtorEq,mg,t1,t2,t5,t6,t7,encI]
    refine an.dec (fun hc2=>?_) (fun hc2=>?_)
    · have ht:=hB.top
      have htg:=dn (F:=fun n=>[if n < k then V.sl (R n) 0 (p.length+1) 1 else if n=k then .sl r 0 (p.length+1) 1 else .emp 1]) (show k < g.aD.length by omega)
      simp only[if_neg (show ¬ k < k by omega),if_true] at htg
      have hrr:=hB.Hl
      simp (disch:=omega) only [↓wr,↓reduceIte,wq,ai,ah,ak,ae,af,ag,aj,isNil,Nat.reduceEqDiff,Nat.reduceAdd,Nat.reduceLT,Nat.reduceLeDiff,Int.reduceNeg,Int.reduceToNat,reduceCtorEq,t1,t2,t5,t6,t7,encI,ht,htg]
      refine ⟨by omega,by simp; omega,⟨by omega,by unfold aM; omega,by unfold aM; omega⟩,fun h=>by omega,?_⟩
      intro _ d hd
      have hrd:r≠d:=by rintro rfl; rw[hrr] at hd; simp at hd
      try simp (disch:=omega) only [↓wr,↓reduceIte,wq,ai,ah,ak,ae,af,ag,aj,isNil,Nat.reduceEqDiff,Nat.reduceAdd,Nat.reduceLT,Nat.reduceLeDiff,Int.reduceNeg,Int.reduceToNat,reduceCtorEq,t1,t2,t5,t6,t7,hM,hrr,hrd]
      refine ⟨by omega,by simp; omega,bb hq (by omega) ⟨⟨_,hB.next (d:=d) (by omega) (by omega) hd ?_ ?_ ?_⟩,t1,t2,t5,t6,rfl⟩⟩
      · simp only[View.set,if_true]
        rw[dn (by omega)]; rfl
      · simp only[View.set,if_neg hrd.symm,if_true]; rfl
      · intro id hid hidr
        have:id≠d:=by rintro rfl; exact hid hd
        simp[View.set,hidr,this]
    · simp (disch:=omega) only [↓wr,↓reduceIte,wq,ai,ah,ak,ae,af,ag,aj,isNil,Nat.reduceEqDiff,Nat.reduceAdd,Nat.reduceLT,Nat.reduceLeDiff,Int.reduceNeg,Int.reduceToNat,reduceCtorEq,t1,t2,t5,t6,t7]
      have hi':i=p.length+1:=by omega
      subst hi'
      exact bb hk (by omega) ⟨⟨_,_,hB.JN⟩,t1,t2,t5,rfl⟩
  · simp (disch:=omega) only [↓wr,↓reduceIte,wq,ai,ah,ak,ae,af,ag,aj,isNil,Nat.reduceEqDiff,Nat.reduceAdd,Nat.reduceLT,Nat.reduceLeDiff,Int.reduceNeg,Int.reduceToNat,reduceCtorEq,t1,t2,t5,t6]
    have hk':k=g.aD.length:=by omega
    subst hk'
    have hG:=hB.done
    refine bo.intro (fun k T' H'=>∃ T0,jE H' I g.aD.length (p.length+1) R C T0∧fa T0 g.aD.length (p.length+1)∧(∀ n i j,dM T0 n i j=true→i≤j∧Sp g p [-1 - (n:Int)] i j) ∧
      ((T' 8=gb true∧k+kW T0=g.aD.length * ((p.length+1) * (p.length+1))+1)∨(T' 8=gb false∧∀ r∈g.rules,∀ f,f≤p.length→fH p T0 r f))∧T' 1=encI p∧T' 2=.aJ (ar g) 0∧T' 5=.sl I 0 g.aD.length 1) (g.aD.length * ((p.length+1) * (p.length+1))+1 - kW (tE g.aD.length (p.length+1))) ?_ ?_
    · have:=AK (BS g.aD.length (p.length+1))
      exact ⟨_,hG,BS _ _,fun n i j h=>by rw[Im] at h; simp at h,.inl ⟨rfl,by omega⟩,t1,t2,t5⟩
    clear hB hG t1 t2 t5 t6
    rintro k T' H ⟨T0,hG,hok,hsd,h8,t1,t2,t5⟩
    rcases h8 with ⟨t8,hcnt⟩ | ⟨t8,hcl⟩
    · simp (disch:=omega) only [↓wr,↓reduceIte,wq,ai,ah,ak,ae,af,ag,aj,isNil,Nat.reduceEqDiff,Nat.reduceAdd,Nat.reduceLT,Nat.reduceLeDiff,Int.reduceNeg,Int.reduceToNat,reduceCtorEq,gB,t1,t2,t5,t8]
      refine bo.up g.rules.length (fun i T' H'=>Gm g p I R C T0 (∀ q r,q < i→g.rules[q]?=some r→∀ f,f≤p.length→fH p T0 r f) T' H'∧T' 9=gi i) ⟨⟨T0,hG,hok,hsd,.inl ⟨rfl,rfl,fun q r hq=>by omega⟩,t1,t2,t5⟩,rfl⟩ ?_
      clear hG t1 t2 t5 t8
      rintro i m T' H hm ⟨⟨T1,hG,hok1,hsd1,h8,t1,t2,t5⟩,t9⟩
      simp (disch:=omega) only [↓wr,↓reduceIte,wq,ai,ah,ak,ae,af,ag,aj,isNil,Nat.reduceEqDiff,Nat.reduceAdd,Nat.reduceLT,Nat.reduceLeDiff,Int.reduceNeg,Int.reduceToNat,reduceCtorEq,lW,t1,t2,t5,t9,ar]
      refine an.dec (fun hc2=>?_) (fun hc2=>?_)
      · have hg2:g.rules[i]?=some (g.rules[i]'(by omega)):=List.getElem?_eq_getElem (by omega)
        have hmem:g.rules[i]'(by omega)∈g.rules:=List.getElem_mem _
        generalize g.rules[i]'(by omega)=r at hg2 hmem
        simp (disch:=omega) only [↓wr,↓reduceIte,wq,ai,ah,ak,ae,af,ag,aj,isNil,Nat.reduceEqDiff,Nat.reduceAdd,Nat.reduceLT,Nat.reduceLeDiff,Int.reduceNeg,Int.reduceToNat,reduceCtorEq,t1,t2,t5,t9,ar,bj,encI,List.getElem?_map,hg2]
        intro b hb
        try simp (disch:=omega) only [↓wr,↓reduceIte,wq,ai,ah,ak,ae,af,ag,aj,isNil,Nat.reduceEqDiff,Nat.reduceAdd,Nat.reduceLT,Nat.reduceLeDiff,Int.reduceNeg,Int.reduceToNat,reduceCtorEq,t1,t2,t5,t9]
        have hl:=hf.left r hmem
        have hrw:=hg.bq r hmem
        refine bo.up (p.length+1) (fun f T' H'=>Gm g p I R C T0 ((∀ q r,q < i→g.rules[q]?=some r→∀ f,f≤p.length→fH p T0 r f)∧∀ f',f' < f→fH p T0 r f') T' H'∧T' 9=gi i∧T' 10=.ptr b 0 0∧H' b=.arr 3 [bj r]∧T' 11=gi f) ?_ ?_
        · refine ⟨⟨T1,hG.keep fun id hid=>?_,hok1,hsd1,?_,t1,t2,t5⟩,t9,rfl,by simp[View.set,bj,encI],rfl⟩
          · have:id≠b:=by rintro rfl; exact hid hb
            simp[View.set,this]
          · rcases h8 with ⟨a,b,c⟩ | h
            · exact .inl ⟨a,b,c,fun f' hf'=>by omega⟩
            · exact .inr h
        clear hG h8 t1 t2 t5 t9 hb hok1 hsd1
        rintro f u T' H hu ⟨⟨T1,hG,hok1,hsd1,h8,t1,t2,t5⟩,t9,t10,hb,t11⟩
        simp (disch:=omega) only [↓wr,↓reduceIte,wq,ai,ah,ak,ae,af,ag,aj,isNil,Nat.reduceEqDiff,Nat.reduceAdd,Nat.reduceLT,Nat.reduceLeDiff,Int.reduceNeg,Int.reduceToNat,reduceCtorEq,lq,t1,t2,t5,t9,t10,t11,encI]
        refine an.dec (fun hc3=>?_) (fun hc3=>?_)
        · simp (disch:=omega) only [↓wr,↓reduceIte,wq,ai,ah,ak,ae,af,ag,aj,isNil,Nat.reduceEqDiff,Nat.reduceAdd,Nat.reduceLT,Nat.reduceLeDiff,Int.reduceNeg,Int.reduceToNat,reduceCtorEq,t1,t2,t5,t9,t10,t11,hb,bj,encI]
          have hen:=HY r.right p T1 f g.aD.length hrw.2.2.1 hp hok1 (by omega) (fun x hx=>⟨hrw.2.2.2 x hx,fun hn=>hf.neg hmem hx hn⟩)
          refine az.rj hen (by kernel_rfl) ⟨cO.tree (cn r.right),cO.tree (cn p),hG.uG hok1,cO.tree (.val _),trivial⟩ ?_
          have hel:=yS p T1 r.right f
          have hls:∀ j,j≤p.length→(fR p T1 r.right f).getD j false=true→f≤j∧Sp g p r.right f j:=fun j hj he=>by
            have h1:=(Bg (show f≤p.length by omega) hj).1 he
            exact ⟨h1.le Ba,Hw (fun n i j h=>(hsd1 n i j h.2).2) h1⟩
          have hl0:T1=T0→fR p T1 r.right f=fR p T0 r.right f:=fun e=>by rw[e]
          have h8':(T' 8=gb false∧T1=T0∧((∀ q r,q < i→g.rules[q]?=some r→∀ f,f≤p.length→fH p T0 r f)∧∀ f',f' < f→fH p T0 r f')∧fR p T1 r.right f=fR p T0 r.right f)∨(T' 8=gb true∧kW T0 < kW T1):=by
            rcases h8 with ⟨a,b,c⟩ | h
            · exact .inl ⟨a,b,c,hl0 b⟩
            · exact .inr h
          clear h8 hl0
          generalize fR p T1 r.right f=lst at hel hls h8'
          simp (disch:=omega) only [↓wr,↓reduceIte,wq,ai,ah,ak,ae,af,ag,aj,isNil,Nat.reduceEqDiff,Nat.reduceAdd,Nat.reduceLT,Nat.reduceLeDiff,Int.reduceNeg,Int.reduceToNat,reduceCtorEq,t1,t2,t5,t9,t10,t11]
          refine bo.up (p.length+1 - f) (fun s T' H'=>Gm g p I R C T0 (((∀ q r,q < i→g.rules[q]?=some r→∀ f,f≤p.length→fH p T0 r f)∧∀ f',f' < f→fH p T0 r f')∧lst=fR p T0 r.right f∧∀ j,f≤j→j < f+s→lst.getD j false=true→dM T0 r.left.toNat f j=true) T' H'∧T' 9=gi i∧T' 10=.ptr b 0 0∧H' b=.arr 3 [bj r]∧T' 11=gi f∧T' 12=cE lst∧T' 13=gi ((f+s:Nat):Int)) ?_ ?_
          · refine ⟨⟨T1,hG,hok1,hsd1,?_,t1,t2,t5⟩,t9,t10,hb,t11,rfl,rfl⟩
            rcases h8' with ⟨a,b,c,d⟩ | h
            · exact .inl ⟨a,b,c,d,fun j h1 h2=>by omega⟩
            · exact .inr h
          clear hG h8' t1 t2 t5 t9 t10 t11 hb hok1 hsd1
          rintro s w T' H hw ⟨⟨T1,hG,hok1,hsd1,h8,t1,t2,t5⟩,t9,t10,hb,t11,t12,t13⟩
          simp (disch:=omega) only [↓wr,↓reduceIte,wq,ai,ah,ak,ae,af,ag,aj,isNil,Nat.reduceEqDiff,Nat.reduceAdd,Nat.reduceLT,Nat.reduceLeDiff,Int.reduceNeg,Int.reduceToNat,reduceCtorEq,l7,t1,t2,t5,t9,t10,t11,t12,t13,encI]
          refine an.dec (fun hc4=>?_) (fun hc4=>?_)
          · have hgl:lst[f+s]?=some (lst.getD (f+s) false):=by simp[List.getD_eq_getElem?_getD,show f+s < lst.length by omega]
            have hls':=hls (f+s) (by omega)
            simp (disch:=omega) only [↓wr,↓reduceIte,wq,ai,ah,ak,ae,af,ag,aj,isNil,Nat.reduceEqDiff,Nat.reduceAdd,Nat.reduceLT,Nat.reduceLeDiff,Int.reduceNeg,Int.reduceToNat,reduceCtorEq,t1,t2,t5,t9,t10,t11,t12,t13,cE,List.getElem?_map,hgl]
            generalize hlve:lst.getD (f+s) false=lv at hls'
            have hln:r.left.toNat < g.aD.length:=by omega
            have ht:=hG.top
            have htg:=dn (F:=fun n=>[V.sl (R n) 0 (p.length+1) 1]) hln
            have hro:=hG.row r.left.toNat hln
            have hrg:=dn (F:=fun i=>[V.sl (C r.left.toNat i) 0 (p.length+1) 1]) (show f < p.length+1 by omega)
            have hce:=hG.cell r.left.toNat f hln (by omega)
            obtain ⟨row,cell,hrow,hcell,hcl,hcg⟩:=hok1.cell hln (show f < p.length+1 by omega)
            rw[hcg] at hce
            have hcd:=m5 (l:=cell) (i:=f+s) (by omega)
            have htb:dM T1 r.left.toNat f (f+s)=cell.getD (f+s) false:=by rw[dM,hcg]
            have hkeep:∀ (lv':Bool),(lv'=true→dM T1 r.left.toNat f (f+s)=true)→lst.getD (f+s) false=lv'→((T' 8=gb false∧T1=T0∧((∀ q r,q < i→g.rules[q]?=some r→∀ f,f≤p.length→fH p T0 r f)∧∀ f',f' < f→fH p T0 r f')∧lst=fR p T0 r.right f∧∀ j,f≤j→j < f+(s+1)→lst.getD j false=true→dM T0 r.left.toNat f j=true)∨(T' 8=gb true∧kW T0 < kW T1)):=fun lv' hlv hlv2=>by
              rcases h8 with ⟨a,b,c,d,e⟩ | h
              · refine .inl ⟨a,b,c,d,fun j h1 h2 h3=>?_⟩
                by_cases ej:j=f+s
                · subst ej
                  rw[hlv2] at h3
                  rw[← b]; exact hlv h3
                · exact e j h1 (by omega) h3
              · exact .inr h
            refine an.split (fun hlv=>?_) (fun hlv=>?_)
            · subst hlv
              obtain ⟨_,hsp⟩:=hls' rfl
              simp (disch:=omega) only [↓wr,↓reduceIte,wq,ai,ah,ak,ae,af,ag,aj,isNil,Nat.reduceEqDiff,Nat.reduceAdd,Nat.reduceLT,Nat.reduceLeDiff,Int.reduceNeg,Int.reduceToNat,reduceCtorEq,t1,t2,t5,t9,t10,t11,t12,t13,hb,bj,ht,htg,hro,hrg,hce,hcd]
              refine ⟨by omega,by simp; omega,?_⟩
              try simp (disch:=omega) only [↓wr,↓reduceIte,wq,ai,ah,ak,ae,af,ag,aj,isNil,Nat.reduceEqDiff,Nat.reduceAdd,Nat.reduceLT,Nat.reduceLeDiff,Int.reduceNeg,Int.reduceToNat,reduceCtorEq,t1,t2,t5,t9,t10,t11,t12,t13,hb,bj,ht,htg,hro,hrg,hce,hcd]
              refine ⟨by omega,by simp; omega,by omega,by omega,?_⟩
              refine an.split (fun hcv=>?_) (fun hcv=>?_)
              · simp (disch:=omega) only [↓wr,↓reduceIte,wq,ai,ah,ak,ae,af,ag,aj,isNil,Nat.reduceEqDiff,Nat.reduceAdd,Nat.reduceLT,Nat.reduceLeDiff,Int.reduceNeg,Int.reduceToNat,reduceCtorEq,t1,t2,t5,t9,t10,t11,t12,t13]
                exact bb hw (by omega) ⟨⟨T1,hG,hok1,hsd1,hkeep true (fun _=>by rw[htb]; exact hcv) hlve,t1,t2,t5⟩,t9,t10,hb,t11,t12,rfl⟩
              · simp (disch:=omega) only [↓wr,↓reduceIte,wq,ai,ah,ak,ae,af,ag,aj,isNil,Nat.reduceEqDiff,Nat.reduceAdd,Nat.reduceLT,Nat.reduceLeDiff,Int.reduceNeg,Int.reduceToNat,reduceCtorEq,t1,t2,t5,t9,t10,t11,t12,t13,hb,bj,ht,htg,hro,hrg,hce,hcd]
                refine ⟨by omega,by simp; omega,?_⟩
                try simp (disch:=omega) only [↓wr,↓reduceIte,wq,ai,ah,ak,ae,af,ag,aj,isNil,Nat.reduceEqDiff,Nat.reduceAdd,Nat.reduceLT,Nat.reduceLeDiff,Int.reduceNeg,Int.reduceToNat,reduceCtorEq,t1,t2,t5,t9,t10,t11,t12,t13,hb,bj,ht,htg,hro,hrg,hce,hcd]
                refine ⟨by omega,by simp; omega,by omega,by omega,?_⟩
                have hput:=hG.put hok1 hln (show f < p.length+1 by omega) (show f+s < p.length+1 by omega)
                have hcs:=Iq hok1 hln (show f < p.length+1 by omega) (show f+s < p.length+1 by omega) (by rw[htb]; exact hcv)
                rw[hcg,← jg] at hput
                have hbC:b≠C r.left.toNat f:=fun e=>by rw[e,hce] at hb; simp at hb
                refine bb hw (by omega) ⟨⟨jS T1 r.left.toNat f (f+s),?_,GO hok1 hln (by omega),fun n i' j' h=>?_,.inr ⟨rfl,?_⟩,t1,t2,t5⟩,t9,t10,by simp[View.set,hbC,hb,bj],t11,t12,rfl⟩
                · exact hput
                · rw[GI hok1 hln (by omega) (by omega)] at h
                  split at h
                  · rename_i e
                    obtain ⟨rfl,rfl,rfl⟩:=e
                    refine ⟨by omega,?_⟩
                    exact .bU _ _ r _ _ _ (by omega) hmem (by omega) hsp (.nil _)
                  · exact hsd1 n i' j' h
                · rcases h8 with ⟨_,e,_⟩ | ⟨_,e⟩
                  · rw[hcs,e]; omega
                  · omega
            · subst hlv
              simp (disch:=omega) only [↓wr,↓reduceIte,wq,ai,ah,ak,ae,af,ag,aj,isNil,Nat.reduceEqDiff,Nat.reduceAdd,Nat.reduceLT,Nat.reduceLeDiff,Int.reduceNeg,Int.reduceToNat,reduceCtorEq,t1,t2,t5,t9,t10,t11,t12,t13]
              exact bb hw (by omega) ⟨⟨T1,hG,hok1,hsd1,hkeep false (fun h=>by simp at h) hlve,t1,t2,t5⟩,t9,t10,hb,t11,t12,rfl⟩
          · simp (disch:=omega) only [↓wr,↓reduceIte,wq,ai,ah,ak,ae,af,ag,aj,isNil,Nat.reduceEqDiff,Nat.reduceAdd,Nat.reduceLT,Nat.reduceLeDiff,Int.reduceNeg,Int.reduceToNat,reduceCtorEq,t1,t2,t5,t9,t10,t11,t12,t13]
            refine bb hu (by omega) ⟨⟨T1,hG,hok1,hsd1,?_,t1,t2,t5⟩,t9,t10,hb,rfl⟩
            rcases h8 with ⟨a,b,c,d,e⟩ | h
            · refine .inl ⟨a,b,c.1,fun f' hf'=>?_⟩
              by_cases ef:f'=f
              · subst ef
                exact fun j h1 h2 h3=>e j h1 (by omega) (by rw[d]; exact h3)
              · exact c.2 f' (by omega)
            · exact .inr h
        · simp (disch:=omega) only [↓wr,↓reduceIte,wq,ai,ah,ak,ae,af,ag,aj,isNil,Nat.reduceEqDiff,Nat.reduceAdd,Nat.reduceLT,Nat.reduceLeDiff,Int.reduceNeg,Int.reduceToNat,reduceCtorEq,t1,t2,t5,t9,t10,t11]
          refine bb hm (by omega) ⟨⟨T1,hG,hok1,hsd1,?_,t1,t2,t5⟩,rfl⟩
          rcases h8 with ⟨a,b,c,d⟩ | h
          · refine .inl ⟨a,b,fun q r' hq hr' f' hf'=>?_⟩
            by_cases eq:q=i
            · subst eq
              rw[hg2] at hr'; simp at hr'; subst hr'
              exact d f' (by omega)
            · exact c q r' (by omega) hr' f' hf'
          · exact .inr h
      · simp (disch:=omega) only [↓wr,↓reduceIte,wq,ai,ah,ak,ae,af,ag,aj,isNil,Nat.reduceEqDiff,Nat.reduceAdd,Nat.reduceLT,Nat.reduceLeDiff,Int.reduceNeg,Int.reduceToNat,reduceCtorEq,t1,t2,t5,t9]
        rcases h8 with ⟨a,b,c⟩ | ⟨a,b⟩
        · subst b
          refine ⟨0,by have:=AK hok; omega,T1,hG,hok,hsd,.inr ⟨a,fun r hr f hf'=>?_⟩,rfl⟩
          obtain ⟨q,hq,hqe⟩:=List.getElem_of_mem hr
          exact c q r (by omega) (by rw[List.getElem?_eq_getElem hq,hqe]) f hf'
        · have:=AK hok1
          exact ⟨g.aD.length * ((p.length+1) * (p.length+1))+1 - kW T1,by omega,T1,hG,hok1,hsd1,.inl ⟨a,by omega⟩,rfl⟩
    · simp (disch:=omega) only [↓wr,↓reduceIte,wq,ai,ah,ak,ae,af,ag,aj,isNil,Nat.reduceEqDiff,Nat.reduceAdd,Nat.reduceLT,Nat.reduceLeDiff,Int.reduceNeg,Int.reduceToNat,reduceCtorEq,gB,t1,t2,t5,t8]
      intro h' hh
      have hT:T0=uk g p:=I5 (fun r hr=>(hf.left r hr).1) (fun r hr=>(hf.left r hr).2) hok (fun n i j h=>(hsd n i j h.2).2) (fun n i j h=>(hsd n i j h).1) fun r hr f j hfj hj he=>hcl r hr f (by omega) j hfj hj he
      rw[← hT]
      exact jE.Ev (by rw[hh]; exact hG) hok
end Gv
set_option linter.unusedSimpArgs false
set_option maxRecDepth 100000
namespace Gv
open Go Go.Proofs
def iK (g:au) (p:List Int):Bool:=p.all fun x=>decide (-1≤x) && decide (x < g.aw.length)
noncomputable def cF (g:au) (p:List Int):Bool:=dM (uk g p) g.start.toNat 0 p.length
noncomputable def jy (g:au) (p:List Int):Bool × Int:=if (aT g && decide (p.length≤60) && iK g p)=true then (cF g p,0) else (false,1)
def kQ (x:Bool × Int):V:=.bp [gb x.1,gi x.2]
theorem sU (x:Bool × Int):Tree (kQ x):=yf (.val _) (.val _)
theorem qU {g:au} (hr:aT g=true) (p:List Int):cF g p=true↔Sp g p [-1 - g.start] 0 p.length:=by
  have hf:=bt hr
  have h0:=hf.qw
  have h1:=hf.start
  rw[cF,Em (by omega) (by omega) (by omega)]
  rw[show ((g.start.toNat:Nat):Int)=g.start by omega]
def jM:SC :=
  .seq (.seq (al [aa 15 6,aa 16 1,aI 17 16,aK 18 .lss 15 17]) <|
  .cond (.tmp 18) (.skip) (.exit 0)) <|
  .seq (.block 1 (.seq (.region false [⟨none,[aa 21 1,aa 22 6,aX 23 1 21 22,ao 24 23,ax 25 .lss 24 (-1),aa 26 25]⟩,⟨(some (26,false)),[aa 27 1,aa 28 6,aX 29 1 27 28,ao 30 29,aq 31 0 2,ao 32 31,aI 33 32,aK 34 .geq 30 33]⟩,⟨none,[bf 35 26 34]⟩]) <|
  .cond (.tmp 35) (.seq (al [aP 4 false,aG 5 1]) <|
  .ret) (.skip))) <|
  al [aa 19 6,ax 20 .add 19 1,aa 6 20]
def lN:SF:=⟨.seq (al [b7 2 0,aP 4 false,aG 5 0]) <|
  .seq (.seq (.region false [⟨none,[aO 7 4 2,aF 8 41 [7],bQ 9 8,aa 10 9]⟩,⟨(some (10,false)),[aa 11 1,aI 12 11,ax 13 .gtr 12 60]⟩,⟨none,[bf 14 10 13]⟩]) <|
  .cond (.tmp 14) (.seq (al [aP 4 false,aG 5 1]) <|
  .ret) (.skip)) <|
  .seq (.seq (al [aG 6 0]) <|
  .block 0 (.loop jM)) <|
  .seq (.region true [⟨none,[aO 36 4 2,aa 37 1,aF 38 42 [36,37],aq 39 3 2,ao 40 39,aX 41 1 38 40,ao 42 41,((some 43),.op (.idx 1 (.tmp 42) (.val (.val (.int .i64 0))))),ao 44 43,aa 45 1,aI 46 45,aX 47 1 44 46,ao 48 47,aa 4 48,aG 5 0]⟩]) <|
  .ret,
  [.tmp 4,.tmp 5],49⟩
theorem qq:aR Tryz.prog 18 [2]=some lN:=by kernel_rfl
set_option maxHeartbeats 4000000 in
theorem yB (g:au) (hg:g.Ok) (p:List Int) (hp:aL p) (hn:∀ x∈p,bJ x):aC Tryz.prog 18 [.agg (ar g),encI p] (kQ (jy g p)):=by
  refine aC.tree (by
    intro v hv; simp at hv
    rcases hv with rfl | rfl
    · exact bF _ (bB g)
    · exact cn p) (sU _) fun H=>?_
  refine aB.of mixed qq ?_
  unfold aL at hp
  have hgt:=hg.aw
  unfold aL at hgt
  have bad:(aT g && decide (p.length≤60) && iK g p)=false→kQ (jy g p)=.bp [gb false,gi 1]:=fun e=>by
    unfold jy; rw[if_neg (by rw[e]; simp)]; rfl
  simp (disch:=omega) only [↓wr,↓reduceIte,wq,ai,ah,ak,ae,af,ag,aj,isNil,Nat.reduceEqDiff,Nat.reduceAdd,Nat.reduceLT,Nat.reduceLeDiff,Int.reduceNeg,Int.reduceToNat,reduceCtorEq,lN,ar,encS,encI]
  refine az.pure (rA g hg) (by kernel_rfl) ?_
  simp (disch:=omega) only [↓wr,↓reduceIte,wq,ai,ah,ak,ae,af,ag,aj,isNil,Nat.reduceEqDiff,Nat.reduceAdd,Nat.reduceLT,Nat.reduceLeDiff,Int.reduceNeg,Int.reduceToNat,reduceCtorEq]
  refine an.split (fun hr=>?_) (fun hr=>?_)
  · have hf:=bt hr
    simp (disch:=omega) only [↓wr,↓reduceIte,wq,ai,ah,ak,ae,af,ag,aj,isNil,Nat.reduceEqDiff,Nat.reduceAdd,Nat.reduceLT,Nat.reduceLeDiff,Int.reduceNeg,Int.reduceToNat,reduceCtorEq,encI]
    refine an.dec (fun h6=>?_) (fun h6=>?_)
    · simp (disch:=omega) only [↓wr,↓reduceIte,wq,ai,ah,ak,ae,af,ag,aj,isNil,Nat.reduceEqDiff,Nat.reduceAdd,Nat.reduceLT,Nat.reduceLeDiff,Int.reduceNeg,Int.reduceToNat,reduceCtorEq]
      exact (bad (by rw[decide_eq_false (by omega)]; simp)).symm
    · simp (disch:=omega) only [↓wr,↓reduceIte,wq,ai,ah,ak,ae,af,ag,aj,isNil,Nat.reduceEqDiff,Nat.reduceAdd,Nat.reduceLT,Nat.reduceLeDiff,Int.reduceNeg,Int.reduceToNat,reduceCtorEq,encI]
      refine bo.up p.length (fun i T' H'=>iK g (p.take i)=true∧T' 1=encI p∧T' 2=.aJ (ar g) 0∧T' 6=gi i) ⟨rfl,rfl,rfl,rfl⟩ ?_
      rintro i k T' H' hk ⟨hpt,t1,t2,t6⟩
      simp (disch:=omega) only [↓wr,↓reduceIte,wq,ai,ah,ak,ae,af,ag,aj,isNil,Nat.reduceEqDiff,Nat.reduceAdd,Nat.reduceLT,Nat.reduceLeDiff,Int.reduceNeg,Int.reduceToNat,reduceCtorEq,jM,t1,t2,t6,encI]
      refine an.dec (fun hc=>?_) (fun hc=>?_)
      · have hg1:p[i]?=some (p[i]'(by omega)):=List.getElem?_eq_getElem (by omega)
        have hmem:p[i]'(by omega)∈p:=List.getElem_mem _
        have htk:p.take (i+1)=p.take i ++ [p[i]'(by omega)]:=by rw[List.take_add_one,hg1]; rfl
        generalize p[i]'(by omega)=x at hg1 hmem htk
        have hpn:iK g (p.take (i+1))=(decide (-1≤x) && decide (x < g.aw.length)):=by
          unfold iK at hpt ⊢
          rw[htk,List.all_append,hpt]; simp
        have hbx:(decide (-1≤x) && decide (x < g.aw.length))=false→iK g p=false:=fun e=>by
          unfold iK
          rw[List.all_eq_false]
          exact ⟨x,hmem,by rw[e]; simp⟩
        simp (disch:=omega) only [↓wr,↓reduceIte,wq,ai,ah,ak,ae,af,ag,aj,isNil,Nat.reduceEqDiff,Nat.reduceAdd,Nat.reduceLT,Nat.reduceLeDiff,Int.reduceNeg,Int.reduceToNat,reduceCtorEq,t1,t2,t6,encI,ar,encS,List.getElem?_map,hg1]
        refine an.dec (fun h1=>?_) (fun h1=>?_)
        · simp (disch:=omega) only [↓wr,↓reduceIte,wq,ai,ah,ak,ae,af,ag,aj,isNil,Nat.reduceEqDiff,Nat.reduceAdd,Nat.reduceLT,Nat.reduceLeDiff,Int.reduceNeg,Int.reduceToNat,reduceCtorEq,t1,t2,t6]
          exact (bad (by rw[hbx (by rw[decide_eq_false (by omega)]; rfl),Bool.and_false])).symm
        · simp (disch:=omega) only [↓wr,↓reduceIte,wq,ai,ah,ak,ae,af,ag,aj,isNil,Nat.reduceEqDiff,Nat.reduceAdd,Nat.reduceLT,Nat.reduceLeDiff,Int.reduceNeg,Int.reduceToNat,reduceCtorEq,t1,t2,t6,encI,ar,encS,List.getElem?_map,hg1]
          refine an.dec (fun h2=>?_) (fun h2=>?_)
          · simp (disch:=omega) only [↓wr,↓reduceIte,wq,ai,ah,ak,ae,af,ag,aj,isNil,Nat.reduceEqDiff,Nat.reduceAdd,Nat.reduceLT,Nat.reduceLeDiff,Int.reduceNeg,Int.reduceToNat,reduceCtorEq,t1,t2,t6]
            exact (bad (by rw[hbx (by rw[decide_eq_false (show ¬ x < (g.aw.length:Int) by omega),Bool.and_false]),Bool.and_false])).symm
          · simp (disch:=omega) only [↓wr,↓reduceIte,wq,ai,ah,ak,ae,af,ag,aj,isNil,Nat.reduceEqDiff,Nat.reduceAdd,Nat.reduceLT,Nat.reduceLeDiff,Int.reduceNeg,Int.reduceToNat,reduceCtorEq,t1,t2,t6]
            exact bb hk (by omega) ⟨by rw[hpn,decide_eq_true (by omega),decide_eq_true (by omega)]; rfl,t1,t2,rfl⟩
      · rw[List.take_of_length_le (by omega)] at hpt
        simp (disch:=omega) only [↓wr,↓reduceIte,wq,ai,ah,ak,ae,af,ag,aj,isNil,Nat.reduceEqDiff,Nat.reduceAdd,Nat.reduceLT,Nat.reduceLeDiff,Int.reduceNeg,Int.reduceToNat,reduceCtorEq,t1,t2,t6,ar,encS]
        have hof:=Jk g hg hf p (by omega)
        simp only[ar,encS] at hof
        refine az.pure hof.pure (by kernel_rfl) ?_
        have h0:=hf.qw
        have h1:=hf.start
        obtain ⟨row,cell,hrow,hcell,hcl,hcg⟩:=(FF g p).cell (n:=g.start.toNat) (i:=0) (by omega) (by omega)
        have hcr:cell[p.length]?=some (cF g p):=by
          rw[cF,dM,hcg]; simp[List.getD_eq_getElem?_getD,show p.length < cell.length by omega]
        have hA:jy g p=(cF g p,0):=if_pos (by rw[hr,hpt,decide_eq_true (by omega)]; rfl)
        generalize uk g p=S at hrow ⊢
        have hc0:cell[(p.length:Int).toNat]?=some (cF g p):=by rw[Int.toNat_natCast]; exact hcr
        simp (disch:=omega) only [↓wr,↓reduceIte,wq,ai,ah,ak,ae,af,ag,aj,isNil,Nat.reduceEqDiff,Nat.reduceAdd,Nat.reduceLT,Nat.reduceLeDiff,Int.reduceNeg,Int.reduceToNat,reduceCtorEq,t1,t2,t6,encI,ar,encS,iE,cE,List.getElem?_map,hrow,hcell,hcr,hc0]
        rw[hA]; rfl
  · simp (disch:=omega) only [↓wr,↓reduceIte,wq,ai,ah,ak,ae,af,ag,aj,isNil,Nat.reduceEqDiff,Nat.reduceAdd,Nat.reduceLT,Nat.reduceLeDiff,Int.reduceNeg,Int.reduceToNat,reduceCtorEq]
    exact (bad (by rw[hr]; simp)).symm
end Gv
