/-
  Part 12 of the proof: what the machine does and what the functions answer.
  Conditions: those that each lemma names.
-/
import Derived.Test.YtomcjampldmjoaaGreatSGzXK
set_option linter.unusedSimpArgs false
set_option linter.unusedVariables false
set_option maxRecDepth 100000
namespace Gv
open Go Go.Proofs
structure bL where
  bQ:Int
  cq:Int
  rules:Int
  av:Int
def qB:bL:=⟨(-1),0,0,0⟩
def fu:bL:=⟨0,0,0,0⟩
def bU (P:List bL) (m:Nat):bL:=P.getD m qB
abbrev qN (x:Int):Nat:=(-1 - x).toNat
def fo (P:List bL):List Int→bL→bL × Bool
  | [],s=>(s,true)
  | x :: l,s=>if 0≤x then fo P l ⟨s.bQ,s.cq,s.rules,min 1048576 (s.av+1)⟩
    else if (bU P (qN x)).bQ < 0 then (s,false)
    else fo P l ⟨s.bQ,max s.cq (bU P (qN x)).cq,min 1048576 (s.rules+(bU P (qN x)).rules),min 1048576 (s.av+(bU P (qN x)).av)⟩
def cx (P:List bL) (m:Nat):Prop:=0≤(bU P m).bQ
def vI (P:List bL) (l:List Int):Prop:=∀ x∈l,x < 0→cx P (qN x)
theorem uO (P:List bL):∀ (l:List Int) (s:bL),(fo P l s).2=true↔vI P l
  | [],s=>by simp[fo,vI]
  | x :: l,s=>by
    simp only[fo,vI,List.mem_cons]
    by_cases h:0≤x
    · rw[if_pos h,uO P l]
      refine ⟨fun k y hy hn=>?_,fun k y hy=>k y (.inr hy)⟩
      rcases hy with rfl | hy
      · omega
      · exact k y hy hn
    · rw[if_neg h]
      by_cases h2:(bU P (qN x)).bQ < 0
      · rw[if_pos h2]
        simp only[Bool.false_eq_true,false_iff]
        intro k
        have:=k x (.inl rfl) (by omega)
        unfold cx at this; omega
      · rw[if_neg h2,uO P l]
        refine ⟨fun k y hy hn=>?_,fun k y hy=>k y (.inr hy)⟩
        rcases hy with rfl | hy
        · unfold cx; omega
        · exact k y hy hn
theorem nD (P:List bL) (k:Int):∀ (l:List Int) (s:bL),vI P l→((fo P l s).1.cq≤k↔s.cq≤k∧∀ x∈l,x < 0→(bU P (qN x)).cq≤k)
  | [],s,_=>by simp[fo]
  | x :: l,s,h=>by
    have hl:vI P l:=fun y hy=>h y (by simp[hy])
    simp only[fo,List.mem_cons]
    by_cases h0:0≤x
    · rw[if_pos h0,nD P k l _ hl]
      refine ⟨fun ⟨a,b⟩=>⟨a,fun y hy hn=>?_⟩,fun ⟨a,b⟩=>⟨a,fun y hy=>b y (.inr hy)⟩⟩
      rcases hy with rfl | hy
      · omega
      · exact b y hy hn
    · have:=h x (by simp) (by omega)
      unfold cx at this
      rw[if_neg h0,if_neg (by omega),nD P k l _ hl]
      refine ⟨fun ⟨a,b⟩=>⟨by simp only at a; omega,fun y hy hn=>?_⟩,fun ⟨a,b⟩=>⟨by have:=b x (.inl rfl) (by omega); simp only; omega,fun y hy=>b y (.inr hy)⟩⟩
      rcases hy with rfl | hy
      · simp only at a; omega
      · exact b y hy hn
theorem yh (P:List bL):∀ (l:List Int) (s:bL),s.cq≤(fo P l s).1.cq
  | [],s=>Int.le_refl _
  | x :: l,s=>by
    simp only[fo]
    split
    · exact yh P l _
    · split
      · exact Int.le_refl _
      · have:=yh P l ⟨s.bQ,max s.cq (bU P (qN x)).cq,min 1048576 (s.rules+(bU P (qN x)).rules),min 1048576 (s.av+(bU P (qN x)).av)⟩
        simp only at this ⊢; omega
def oh (P:List bL) (i:Nat) (r:bc):bL:=⟨i,(fo P r.right fu).1.cq+1,min 1048576 ((fo P r.right fu).1.rules+1),(fo P r.right fu).1.av⟩
def D3 (P:List bL) (i:Nat) (N:List bL) (r:bc):List bL :=
  if 0≤(bU N r.left.toNat).bQ then N else if (fo P r.right fu).2=true then N.set r.left.toNat (oh P i r) else N
def vH (P:List bL):Nat→List bL→List bc→List bL
  | _,N,[]=>N
  | i,N,r :: l=>vH P (i+1) (D3 P i N r) l
def AM (rules:List bc) (P:List bL):List bL:=vH P 0 P rules
def lD (P:List bL) (m:Nat):Nat→List bc→Option bL
  | _,[]=>none
  | i,r :: l=>if r.left.toNat=m∧(fo P r.right fu).2=true then some (oh P i r) else lD P m (i+1) l
theorem Ha {N:List bL} {i m:Nat} {p:bL} (hm:m < N.length):bU (N.set i p) m=if i=m then p else bU N m:=by
  simp only[bU,List.getD_eq_getElem?_getD,List.getElem?_set]
  split
  · rename_i e; subst e; simp[hm]
  · rfl
theorem C7 (P:List bL) (i:Nat) (N:List bL) (r:bc):(D3 P i N r).length=N.length:=by
  unfold D3; split; · rfl
  split <;> simp
theorem Dc (P:List bL):∀ (l:List bc) (i:Nat) (N:List bL),(vH P i N l).length=N.length
  | [],_,_=>rfl
  | r :: l,i,N=>by rw[vH,Dc P l,C7]
theorem Gi (P:List bL) (m:Nat):∀ (l:List bc) (i:Nat) (N:List bL),m < N.length→bU (vH P i N l) m=if 0≤(bU N m).bQ then bU N m else (lD P m i l).getD (bU N m)
  | [],i,N,hm=>by simp[vH,lD]
  | r :: l,i,N,hm=>by
    rw[vH,Gi P m l (i+1) _ (by rw[C7]; exact hm),lD]
    unfold D3
    by_cases h1:0≤(bU N r.left.toNat).bQ
    · rw[if_pos h1]
      by_cases h2:r.left.toNat=m
      · subst h2
        rw[if_pos h1,if_pos h1]
      · rw[if_neg (c:=r.left.toNat=m∧_) (fun e=>h2 e.1)]
    · rw[if_neg h1]
      by_cases h3:(fo P r.right fu).2=true
      · rw[if_pos h3]
        by_cases h2:r.left.toNat=m
        · subst h2
          rw[Ha hm,if_pos rfl,if_neg h1,if_pos (show (0:Int)≤(oh P i r).bQ by simp only[oh]; omega),if_pos (c:=r.left.toNat=r.left.toNat∧_) (And.intro rfl h3)]
          rfl
        · rw[Ha hm,if_neg h2,if_neg (c:=r.left.toNat=m∧_) (fun e=>h2 e.1)]
      · rw[if_neg h3,if_neg (c:=r.left.toNat=m∧_) (fun e=>h3 e.2)]
theorem oB {P:List bL} {m:Nat} : ∀ {l:List bc} {i:Nat} {p:bL},lD P m i l=some p→∃ (j:Nat) (r:bc),l[j]?=some r∧r.left.toNat=m∧vI P r.right∧p=oh P (i+j) r∧∀ (j':Nat) (r':bc),j' < j→l[j']?=some r'→r'.left.toNat=m→¬ vI P r'.right
  | [],i,p,h=>by simp[lD] at h
  | r :: l,i,p,h=>by
    rw[lD] at h
    by_cases hc:r.left.toNat=m∧(fo P r.right fu).2=true
    · rw[if_pos hc] at h
      exact ⟨0,r,rfl,hc.1,(uO P _ _).1 hc.2,by simpa using h.symm,fun j' r' hj=>by omega⟩
    · rw[if_neg hc] at h
      obtain ⟨j,r2,a,b,c,d,e⟩:=oB h
      refine ⟨j+1,r2,by simpa using a,b,c,by rw[d]; congr 1; omega,fun j' r' hj hr hl hk=>?_⟩
      cases j' with
      | zero =>
        simp at hr; subst hr
        exact hc ⟨hl,(uO P _ _).2 hk⟩
      | succ j'=>exact e j' r' (by omega) (by simpa using hr) hl hk
theorem DA {P:List bL} {m:Nat} : ∀ {l:List bc} {i:Nat},lD P m i l=none→∀ r∈l,r.left.toNat=m→¬ vI P r.right
  | [],i,h,r,hr,_,_=>by simp at hr
  | r :: l,i,h,r',hr,hl,hk=>by
    rw[lD] at h
    by_cases hc:r.left.toNat=m∧(fo P r.right fu).2=true
    · rw[if_pos hc] at h; simp at h
    · rw[if_neg hc] at h
      rcases List.mem_cons.1 hr with rfl | hr
      · exact hc ⟨hl,(uO P _ _).2 hk⟩
      · exact DA h r' hr hl hk
def bt (g:ay) (k:Nat):List bL:=iter (AM g.rules) k (List.replicate g.aw.length qB)
theorem C2 {α:Type} (f:α→α):∀ (k:Nat) (x:α),iter f (k+1) x=f (iter f k x)
  | 0,x=>rfl
  | k+1,x=>by rw[iter,C2 f k,iter]
theorem AI (g:ay) (k:Nat):bt g (k+1)=AM g.rules (bt g k):=C2 _ _ _
theorem kY (g:ay):∀ k,(bt g k).length=g.aw.length
  | 0=>by simp[bt,iter]
  | k+1=>by rw[AI,AM,Dc,kY g k]
theorem tR {P:List bL} {m:Nat} (h:P.length≤m):bU P m=qB:=by simp[bU,List.getD_eq_getElem?_getD,List.getElem?_eq_none h]
theorem Mq {P:List bL} {m:Nat} (h:cx P m):m < P.length:=by
  rcases Nat.lt_or_ge m P.length with h1 | h1
  · exact h1
  · unfold cx at h; rw[tR h1] at h; simp[qB] at h
theorem qH (g:ay) (k m:Nat):bU (bt g (k+1)) m=if 0≤(bU (bt g k) m).bQ then bU (bt g k) m else if m < g.aw.length then (lD (bt g k) m 0 g.rules).getD (bU (bt g k) m) else bU (bt g k) m:=by
  by_cases hm:m < g.aw.length
  · rw[AI,AM,Gi _ _ _ _ _ (by rw[kY]; exact hm),if_pos hm]
  · rw[if_neg hm,tR (by rw[kY]; omega),tR (by rw[kY]; omega)]
    simp
theorem Is {g:ay} {k m:Nat} (h:cx (bt g k) m):bU (bt g (k+1)) m=bU (bt g k) m:=by
  rw[qH]; unfold cx at h; rw[if_pos h]
theorem zC {g:ay} {k m:Nat} (h:cx (bt g k) m):∀ d,bU (bt g (k+d)) m=bU (bt g k) m
  | 0=>rfl
  | d+1=>by
    have ih:=zC h d
    have:cx (bt g (k+d)) m:=by unfold cx at h ⊢; rw[ih]; exact h
    rw[← ih,← Is this]; rfl
theorem mb {g:ay} {k m j:Nat} (h:cx (bt g k) m) (hj:k≤j):bU (bt g j) m=bU (bt g k) m∧cx (bt g j) m:=by
  obtain ⟨d,rfl⟩:∃ d,j=k+d:=⟨j - k,by omega⟩
  have:=zC h d
  exact ⟨this,by unfold cx at h ⊢; rw[this]; exact h⟩
theorem CL {g:ay} {k m:Nat} (h0:¬ cx (bt g k) m) (h:cx (bt g (k+1)) m):lD (bt g k) m 0 g.rules=some (bU (bt g (k+1)) m):=by
  unfold cx at h h0
  rw[qH,if_neg h0] at h
  rw[qH,if_neg h0]
  split at h
  · rename_i hm
    rw[if_pos hm]
    cases hc:lD (bt g k) m 0 g.rules with
    | none=>rw[hc] at h; exact absurd h h0
    | some p=>rfl
  · exact absurd h h0
theorem vJ {g:ay} {m:Nat} : ∀ {k:Nat},¬ cx (bt g k) m→bU (bt g k) m=qB
  | 0,_=>by
    simp only[bt,iter,bU,List.getD_eq_getElem?_getD,List.getElem?_replicate]
    split <;> rfl
  | k+1,h=>by
    have h0:¬ cx (bt g k) m:=fun e=>h (mb e (by omega)).2
    unfold cx at h h0
    rw[qH,if_neg h0] at h ⊢
    split
    · rename_i hm
      rw[if_pos hm] at h
      cases hc:lD (bt g k) m 0 g.rules with
      | none=>exact vJ (k:=k) h0
      | some p =>
        rw[hc] at h
        obtain ⟨j,r,_,_,_,rfl,_⟩:=oB hc
        simp only[Option.getD_some,oh] at h; omega
    · exact vJ (k:=k) h0
theorem qJ (g:ay):∀ k:Nat,∀ m,cx (bt g k) m→1≤(bU (bt g k) m).cq∧(bU (bt g k) m).cq≤k∧∀ j:Nat,j≤k→(bU (bt g k) m).cq≤j→cx (bt g j) m
  | 0,m,h=>by
    unfold cx at h
    have:bU (bt g 0) m=qB:=by
      simp only[bt,iter,bU,List.getD_eq_getElem?_getD,List.getElem?_replicate]
      split <;> rfl
    rw[this] at h; simp[qB] at h
  | k+1,m,h=>by
    have ih:=qJ g k
    by_cases h0:cx (bt g k) m
    · obtain ⟨a,b,c⟩:=ih m h0
      rw[(mb h0 (Nat.le_succ k)).1]
      refine ⟨a,by push_cast; omega,fun j hj hh=>?_⟩
      rcases Nat.lt_or_ge k j with e | e
      · exact (mb h0 (by omega)).2
      · exact c j e hh
    · have hc:=CL h0 h
      obtain ⟨i,r,hr,hl,hk,hp,_⟩:=oB hc
      have hh:(bU (bt g (k+1)) m).cq=(fo (bt g k) r.right fu).1.cq+1:=by rw[hp]; rfl
      have h1:=yh (bt g k) r.right fu
      have h2:=(nD (bt g k) k r.right fu hk).2 ⟨by simp[fu],fun x hx hn=>(ih _ (hk x hx hn)).2.1⟩
      have h3:¬ (fo (bt g k) r.right fu).1.cq≤(k:Int) - 1:=by
        intro hle
        have hz:(0:Int)≤(fo (bt g k) r.right fu).1.cq:=h1
        obtain ⟨d,rfl⟩:∃ d,k=d+1:=⟨k - 1,by omega⟩
        have h4:=((nD (bt g (d+1)) _ r.right fu hk).1 hle).2
        have h5:vI (bt g d) r.right:=fun x hx hn=>(ih _ (hk x hx hn)).2.2 d (by omega) (by have:=h4 x hx hn; push_cast at this; omega)
        apply h0
        by_cases h6:cx (bt g d) m
        · exact (mb h6 (by omega)).2
        · unfold cx at h6 ⊢
          have hm:=Mq h
          rw[kY] at hm
          rw[qH,if_neg h6,if_pos hm]
          cases hc2:lD (bt g d) m 0 g.rules with
          | none=>exact absurd h5 (DA hc2 r (List.mem_of_getElem? hr) hl)
          | some p =>
            obtain ⟨j,r2,_,_,_,rfl,_⟩:=oB hc2
            simp only[Option.getD_some,oh]; omega
      have hz:(0:Int)≤(fo (bt g k) r.right fu).1.cq:=h1
      refine ⟨by omega,by push_cast; omega,fun j hj hle=>?_⟩
      have:j=k+1:=by omega
      subst this; exact h
def c5 (g:ay):List bL:=bt g g.aw.length
theorem xy (g:ay):(c5 g).length=g.aw.length:=kY _ _
theorem zt {g:ay} {m:Nat} (h:cx (c5 g) m):1≤(bU (c5 g) m).cq∧(bU (c5 g) m).cq≤g.aw.length:=⟨(qJ g _ m h).1,(qJ g _ m h).2.1⟩
theorem F4 {g:ay} {m:Nat} (h:¬ cx (c5 g) m):bU (c5 g) m=qB:=vJ h
def PC (h:List Int) (m:Nat):Int:=h.getD m 0
abbrev PW (P:List bL):List Int:=P.map bL.cq
theorem N6 (P:List bL) (m:Nat):PC (PW P) m=(bU P m).cq:=by
  simp only[PC,bU,List.getD_eq_getElem?_getD,List.getElem?_map]
  cases P[m]? <;> rfl
def NI (P:List bL):Prop:=∀ m,(cx P m→1≤(bU P m).cq)∧(¬ cx P m→bU P m=qB)
theorem NI.zero {P:List bL} (h:NI P) (m:Nat):PC (PW P) m=0↔¬ cx P m:=by
  rw[N6]
  constructor
  · intro e k; have:=(h m).1 k; omega
  · intro k; rw[(h m).2 k]; rfl
def qv (S:List (Int × Int)) (m:Nat):Int × Int:=S.getD m (0,0)
def xD (p:bL):Int × Int:=(min 1000 p.rules,min 1000 p.av)
def lR (p:bL):Prop:=(0≤p.rules∧p.rules≤1048576)∧(0≤p.av∧p.av≤1048576)
theorem Ac {P:List bL} (hP:∀ m,lR (bU P m)):∀ (l:List Int) (s:bL),lR s→lR (fo P l s).1
  | [],s,h=>h
  | x :: l,s,h=>by
    have hx:=hP (qN x)
    unfold lR at h hx
    simp only[fo]
    split
    · exact Ac hP l _ (by unfold lR; simp only; omega)
    · split
      · exact h
      · exact Ac hP l _ (by unfold lR; simp only; omega)
theorem Me:lR fu:=by unfold lR; simp[fu]
theorem Lm:lR qB:=by unfold lR; simp[qB]
theorem yn (g:ay):∀ k m,lR (bU (bt g k) m)
  | 0,m=>by
    have:bU (bt g 0) m=qB:=by
      simp only[bt,iter,bU,List.getD_eq_getElem?_getD,List.getElem?_replicate]
      split <;> rfl
    rw[this]; exact Lm
  | k+1,m=>by
    by_cases h:cx (bt g (k+1)) m
    · by_cases h0:cx (bt g k) m
      · rw[(mb h0 (Nat.le_succ k)).1]; exact yn g k m
      · obtain ⟨i,r,_,_,_,hp,_⟩:=oB (CL h0 h)
        rw[hp]
        have:=Ac (yn g k) r.right fu Me
        unfold lR at this ⊢
        simp only[oh]; omega
    · rw[vJ h]; exact Lm
inductive x6 (g:ay):List Int→List Int→List Int→Prop
  | nil:x6 g [] [] []
  | term (s:Int) (l t w:List Int):0≤s→x6 g l t w→x6 g (s :: l) t (s :: w)
  | dk (s:Int) (l:List Int) (k:Nat) (R:bc) (t1 w1 t w:List Int):s < 0→g.rules[k]?=some R→R.left = -1 - s→x6 g R.right t1 w1→x6 g l t w→x6 g (s :: l) (((k:Int) :: t1) ++ t) (w1 ++ w)
theorem x6.app {g:ay} {a t w:List Int} (h:x6 g a t w) {b t' w':List Int} (k:x6 g b t' w'):x6 g (a ++ b) (t ++ t') (w ++ w'):=by
  induction h with
  | nil=>exact k
  | term s l t w h0 _ ih=>exact .term s _ _ _ h0 ih
  | dk s l k R t1 w1 t w h0 hR hl h1 _ _ ih =>
    have:=x6.dk s _ k R t1 w1 _ _ h0 hR hl h1 ih
    simpa using this
structure Wk where
  rest:List Int
  word:List Int
  post:List Int
  high:Nat
structure Way where
  dk:Int
  bQ:Int
  place:Int
def j6 (F:List Way):List Int:=F.map Way.dk
structure rF (g:ay) (F:List Way):Prop where
  first:F[0]?=some ⟨g.start,-1,0⟩
  nodup:(j6 F).Nodup
  from_:∀ i x,F[i]?=some x→0 < i→∃ (k j:Nat) (R:bc),x.bQ=(k:Int)∧x.place=(j:Int)∧g.rules[k]?=some R∧R.right[j]?=some (-1 - x.dk)∧0≤x.dk∧∃ m y,m < i∧F[m]?=some y∧y.dk=R.left
theorem rF.pre {g:ay} {F:List Way} (h:rF g F) {i m:Nat} {x:Way} (hx:F[i]?=some x) (w:Way):(F ++ [w])[i]?=some x:=by
  rw[List.getElem?_append_left (List.getElem?_eq_some_iff.1 hx).1]; exact hx
theorem rF.inside {g:ay} {F:List Way} (h:rF g F) (h0:0≤g.start∧g.start < g.aw.length) (hs:∀ R∈g.rules,∀ s∈R.right,s < 0→-1 - s < g.aw.length):∀ n∈j6 F,0≤n∧n < g.aw.length:=by
  intro n hn
  simp only[j6,List.mem_map] at hn
  obtain ⟨x,hx,rfl⟩:=hn
  obtain ⟨i,hi⟩:=List.mem_iff_getElem?.1 hx
  by_cases hi0:i=0
  · subst hi0
    rw[h.first] at hi
    simp at hi; subst hi
    exact h0
  · obtain ⟨k,j,R,_,_,h3,h4,h5,_⟩:=h.from_ i x hi (by omega)
    have:=hs R (List.mem_of_getElem? h3) _ (List.mem_of_getElem? h4) (by omega)
    omega
theorem rF.len {g:ay} {F:List Way} (h:rF g F) (h0:0≤g.start∧g.start < g.aw.length) (hs:∀ R∈g.rules,∀ s∈R.right,s < 0→-1 - s < g.aw.length):F.length≤g.aw.length:=by
  have:=ph h.nodup (h.inside h0 hs)
  simpa [j6] using this
def lookW (F:List Way) (n:Int):Option Way:=F.find? fun x=>x.dk == n
def EY (F:List Way) (n:Int):Nat:=F.findIdx fun x=>x.dk == n
theorem OB {F:List Way} {n:Int} (h:n∈j6 F):∃ x,lookW F n=some x∧F[EY F n]?=some x∧x.dk=n:=by
  induction F with
  | nil=>simp[j6] at h
  | cons y F ih =>
    by_cases e:y.dk=n
    · exact ⟨y,by simp[lookW,e],by simp[EY,List.findIdx_cons,e],e⟩
    · have h':n∈j6 F:=by
        simp only[j6,List.map_cons,List.mem_cons] at h ⊢
        rcases h with h | h
        · exact absurd h.symm e
        · exact h
      obtain ⟨x,h1,h2,h3⟩:=ih h'
      refine ⟨x,by simpa [lookW,e] using h1,?_,h3⟩
      have:EY (y :: F) n=EY F n+1:=by simp[EY,List.findIdx_cons,show (y.dk == n)=false by simpa using e]
      rw[this]; simpa using h2
def QD (g:ay) (rest:List Int) (uw up:V):List V:=[.aL (g.av.map df),.aL (g.aw.map fun s=>[gs s]),.aL (g.rules.map bD),gi g.start,encI rest,uw,up]
def PJ (g:ay) (b:Nat) (rest W Po:List Int) (H:View):Prop:=∃ uw up,bA H [(.sl b 0 1 7,7,[QD g rest uw up]),(uw,1,bb W),(up,1,bb Po)]
def Nx (g:ay) (b:Nat) (o:Option Wk) (W Po:List Int) (r:V) (H:View):Prop:=match o with
  | some x=>r=gi x.high∧PJ g b x.rest (W ++ x.word) (Po ++ x.post) H
  | none=>r=gi 0∧∃ rest W Po,rest.length≤300∧PJ g b rest W Po H
theorem Nx.bad {g:ay} {b:Nat} {W Po W' Po' rest:List Int} {H:View} (hl:rest.length≤300) (h:PJ g b rest W' Po' H):Nx g b none W Po (gi 0) H:=⟨rfl,rest,W',Po',hl,h⟩
theorem tZ:∀ (l:List bc) (acc:List Int),(l.foldl dO acc).length≤acc.length+l.length
  | [],acc=>by simp
  | r :: l,acc=>by
    have h1:=tZ l (dO acc r)
    have h2:(dO acc r).length≤acc.length+1:=by unfold dO; split <;> simp
    simp only[List.foldl_cons,List.length_cons]
    omega
theorem MY (p q:List Bool) (l:List bc):(cJ p q l).length≤l.length:=by
  have h1:=tZ (l.filter (bO p q)) []
  have h2:=List.length_filter_le (bO p q) l
  unfold cJ
  simp only[List.length_nil] at h1
  omega
theorem OP {g:ay} (hg:g.Ok) (p q:List Bool):(sw g (bk (cJ p q g.rules)) p q).Ok:=by
  have ho:=MY p q g.rules
  have h3:=hg.rules
  unfold aR at h3
  have hb:∀ x,bJ (bk (cJ p q g.rules) x):=fun x=>by
    have:=Cx (cJ p q g.rules) x
    unfold bJ; omega
  have hb2:∀ x,bJ (-1 - bk (cJ p q g.rules) x):=fun x=>by
    have:=Cx (cJ p q g.rules) x
    unfold bJ; omega
  refine ⟨hg.av,?_,?_,hb _,hg.term,fun r hr=>?_⟩
  · unfold aR; simp only[sw,List.length_map]; omega
  · have:=List.length_filter_le (bO p q) g.rules
    unfold aR; simp only[sw,List.length_map]; omega
  · simp only[sw,List.mem_map,List.mem_filter] at hr
    obtain ⟨r0,⟨h0,_⟩,rfl⟩:=hr
    obtain ⟨_,i2,i3,i4⟩:=hg.bQ r0 h0
    refine ⟨hb _,i2,by unfold aR at i3 ⊢; simpa [bE] using i3,fun x hx=>?_⟩
    simp only[bE,List.mem_map] at hx
    obtain ⟨s,hs,rfl⟩:=hx
    split
    · exact hb2 _
    · exact i4 s hs
section
variable {g r:ay} {p q:List Bool} {o:List Int}
theorem dy.ok (h:dy g p q o r) (hg:g.Ok):r.Ok:=by
  have:=OP hg p q
  rw[← h.oe,← h.re] at this
  exact this
theorem dy.small (h:dy g p q o r) (hs:g.Small):r.Small:=by
  have:=ph h.nodup h.inside
  have:=hs.names
  exact ⟨by rw[h.len,h.av]; omega⟩
end
theorem bytes_beq (a b:ByteArray):(a == b)=decide (a=b):=by
  cases a with | mk a=>cases b with | mk b =>
  rw[Bool.eq_iff_iff]
  show (ByteArray.beq ⟨a⟩ ⟨b⟩=true)↔_
  simp only[ByteArray.beq]
  simp
theorem KC (a b:ByteArray):fN a b=decide (a=b):=by
  cases a with | mk a=>cases b with | mk b =>
  rw[Bool.eq_iff_iff]
  simp[fN]
theorem CA {α:Type} {a b:List α} {i:Nat} {x y:α} (hx:a[i]?=some x) (hy:b[i]?=some y) (h:a.take i=b.take i) (e:x=y):a.take (i+1)=b.take (i+1):=by
  rw[List.take_add_one,List.take_add_one,h,hx,hy,e]
theorem Fp {α:Type} {a b:List α} {i:Nat} (ha:a.length≤i) (hb:b.length≤i) (h:a.take i=b.take i):a=b:=by
  rwa [List.take_of_length_le ha,List.take_of_length_le hb] at h
theorem IM {α:Type} {a b:List α} {i:Nat} {x y:α} (hx:a[i]?=some x) (hy:b[i]?=some y) (e:x≠y):a≠b:=by
  rintro rfl; rw[hx] at hy; exact e (by simpa using hy)
theorem FU {α:Type} {a b:List α} (h:¬ a.length=b.length):a≠b:=fun e=>h (by rw[e])
theorem GI (x y:Term):fc Tryz.prog 9998 #[.string x.name,.int .i64 x.level,.int .i64 x.assoc] #[.string y.name,.int .i64 y.level,.int .i64 y.assoc]
    [{ name:= "Name",type:=9,offset:=0,embedded:=false,tag:= "",pkgPath:= "",byteOffset:=0 },{ name:= "Level",type:=3,offset:=1,embedded:=false,tag:= "",pkgPath:= "",byteOffset:=16 },
        { name:= "Assoc",type:=3,offset:=2,embedded:=false,tag:= "",pkgPath:= "",byteOffset:=24 }] (x.name == y.name && (x.level == y.level && (x.assoc == y.assoc && true))) :=
  .str _ _ _ _ _ (by decide) Tryz.underlying9 rfl rfl (.int _ _ _ _ _ _ (by decide) Tryz.underlying3 rfl rfl (.int _ _ _ _ _ _ (by decide) Tryz.underlying3 rfl rfl .nil))
theorem OV (x y:Term):(x.name == y.name && (x.level == y.level && (x.assoc == y.assoc && true)))=decide (x=y):=by
  rw[bytes_beq,Bool.eq_iff_iff]
  cases x; cases y
  simp
theorem OH (a b:Int):(a == b)=decide (a=b):=by rw[Bool.eq_iff_iff]; simp
theorem Nf (x y:ay):decide (x=y)=(decide (x.av=y.av) && (decide (x.aw=y.aw) && (decide (x.rules=y.rules) && decide (x.start=y.start)))):=by
  cases x; cases y
  rw[Bool.eq_iff_iff]
  simp
theorem J9 (g k:ay):∀ v∈[V.agg (ax g),V.agg (ax k)],Tree v:=by
  intro v hv; simp at hv
  rcases hv with rfl | rfl <;> exact b9 _ (cP _)
def lp:SC :=
  .seq (.seq (aq [aa 42 5,ao 43 0 2,an 44 43,aA 45 44,aC 46 .lss 42 45]) <|
  .cond (.tmp 46) (.skip) (.exit 0)) <|
  .seq (.block 1 (.seq (aq [ao 49 0 2,an 50 49,aa 51 5,aD 52 3 50 51,aF 53 3 52,ao 54 0 3,an 55 54,aa 56 5,aD 57 3 55 56,aF 58 3 57,((some 59),.op (.old (.binOp .neq 119 (.tmp 53) (.tmp 58) 119) 4))]) <|
  .cond (.tmp 59) (.seq (aq [aM 4 false]) <|
  .ret) (.skip))) <|
  aq [aa 47 5,au 48 .add 47 1,aa 5 48]
def lr:SC :=
  .seq (.seq (aq [aa 60 6,ao 61 1 2,an 62 61,aA 63 62,aC 64 .lss 60 63]) <|
  .cond (.tmp 64) (.skip) (.exit 2)) <|
  .seq (.block 3 (.seq (aq [ao 67 1 2,an 68 67,aa 69 6,aD 70 1 68 69,an 71 70,ao 72 1 3,an 73 72,aa 74 6,aD 75 1 73 74,an 76 75,((some 77),.op (.iq .neq (.tmp 71) (.tmp 76)))]) <|
  .cond (.tmp 77) (.seq (aq [aM 4 false]) <|
  .ret) (.skip))) <|
  aq [aa 65 6,au 66 .add 65 1,aa 6 66]
def lE:SC :=
  .seq (.seq (aq [aa 78 7,ao 79 2 2,an 80 79,aA 81 80,aC 82 .lss 78 81]) <|
  .cond (.tmp 82) (.skip) (.exit 4)) <|
  .seq (.block 5 (.seq (aq [ao 85 2 2,an 86 85,aa 87 7,aD 88 3 86 87,aF 89 3 88,ao 90 2 3,an 91 90,aa 92 7,aD 93 3 91 92,aF 94 3 93,((some 8),.op (.alloc [(.val (.int .i64 0)),(.emp 1),(.val (.int .i64 0))])),((some 9),.op (.alloc [(.val (.int .i64 0)),(.emp 1),(.val (.int .i64 0))])),(none,.op (.store 3 (.tmp 8) (.tmp 89))),(none,.op (.store 3 (.tmp 9) (.tmp 94)))]) <|
  .seq (.region false [⟨none,[ao 95 0 8,an 96 95,ao 97 0 9,an 98 97,aC 99 .neq 96 98,aa 100 99]⟩,⟨(some (100,false)),[ao 101 2 8,an 102 101,ao 103 2 9,an 104 103,aC 105 .neq 102 104]⟩,⟨none,[aS 106 100 105,aa 107 106]⟩,⟨(some (107,false)),[ao 108 1 8,an 109 108,ao 110 1 9,an 111 110,aJ 112 17 [109,111],bC 113 112]⟩,⟨none,[aS 114 107 113]⟩]) <|
  .cond (.tmp 114) (.seq (aq [aM 4 false]) <|
  .ret) (.skip))) <|
  aq [aa 83 7,au 84 .add 83 1,aa 7 84]
def nL:SF:=⟨.seq (aq [bz 2 0,bz 3 1,aM 4 false]) <|
  .seq (.seq (.region false [⟨none,[ao 10 0 2,an 11 10,aA 12 11,ao 13 0 3,an 14 13,aA 15 14,aC 16 .neq 12 15,aa 17 16]⟩,⟨(some (17,false)),[ao 18 1 2,an 19 18,aA 20 19,ao 21 1 3,an 22 21,aA 23 22,aC 24 .neq 20 23]⟩,⟨none,[aS 25 17 24,aa 26 25]⟩,⟨(some (26,false)),[ao 27 2 2,an 28 27,aA 29 28,ao 30 2 3,an 31 30,aA 32 31,aC 33 .neq 29 32]⟩,⟨none,[aS 34 26 33,aa 35 34]⟩,⟨(some (35,false)),[ao 36 3 2,an 37 36,ao 38 3 3,an 39 38,aC 40 .neq 37 39]⟩,⟨none,[aS 41 35 40]⟩]) <|
  .cond (.tmp 41) (.seq (aq [aM 4 false]) <|
  .ret) (.skip)) <|
  .seq (.seq (aq [az 5 0]) <|
  .block 0 (.loop lp)) <|
  .seq (.seq (aq [az 6 0]) <|
  .block 2 (.loop lr)) <|
  .seq (.seq (aq [az 7 0]) <|
  .block 4 (.loop lE)) <|
  .seq (aq [aM 4 true]) <|
  .ret,
  [.tmp 4],115⟩
theorem uM:ba Tryz.prog 34 [2,3]=some nL:=by kernel_rfl
set_option maxHeartbeats 2000000 in
theorem KZ (g k:ay) (hg:g.Ok):aI Tryz.prog 34 [.agg (ax g),.agg (ax k)] (gb (decide (g=k))):=by
  refine aI.val (J9 g k) fun H=>?_
  rw[Nf]
  refine aG.of mixed uM ?_
  have h1:=hg.av
  have h2:=hg.aw
  have h3:=hg.rules
  unfold aR at h1 h2 h3
  simp (disch:=omega) only [↓wr,↓reduceIte,wq,ah,ag,ak,ab,ae,af,ai,isNil,Nat.reduceEqDiff,Nat.reduceAdd,Nat.reduceLT,Nat.reduceLeDiff,Int.reduceNeg,Int.reduceToNat,reduceCtorEq,nL,ax,encS]
  repeat' (first | (refine ar.dec (fun _=>?_) (fun _=>?_)) | (refine ar.eq (fun _=>?_) (fun _=>?_)) | (refine ar.ne (fun _=>?_) (fun _=>?_)) | (refine ar.split (fun _=>?_) (fun _=>?_)) | (simp (disch:=omega) only [↓wr,↓reduceIte,wq,ah,ag,ak,ab,ae,af,ai,isNil,Nat.reduceEqDiff,Nat.reduceAdd,Nat.reduceLT,Nat.reduceLeDiff,Int.reduceNeg,Int.reduceToNat,reduceCtorEq,ax,encS]))
  · rename_i e; rw[decide_eq_false (FU (by omega))]; rfl
  · rename_i e; rw[decide_eq_false (p:=g.aw=k.aw) (FU (by omega))]; simp
  · rename_i e; rw[decide_eq_false (p:=g.rules=k.rules) (FU (by omega))]; simp
  · rename_i e; rw[decide_eq_false e]; simp
  rename_i l1 l2 l3 l4
  refine bp.up g.av.length (fun i T _=>g.av.take i=k.av.take i∧T 2=.aQ (ax g) 0∧T 3=.aQ (ax k) 0∧T 5=gi i) ⟨by simp,rfl,rfl,rfl⟩ ?_
  rintro i m T H hm ⟨hi,t2,t3,t5⟩
  simp (disch:=omega) only [↓wr,↓reduceIte,wq,ah,ag,ak,ab,ae,af,ai,isNil,Nat.reduceEqDiff,Nat.reduceAdd,Nat.reduceLT,Nat.reduceLeDiff,Int.reduceNeg,Int.reduceToNat,reduceCtorEq,lp,t2,t3,t5,ax,encS]
  refine ar.dec (fun hc=>?_) (fun hc=>?_)
  · have hx:=List.getElem?_eq_getElem (l:=g.av) (i:=i) (by omega)
    have hy:=List.getElem?_eq_getElem (l:=k.av) (i:=i) (by omega)
    generalize g.av[i]'(by omega)=x at hx
    generalize k.av[i]'(by omega)=y at hy
    simp (disch:=omega) only [↓wr,↓reduceIte,wq,ah,ag,ak,ab,ae,af,ai,isNil,Nat.reduceEqDiff,Nat.reduceAdd,Nat.reduceLT,Nat.reduceLeDiff,Int.reduceNeg,Int.reduceToNat,reduceCtorEq,t2,t3,t5,List.getElem?_map,hx,hy,df,ax,encS]
    refine te (xs:=#[.string x.name,.int .i64 x.level,.int .i64 x.assoc]) (ys:=#[.string y.name,.int .i64 y.level,.int .i64 y.assoc]) Tryz.underlying119 (by kernel_rfl) (by kernel_rfl) ?_ ?_ (GI x y) (.inr ⟨rfl,rfl⟩) ?_
    · rfl
    · rfl
    rw[OV]
    simp (disch:=omega) only [↓wr,↓reduceIte,wq,ah,ag,ak,ab,ae,af,ai,isNil,Nat.reduceEqDiff,Nat.reduceAdd,Nat.reduceLT,Nat.reduceLeDiff,Int.reduceNeg,Int.reduceToNat,reduceCtorEq,t2,t3,t5]
    refine ar.split (fun e=>?_) (fun e=>?_)
    · simp (disch:=omega) only [↓wr,↓reduceIte,wq,ah,ag,ak,ab,ae,af,ai,isNil,Nat.reduceEqDiff,Nat.reduceAdd,Nat.reduceLT,Nat.reduceLeDiff,Int.reduceNeg,Int.reduceToNat,reduceCtorEq,t2,t3,t5]
      exact br hm (by omega) ⟨CA hx hy hi (by simpa using e),t2,t3,rfl⟩
    · simp (disch:=omega) only [↓wr,↓reduceIte,wq,ah,ag,ak,ab,ae,af,ai,isNil,Nat.reduceEqDiff,Nat.reduceAdd,Nat.reduceLT,Nat.reduceLeDiff,Int.reduceNeg,Int.reduceToNat,reduceCtorEq,t2,t3,t5]
      rw[decide_eq_false (IM hx hy (by simpa using e))]; rfl
  have e1:g.av=k.av:=Fp (by omega) (by omega) hi
  simp (disch:=omega) only [↓wr,↓reduceIte,wq,ah,ag,ak,ab,ae,af,ai,isNil,Nat.reduceEqDiff,Nat.reduceAdd,Nat.reduceLT,Nat.reduceLeDiff,Int.reduceNeg,Int.reduceToNat,reduceCtorEq,t2,t3,t5]
  clear hi hc hm
  refine bp.up g.aw.length (fun i T _=>g.aw.take i=k.aw.take i∧T 2=.aQ (ax g) 0∧T 3=.aQ (ax k) 0∧T 6=gi i) ⟨by simp,t2,t3,rfl⟩ ?_
  clear t2 t3 t5 T H i m
  rintro i m T H hm ⟨hi,t2,t3,t5⟩
  simp (disch:=omega) only [↓wr,↓reduceIte,wq,ah,ag,ak,ab,ae,af,ai,isNil,Nat.reduceEqDiff,Nat.reduceAdd,Nat.reduceLT,Nat.reduceLeDiff,Int.reduceNeg,Int.reduceToNat,reduceCtorEq,lr,t2,t3,t5,ax,encS]
  refine ar.dec (fun hc=>?_) (fun hc=>?_)
  · have hx:=List.getElem?_eq_getElem (l:=g.aw) (i:=i) (by omega)
    have hy:=List.getElem?_eq_getElem (l:=k.aw) (i:=i) (by omega)
    generalize g.aw[i]'(by omega)=x at hx
    generalize k.aw[i]'(by omega)=y at hy
    simp (disch:=omega) only [↓wr,↓reduceIte,wq,ah,ag,ak,ab,ae,af,ai,isNil,Nat.reduceEqDiff,Nat.reduceAdd,Nat.reduceLT,Nat.reduceLeDiff,Int.reduceNeg,Int.reduceToNat,reduceCtorEq,t2,t3,t5,List.getElem?_map,hx,hy,df,ax,encS,KC]
    refine ar.split (fun e=>?_) (fun e=>?_)
    · simp (disch:=omega) only [↓wr,↓reduceIte,wq,ah,ag,ak,ab,ae,af,ai,isNil,Nat.reduceEqDiff,Nat.reduceAdd,Nat.reduceLT,Nat.reduceLeDiff,Int.reduceNeg,Int.reduceToNat,reduceCtorEq,t2,t3,t5]
      exact br hm (by omega) ⟨CA hx hy hi (by simpa using e),t2,t3,rfl⟩
    · simp (disch:=omega) only [↓wr,↓reduceIte,wq,ah,ag,ak,ab,ae,af,ai,isNil,Nat.reduceEqDiff,Nat.reduceAdd,Nat.reduceLT,Nat.reduceLeDiff,Int.reduceNeg,Int.reduceToNat,reduceCtorEq,t2,t3,t5]
      rw[decide_eq_false (p:=g.aw=k.aw) (IM hx hy (by simpa using e))]; simp
  have e2:g.aw=k.aw:=Fp (by omega) (by omega) hi
  simp (disch:=omega) only [↓wr,↓reduceIte,wq,ah,ag,ak,ab,ae,af,ai,isNil,Nat.reduceEqDiff,Nat.reduceAdd,Nat.reduceLT,Nat.reduceLeDiff,Int.reduceNeg,Int.reduceToNat,reduceCtorEq,t2,t3,t5]
  clear hi hc hm
  refine bp.up g.rules.length (fun i T _=>g.rules.take i=k.rules.take i∧T 2=.aQ (ax g) 0∧T 3=.aQ (ax k) 0∧T 7=gi i) ⟨by simp,t2,t3,rfl⟩ ?_
  clear t2 t3 t5 T H i m
  rintro i m T H hm ⟨hi,t2,t3,t5⟩
  simp (disch:=omega) only [↓wr,↓reduceIte,wq,ah,ag,ak,ab,ae,af,ai,isNil,Nat.reduceEqDiff,Nat.reduceAdd,Nat.reduceLT,Nat.reduceLeDiff,Int.reduceNeg,Int.reduceToNat,reduceCtorEq,lE,t2,t3,t5,ax,encS]
  refine ar.dec (fun hc=>?_) (fun hc=>?_)
  · have hx:=List.getElem?_eq_getElem (l:=g.rules) (i:=i) (by omega)
    have hy:=List.getElem?_eq_getElem (l:=k.rules) (i:=i) (by omega)
    have hmx:g.rules[i]'(by omega)∈g.rules:=List.getElem_mem _
    generalize g.rules[i]'(by omega)=x at hx hmx
    generalize k.rules[i]'(by omega)=y at hy
    have hsx:=(hg.bQ x hmx).2.2.1
    simp (disch:=omega) only [↓wr,↓reduceIte,wq,ah,ag,ak,ab,ae,af,ai,isNil,Nat.reduceEqDiff,Nat.reduceAdd,Nat.reduceLT,Nat.reduceLeDiff,Int.reduceNeg,Int.reduceToNat,reduceCtorEq,t2,t3,t5,List.getElem?_map,hx,hy,bD,encI,ax,encS]
    intro n hn
    try simp (disch:=omega) only [↓wr,↓reduceIte,wq,ah,ag,ak,ab,ae,af,ai,isNil,Nat.reduceEqDiff,Nat.reduceAdd,Nat.reduceLT,Nat.reduceLeDiff,Int.reduceNeg,Int.reduceToNat,reduceCtorEq,t2,t3,t5,bD,encI]
    intro n2 hn2
    have hmn:=(dq hn2 cU).1
    try simp (disch:=omega) only [↓wr,↓reduceIte,wq,ah,ag,ak,ab,ae,af,ai,isNil,Nat.reduceEqDiff,Nat.reduceAdd,Nat.reduceLT,Nat.reduceLeDiff,Int.reduceNeg,Int.reduceToNat,reduceCtorEq,t2,t3,t5,bD,encI,hmn,hmn.symm]
    have hne:x≠y→V.val (Value.bool false)=V.val (Value.bool (decide (g.av=k.av) && (decide (g.aw=k.aw) && (decide (g.rules=k.rules) && decide (g.start=k.start))))):=fun e=>by
      rw[decide_eq_false (p:=g.rules=k.rules) (IM hx hy e)]; simp
    repeat' (first | (refine ar.dec (fun _=>?_) (fun _=>?_)) | (refine ar.eq (fun _=>?_) (fun _=>?_)) | (refine ar.ne (fun _=>?_) (fun _=>?_)) | (refine ar.split (fun _=>?_) (fun _=>?_)) | (refine aN.pure (B6 x.right y.right hsx) (by kernel_rfl) ?_) | (simp (disch:=omega) only [↓wr,↓reduceIte,wq,ah,ag,ak,ab,ae,af,ai,isNil,Nat.reduceEqDiff,Nat.reduceAdd,Nat.reduceLT,Nat.reduceLeDiff,Int.reduceNeg,Int.reduceToNat,reduceCtorEq,t2,t3,t5,bD,encI,hmn,hmn.symm]))
    · rename_i e; exact hne fun h=>e (by rw[h])
    · rename_i e; exact hne fun h=>e (by rw[h])
    · rename_i e3 e2 e1
      refine br hm (by omega) ⟨CA hx hy hi ?_,t2,t3,rfl⟩
      cases x; cases y
      simp_all
    · rename_i e; exact hne fun h=>by rw[h] at e; simp at e
  · have e3:g.rules=k.rules:=Fp (by omega) (by omega) hi
    simp (disch:=omega) only [↓wr,↓reduceIte,wq,ah,ag,ak,ab,ae,af,ai,isNil,Nat.reduceEqDiff,Nat.reduceAdd,Nat.reduceLT,Nat.reduceLeDiff,Int.reduceNeg,Int.reduceToNat,reduceCtorEq,t2,t3,t5]
    simp[e1,e2,e3,l4]
def qu:SF:=⟨.seq (aq [bz 1 0,aM 2 false]) <|
  .seq (aq [aF 7 4 1,aJ 8 67 [7],aa 6 8,bu 9 0 6,bu 10 1 6,bu 11 2 6,((some 3),.op (.alloc [(.emp 1),(.emp 1),(.emp 1),(.val (.int .i64 0))])),(none,.op (.store 4 (.tmp 3) (.tmp 9))),aa 4 10,aa 5 11]) <|
  .seq (.region false [⟨none,[aa 12 5,au 13 .eql 12 0,aa 14 13]⟩,⟨(some (14,true)),[aF 15 4 1,aF 16 4 3,aJ 17 34 [15,16]]⟩,⟨none,[bq 18 14 17,aa 2 18]⟩]) <|
  .ret,
  [.tmp 2],19⟩
theorem xj:ba Tryz.prog 38 [1]=some qu:=by kernel_rfl
theorem O3 (g:ay) (hg:g.Ok):aI Tryz.prog 38 [.agg (ax g)] (gb (isRed g)):=by
  refine aI.val (hQ g) fun H=>?_
  refine aG.of mixed xj ?_
  simp (disch:=omega) only [↓wr,↓reduceIte,wq,ah,ag,ak,ab,ae,af,ai,isNil,Nat.reduceEqDiff,Nat.reduceAdd,Nat.reduceLT,Nat.reduceLeDiff,Int.reduceNeg,Int.reduceToNat,reduceCtorEq,qu,ax,encS]
  refine aN.pure (Gy g hg).pure (by kernel_rfl) ?_
  unfold isRed
  generalize iF g=x
  obtain ⟨k,il,e⟩:=x
  simp (disch:=omega) only [↓wr,↓reduceIte,wq,ah,ag,ak,ab,ae,af,ai,isNil,Nat.reduceEqDiff,Nat.reduceAdd,Nat.reduceLT,Nat.reduceLeDiff,Int.reduceNeg,Int.reduceToNat,reduceCtorEq,F0,ax,encS]
  intro n hn
  refine ar.eq (fun h=>?_) (fun h=>?_)
  · simp (disch:=omega) only [↓wr,↓reduceIte,wq,ah,ag,ak,ab,ae,af,ai,isNil,Nat.reduceEqDiff,Nat.reduceAdd,Nat.reduceLT,Nat.reduceLeDiff,Int.reduceNeg,Int.reduceToNat,reduceCtorEq,F0,ax,encS]
    refine aN.pure (KZ g k hg) (by kernel_rfl) ?_
    simp (disch:=omega) only [↓wr,↓reduceIte,wq,ah,ag,ak,ab,ae,af,ai,isNil,Nat.reduceEqDiff,Nat.reduceAdd,Nat.reduceLT,Nat.reduceLeDiff,Int.reduceNeg,Int.reduceToNat,reduceCtorEq]
    simp[h]
  · simp (disch:=omega) only [↓wr,↓reduceIte,wq,ah,ag,ak,ab,ae,af,ai,isNil,Nat.reduceEqDiff,Nat.reduceAdd,Nat.reduceLT,Nat.reduceLeDiff,Int.reduceNeg,Int.reduceToNat,reduceCtorEq]
    simp[h]
structure ay.Q5 (g:ay):Prop where
  av:g.av.length≤40
  aw:g.aw.length≤40
  rules:g.rules.length≤60
  right:∀ r∈g.rules,r.right.length≤20
theorem cK.fr {h:aH} {v t:V} (f:cK h v t):Fr h v t:=by
  induction f with
  | val v=>exact .tree _ (.val _)
  | emp k=>exact .emp k
  | sl id off len esz z es es' h1 h2 h3 h4 _ ih=>exact .sl id off len esz z es es' h1 h2 h3 h4 ih
  | agg cs cs' h1 _ ih=>exact .agg cs cs' h1 ih
  | bf cs cs' h1 _ ih=>exact .bf cs cs' h1 ih
def r9:DF:=⟨.seq (aj [((some 4),.op (.aX (.val (.val (.int .u64 0))))),((some 5),.op (.aX (.val (.val (.int .u64 0)))))]) <|
  .seq (.cond (.val (.val (.bool false))) (.seq (aj [aa 11 0,((some 12),.op (.conv .u32 (.tmp 11))),aa 13 1,((some 14),.op (.conv .u32 (.tmp 13))),aJ 15 197 [12,14],aa 10 15,bu 16 0 10,bu 17 1 10,aa 6 16,aa 7 17]) <|
  .seq (aj [aa 18 6,((some 19),.op (.conv .u64 (.tmp 18))),aa 20 7,((some 21),.op (.conv .u64 (.tmp 20))),aa 4 19,aa 5 21]) <|
  .ret) (.skip)) <|
  .seq (aj [aa 23 0,aa 24 1,aJ 25 198 [23,24],aa 22 25,bu 26 0 22,bu 27 1 22,aa 8 26,aa 9 27]) <|
  .seq (aj [aa 28 8,aa 29 9,aa 4 28,aa 5 29]) <|
  .ret,
  [.tmp 4,.tmp 5],30⟩
theorem yu:aO Tryz.prog 153 []=some r9:=by kernel_rfl
def pD:DF:=⟨.seq (aj [((some 4),.op (.aX (.val (.val (.int .u32 0))))),((some 5),.op (.aX (.val (.val (.int .u32 0)))))]) <|
  .seq (aj [aa 7 0,((some 8),.op (.conv .u64 (.tmp 7))),aa 9 1,((some 10),.op (.conv .u64 (.tmp 9))),aC 11 .mul 8 10,aa 6 11]) <|
  .seq (aj [aa 12 6,((some 13),.op (.sh false (.tmp 12) (.val (.val (.int .u64 32))))),((some 14),.op (.conv .u32 (.tmp 13))),aa 15 6,((some 16),.op (.conv .u32 (.tmp 15))),aa 4 14,aa 5 16]) <|
  .ret,
  [.tmp 4,.tmp 5],17⟩
theorem vM:aO Tryz.prog 197 []=some pD:=by kernel_rfl
def pF:DF:=⟨.seq (aj [((some 4),.op (.aX (.val (.val (.int .u64 0))))),((some 5),.op (.aX (.val (.val (.int .u64 0)))))]) <|
  .seq (aj [aa 14 0,((some 15),.op (.arith .and (.tmp 14) (.val (.val (.int .u64 4294967295))))),aa 6 15]) <|
  .seq (aj [aa 16 0,((some 17),.op (.sh false (.tmp 16) (.val (.val (.int .u64 32))))),aa 7 17]) <|
  .seq (aj [aa 18 1,((some 19),.op (.arith .and (.tmp 18) (.val (.val (.int .u64 4294967295))))),aa 8 19]) <|
  .seq (aj [aa 20 1,((some 21),.op (.sh false (.tmp 20) (.val (.val (.int .u64 32))))),aa 9 21]) <|
  .seq (aj [aa 22 6,aa 23 8,aC 24 .mul 22 23,aa 10 24]) <|
  .seq (aj [aa 25 7,aa 26 8,aC 27 .mul 25 26,aa 28 10,((some 29),.op (.sh false (.tmp 28) (.val (.val (.int .u64 32))))),aC 30 .add 27 29,aa 11 30]) <|
  .seq (aj [aa 31 11,((some 32),.op (.arith .and (.tmp 31) (.val (.val (.int .u64 4294967295))))),aa 12 32]) <|
  .seq (aj [aa 33 11,((some 34),.op (.sh false (.tmp 33) (.val (.val (.int .u64 32))))),aa 13 34]) <|
  .seq (aj [aa 35 12,aa 36 6,aa 37 9,aC 38 .mul 36 37,aC 39 .add 35 38,aa 12 39]) <|
  .seq (aj [aa 40 7,aa 41 9,aC 42 .mul 40 41,aa 43 13,aC 44 .add 42 43,aa 45 12,((some 46),.op (.sh false (.tmp 45) (.val (.val (.int .u64 32))))),aC 47 .add 44 46,aa 4 47]) <|
  .seq (aj [aa 48 0,aa 49 1,aC 50 .mul 48 49,aa 5 50]) <|
  .ret,
  [.tmp 4,.tmp 5],51⟩
theorem vA:aO Tryz.prog 198 []=some pF:=by kernel_rfl
def Bh (p:bL):List V:=[gi p.bQ,gi p.cq,gi p.rules,gi p.av]
abbrev IL (P:List bL):V:=.aL (P.map Bh)
theorem I0 (P:List bL):Tree (IL P):=dg _ _ fun x _ v hv=>by
  simp[Bh] at hv
  rcases hv with rfl | rfl | rfl | rfl <;> exact .val _
theorem Iy (p:bL):∀ v∈Bh p,Tree v:=by
  intro v hv; simp[Bh] at hv
  rcases hv with rfl | rfl | rfl | rfl <;> exact .val _
def Ay (H:View) (u:V) (P:List bL):Prop:=u=IL P∨bj H u 4 (P.map Bh)
theorem Ay.Iu {H:View} {u:V} {P:List bL} (h:Ay H u P):ef H u (IL P):=by
  rcases h with rfl | h
  · exact ef.tree (I0 P)
  · exact ef.own h fun e he v hv=>by
      obtain ⟨p,_,rfl⟩:=List.mem_map.1 he
      exact Iy p v hv
theorem Ay.keep {H H':View} {u:V} {P:List bL} (h:Ay H u P) (hk:∀ id,owner u=some id→H' id=H id):Ay H' u P:=h.imp id fun h=>h.keep hk
theorem Ay.live {H:View} {u:V} {P:List bL} (h:Ay H u P) {id:Nat} (hid:owner u=some id):H id≠.dead:=by
  rcases h with rfl | h
  · simp[owner] at hid
  · rw[(h.live hid).1]; simp
def Nn (s:Int × Int):Prop:=(0≤s.1∧s.1≤1000)∧(0≤s.2∧s.2≤1000)
def zd (g:ay):List (Int × Int):=(c5 g).map xD
theorem yS:xD qB=(0,0):=by decide
theorem ML (g:ay) (m:Nat):qv (zd g) m=xD (bU (c5 g) m):=by
  simp only[zd,qv,bU,List.getD_eq_getElem?_getD,List.getElem?_map]
  cases (c5 g)[m]? <;> rfl
theorem O4 (g:ay) (m:Nat):Nn (xD (bU (c5 g) m)):=by
  have h:lR (bU (c5 g) m):=yn g _ m
  unfold lR at h
  unfold Nn xD; simp only; omega
def gP (g:ay) (j i:Nat) (S:List (Int × Int)):Prop:=S.length=g.aw.length∧∀ m,qv S m=if (bU (c5 g) m).cq≤j∨((bU (c5 g) m).cq=j+1∧m < i) then xD (bU (c5 g) m) else (0,0)
theorem gP.ok {g:ay} {j i:Nat} {S:List (Int × Int)} (h:gP g j i S) (m:Nat):Nn (qv S m):=by
  rw[h.2 m]; split
  · exact O4 g m
  · unfold Nn; simp
theorem Od {S:List (Int × Int)} {i m:Nat} {v:Int × Int} (hm:m < S.length):qv (S.set i v) m=if i=m then v else qv S m:=by
  simp only[qv,List.getD_eq_getElem?_getD,List.getElem?_set]
  split
  · rename_i e; subst e; simp[hm]
  · rfl
theorem gP.next {g:ay} {j i:Nat} {S:List (Int × Int)} (h:gP g j i S) (hi:(bU (c5 g) i).cq≠(j:Int)+1):gP g j (i+1) S:=⟨h.1,fun m=>by
  rw[h.2 m]
  by_cases e:m=i
  · subst e
    by_cases h1:(bU (c5 g) m).cq≤j
    · rw[if_pos (.inl h1),if_pos (.inl h1)]
    · rw[if_neg (by omega),if_neg (by omega)]
  · congr 1
    simp only[eq_iff_iff]
    constructor <;> rintro (h1 | h1) <;> first | exact .inl h1 | exact .inr ⟨h1.1,by omega⟩⟩
theorem gP.put {g:ay} {j i:Nat} {S:List (Int × Int)} (h:gP g j i S) (hi:(bU (c5 g) i).cq=(j:Int)+1) (hn:i < g.aw.length):gP g j (i+1) (S.set i (xD (bU (c5 g) i))):=⟨by simp[h.1],fun m=>by
  by_cases hm:m < S.length
  · rw[Od hm]
    by_cases e:i=m
    · subst e; rw[if_pos rfl,if_pos (.inr ⟨hi,by omega⟩)]
    · rw[if_neg e,h.2 m]
      congr 1
      simp only[eq_iff_iff]
      constructor <;> rintro (h1 | h1) <;> first | exact .inl h1 | exact .inr ⟨h1.1,by omega⟩
  · have:bU (c5 g) m=qB:=tR (by rw[xy,← h.1]; omega)
    have e:qv (S.set i (xD (bU (c5 g) i))) m=(0,0):=by
      simp only[qv,List.getD_eq_getElem?_getD]; rw[List.getElem?_eq_none (by simp; omega)]; rfl
    rw[e,this]
    split <;> simp[yS]⟩
theorem gP.Qv {g:ay} {j:Nat} {S:List (Int × Int)} (h:gP g j g.aw.length S):gP g (j+1) 0 S:=⟨h.1,fun m=>by
  rw[h.2 m]
  by_cases hm:m < g.aw.length
  · congr 1
    simp only[eq_iff_iff]
    push_cast
    constructor
    · rintro (h1 | h1) <;> left <;> omega
    · rintro (h1 | h1)
      · omega
      · omega
  · have:bU (c5 g) m=qB:=tR (by rw[xy]; omega)
    rw[this]; split <;> split <;> simp[yS]⟩
theorem gP.start (g:ay):gP g 0 0 (List.replicate g.aw.length (0,0)):=⟨by simp,fun m=>by
  have e:qv (List.replicate g.aw.length (0,0)) m=(0,0):=by
    simp only[qv,List.getD_eq_getElem?_getD,List.getElem?_replicate]
    split <;> rfl
  rw[e]
  split
  · rename_i h
    by_cases hk:cx (c5 g) m
    · have:=(zt hk).1; omega
    · rw[F4 hk]; simp[yS]
  · rfl⟩
theorem gP.done {g:ay} {S:List (Int × Int)} (h:gP g g.aw.length 0 S):S=zd g:=by
  apply List.ext_getElem (by simp[h.1,zd,xy])
  intro m h1 h2
  have e:S[m]=qv S m:=by simp[qv,List.getD_eq_getElem?_getD,h1]
  have e2:(zd g)[m]=qv (zd g) m:=by simp[qv,List.getD_eq_getElem?_getD,h2]
  rw[e,e2,h.2 m,ML]
  by_cases hk:cx (c5 g) m
  · rw[if_pos (.inl (zt hk).2)]
  · rw[F4 hk]; split <;> simp[yS]
def j7 {κ:Type} (kv:κ→V) (m:dt κ):List (V × V × Nat):=m.map fun x=>(kv x.1,x.2.1,x.2.2)
structure Q4 {κ:Type} [BEq κ] (P:Program) (kt:TypeId) (kv:κ→V):Prop where
  find:∀ k e m,l7 P kt (kv k) e (j7 kv m)=some (jF k m)
  same:∀ k,sameKey (kv k) (kv k)=true
def Eb {κ:Type} (m:dt κ) (c:Nat):Prop:=(m.map (·.2.2)).Nodup∧∀ x∈m,x.2.2 < c
def lI {κ:Type} [BEq κ] (m:dt κ) (k:κ):Option Nat:=(m.find? fun x=>k == x.1).map (·.2.2)
section
variable {κ:Type} [BEq κ] [LawfulBEq κ] {kv:κ→V}
theorem FQ (k:κ):∀ m:dt κ,match jF k m with
    | some i=>∃ x,m[i]?=some x∧x.1=k∧getM m k=some x.2.1∧lI m k=some x.2.2∧(j7 kv m)[i]?=some (kv k,x.2.1,x.2.2)∧∀ v c,(j7 kv m).set i (kv k,v,x.2.2)=j7 kv (dd k v c m)∧lI (dd k v c m) k=some x.2.2∧(dd k v c m).map (·.2.2)=m.map (·.2.2)
    | none=>getM m k=none∧lI m k=none∧∀ v c,j7 kv m ++ [(kv k,v,c)]=j7 kv (dd k v c m)∧lI (dd k v c m) k=some c∧(dd k v c m).map (·.2.2)=m.map (·.2.2) ++ [c]
  | []=>⟨rfl,rfl,fun v c=>⟨rfl,by simp[dd,lI],rfl⟩⟩
  | x :: r=>by
    have ih:=FQ k r
    simp only[jF]
    cases hk:k == x.1 with
    | true =>
      have hx:x.1=k:=(eq_of_beq hk).symm
      exact ⟨x,rfl,hx,by simp[getM,hk],by simp[lI,hk],by simp[j7,hx],fun v c=>by simp[dd,hk,j7,lI]⟩
    | false =>
      simp only[Bool.false_eq_true,if_false]
      cases hi:jF k r with
      | some i =>
        rw[hi] at ih
        obtain ⟨y,h1,h2,h3,h4,h5,h6⟩:=ih
        refine ⟨y,by simpa using h1,h2,by simpa [getM,hk] using h3,by simpa [lI,hk] using h4,by simpa [j7] using h5,fun v c=>?_⟩
        obtain ⟨g1,g2,g3⟩:=h6 v c
        exact ⟨by simp only[j7] at g1 ⊢; simp[dd,hk,g1],by simpa [dd,hk,lI] using g2,by simp[dd,hk,g3]⟩
      | none =>
        rw[hi] at ih
        refine ⟨by simpa [getM,hk] using ih.1,by simpa [lI,hk] using ih.2.1,fun v c=>?_⟩
        obtain ⟨g1,g2,g3⟩:=ih.2.2 v c
        exact ⟨by simp only[j7] at g1 ⊢; simp[dd,hk,g1],by simpa [dd,hk,lI] using g2,by simp[dd,hk,g3]⟩
theorem Eb.put {m:dt κ} {c:Nat} (h:Eb m c) (k:κ) (v:V):Eb (dd k v c m) (c+1):=by
  have hg:=FQ (kv:=fun _=>V.any) k m
  cases hj:jF k m with
  | some j =>
    rw[hj] at hg
    obtain ⟨y,_,_,_,_,_,h6⟩:=hg
    have e:=(h6 v c).2.2
    refine ⟨by rw[e]; exact h.1,fun x hx=>?_⟩
    have:x.2.2∈m.map (·.2.2):=by rw[← e]; exact List.mem_map.2 ⟨x,hx,rfl⟩
    obtain ⟨y,hy,e2⟩:=List.mem_map.1 this
    have:=h.2 y hy
    omega
  | none =>
    rw[hj] at hg
    have e:=(hg.2.2 v c).2.2
    refine ⟨?_,fun x hx=>?_⟩
    · rw[e,List.nodup_append]
      refine ⟨h.1,by simp,fun a ha b hb=>?_⟩
      simp at hb; subst hb
      obtain ⟨y,hy,rfl⟩:=List.mem_map.1 ha
      have:=h.2 y hy
      omega
    · have:x.2.2∈m.map (·.2.2) ++ [c]:=by rw[← e]; exact List.mem_map.2 ⟨x,hx,rfl⟩
      rcases List.mem_append.1 this with h1 | h1
      · obtain ⟨y,hy,e2⟩:=List.mem_map.1 h1
        have:=h.2 y hy
        omega
      · simp at h1; omega
variable {P:Program} {T:Env} {H:View} {kt et t ty:TypeId}
end
def vp (x:Item):List V:=[ak x.bQ,ak x.dot,ak x.kU]
def Qw (x:Item):V:=.agg (vp x)
structure Q2 (P:Program) (kt:TypeId):Prop where
  ty:∃ f0 f1 f2:Field,P.underlying kt=some (.struct #[f0,f1,f2])∧f0.name≠ "_" ∧ f1.name≠ "_" ∧ f2.name≠ "_" ∧ P.underlying f0.type=some (.int .i64)∧P.underlying f1.type=some (.int .i64)∧P.underlying f2.type=some (.int .i64)∧f0.offset=0∧f1.offset=1∧f2.offset=2
  held:P.stoodInHeld kt=false
def QY (m:dt Item) (s:List Item) (B:Nat):Prop:=∀ x,(x∈s→∃ k:Nat,getM m x=some (ak k)∧1≤k∧k≤B)∧(x ∉ s→getM m x=none)
structure qp (H:View) (c sid mid:Nat) (sv:Nat→V) (mi:Nat→Nat) (mm:Nat→dt Item) (cl:Nat→Nat) (g:ay) (p:List Int) (nu:V) (S S1:Nat→List Item) (B n:Nat) (K:List (Nat × bM)):Prop where
  box:H c=.arr 8 [[.aL (g.av.map df),encS g.aw,.aL (g.rules.map bD),gi g.start,encI p,nu,.sl sid 0 n 1,.sl mid 0 n 1]]
  iU:H sid=.arr 1 ((List.range n).map fun j=>[sv j])
  seen:H mid=.arr 1 ((List.range n).map fun j=>[.mp (mi j)])
  set:∀ j,j < n→bj H (sv j) 3 ((S j).map vp)
  map:∀ j,j < n→H (mi j)=.map (j7 Qw (mm j)) (cl j)∧Eb (mm j) (cl j)∧QY (mm j) (S1 j) B
  ne:sid≠mid
  Az:∀ i j o,i < n→j < n→owner (sv i)=some o→owner (sv j)=some o→i=j
  IH:∀ i j,i < n→j < n→mi i=mi j→i=j
  off:∀ q∈K,H q.1=q.2∧q.2≠.dead∧q.1≠sid∧(∀ j,j < n→q.1≠mi j)∧∀ j,j < n→owner (sv j)≠some q.1
def Ch (H:View) (c:Nat) (g:ay) (p:List Int) (nu:V) (S:Nat→List Item) (B n:Nat) (K:List (Nat × bM)):Prop:=∃ sid mid sv mi mm cl,qp H c sid mid sv mi mm cl g p nu S S B n K
def xu (S:Nat→List Item) (a:Nat) (x:Item):Nat→List Item:=fun b=>if b=a then (if x∈S a then S a else S a ++ [x]) else S b
theorem Ch.more {H:View} {c:Nat} {g:ay} {p:List Int} {nu:V} {S:Nat→List Item} {B B' n:Nat} {K:List (Nat × bM)} (h:Ch H c g p nu S B n K) (hB:B≤B'):Ch H c g p nu S B' n K:=by
  obtain ⟨sid,mid,sv,mi,mm,cl,h⟩:=h
  refine ⟨sid,mid,sv,mi,mm,cl,h.box,h.iU,h.seen,h.set,fun j hj=>⟨(h.map j hj).1,(h.map j hj).2.1,fun x=>⟨fun hx=>?_,((h.map j hj).2.2 x).2⟩⟩,h.ne,h.Az,h.IH,h.off⟩
  obtain ⟨k,h1,h2,h3⟩:=((h.map j hj).2.2 x).1 hx
  exact ⟨k,h1,h2,by omega⟩
theorem Ch.drop {H:View} {c:Nat} {g:ay} {p:List Int} {nu:V} {S:Nat→List Item} {B n:Nat} {q:Nat × bM} {K:List (Nat × bM)} (h:Ch H c g p nu S B n (q :: K)):Ch H c g p nu S B n K:=by
  obtain ⟨sid,mid,sv,mi,mm,cl,h⟩:=h
  exact ⟨sid,mid,sv,mi,mm,cl,h.box,h.iU,h.seen,h.set,h.map,h.ne,h.Az,h.IH,fun q hq=>h.off q (by simp[hq])⟩
theorem qp.new {H:View} {c sid mid:Nat} {sv:Nat→V} {mi:Nat→Nat} {mm:Nat→dt Item} {cl:Nat→Nat} {g:ay} {p:List Int} {nu:V} {S S1:Nat→List Item} {B n:Nat} {K:List (Nat × bM)} (h:qp H c sid mid sv mi mm cl g p nu S S1 B n K)
    {b:Nat} {o:bM} (hb:H b=.dead) (ho:o≠.dead):qp (H.set b o) c sid mid sv mi mm cl g p nu S S1 B n ((b,o) :: K):=by
  have keep:∀ id,H id≠.dead→(H.set b o) id=H id:=fun id hid=>by
    have e:id≠b:=by rintro rfl; exact hid hb
    simp[View.set,e]
  have live:∀ {id},H id≠.dead→b≠id:=fun hid e=>hid (e ▸ hb)
  refine ⟨?_,?_,?_,fun j hj=>?_,fun j hj=>?_,h.ne,h.Az,h.IH,fun q hq=>?_⟩
  · rw[keep _ (by rw[h.box]; simp)]; exact h.box
  · rw[keep _ (by rw[h.iU]; simp)]; exact h.iU
  · rw[keep _ (by rw[h.seen]; simp)]; exact h.seen
  · exact (h.set j hj).fresh hb
  · rw[keep _ (by rw[(h.map j hj).1]; simp)]; exact h.map j hj
  · rcases List.mem_cons.1 hq with rfl | hq
    · refine ⟨by simp[View.set],ho,live (by rw[h.iU]; simp),fun j hj=>live (by rw[(h.map j hj).1]; simp),fun j hj=>?_⟩
      have:=(h.set j hj).ne hb
      exact this
    · obtain ⟨h1,h2,h3⟩:=h.off q hq
      exact ⟨by rw[keep _ (by rw[h1]; exact h2)]; exact h1,h2,h3⟩
theorem Ch.new {H:View} {c:Nat} {g:ay} {p:List Int} {nu:V} {S:Nat→List Item} {B n b:Nat} {o:bM} {K:List (Nat × bM)} (h:Ch H c g p nu S B n K) (hb:H b=.dead) (ho:o≠.dead):Ch (H.set b o) c g p nu S B n ((b,o) :: K):=by
  obtain ⟨sid,mid,sv,mi,mm,cl,h⟩:=h
  exact ⟨sid,mid,sv,mi,mm,cl,h.new hb ho⟩
theorem Ch.kept {H:View} {c:Nat} {g:ay} {p:List Int} {nu:V} {S:Nat→List Item} {B n:Nat} {K:List (Nat × bM)} (h:Ch H c g p nu S B n K):∀ q∈K,H q.1=q.2:=by
  obtain ⟨sid,mid,sv,mi,mm,cl,h⟩:=h
  exact fun q hq=>(h.off q hq).1
theorem qp.QW {H H':View} {c sid mid:Nat} {sv:Nat→V} {mi:Nat→Nat} {mm:Nat→dt Item} {cl:Nat→Nat} {g:ay} {p:List Int} {nu:V} {S S1:Nat→List Item} {B n:Nat} {K:List (Nat × bM)} (h:qp H c sid mid sv mi mm cl g p nu S S1 B n K)
    {at0:Nat} (ha:at0 < n) {x:Item} (hx:¬ x∈S at0) {u':V} (ho:bj H' u' 3 ((S at0).map vp ++ [vp x])) (hl:Left H H' (sv at0) u') :
    qp (H'.set sid (.arr 1 (((List.range n).map fun j=>[sv j]).set at0 [u']))) c sid mid (fun j=>if j=at0 then u' else sv j) mi mm cl g p nu (xu S at0 x) S1 B n K:=by
  have own:∀ {id},owner (sv at0)=some id→H id=.arr 3 ((S at0).map vp):=fun hid=>((h.set at0 ha).live hid).1
  have n1:owner (sv at0)≠some sid:=fun e=>by
    have:=own e
    rw[h.iU] at this; simp at this
  have keep:∀ id,H id≠.dead→owner (sv at0)≠some id→H' id=H id∧owner u'≠some id:=hl
  have ns:=keep sid (by rw[h.iU]; simp) n1
  have keep2:∀ id,H id≠.dead→owner (sv at0)≠some id→id≠sid→(H'.set sid (.arr 1 (((List.range n).map fun j=>[sv j]).set at0 [u']))) id=H id:=fun id h1 h2 h3=>by
    simp only[View.set,if_neg h3]; exact (keep id h1 h2).1
  have no3:∀ {id o},H id=o→o≠.arr 3 ((S at0).map vp)→owner (sv at0)≠some id:=fun h1 h2 e=>h2 (by rw[← h1]; exact own e)
  refine ⟨?_,?_,?_,fun j hj=>?_,fun j hj=>?_,h.ne,fun i j o hi hj h1 h2=>?_,h.IH,fun q hq=>?_⟩
  · rw[keep2 c (by rw[h.box]; simp) (no3 h.box (by simp)) (by rintro rfl; have:=h.box; rw[h.iU] at this; simp at this)]; exact h.box
  · simp only[View.set,if_true]
    congr 1
    rw[GU]
    apply List.map_congr_left
    intro j _
    split <;> rfl
  · rw[keep2 mid (by rw[h.seen]; simp) (no3 h.seen (by simp)) h.ne.symm]; exact h.seen
  · by_cases e:j=at0
    · subst e
      simp only[if_true,xu,if_neg hx,List.map_append,List.map_cons,List.map_nil]
      exact ho.other ns.2
    · simp only[if_neg e,xu]
      refine (h.set j hj).keep fun id hid=>?_
      have hlv:=((h.set j hj).live hid).1
      refine keep2 id (by rw[hlv]; simp) (fun e2=>e (h.Az j at0 id hj ha hid e2)) ?_
      rintro rfl; rw[h.iU] at hlv; simp at hlv
  · obtain ⟨g1,g2,g3⟩:=h.map j hj
    refine ⟨?_,g2,g3⟩
    rw[keep2 (mi j) (by rw[g1]; simp) (no3 g1 (by simp)) (by intro e; rw[e,h.iU] at g1; simp at g1)]; exact g1
  · by_cases e1:i=at0
    · by_cases e2:j=at0
      · omega
      · simp only[if_pos e1,if_neg e2] at h1 h2
        exfalso
        have hlv:=((h.set j hj).live h2).1
        exact (keep o (by rw[hlv]; simp) (fun e3=>e2 (h.Az j at0 o hj ha h2 e3))).2 h1
    · by_cases e2:j=at0
      · simp only[if_neg e1,if_pos e2] at h1 h2
        exfalso
        have hlv:=((h.set i hi).live h1).1
        exact (keep o (by rw[hlv]; simp) (fun e3=>e1 (h.Az i at0 o hi ha h1 e3))).2 h2
      · simp only[if_neg e1,if_neg e2] at h1 h2
        exact h.Az i j o hi hj h1 h2
  · obtain ⟨h1,h2,h3,h4,h5⟩:=h.off q hq
    refine ⟨?_,h2,h3,h4,fun j hj=>?_⟩
    · rw[keep2 q.1 (by rw[h1]; exact h2) (h5 at0 ha) h3]; exact h1
    · by_cases e:j=at0
      · simp only[if_pos e]; exact (keep q.1 (by rw[h1]; exact h2) (h5 at0 ha)).2
      · simp only[if_neg e]; exact h5 j hj
inductive Gg (g:ay) (p:List Int):Int→Nat→Prop
  | start:Gg g p g.start 0
  | step (R:bc) (l1 l2:List Int) (n:Int) (f a:Nat):R∈g.rules→R.right=l1 ++ (-1 - n) :: l2→Gg g p R.left f→Sp g p l1 f a→Gg g p n a
def Jx (g:ay) (p:List Int) (x:Item):Prop:=∃ R,g.rules[x.bQ]?=some R∧Gg g p R.left x.kU
inductive Fq (g:ay) (p:List Int):Int→Nat→Prop
  | full (R:bc) (l1 l2:List Int) (f:Nat):R∈g.rules→R.right=l1 ++ l2→Sp g p l1 f p.length→Fq g p R.left f
  | deep (R:bc) (l1 l2:List Int) (s:Int) (f a:Nat):R∈g.rules→R.right=l1 ++ s :: l2→s < 0→Sp g p l1 f a→a < p.length→Fq g p (-1 - s) a→Fq g p R.left f
theorem Gg.len {g:ay} {p:List Int} {n:Int} {a:Nat} (h:Gg g p n a):a≤p.length:=by
  induction h with
  | start=>omega
  | step _ _ _ _ _ _ _ _ _ hs ih=>exact hs.len ih
theorem Oy {l:List Int} {d:Nat} {s:Int} (h:l[d]?=some s):l=l.take d ++ s :: l.drop (d+1):=by
  have h1:=(List.getElem?_eq_some_iff.1 h)
  obtain ⟨hl,he⟩:=h1
  rw[← he]
  simp
theorem Jx.ask {g:ay} {p:List Int} {a:Nat} {x:Item} (h:Jx g p x) (hs:Sound g p a x) {R:bc} (hR:g.rules[x.bQ]?=some R) {s:Int} (hd:R.right[x.dot]?=some s):Gg g p (-1 - s) a:=by
  obtain ⟨R1,h1,h2⟩:=h
  obtain ⟨R2,h3,_,_,h4⟩:=hs
  rw[hR] at h1 h3; simp at h1 h3; subst h1; subst h3
  refine .step R (R.right.take x.dot) (R.right.drop (x.dot+1)) (-1 - s) x.kU a (List.mem_of_getElem? hR) ?_ h2 h4
  rw[show -1 - (-1 - s)=s by omega]
  exact Oy hd
theorem Sp.cut {g:ay} {p:List Int} {k:Nat} {l:List Int} {i j:Nat} (h:Sp g p l i j):j≤k→Sp g (p.take k) l i j:=by
  induction h with
  | nil i=>exact fun _=>.nil i
  | term s l i j h0 hf h ih =>
    intro hk
    have:=h.le
    obtain ⟨c,hc,h2⟩:=hf
    exact .term s l i j h0 ⟨c,by rw[List.getElem?_take,if_pos (by omega)]; exact hc,h2⟩ (ih hk)
  | dk s l R i m j h0 hR hl h1 h2 ih1 ih2 =>
    intro hk
    have:=h2.le
    exact .dk s l R i m j h0 hR hl (ih1 (by omega)) (ih2 hk)
def Grow (a:Nat) (S S':Nat→List Item):Prop:=∀ b,S b <+: S' b∧(b < a→S' b=S b)
structure Good (g:ay) (p:List Int) (S:Nat→List Item):Prop where
  nodup:∀ a,(S a).Nodup
  sound:∀ a x,x∈S a→Sound g p a x
  top:∀ a x,x∈S a→Jx g p x
  out:∀ a,p.length < a→S a=[]
theorem Grow.refl (a:Nat) (S:Nat→List Item):Grow a S S:=fun _=>⟨List.prefix_refl _,fun _=>rfl⟩
theorem Grow.trans {a:Nat} {S S' S'':Nat→List Item} (h:Grow a S S') (h':Grow a S' S''):Grow a S S'':=fun b=>⟨(h b).1.trans (h' b).1,fun hb=>((h' b).2 hb).trans ((h b).2 hb)⟩
theorem Grow.mem {a b:Nat} {S S':Nat→List Item} (h:Grow a S S') {x:Item} (hx:x∈S b):x∈S' b:=(h b).1.subset hx
theorem Good.put {g:ay} {p:List Int} {S:Nat→List Item} (h:Good g p S) {a:Nat} {x:Item} (hx:Sound g p a x) (ht:Jx g p x) (ha:a≤p.length):Good g p (xu S a x):=by
  refine ⟨fun b=>?_,fun b y hy=>?_,fun b y hy=>?_,fun b hb=>?_⟩
  · unfold xu
    split
    · rename_i e
      subst e
      split
      · exact h.nodup _
      · rename_i hn
        rw[List.nodup_append]
        refine ⟨h.nodup _,by simp,fun u hu v hv=>?_⟩
        simp at hv
        rintro rfl
        exact hn (hv ▸ hu)
    · exact h.nodup _
  · unfold xu at hy
    split at hy
    · rename_i e
      subst e
      split at hy
      · exact h.sound _ _ hy
      · rcases List.mem_append.1 hy with hy | hy
        · exact h.sound _ _ hy
        · simp at hy; subst hy; exact hx
    · exact h.sound _ _ hy
  · unfold xu at hy
    split at hy
    · rename_i e
      subst e
      split at hy
      · exact h.top _ _ hy
      · rcases List.mem_append.1 hy with hy | hy
        · exact h.top _ _ hy
        · simp at hy; subst hy; exact ht
    · exact h.top _ _ hy
  · unfold xu
    rw[if_neg (by omega)]
    exact h.out b hb
theorem tn:∀ (N:Nat) (l:List Nat),l.Nodup→(∀ x∈l,x < N)→l.length≤N
  | 0,l,_,h=>by
    cases l with
    | nil=>simp
    | cons x l=>exact absurd (h x (by simp)) (by omega)
  | N+1,l,hd,h=>by
    by_cases e:N∈l
    · have h1:=tn N (l.erase N) (hd.erase N) fun x hx=>by
        have h2:=(hd.mem_erase_iff).1 hx
        have:=h x h2.2
        have:=h2.1
        omega
      rw[List.length_erase_of_mem e] at h1
      omega
    · have:=tn N l hd fun x hx=>by
        have:=h x hx
        have:x≠N:=by rintro rfl; exact e hx
        omega
      omega
theorem Dm {α:Type} {f:α→Nat} : ∀ {l:List α},l.Nodup→(∀ x∈l,∀ y∈l,f x=f y→x=y)→(l.map f).Nodup
  | [],_,_=>by simp
  | x :: l,hd,h=>by
    rw[List.nodup_cons] at hd
    rw[List.map_cons,List.nodup_cons]
    refine ⟨fun hm=>?_,Dm hd.2 fun a ha b hb=>h a (by simp[ha]) b (by simp[hb])⟩
    obtain ⟨y,hy,e⟩:=List.mem_map.1 hm
    have:=h y (by simp[hy]) x (by simp) e
    exact hd.1 (this ▸ hy)
theorem Sound.small {g:ay} (hf:g.sq) {p:List Int} {a:Nat} {x:Item} (h:Sound g p a x):x.bQ < 40∧x.dot < 7∧x.kU≤a:=by
  obtain ⟨R,hR,hd,hfr,_⟩:=h
  have h1:=(List.getElem?_eq_some_iff.1 hR).1
  have h2:=hf.rules
  have h3:=hf.right R (List.mem_of_getElem? hR)
  omega
theorem Good.len {g:ay} (hf:g.sq) {p:List Int} (hp:p.length≤60) {S:Nat→List Item} (h:Good g p S) (a:Nat):(S a).length≤17080:=by
  by_cases ha:p.length < a
  · rw[h.out a ha]; simp
  · have hb:∀ x∈S a,x.bQ < 40∧x.dot < 7∧x.kU < 61:=fun x hx=>by
      have:=(h.sound a x hx).small hf
      omega
    have:=tn 17080 ((S a).map fun x=>x.bQ * 427+x.dot * 61+x.kU) (Dm (h.nodup a) fun x hx y hy e=>by
      have h1:=hb x hx
      have h2:=hb y hy
      cases x; cases y
      simp only at e h1 h2
      simp only[Item.mk.injEq]
      omega) (fun v hv=>by
      obtain ⟨x,hx,rfl⟩:=List.mem_map.1 hv
      have:=hb x hx
      omega)
    simpa using this
theorem Ch.box {H:View} {c:Nat} {g:ay} {p:List Int} {nu:V} {S:Nat→List Item} {B n:Nat} {K:List (Nat × bM)} (h:Ch H c g p nu S B n K) :
    ∃ sid mid,H c=.arr 8 [[.aL (g.av.map df),encS g.aw,.aL (g.rules.map bD),gi g.start,encI p,nu,.sl sid 0 n 1,.sl mid 0 n 1]]:=by
  obtain ⟨sid,mid,sv,mi,mm,cl,h⟩:=h
  exact ⟨sid,mid,h.box⟩
theorem Ch.set {H:View} {c:Nat} {g:ay} {p:List Int} {nu:V} {S:Nat→List Item} {B n:Nat} {K:List (Nat × bM)} (h:Ch H c g p nu S B n K) {a:Nat} (ha:a < n) :
    ∃ (sid mid:Nat) (sv:Nat→V),H c=.arr 8 [[.aL (g.av.map df),encS g.aw,.aL (g.rules.map bD),gi g.start,encI p,nu,.sl sid 0 n 1,.sl mid 0 n 1]]∧H sid=.arr 1 ((List.range n).map fun j=>[sv j])∧bj H (sv a) 3 ((S a).map vp):=by
  obtain ⟨sid,mid,sv,mi,mm,cl,h⟩:=h
  exact ⟨sid,mid,sv,h.box,h.iU,h.set a ha⟩
def QL (g:ay) (dk:Int) (S:Nat→List Item) (at_:Nat) (x:Item):Prop:=∀ R,g.rules[x.bQ]?=some R→R.right[x.dot]?=some (-1 - dk)→(⟨x.bQ,x.dot+1,x.kU⟩:Item)∈S at_
theorem Sound.on {g:ay} {p:List Int} {f a:Nat} {x:Item} (h:Sound g p f x) {R:bc} (hR:g.rules[x.bQ]?=some R) {s:Int} (hs:R.right[x.dot]?=some s) (hsp:Sp g p [s] f a):Sound g p a ⟨x.bQ,x.dot+1,x.kU⟩:=by
  obtain ⟨R',hR',h1,h2,h3⟩:=h
  rw[hR] at hR'; simp at hR'; subst hR'
  have hlt:=(List.getElem?_eq_some_iff.1 hs).1
  refine ⟨R,hR,hlt,Nat.le_trans h2 hsp.le,?_⟩
  have:R.right.take (x.dot+1)=R.right.take x.dot ++ [s]:=by rw[List.take_add_one,hs]; rfl
  rw[this]
  exact h3.app hsp
structure Ni (g:ay) (p:List Int) (S:Nat→List Item) (a:Nat) (x:Item):Prop where
  term:∀ R s,g.rules[x.bQ]?=some R→R.right[x.dot]?=some s→0≤s→ov p a s→(⟨x.bQ,x.dot+1,x.kU⟩:Item)∈S (a+1)
  pred:∀ R s i R',g.rules[x.bQ]?=some R→R.right[x.dot]?=some s→s < 0→g.rules[i]?=some R'→R'.left = -1 - s→(⟨i,0,a⟩:Item)∈S a
  null:∀ R s,g.rules[x.bQ]?=some R→R.right[x.dot]?=some s→s < 0→(aV g false).getD (-1 - s).toNat false=true→(⟨x.bQ,x.dot+1,x.kU⟩:Item)∈S a
  comp:∀ R,g.rules[x.bQ]?=some R→x.dot=R.right.length→x.kU < a→∀ y∈S x.kU,QL g R.left S a y
theorem Ni.grow {g:ay} {p:List Int} {S S':Nat→List Item} {a:Nat} {x:Item} (h:Ni g p S a x) (hg:Grow a S S'):Ni g p S' a x where
  term:=fun R s h1 h2 h3 h4=>hg.mem (h.term R s h1 h2 h3 h4)
  pred:=fun R s i R' h1 h2 h3 h4 h5=>hg.mem (h.pred R s i R' h1 h2 h3 h4 h5)
  null:=fun R s h1 h2 h3 h4=>hg.mem (h.null R s h1 h2 h3 h4)
  comp:=fun R h1 h2 h3 y hy R' h4 h5=>hg.mem (h.comp R h1 h2 h3 y (by rw[(hg x.kU).2 h3] at hy; exact hy) R' h4 h5)
structure wh (H:View) (c sid:Nat) (u:V) (mi:Nat→Nat) (g:ay) (p:List Int) (nu:V) (n k:Nat):Prop where
  box:H c=.arr 8 [[.aL (g.av.map df),encS g.aw,.aL (g.rules.map bD),gi g.start,encI p,nu,.sl sid 0 n 1,u]]
  iU:H sid=.arr 1 ((List.range n).map fun _=>[.emp 1])
  seen:bj H u 1 ((List.range k).map fun j=>[.mp (mi j)])
  map:∀ j,j < k→H (mi j)=.map [] 0
  inj:∀ i j,i < k→j < k→mi i=mi j→i=j
theorem wh.Pe {H:View} {c sid:Nat} {u:V} {mi:Nat→Nat} {g:ay} {p:List Int} {nu:V} {n k:Nat} (h:wh H c sid u mi g p nu n k) (hn:0 < n):owner u≠some sid:=fun e=>by
  have h1:=(h.seen.live e).1
  rw[h.iU] at h1
  simp only[bM.arr.injEq,true_and] at h1
  have h2:=congrArg (·[0]?) h1
  simp[hn] at h2
  by_cases hk:0 < k
  · simp[hk] at h2
  · have:k=0:=by omega
    subst this
    simp at h2
theorem wh.QP {H:View} {c sid:Nat} {u:V} {mi:Nat→Nat} {g:ay} {p:List Int} {nu:V} {n k:Nat} (h:wh H c sid u mi g p nu n k):owner u≠some c:=fun e=>by
  have h1:=(h.seen.live e).1
  rw[h.box] at h1
  simp at h1
theorem wh.Q1 {H:View} {c sid:Nat} {u:V} {mi:Nat→Nat} {g:ay} {p:List Int} {nu:V} {n:Nat} (h:wh H c sid u mi g p nu n n) (hn:0 < n):Ch H c g p nu (fun _=>[]) 0 n []:=by
  obtain ⟨mid,hu,hm⟩:=h.seen.sl (by simp; omega)
  have hoff:=h.Pe hn
  refine ⟨sid,mid,fun _=>.emp 1,mi,fun _=>[],fun _=>0,?_,h.iU,hm,fun j hj=>bj.nil,fun j hj=>⟨h.map j hj,?_,fun x=>⟨fun hx=>by simp at hx,fun _=>rfl⟩⟩,?_,fun i j o _ _ h1=>by simp[owner] at h1,fun i j hi hj e=>h.inj i j hi hj e,fun q hq=>by simp at hq⟩
  · have:=h.box
    rw[hu] at this
    simpa using this
  · exact ⟨by simp,fun x hx=>by simp at hx⟩
  · rintro rfl
    rw[hu] at hoff
    exact hoff rfl
theorem wh.next {H H2:View} {c sid m:Nat} {u u':V} {mi:Nat→Nat} {g:ay} {p:List Int} {nu:V} {n k:Nat} (h:wh H c sid u mi g p nu n k) (hn:0 < n) (hm:H m=.dead) (ho:bj H2 u' 1 (((List.range k).map fun j=>[.mp (mi j)]) ++ [[.mp m]])) (hm2:H2 m=.map [] 0)
    (hl:∀ id,H id≠.dead→owner u≠some id→H2 id=H id∧owner u'≠some id) :
    wh (H2.set c (.arr 8 [[.aL (g.av.map df),encS g.aw,.aL (g.rules.map bD),gi g.start,encI p,nu,.sl sid 0 n 1,u']])) c sid u' (fun j=>if j=k then m else mi j) g p nu n (k+1):=by
  have hC:=hl c (by rw[h.box]; simp) h.QP
  have hS:=hl sid (by rw[h.iU]; simp) (h.Pe hn)
  have hcs:sid≠c:=by rintro rfl; have:=h.box; rw[h.iU] at this; simp at this
  have hmn:∀ j,j < k→mi j≠m:=fun j hj e=>by have:=h.map j hj; rw[e,hm] at this; simp at this
  refine ⟨by simp[View.set],?_,?_,fun j hj=>?_,fun i j hi hj e=>?_⟩
  · simp only[View.set,if_neg hcs]
    rw[hS.1]; exact h.iU
  · refine bj.other ?_ hC.2
    have:(List.range (k+1)).map (fun j=>[V.mp (if j=k then m else mi j)])=(List.range k).map (fun j=>[V.mp (mi j)]) ++ [[.mp m]]:=by
      rw[List.range_succ,List.map_append,List.map_cons,List.map_nil,if_pos rfl]
      congr 1
      apply List.map_congr_left
      intro j hj
      rw[if_neg (by have:=List.mem_range.1 hj; omega)]
    rw[this]; exact ho
  · by_cases e:j=k
    · simp only[if_pos e]
      have:m≠c:=by rintro rfl; rw[h.box] at hm; simp at hm
      simp only[View.set,if_neg this]
      exact hm2
    · simp only[if_neg e]
      have h1:=h.map j (by omega)
      have:mi j≠c:=by intro e2; rw[e2,h.box] at h1; simp at h1
      simp only[View.set,if_neg this]
      rw[(hl (mi j) (by rw[h1]; simp) (fun e2=>by have:=(h.seen.live e2).1; rw[h1] at this; simp at this)).1]
      exact h1
  · by_cases e1:i=k
    · by_cases e2:j=k
      · omega
      · simp only[if_pos e1,if_neg e2] at e
        exact absurd e.symm (hmn j (by omega))
    · by_cases e2:j=k
      · simp only[if_neg e1,if_pos e2] at e
        exact absurd e (hmn i (by omega))
      · simp only[if_neg e1,if_neg e2] at e
        exact h.inj i j (by omega) (by omega) e
def Kept (H H':View):Prop:=∀ id,H id≠.dead→H' id=H id
theorem Kept.refl (H:View):Kept H H:=fun _ _=>rfl
theorem Kept.trans {H H' H'':View} (h:Kept H H') (h':Kept H' H''):Kept H H'':=fun id hid=>by
  have h1:=h id hid
  rw[← h1] at hid
  rw[h' id hid,h1]
theorem Kept.new {H:View} {b:Nat} {o:bM} (hb:H b=.dead):Kept H (H.set b o):=fun id hid=>by
  have:id≠b:=by rintro rfl; exact hid hb
  simp[View.set,this]
def MQ (H:View) (c:Nat) (g:ay) (p:List Int):Prop:=∃ nu sid mid n,H c=.arr 8 [[.aL (g.av.map df),encS g.aw,.aL (g.rules.map bD),gi g.start,encI p,nu,.sl sid 0 n 1,.sl mid 0 n 1]]
theorem MQ.keep {H H':View} {c:Nat} {g:ay} {p:List Int} (h:MQ H c g p) (hs:Kept H H'):MQ H' c g p:=by
  obtain ⟨nu,sid,mid,n,h⟩:=h
  exact ⟨nu,sid,mid,n,by rw[hs c (by rw[h]; simp)]; exact h⟩
abbrev Pt:=List (List Bool)
def Gl (P:Pt) (N M:Nat):Prop:=P.length=N∧∀ r∈P,r.length=M
def Qk (P:Pt):V:=.aL (P.map fun c=>[cY c])
theorem Gl.row {P:Pt} {N M n:Nat} (h:Gl P N M) (hn:n < N):∃ r,P[n]?=some r∧r.length=M∧P.getD n []=r:=by
  have hl:n < P.length:=by rw[h.1]; exact hn
  exact ⟨P[n],List.getElem?_eq_getElem hl,h.2 _ (List.getElem_mem hl),by simp[List.getD_eq_getElem?_getD,hl]⟩
structure lH (H:View) (I N M:Nat) (R:Nat→Nat) (P:Pt):Prop where
  top:H I=.arr 1 ((List.range N).map fun n=>[.sl (R n) 0 M 1])
  row:∀ n,n < N→H (R n)=.arr 1 (eR (P.getD n []))
  inj:∀ n n',n < N→n' < N→R n=R n'→n=n'
structure Ev (H:View) (I N M k:Nat) (R:Nat→Nat):Prop where
  top:H I=.arr 1 ((List.range N).map fun n=>[if n < k then .sl (R n) 0 M 1 else .emp 1])
  row:∀ n,n < k→H (R n)=.arr 1 (List.replicate M [gb false])
  inj:∀ n n',n < k→n' < k→R n=R n'→n=n'
def O1 (N M:Nat):Pt:=List.replicate N (List.replicate M false)
def I5 (P:Pt) (n i:Nat):Pt:=P.set n ((P.getD n []).set i true)
theorem lH.QC {H:View} {I N M:Nat} {R:Nat→Nat} {P:Pt} (h:lH H I N M R P) (hP:Gl P N M) (hM:0 < M) {n:Nat} (hn:n < N):I≠R n:=fun e=>by
  have h1:=h.row n hn
  obtain ⟨r,_,h2,h3⟩:=hP.row hn
  rw[← e,h.top,h3] at h1
  simp only[bM.arr.injEq,true_and] at h1
  exact Ao (by omega) h1.symm fun _ _=>by simp
theorem lH.keep {H H':View} {I N M:Nat} {R:Nat→Nat} {P:Pt} (h:lH H I N M R P) (hk:∀ id,H id≠.dead→H' id=H id):lH H' I N M R P :=
  ⟨by rw[hk _ (by rw[h.top]; simp)]; exact h.top,fun n hn=>by rw[hk _ (by rw[h.row n hn]; simp)]; exact h.row n hn,h.inj⟩
theorem lH.put {H:View} {I N M:Nat} {R:Nat→Nat} {P:Pt} (h:lH H I N M R P) (hP:Gl P N M) {n i:Nat} (hn:n < N) (hi:i < M) :
    lH (H.set (R n) (.arr 1 (eR ((P.getD n []).set i true)))) I N M R (I5 P n i):=by
  have hI:=h.QC hP (by omega) hn
  have hnl:n < P.length:=by rw[hP.1]; exact hn
  refine ⟨by simp only[View.set,if_neg hI]; exact h.top,fun m hm=>?_,h.inj⟩
  by_cases e:R m=R n
  · have:=h.inj m n hm hn e
    subst this
    simp only[View.set,if_true]
    congr 2
    simp[I5,List.getD_eq_getElem?_getD,hnl]
  · simp only[View.set,if_neg e]
    rw[h.row m hm]
    congr 2
    have:n≠m:=fun e2=>e (by rw[e2])
    simp[I5,List.getD_eq_getElem?_getD,List.getElem?_set,this]
theorem lH.Iu {H:View} {I N M:Nat} {R:Nat→Nat} {P:Pt} (hG:lH H I N M R P) (hP:Gl P N M):ef H (.sl I 0 N 1) (Qk P):=by
  rintro h rfl
  refine cK.Px ?_
  refine .sl I 0 N 1 1 _ _ hG.top (by simp) (by simp[hP.1]) (fun n hn=>?_) (fun n j hn hj=>?_)
  · obtain ⟨r,hr,_⟩:=hP.row hn
    simp[List.getD_eq_getElem?_getD,hr,hn]
  · obtain ⟨r,hr,hrl,hrg⟩:=hP.row hn
    have e1:((P.map fun c=>[cY c]).getD n [])=[cY r]:=by simp[List.getD_eq_getElem?_getD,hr]
    have e2:(((List.range N).map fun n=>[V.sl (R n) 0 M 1]).getD (0+n) [])=[V.sl (R n) 0 M 1]:=by simp[List.getD_eq_getElem?_getD,hn]
    rw[e1] at hj ⊢
    rw[e2]
    have:j=0:=by simp at hj; omega
    subst this
    simp only[List.getD_cons_zero]
    have hro:=hG.row n hn
    rw[hrg] at hro
    have:=sd (h:=h) (id:=R n) (is:=r) hro
    rwa [hrl] at this
theorem Ev.done {H:View} {I N M:Nat} {R:Nat→Nat} (h:Ev H I N M N R):lH H I N M R (O1 N M):=by
  refine ⟨?_,fun n hn=>?_,h.inj⟩
  · rw[h.top]
    congr 1
    apply List.map_congr_left
    intro n hn
    rw[if_pos (by simpa using hn)]
  · rw[h.row n hn]
    simp[O1,List.getD_eq_getElem?_getD,hn]
theorem Ev.next {H:View} {I N M k:Nat} {R:Nat→Nat} {r:Nat} (h:Ev H I N M k R) (hk:k < N) (hr:H r=.dead) :
    Ev ((H.set r (.arr 1 (List.replicate M [gb false]))).set I (.arr 1 ((List.range N).map fun n=>[if n < k+1 then .sl (if n=k then r else R n) 0 M 1 else .emp 1]))) I N M (k+1) (fun n=>if n=k then r else R n):=by
  have hI:r≠I:=by rintro rfl; rw[h.top] at hr; simp at hr
  have hRI:∀ n,n < k→R n≠I:=fun n hn e=>by
    have h1:=h.row n hn
    rw[e,h.top] at h1
    simp only[bM.arr.injEq,true_and] at h1
    have h2:=congrArg (·[0]?) h1
    simp only[List.getElem?_map,List.getElem?_range (show 0 < N by omega),List.getElem?_replicate] at h2
    split at h2 <;> simp at h2
    split at h2 <;> simp at h2
  have hRr:∀ n,n < k→R n≠r:=fun n hn e=>by have:=h.row n hn; rw[e,hr] at this; simp at this
  refine ⟨by simp[View.set],fun n hn=>?_,fun n n' hn hn' e=>?_⟩
  · by_cases e:n=k
    · simp only[if_pos e,View.set,if_neg hI,if_true]
    · simp only[if_neg e,View.set,if_neg (hRI n (by omega)),if_neg (hRr n (by omega))]
      exact h.row n (by omega)
  · by_cases e1:n=k
    · by_cases e2:n'=k
      · omega
      · simp only[if_pos e1,if_neg e2] at e
        exact absurd e.symm (hRr n' (by omega))
    · by_cases e2:n'=k
      · simp only[if_neg e1,if_pos e2] at e
        exact absurd e (hRr n (by omega))
      · simp only[if_neg e1,if_neg e2] at e
        exact h.inj n n' (by omega) (by omega) e
def NN:List Int:=[37,37,32,115,32,58,32,39,97,39,32,115,32,124,32,59]
def cO:ay:=⟨[⟨⟨#[39,97,39]⟩,0,0⟩],[⟨#[115]⟩],[⟨0,[0,(-1)],0⟩,⟨0,[],(-1)⟩],0⟩
def NH:ay:=⟨[⟨⟨#[39,97,39]⟩,0,0⟩,⟨⟨#[39,98,39]⟩,0,0⟩],[⟨#[115]⟩,⟨#[110]⟩],[⟨0,[(-1),(-1)],(-1)⟩,⟨0,[(-2),0,(-2),1],1⟩,⟨0,[],(-1)⟩,⟨1,[(-2)],(-1)⟩,⟨1,[],(-1)⟩],0⟩
theorem Qc:bY Tryz.prog 41 [wz NN] (kS cO):=Ct (by kernel_rfl)
section
variable {g:ay} {p:List Int} {T:Tb} {N:Nat}
end
theorem n6 (p:List Int) (i:Nat):Sp NH p [-2] i i:=.dk (-2) [] ⟨1,[],-1⟩ i i i (by decide) (by simp[NH]) (by decide) (.nil i) (.nil i)
theorem OC {g:ay} (hr:bB g=true) {p l:List Int} {i j:Nat} (h:Sp g p l i j):dP l (aV g true) true=true:=by
  induction h with
  | nil=>rfl
  | term s l i j h0 _ _ ih =>
    simp only[dP,List.all_cons,Bool.and_eq_true] at ih ⊢
    rw[if_pos h0]
    exact ⟨rfl,ih⟩
  | dk s l R i k j h0 hR hl _ _ ih1 ih2 =>
    have g1:=rb hr hR ih1
    rw[hl] at g1
    simp only[dP,List.all_cons,Bool.and_eq_true] at ih2 ⊢
    rw[if_neg (by omega)]
    exact ⟨g1,ih2⟩
section
variable {g r:ay} {p q:List Bool} {o:List Int}
theorem dy.sp (h:dy g p q o r) {w l:List Int} {i j:Nat} (hs:Sp g w l i j):(∀ s∈l,s < 0→-1 - s∈o)→Sp r w (l.map fun s=>if s < 0 then -1 - bk o (-1 - s) else s) i j:=by
  induction hs with
  | nil=>exact fun _=>.nil _
  | term s l i j h0 hf _ ih =>
    intro hl
    rw[List.map_cons,if_neg (by omega)]
    exact .term s _ i j h0 hf (ih fun s hs=>hl s (by simp[hs]))
  | dk s l R i k j h0 hR hle h1 _ ih1 ih2 =>
    intro hl
    have hso:=hl s (by simp) h0
    obtain ⟨R1,hR1,hk1,e1⟩:=h.from_ _ hso
    have hk:bO p q R=true:=by
      rw[bO,Bool.and_eq_true] at hk1 ⊢
      refine ⟨by rw[hle,← e1]; exact hk1.1,?_⟩
      rw[h.pe]
      exact OC h.right h1
    have hin:=(h.kept R hR hk).2
    have hm:bE (bk o) R∈r.rules:=by rw[h.rules]; exact List.mem_map.2 ⟨R,List.mem_filter.2 ⟨hR,hk⟩,rfl⟩
    have hb:=kL hso
    rw[List.map_cons,if_pos h0]
    exact .dk _ _ (bE (bk o) R) i k j (by omega) hm (by simp only[bE]; rw[hle]; omega) (ih1 hin) (ih2 fun s hs=>hl s (by simp[hs]))
end
theorem Kv {g:ay} {p:List Int} {k:Nat} (hk:k≤p.length) {l:List Int} {i j:Nat} (h:Sp g p l i j):i≤k→k≤j →
    (∃ l1 l2,l=l1 ++ l2∧Sp g (p.take k) l1 i k)∨(∃ l1 s l2 a,l=l1 ++ s :: l2∧s < 0∧Sp g (p.take k) l1 i a∧a < k∧Fq g (p.take k) (-1 - s) a):=by
  induction h with
  | nil i =>
    intro h1 h2
    have:i=k:=by omega
    subst this
    exact .inl ⟨[],[],rfl,.nil _⟩
  | term s l i j h0 hf hs ih =>
    intro h1 h2
    by_cases e:i=k
    · subst e; exact .inl ⟨[],s :: l,rfl,.nil _⟩
    · have hf':ov (p.take k) i s:=by
        obtain ⟨c,hc,h3⟩:=hf
        exact ⟨c,by rw[List.getElem?_take,if_pos (by omega)]; exact hc,h3⟩
      rcases ih (by omega) h2 with ⟨l1,l2,e2,h3⟩ | ⟨l1,s',l2,a,e2,h3,h4,h5,h6⟩
      · exact .inl ⟨s :: l1,l2,by rw[e2]; rfl,.term s l1 i k h0 hf' h3⟩
      · exact .inr ⟨s :: l1,s',l2,a,by rw[e2]; rfl,h3,.term s l1 i a h0 hf' h4,h5,h6⟩
  | dk s l R i m j h0 hR hl hs1 hs2 ih1 ih2 =>
    intro h1 h2
    by_cases e:i=k
    · subst e; exact .inl ⟨[],s :: l,rfl,.nil _⟩
    · by_cases hm:m≤k
      · have c1:=hs1.cut (k:=k) hm
        rcases ih2 hm h2 with ⟨l1,l2,e2,h3⟩ | ⟨l1,s',l2,a,e2,h3,h4,h5,h6⟩
        · exact .inl ⟨s :: l1,l2,by rw[e2]; rfl,.dk s l1 R i m k h0 hR hl c1 h3⟩
        · exact .inr ⟨s :: l1,s',l2,a,by rw[e2]; rfl,h3,.dk s l1 R i m a h0 hR hl c1 h4,h5,h6⟩
      · have hlen:(p.take k).length=k:=by simp; omega
        refine .inr ⟨[],s,l,i,rfl,h0,.nil _,by omega,?_⟩
        rw[← hl]
        rcases ih1 h1 (by omega) with ⟨l1,l2,e2,h3⟩ | ⟨l1,s',l2,a,e2,h3,h4,h5,h6⟩
        · exact .full R l1 l2 i hR e2 (by rw[hlen]; exact h3)
        · exact .deep R l1 l2 s' i a hR e2 h3 h4 (by rw[hlen]; exact h5) h6
theorem Fq.cut {g:ay} {p:List Int} {k:Nat} (hk:k≤p.length) {n:Int} {f:Nat} (h:Fq g p n f):f≤k→Fq g (p.take k) n f:=by
  have hlen:(p.take k).length=k:=by simp; omega
  induction h with
  | full R l1 l2 f hR e hs =>
    intro hf
    rcases Kv hk hs hf hk with ⟨a1,a2,e2,h3⟩ | ⟨a1,s',a2,a,e2,h3,h4,h5,h6⟩
    · exact .full R a1 (a2 ++ l2) f hR (by rw[e,e2]; simp) (by rw[hlen]; exact h3)
    · exact .deep R a1 (a2 ++ l2) s' f a hR (by rw[e,e2]; simp) h3 h4 (by rw[hlen]; exact h5) h6
  | deep R l1 l2 s f a hR e h0 h1 h2 _ ih =>
    intro hf
    by_cases ha:a < k
    · exact .deep R l1 l2 s f a hR e h0 (h1.cut (by omega)) (by rw[hlen]; exact ha) (ih (by omega))
    · rcases Kv hk h1 hf (by omega) with ⟨a1,a2,e2,h3⟩ | ⟨a1,s',a2,b,e2,h3,h4,h5,h6⟩
      · exact .full R a1 (a2 ++ s :: l2) f hR (by rw[e,e2]; simp) (by rw[hlen]; exact h3)
      · exact .deep R a1 (a2 ++ s :: l2) s' f b hR (by rw[e,e2]; simp) h3 h4 (by rw[hlen]; exact h5) h6
theorem Sp.wide {g:ay} {p p':List Int} (hp:∀ i s,ov p i s→ov p' i s) {l:List Int} {i j:Nat} (h:Sp g p l i j):Sp g p' l i j:=by
  induction h with
  | nil i=>exact .nil i
  | term s l i j h0 hf _ ih=>exact .term s l i j h0 (hp _ _ hf) ih
  | dk s l R i k j h0 hR hl _ _ ih1 ih2=>exact .dk s l R i k j h0 hR hl ih1 ih2
section
variable {fit:List Int→Bool} {T b:Nat}
end
def Qa (l:List (List Int)):V:=.aL (l.map fun w=>[encI w])
abbrev NJ:=List (V × List Int)
def m9 (b:NJ):List (List V):=b.map fun x=>[x.1]
def ie (H:View) (u:V) (out:List (List Int)):Prop:=∃ b:NJ,b.map (·.2)=out∧bj H u 1 (m9 b)∧∀ x∈b,bj H x.1 1 (bb x.2)
theorem ie.nil {H:View} {k:Nat} : ie H (.emp k) []:=⟨[],rfl,.nil,by simp⟩
theorem ie.len {H:View} {u:V} {out:List (List Int)} (h:ie H u out):dh u=some out.length:=by
  obtain ⟨b,rfl,ho,_⟩:=h
  rw[ho.len]; simp[m9]
theorem ie.cells {H:View} {u:V} {out:List (List Int)} (h:ie H u out):V.cells u=[u]∧aU u=true:=by
  obtain ⟨b,_,ho,_⟩:=h
  exact ⟨ho.cells,ho.jC⟩
theorem OO {H:View} {u:V} {b:NJ} (ho:bj H u 1 (m9 b)) (hb:∀ x∈b,bj H x.1 1 (bb x.2)) {x:V × List Int} (hx:x∈b) {id:Nat} (hid:owner x.1=some id):owner u≠some id:=by
  intro e
  have h1:=(ho.live e).1
  have h2:=((hb x hx).live hid).1
  rw[h2] at h1
  simp only[bM.arr.injEq,true_and] at h1
  cases b with
  | nil=>simp at hx
  | cons y r =>
    have h3:=hb y (by simp)
    cases hw:x.2 with
    | nil=>rw[hw] at h1; simp[m9] at h1
    | cons c w =>
      rw[hw] at h1
      simp only[m9,List.map_cons,List.cons.injEq] at h1
      rcases h3 with ⟨_,k,e2⟩ | ⟨n,e2,_⟩
      · rw[e2] at h1; simp at h1
      · rw[e2] at h1; simp at h1
theorem ie.keep {H H':View} {u:V} {out:List (List Int)} (h:ie H u out) (hk:∀ id,H id≠.dead→H' id=H id):ie H' u out:=by
  obtain ⟨b,e,ho,hb⟩:=h
  exact ⟨b,e,ho.keep fun id hid=>hk id (by rw[(ho.live hid).1]; simp),fun x hx=>(hb x hx).keep fun id hid=>hk id (by rw[((hb x hx).live hid).1]; simp)⟩
theorem ie.add {H H':View} {u u' v:V} {b:NJ} {w:List Int} (ho:bj H u 1 (m9 b)) (hb:∀ x∈b,bj H x.1 1 (bb x.2)) (hv:bj H v 1 (bb w)) (hd:∀ id,owner v=some id→owner u≠some id)
    (h1:bj H' u' 1 (m9 b ++ [[v]])) (h2:Left H H' u u'):ie H' u' (b.map (·.2) ++ [w]):=by
  refine ⟨b ++ [(v,w)],by simp,by simpa [m9] using h1,fun x hx=>?_⟩
  rcases List.mem_append.1 hx with hx | hx
  · exact (hb x hx).left h2 fun id hid=>OO ho hb hx hid
  · simp at hx; subst hx
    exact hv.left h2 hd
theorem ie.Nz {h:aH} {u:V} {out:List (List Int)} (ho:ie h.view u out):cK h u (Qa out):=by
  obtain ⟨b,rfl,ho,hb⟩:=ho
  have hg:∀ i (hi:i < b.length),(m9 b).getD i []=[(b[i]).1]∧(((b.map (·.2)).map fun w=>[encI w]).getD i [])=[encI (b[i]).2]:=fun i hi=>by
    simp[m9,List.getD_eq_getElem?_getD,hi]
  refine cK.own ho (by simp[m9]) (fun i hi=>?_) (fun i j hi hj=>?_)
  · have hi':i < b.length:=by simpa [m9] using hi
    rw[(hg i hi').1,(hg i hi').2]; rfl
  · have hi':i < b.length:=by simpa [m9] using hi
    rw[(hg i hi').2] at hj ⊢
    rw[(hg i hi').1]
    have:j=0:=by simp at hj; omega
    subst this
    simp only[List.getD_cons_zero]
    exact cK.Ms (hb _ (List.getElem_mem hi'))
def II (H:View) (v:V) (p:List Int):Prop:=v=encI p∨(p≠[]∧∃ n,v=.sl n 0 p.length 1∧H n=.arr 1 (bb p))
theorem II.Iu {H:View} {v:V} {p:List Int} (h:II H v p):ef H v (encI p):=by
  rcases h with rfl | ⟨_,n,rfl,hn⟩
  · exact .tree (c6 p)
  · exact A3 hn rfl
theorem II.len {H:View} {v:V} {p:List Int} (h:II H v p):dh v=some p.length:=by
  rcases h with rfl | ⟨_,n,rfl,hn⟩
  · simp[encI,dh]
  · rfl
def rT (H H':View) (f:Nat) (u u':V):Prop:=∀ id,H id≠.dead→id≠f→owner u≠some id→H' id=H id∧owner u'≠some id
theorem rT.refl {H:View} {f:Nat} {u:V} : rT H H f u u:=fun _ _ _ h=>⟨rfl,h⟩
theorem rT.trans {H H1 H2:View} {f:Nat} {u u1 u2:V} (h1:rT H H1 f u u1) (h2:rT H1 H2 f u1 u2):rT H H2 f u u2:=fun id hd hf hu=>by
  obtain ⟨a,b⟩:=h1 id hd hf hu
  obtain ⟨c,d⟩:=h2 id (by rw[a]; exact hd) hf b
  exact ⟨c.trans a,d⟩
theorem rT.kept {H H':View} {f:Nat} {u:V} (h:∀ id,H id≠.dead→H' id=H id):rT H H' f u u:=fun id hd _ hu=>⟨h id hd,hu⟩
theorem jq {H:View} {u:V} {sz f z:Nat} {es:List (List V)} {e:List (List V)} (ho:bj H u sz es) (hf:H f=.arr z e) (hz:sz≠z):owner u≠some f:=fun e2=>by
  have:=(ho.live e2).1
  rw[hf] at this
  simp only[bM.arr.injEq] at this
  exact hz this.1.symm
theorem ie.box {H:View} {u:V} {out:List (List Int)} {f:Nat} {e:List (List V)} {o:bM} (h:ie H u out) (hf:H f=.arr 6 e):ie (H.set f o) u out:=by
  obtain ⟨b,e1,ho,hb⟩:=h
  exact ⟨b,e1,ho.other (jq ho hf (by decide)),fun x hx=>(hb x hx).other (jq (hb x hx) hf (by decide))⟩
section
variable {P:Program} {T:Env} {H:View} {K:V→View→Prop} {w:ct (T,H,K)} {t t1 e ty:TypeId}
theorem JS {x:Operand} {k:Nat} (he:bX P t=some e) (hx:ev T x=.emp k) (hk:K (ak 0) H):pS P (.call { callee:=.builtin .cap,args:=#[x],argTypes:=#[t] }) ty T H K w:=by
  intro n _
  refine ⟨ak 0,.none,[],?_,hk⟩
  simp[sI,bK,oper,CC,he,hx]
theorem N2 {s x:Operand} {k l sz bytes:Nat} {z:List V} (he:nJ P t=some (sz,bytes,z)) (hd:lT P t1=false) (hi:isInt P t1=true) (hs:ev T s=.emp k) (hx:ev T x=ak l) (h0:l≠0)
    (h1:l * bytes < aP) (h2:l < aP) (hk:∀ n,H n=.dead→K (.sl n 0 l sz) (H.set n (.arr sz (List.replicate l z)))) :
    pS P (.call { callee:=.builtin .append,args:=#[s,x],argTypes:=#[t,t1] }) ty T H K w:=by
  obtain ⟨e,ti,hse,_,hti,hz,hzl,hzok,hs0,rfl,rfl⟩:=iX he
  intro n hn
  refine ⟨.sl n 0 l ti.size,.new (.arr ti.size (List.replicate l z)),[],?_,hk n hn⟩
  have ha:asNat (ak l)=some l:=by simp[asNat,ak]
  have key:pT P t (.emp k) (ak l) n=some (.sl n 0 l ti.size,.new (.arr ti.size (List.replicate l z)),[]):=by
    unfold pT
    rw[hse,ha]
    simp only[hti,hz,if_neg h0]
    rw[if_pos ⟨hzl,hzok,hs0,h1,h2⟩]
  simp[sI,bK,oper,hd,hi,hs,hx,key]
end
def iW:SF:=⟨.seq (aq [((some 4),.op (.aX (.val (.emp 1))))]) <|
  .seq (.seq (aq [aa 5 1,au 6 .lss 5 0]) <|
  .cond (.tmp 6) (.region false [⟨none,[((some 7),.op (.old (.makeInterface 9 (.const (.string ⟨#[99,97,110,110,111,116,32,98,101,32,110,101,103,97,116,105,118,101]⟩))) 20)),(none,.op (.old (.panic (.tmp 7)) 0))]⟩]) (.skip)) <|
  .seq (.seq (aq [aa 8 1,aa 9 0,((some 10),.op (.old (.call { callee:=.builtin .cap,args:=#[(.tmp 9)],argTypes:=#[31] }) 3)),aa 11 0,aA 12 11,aC 13 .sub 10 12,aC 14 .sub 8 13,aa 1 14]) <|
  .seq (aq [aa 15 1,au 16 .gtr 15 0]) <|
  .cond (.tmp 16) (aq [aa 17 0,aa 18 0,((some 19),.op (.old (.call { callee:=.builtin .cap,args:=#[(.tmp 18)],argTypes:=#[31] }) 3)),((some 20),.op (.slice 1 (.tmp 17) none (some (.tmp 19)))),aa 21 1,((some 22),.op (.old (.call { callee:=.builtin .append,args:=#[(.tmp 20),(.tmp 21)],argTypes:=#[31,3] }) 31)),aa 23 0,aA 24 23,((some 25),.op (.slice 1 (.tmp 22) none (some (.tmp 24)))),aa 0 25]) (.skip)) <|
  .seq (aq [aa 26 0,aa 4 26]) <|
  .ret,
  [.tmp 4],27⟩
theorem nU:ba Tryz.prog 128 []=some iW:=by kernel_rfl
def gJ:SC :=
  .seq (aq [aC 12 .lss 11 10]) <|
  .seq (.cond (.tmp 12) (.skip) (.exit 0)) <|
  .seq (.block 1 (.seq (aq [aD 13 1 9 11,an 14 13,aa 5 14]) <|
  .seq (aq [aa 15 3,aa 16 5,aA 17 16,aC 18 .add 15 17,aa 3 18]) <|
  .seq (aq [aa 19 3,au 20 .lss 19 0]) <|
  .cond (.tmp 20) (.region false [⟨none,[((some 21),.op (.old (.makeInterface 9 (.const (.string ⟨#[108,101,110,32,111,117,116,32,111,102,32,114,97,110,103,101]⟩))) 20)),(none,.op (.old (.panic (.tmp 21)) 0))]⟩]) (.skip))) <|
  aq [au 22 .add 11 1,aa 11 22]
def gE:SC :=
  .seq (aq [aC 28 .lss 27 26]) <|
  .seq (.cond (.tmp 28) (.skip) (.exit 2)) <|
  .seq (.block 3 (.seq (aq [aD 29 1 25 27,an 30 29,aa 8 30]) <|
  aq [aa 31 6,aa 32 8,((some 33),.op (.app 1 8 (.tmp 31) (.tmp 32))),aa 6 33])) <|
  aq [au 34 .add 27 1,aa 27 34]
def hD:SF:=⟨.seq (aq [((some 2),.op (.aX (.val (.emp 1))))]) <|
  .seq (aq [az 3 0]) <|
  .seq (.seq (aq [aa 9 0,aA 10 9,az 11 0]) <|
  .block 0 (.loop gJ)) <|
  .seq (aq [aa 23 3,b6 24 128 [(.val (.emp 1)),(.tmp 23)],aa 6 24]) <|
  .seq (.seq (aq [aa 25 0,aA 26 25,az 27 0]) <|
  .block 2 (.loop gE)) <|
  .seq (aq [aa 35 6,aa 2 35]) <|
  .ret,
  [.tmp 2],36⟩
theorem mj:ba Tryz.prog 76 []=some hD:=by kernel_rfl
theorem IB (n:Nat) (hn:n≤100000) (H:View):aG Tryz.prog 128 [.emp 1,gi n] H fun r H'=>(n=0∧r=.emp 1∧H'=H)∨(0 < n∧∃ m es,H m=.dead∧r=.sl m 0 0 1∧H'=H.set m (.arr 1 es)):=by
  refine aG.of mixed nU ?_
  simp (disch:=omega) only [↓wr,↓reduceIte,wq,ah,ag,ak,ab,ae,af,ai,isNil,Nat.reduceEqDiff,Nat.reduceAdd,Nat.reduceLT,Nat.reduceLeDiff,Int.reduceNeg,Int.reduceToNat,reduceCtorEq,iW]
  refine ar.dec (fun h=>absurd h (by omega)) (fun _=>?_)
  simp (disch:=omega) only [↓wr,↓reduceIte,wq,ah,ag,ak,ab,ae,af,ai,isNil,Nat.reduceEqDiff,Nat.reduceAdd,Nat.reduceLT,Nat.reduceLeDiff,Int.reduceNeg,Int.reduceToNat,reduceCtorEq]
  refine JS (k:=1) (e:=3) (by kernel_rfl) (by simp (disch:=omega) only [↓wr,↓reduceIte,wq,ah,ag,ak,ab,ae,af,ai,isNil,Nat.reduceEqDiff,Nat.reduceAdd,Nat.reduceLT,Nat.reduceLeDiff,Int.reduceNeg,Int.reduceToNat,reduceCtorEq]) ?_
  simp (disch:=omega) only [↓wr,↓reduceIte,wq,ah,ag,ak,ab,ae,af,ai,isNil,Nat.reduceEqDiff,Nat.reduceAdd,Nat.reduceLT,Nat.reduceLeDiff,Int.reduceNeg,Int.reduceToNat,reduceCtorEq]
  refine ar.dec (fun h=>?_) (fun h=>?_)
  · simp (disch:=omega) only [↓wr,↓reduceIte,wq,ah,ag,ak,ab,ae,af,ai,isNil,Nat.reduceEqDiff,Nat.reduceAdd,Nat.reduceLT,Nat.reduceLeDiff,Int.reduceNeg,Int.reduceToNat,reduceCtorEq]
    refine JS (k:=1) (e:=3) (by kernel_rfl) (by simp (disch:=omega) only [↓wr,↓reduceIte,wq,ah,ag,ak,ab,ae,af,ai,isNil,Nat.reduceEqDiff,Nat.reduceAdd,Nat.reduceLT,Nat.reduceLeDiff,Int.reduceNeg,Int.reduceToNat,reduceCtorEq]) ?_
    simp (disch:=omega) only [↓wr,↓reduceIte,wq,ah,ag,ak,ab,ae,af,ai,isNil,Nat.reduceEqDiff,Nat.reduceAdd,Nat.reduceLT,Nat.reduceLeDiff,Int.reduceNeg,Int.reduceToNat,reduceCtorEq]
    rw[show gG 1 (.emp 1) none (some (.val (.int .i64 ((0:Nat):Int))))=some (.emp 1,.none,[]) from rfl]
    simp (disch:=omega) only [↓wr,↓reduceIte,wq,ah,ag,ak,ab,ae,af,ai,isNil,Nat.reduceEqDiff,Nat.reduceAdd,Nat.reduceLT,Nat.reduceLeDiff,Int.reduceNeg,Int.reduceToNat,reduceCtorEq]
    refine N2 (k:=1) (l:=n) (sz:=1) (bytes:=8) (z:=[gi 0]) (by kernel_rfl) (by kernel_rfl) (by kernel_rfl) (by simp (disch:=omega) only [↓wr,↓reduceIte,wq,ah,ag,ak,ab,ae,af,ai,isNil,Nat.reduceEqDiff,Nat.reduceAdd,Nat.reduceLT,Nat.reduceLeDiff,Int.reduceNeg,Int.reduceToNat,reduceCtorEq]) (by simp (disch:=omega) only [↓wr,↓reduceIte,wq,ah,ag,ak,ab,ae,af,ai,isNil,Nat.reduceEqDiff,Nat.reduceAdd,Nat.reduceLT,Nat.reduceLeDiff,Int.reduceNeg,Int.reduceToNat,reduceCtorEq]; simp) (by omega) (by unfold aP; omega) (by unfold aP; omega) ?_
    intro m hm
    simp (disch:=omega) only [↓wr,↓reduceIte,wq,ah,ag,ak,ab,ae,af,ai,isNil,Nat.reduceEqDiff,Nat.reduceAdd,Nat.reduceLT,Nat.reduceLeDiff,Int.reduceNeg,Int.reduceToNat,reduceCtorEq]
    rw[show gG 1 (.sl m 0 n 1) none (some (.val (.int .i64 ((0:Nat):Int))))=some (.sl m 0 0 1,.none,[]) by simp[gG,bound,asNat]]
    simp (disch:=omega) only [↓wr,↓reduceIte,wq,ah,ag,ak,ab,ae,af,ai,isNil,Nat.reduceEqDiff,Nat.reduceAdd,Nat.reduceLT,Nat.reduceLeDiff,Int.reduceNeg,Int.reduceToNat,reduceCtorEq]
    exact .inr ⟨by omega,m,_,hm,rfl,rfl⟩
  · simp (disch:=omega) only [↓wr,↓reduceIte,wq,ah,ag,ak,ab,ae,af,ai,isNil,Nat.reduceEqDiff,Nat.reduceAdd,Nat.reduceLT,Nat.reduceLeDiff,Int.reduceNeg,Int.reduceToNat,reduceCtorEq]
    exact .inl (by omega)
def xC (H:View) (u:V) (l:List Int):Prop:=u=encI l∨bj H u 1 (bb l)
theorem xC.elems {H:View} {u:V} {l:List Int} (h:xC H u l):∃ rd,bF H u=some (bb l,rd):=by
  rcases h with rfl | h
  · exact ⟨[],sr _ _⟩
  generalize bb l=es0 at h
  rcases h with ⟨rfl,k,rfl⟩ | ⟨n,rfl,hn⟩
  · exact ⟨_,tb _ k⟩
  · cases es0 with
    | nil=>exact ⟨[],by simp[bF]⟩
    | cons e es =>
      exact ⟨_,by rw[show (e :: es).length=es.length+1 from rfl,AV _ n 0 es.length 1 1 _ hn (by simp),List.drop_zero,List.take_of_length_le (by simp)]⟩
theorem xC.len {H:View} {u:V} {l:List Int} (h:xC H u l):dh u=some l.length:=by
  rcases h with rfl | h
  · simp[encI,dh]
  · rw[h.len]; simp
theorem xC.keep {H H':View} {u:V} {l:List Int} (h:xC H u l) (hk:∀ id,H id≠.dead→H' id=H id):xC H' u l:=by
  rcases h with rfl | h
  · exact .inl rfl
  · exact .inr (h.keep fun id hid=>hk id (by rw[(h.live hid).1]; simp))
def yP (H:View) (u:V) (l:List Int):Prop:=bj H u 1 (bb l)∨(l=[]∧∃ m es,u=.sl m 0 0 1∧H m=.arr 1 es)
theorem yP.live {H:View} {u:V} {l:List Int} (h:yP H u l) {id:Nat} (hid:owner u=some id):∃ es,H id=.arr 1 es:=by
  rcases h with h | ⟨_,m,es,rfl,hm⟩
  · exact ⟨_,(h.live hid).1⟩
  · simp[owner] at hid; subst hid; exact ⟨es,hm⟩
theorem IX {bytes:Nat} {u:V} {l xs:List Int} {H:View} {K:V→View→Prop} {w:ct (H,K)} (ho:yP H u l) (hl:(l.length+xs.length) * bytes < aP) (hl2:l.length+xs.length < aP) (hb:bytes=8)
    (hk:∀ u' H',yP H' u' (l ++ xs)→(bj H u 1 (bb l)→bj H' u' 1 (bb (l ++ xs)))→Left H H' u u'→K u' H'):lP 1 bytes u (bb xs) H K w:=by
  rcases ho with ho | ⟨rfl,m,es,rfl,hm⟩
  · exact DL ho (by simp[List.all_map,aU]) (by simpa using hl) (by simpa using hl2) fun u' H' h1 h2=>hk u' H' (.inl (by simpa using h1)) (fun _=>by simpa using h1) h2
  · cases xs with
    | nil=>exact hk _ _ (.inr ⟨rfl,m,es,rfl,hm⟩) (fun h=>by simpa using h) .refl
    | cons x xs =>
      rw[qM _ _ _ _ _ _ _ _ _ _ (by simp),hm]
      refine ⟨by simp[List.all_map,aU],⟨by simp,rfl,by simpa using hl,by simpa using hl2⟩,fun n hn=>hk _ _ (.inl (.inr ⟨n,by simp,by simp[View.set]⟩)) (fun _=>.inr ⟨n,by simp,by simp[View.set]⟩) fun id hid ho=>?_⟩
      have e:id≠n:=by rintro rfl; exact hid hn
      have e2:id≠m:=by rintro rfl; exact ho rfl
      exact ⟨by simp[View.set,e,e2],by simp[owner,Ne.symm e]⟩
set_option maxHeartbeats 4000000 in
theorem Lx (us:List (V × List Int)) (q:Nat) (H:View) (hq:H q=.arr 1 (us.map fun x=>[x.1])) (ha:∀ x∈us,xC H x.1 x.2) (hl:(us.map (·.2)).flatten.length≤100000) (hu:us.length≤1000) :
    aG Tryz.prog 76 [.sl q 0 us.length 1] H fun r H'=>bj H' r 1 (bb (us.map (·.2)).flatten)∧er H H' r:=by
  have hsum:∀ i,((us.take i).map (·.2)).flatten.length≤100000:=fun i=>by
    have:=List.take_append_drop i us
    have h2:(us.map (·.2)).flatten=((us.take i).map (·.2)).flatten ++ ((us.drop i).map (·.2)).flatten:=by rw[← List.flatten_append,← List.map_append,this]
    rw[h2,List.length_append] at hl; omega
  refine aG.of mixed mj ?_
  simp (disch:=omega) only [↓wr,↓reduceIte,wq,ah,ag,ak,ab,ae,af,ai,isNil,Nat.reduceEqDiff,Nat.reduceAdd,Nat.reduceLT,Nat.reduceLeDiff,Int.reduceNeg,Int.reduceToNat,reduceCtorEq,hD]
  refine bp.up us.length (fun i T H'=>H'=H∧T 0=.sl q 0 us.length 1∧T 3=gi ((us.take i).map (·.2)).flatten.length∧T 9=.sl q 0 us.length 1∧T 10=gi us.length∧T 11=gi i) ⟨rfl,rfl,rfl,rfl,rfl,rfl⟩ ?_
  rintro i k T H1 hk ⟨rfl,t0,t3,t9,t10,t11⟩
  simp (disch:=omega) only [↓wr,↓reduceIte,wq,ah,ag,ak,ab,ae,af,ai,isNil,Nat.reduceEqDiff,Nat.reduceAdd,Nat.reduceLT,Nat.reduceLeDiff,Int.reduceNeg,Int.reduceToNat,reduceCtorEq,gJ,t0,t3,t9,t10,t11]
  refine ar.dec (fun hi=>?_) (fun hi=>?_)
  · have h2:us[i]?=some (us[i]'(by omega)):=List.getElem?_eq_getElem (by omega)
    have hm:=List.mem_of_getElem? h2
    have htk:us.take (i+1)=us.take i ++ [us[i]'(by omega)]:=by rw[List.take_add_one,h2]; rfl
    have hs1:=hsum (i+1)
    have hgd:(us.map fun x=>[x.1]).getD i []=[(us[i]'(by omega)).1]:=by simp[List.getD_eq_getElem?_getD,h2]
    generalize us[i]'(by omega)=x at h2 hm htk hgd
    have hx:=(ha x hm).len
    rw[htk] at hs1
    simp only[List.map_append,List.map_cons,List.map_nil,List.flatten_append,List.flatten_cons,List.flatten_nil,List.append_nil,List.length_append] at hs1
    simp (disch:=omega) only [↓wr,↓reduceIte,wq,ah,ag,ak,ab,ae,af,ai,isNil,Nat.reduceEqDiff,Nat.reduceAdd,Nat.reduceLT,Nat.reduceLeDiff,Int.reduceNeg,Int.reduceToNat,reduceCtorEq,t0,t3,t9,t10,t11,hq,hgd,hx]
    refine ⟨by omega,by omega,?_⟩
    refine ar.dec (fun h=>absurd h (by omega)) (fun _=>?_)
    simp (disch:=omega) only [↓wr,↓reduceIte,wq,ah,ag,ak,ab,ae,af,ai,isNil,Nat.reduceEqDiff,Nat.reduceAdd,Nat.reduceLT,Nat.reduceLeDiff,Int.reduceNeg,Int.reduceToNat,reduceCtorEq,t0,t3,t9,t10,t11]
    refine br hk (by omega) ⟨rfl,t0,?_,t9,t10,rfl⟩
    rw[htk,List.map_append,List.flatten_append,List.length_append,List.map_cons,List.map_nil,List.flatten_cons,List.flatten_nil,List.append_nil]
    push_cast
    rfl
  · simp (disch:=omega) only [↓wr,↓reduceIte,wq,ah,ag,ak,ab,ae,af,ai,isNil,Nat.reduceEqDiff,Nat.reduceAdd,Nat.reduceLT,Nat.reduceLeDiff,Int.reduceNeg,Int.reduceToNat,reduceCtorEq,t0,t3,t9,t10,t11]
    have e:us.take i=us:=List.take_of_length_le (by omega)
    rw[e]
    refine aN.ig ((IB _ hl H1).mono ?_)
    intro r H2 hr
    have hro:yP H2 r []∧er H1 H2 r:=by
      rcases hr with ⟨_,rfl,rfl⟩ | ⟨_,m,es,hm,rfl,rfl⟩
      · exact ⟨.inl .nil,.emp⟩
      · exact ⟨.inr ⟨rfl,m,es,rfl,by simp[View.set]⟩,.new hm⟩
    have hlast:(us.map (·.2)).flatten.length=0→bj H2 r 1 (bb []):=fun h0=>by
      rcases hr with ⟨_,rfl,_⟩ | ⟨h1,_⟩
      · exact .nil
      · omega
    obtain ⟨hroom,hfr⟩:=hro
    simp (disch:=omega) only [↓wr,↓reduceIte,wq,ah,ag,ak,ab,ae,af,ai,isNil,Nat.reduceEqDiff,Nat.reduceAdd,Nat.reduceLT,Nat.reduceLeDiff,Int.reduceNeg,Int.reduceToNat,reduceCtorEq,t0,t3,t9,t10,t11]
    refine bp.up us.length (fun i T H'=>∃ u,T 6=u∧yP H' u ((us.take i).map (·.2)).flatten∧((us.map (·.2)).flatten.length=0→bj H' u 1 (bb ((us.take i).map (·.2)).flatten))∧er H1 H' u∧T 25=.sl q 0 us.length 1∧T 26=gi us.length∧T 27=gi i) ⟨r,rfl,hroom,hlast,hfr,rfl,rfl,rfl⟩ ?_
    rintro i k T H3 hk ⟨u,t6,ho,hz,hf,t25,t26,t27⟩
    simp (disch:=omega) only [↓wr,↓reduceIte,wq,ah,ag,ak,ab,ae,af,ai,isNil,Nat.reduceEqDiff,Nat.reduceAdd,Nat.reduceLT,Nat.reduceLeDiff,Int.reduceNeg,Int.reduceToNat,reduceCtorEq,gE,t6,t25,t26,t27]
    refine ar.dec (fun hi=>?_) (fun hi=>?_)
    · have h2:us[i]?=some (us[i]'(by omega)):=List.getElem?_eq_getElem (by omega)
      have hm:=List.mem_of_getElem? h2
      have htk:us.take (i+1)=us.take i ++ [us[i]'(by omega)]:=by rw[List.take_add_one,h2]; rfl
      have hs1:=hsum (i+1)
      have hgd:(us.map fun x=>[x.1]).getD i []=[(us[i]'(by omega)).1]:=by simp[List.getD_eq_getElem?_getD,h2]
      generalize us[i]'(by omega)=x at h2 hm htk hgd
      rw[htk,List.map_append,List.flatten_append,List.length_append,List.map_cons,List.map_nil,List.flatten_cons,List.flatten_nil,List.append_nil] at hs1
      have hq3:H3 q=.arr 1 (us.map fun x=>[x.1]):=by rw[(hf q (by rw[hq]; simp)).1,hq]
      obtain ⟨rd,he⟩:=((ha x hm).keep fun id hid=>(hf id hid).1).elems
      simp (disch:=omega) only [↓wr,↓reduceIte,wq,ah,ag,ak,ab,ae,af,ai,isNil,Nat.reduceEqDiff,Nat.reduceAdd,Nat.reduceLT,Nat.reduceLeDiff,Int.reduceNeg,Int.reduceToNat,reduceCtorEq,t6,t25,t26,t27,hq3,hgd,he]
      refine ⟨by omega,by omega,?_⟩
      refine IX ho (by unfold aP; omega) (by unfold aP; omega) rfl ?_
      intro u' H4 ho4 hz4 l4
      simp (disch:=omega) only [↓wr,↓reduceIte,wq,ah,ag,ak,ab,ae,af,ai,isNil,Nat.reduceEqDiff,Nat.reduceAdd,Nat.reduceLT,Nat.reduceLeDiff,Int.reduceNeg,Int.reduceToNat,reduceCtorEq,t6,t25,t26,t27]
      refine br hk (by omega) ⟨u',rfl,?_,fun h0=>?_,fun id hid=>?_,t25,t26,rfl⟩
      · rw[htk]; simpa using ho4
      · rw[htk]; simpa using hz4 (hz h0)
      · obtain ⟨a,b⟩:=hf id hid
        obtain ⟨c,d⟩:=l4 id (by rw[a]; exact hid) b
        exact ⟨c.trans a,d⟩
    · simp (disch:=omega) only [↓wr,↓reduceIte,wq,ah,ag,ak,ab,ae,af,ai,isNil,Nat.reduceEqDiff,Nat.reduceAdd,Nat.reduceLT,Nat.reduceLeDiff,Int.reduceNeg,Int.reduceToNat,reduceCtorEq,t6,t25,t26,t27]
      have e:us.take i=us:=List.take_of_length_le (by omega)
      rw[e] at ho hz
      refine ⟨?_,hf⟩
      rcases ho with ho | ⟨h0,m,es,rfl,hm⟩
      · exact ho
      · exact hz (by rw[h0]; rfl)
def EL (H:View) (u:V) (l:List Int):Prop:=u=encI l∨∃ (m:Nat) (x:Int),l=[x]∧x < 0∧u=.sl m 0 1 1∧H m=.arr 1 [[gi x]]
theorem EL.Iu {H:View} {u:V} {l:List Int} (h:EL H u l):ef H u (encI l):=by
  rcases h with rfl | ⟨m,x,rfl,_,rfl,hm⟩
  · exact ef.tree (c6 l)
  · exact A3 (l:=[x]) hm rfl
theorem EL.keep {H H':View} {u:V} {l:List Int} (h:EL H u l) (hk:∀ id,H id≠.dead→H' id=H id):EL H' u l:=by
  rcases h with rfl | ⟨m,x,rfl,hx,rfl,hm⟩
  · exact .inl rfl
  · exact .inr ⟨m,x,rfl,hx,rfl,by rw[hk m (by rw[hm]; simp)]; exact hm⟩
theorem Lg {F:List Way} {w:Way} {n:Int} : lookW (F ++ [w]) n=match lookW F n with
    | some x=>some x
    | none=>if w.dk=n then some w else none:=by
  unfold lookW
  rw[List.find?_append]
  cases h:F.find? fun x=>x.dk == n with
  | some x=>rfl
  | none =>
    simp only[Option.none_or,List.find?_cons,List.find?_nil]
    by_cases e:w.dk=n
    · simp[e]
    · have:(w.dk == n)=false:=by simpa using e
      rw[this]; simp[e]
theorem CS {F:List Way} {n:Int} (h:n ∉ j6 F):lookW F n=none:=by
  rw[lookW,List.find?_eq_none]
  intro x hx e
  exact h (List.mem_map.2 ⟨x,hx,by simpa using e⟩)
theorem rF.le {g:ay} (hf:g.sq) {F:List Way} (h:rF g F):F.length≤g.aw.length :=
  h.len ⟨hf.uR,hf.start⟩ fun R hR s hs hn=>by
    have:=hf.sym R hR s hs
    unfold l5 at this
    rw[if_neg (by omega)] at this
    simpa using this
end Gv
