/-
  Part 10 of the proof: what the machine does and what the functions answer.
  Conditions: those that each lemma names.
-/
import Derived.Test.YtiophifnkakjgaaGreatSGzC2I
set_option linter.unusedSimpArgs false
set_option linter.unusedVariables false
set_option maxRecDepth 100000
set_option maxHeartbeats 20000000
namespace Gv
open Go Go.Proofs
def jg (p:List Int) (i:Nat) (s:Int):Prop:=∃ c,p[i]?=some c/\(c=s∨c = -1)
inductive Sp (g:ai) (p:List Int):List Int->Nat->Nat->Prop
 | nil (i:Nat):Sp g p [] i i
 | term (s:Int) (l:List Int) (i j:Nat):0<=s->jg p i s->Sp g p l (i+1) j->Sp g p (s :: l) i j
 | cq (s:Int) (l:List Int) (R:aF) (i k j:Nat):s < 0->R∈g.rules->R.left = -1 - s->Sp g p R.right i k->Sp g p l k j->Sp g p (s :: l) i j
theorem Sp.le {g:ai} {p:List Int} {l:List Int} {i j:Nat} (h:Sp g p l i j):i<=j:=by
 induction h with
 | nil=>exact OR _
 | term _ _ _ _ _ _ _ c=>omega
 | cq _ _ _ _ _ _ _ _ _ _ _ a b=>omega
theorem Sp.len {g:ai} {p:List Int} {l:List Int} {i j:Nat} (h:Sp g p l i j):i<=p.length->j<=p.length:=by
 induction h with
 | nil=>exact id
 | term _ _ i _ _ d _ e =>
  intro _
  obtain⟨c,f,_⟩:=d
  have:=(OV.1 f).1
  exact e (by omega)
 | cq _ _ _ _ _ _ _ _ _ _ _ a b=>exact λh=>b (a h)
theorem Sp.app {g:ai} {p:List Int} {a:List Int} {i k:Nat} (h:Sp g p a i k):∀ {b:List Int} {j:Nat},Sp g p b k j->Sp g p (a ++ b) i j:=by
 induction h with
 | nil=>exact λh=>h
 | term s l i _ c f _ m=>exact λd=>.term s _ i _ c f (m d)
 | cq s l R i k _ c n o h1 _ _ e=>exact λd=>.cq s _ R i k _ c n o h1 (e d)
theorem Sp.split {g:ai} {p:List Int} : ∀ {a b:List Int} {i j:Nat},Sp g p (a ++ b) i j->∃ k,Sp g p a i k/\Sp g p b k j
 | [],b,i,j,h=>⟨i,.nil i,h⟩
 | s :: a,b,i,j,h=>by
  cases h with
  | term _ _ _ _ c e h =>
   obtain⟨k,h1,d⟩:=Sp.split h
   exact⟨k,.term s a i k c e h1,d⟩
  | cq _ _ R _ m _ c f l h1 h =>
   obtain⟨k,d,n⟩:=Sp.split h
   exact⟨k,.cq s a R i m k c f l h1 d,n⟩
theorem zo {g:ai} (hr:aA g=true) {p l:List Int} {i j:Nat} (h:Sp g p l i j):i=j->bw l (al g false) false=true:=by
 induction h with
 | nil=>intro _;rfl
 | term _ _ _ _ _ _ h _=>intro e;have:=h.le;omega
 | cq s l R i k j m c d h1 f a b =>
  intro e
  have n:=h1.le
  have o:=f.le
  have g1:=ix hr c (a (by omega))
  rw[d] at g1
  have g2:=b (by omega)
  simp only[bw,PH,OO] at g2 ⊢
  rw[OK (by omega)]
  exact⟨g1,g2⟩
def pP (g:ai) (is:List Bool):Prop:=∀ i,is.getD i false=true->∃ R∈g.rules,R.left.toNat=i/\∀ (p:List Int) (k:Nat),Sp g p R.right k k
theorem B9 {g:ai} (a:∀ r∈g.rules,0<=r.left) {is:List Bool} (h:pP g is):∀ l:List Int,bw l is false=true->∀ (p:List Int) (k:Nat),Sp g p l k k
 | [],_,p,k=>.nil k
 | s :: l,b,p,k=>by
  simp only[bw,PH,OO] at b
  obtain⟨h1,e⟩:=b
  by_cases c:0<=s
  .rw[OM c] at h1;simp at h1
  .rw[OK c] at h1
   obtain⟨R,d,i,f⟩:=h _ h1
   have:=a R d
   exact .cq s l R k k k (by omega) d (by omega) (f p k) (B9 a h l e p k)
theorem FH {g:ai} (hr:aA g=true):pP g (al g false):=by
 have j:=az hr
 have b:=λr c=>(j.left r c).1
 have d:∀ (is:List Bool) (R:aF),R∈g.rules->pP g is->pP g (cm false is R):=by
  intro is R k h i hi
  unfold cm at hi
  split at hi
  .rename_i m
   rcases sS hi with rfl | hi
   .exact⟨R,k,rfl,B9 b h R.right m⟩
   .exact h i hi
  .exact h i hi
 have a:∀ (l:List aF) (is:List Bool),(∀ R∈l,R∈g.rules)->pP g is->pP g (l.foldl (cm false) is):=by
  intro l
  induction l with
  | nil=>intro is _ h;exact h
  | cons R l e=>intro is b h;exact e _ (λx o=>b x (by simp[o])) (d is R (b R (by simp)) h)
 have f:∀ (n:Nat) (is:List Bool),pP g is->pP g (iter (ga g false) n is):=by
  intro n
  induction n with
  | zero=>intro is h;exact h
  | succ n e=>intro is h;exact e _ (a g.rules is (λ_ h=>h) h)
 unfold al
 rw[OM hr]
 exact f _ _ λi hi=>by rw[sN] at hi;simp at hi
structure Item where
 aZ:Nat
 dot:Nat
 ca:Nat
 deriving DecidableEq
def Sound (g:ai) (p:List Int) (at_:Nat) (x:Item):Prop:=∃ R,g.rules[x.aZ]?=some R/\x.dot<=R.right.length/\x.ca<=at_/\Sp g p (R.right.take x.dot) x.ca at_
structure yx (g:ai) (p:List Int) (S:Nat->List Item):Prop where
 start:∀ (i:Nat) (R:aF),g.rules[i]?=some R->R.left=g.start->⟨i,0,0⟩∈S 0
 term:∀ a x R s,x∈S a->g.rules[x.aZ]?=some R->R.right[x.dot]?=some s->0<=s->jg p a s->⟨x.aZ,x.dot+1,x.ca⟩∈S (a+1)
 pred:∀ a x R s i R',x∈S a->g.rules[x.aZ]?=some R->R.right[x.dot]?=some s->s < 0->g.rules[i]?=some R'->R'.left = -1 - s->a<=p.length->⟨i,0,a⟩∈S a
 null:∀ a x R s,x∈S a->g.rules[x.aZ]?=some R->R.right[x.dot]?=some s->s < 0->(al g false).getD (-1 - s).toNat false=true->a<=p.length->⟨x.aZ,x.dot+1,x.ca⟩∈S a
 comp:∀ a y R' x R s,y∈S a->g.rules[y.aZ]?=some R'->y.dot=R'.right.length->y.ca < a->x∈S y.ca->g.rules[x.aZ]?=some R->R.right[x.dot]?=some s->s < 0->R'.left = -1 - s->a<=p.length->⟨x.aZ,x.dot+1,x.ca⟩∈S a
theorem Gl {g:ai} (hr:aA g=true) {p:List Int} {S:Nat->List Item} (w:yx g p S) {l:List Int} {a j:Nat} (h:Sp g p l a j) :
  ∀ (x:Item) (R:aF),x∈S a->g.rules[x.aZ]?=some R->R.right.drop x.dot=l->x.dot<=R.right.length->a<=p.length->⟨x.aZ,R.right.length,x.ca⟩∈S j:=by
 induction h with
 | nil i =>
  intro x R d b f hle _
  have:x.dot=R.right.length:=by
   have:=Qo List.length f
   simp at this;omega
  rw[<-this];exact d
 | term s l i j u E _ G =>
  intro x R d b f hle hp
  have m:R.right[x.dot]?=some s:=by
   have:=Qo (·[0]?) f
   simpa using this
  have n:=(OV.1 m).1
  have h1:=w.term i x R s d b m u E
  obtain⟨c,y,_⟩:=E
  have H:=(OV.1 y).1
  refine G ⟨x.aZ,x.dot+1,x.ca⟩ R h1 b ?_ n (by omega)
  have:=Qo List.tail f
  simpa using this
 | cq s l Q i k j u F z o I A B =>
  intro x R d b f hle hp
  have m:R.right[x.dot]?=some s:=by
   have:=Qo (·[0]?) f
   simpa using this
  have n:=(OV.1 m).1
  obtain⟨q,J,C⟩:=Ql F
  have r:g.rules[q]?=some Q:=by rw[OI J,C]
  have D:=w.pred i x R s q Q d b m u r z hp
  have t:=A ⟨q,0,i⟩ Q D r (by simp) (by simp) hp
  have hk:=o.len hp
  have v:⟨x.aZ,x.dot+1,x.ca⟩∈S k:=by
   rcases Nat.lt_or_eq_of_le o.le with e | e
   .exact w.comp k ⟨q,Q.right.length,i⟩ Q x R s t r rfl e d b m u z hk
   .subst e
    have:=ix hr F (zo hr o rfl)
    rw[z] at this
    exact w.null i x R s d b m u this hp
  refine B ⟨x.aZ,x.dot+1,x.ca⟩ R v b ?_ n hk
  have:=Qo List.tail f
  simpa using this
theorem IN {g:ai} (hr:aA g=true) {p:List Int} {S:Nat->List Item} (j:yx g p S) (l:∀ a x,x∈S a->Sound g p a x) :
  (∃ x∈S p.length,∃ R,g.rules[x.aZ]?=some R/\R.left=g.start/\x.ca=0/\x.dot=R.right.length)↔Sp g p [-1 - g.start] 0 p.length:=by
 have m:=az hr
 have u:=m.fF
 constructor
 .rintro⟨x,n,R,e,o,f,r⟩
  obtain⟨v,c,_,_,b⟩:=l _ x n
  rw[e] at c;simp at c;subst c
  rw[r,Qw,f] at b
  exact .cq _ _ R 0 p.length p.length (by omega) (O2 e) (by omega) b (.nil _)
 .intro h
  cases h with
  | term _ _ _ _ h1 _ _=>omega
  | cq _ _ R _ k _ h1 e o b s =>
   cases s
   obtain⟨q,t,i⟩:=Ql e
   have d:g.rules[q]?=some R:=by rw[OI t,i]
   have:=Gl hr j b ⟨q,0,0⟩ R (j.start q R d (by omega)) d (by simp) (by simp) (by omega)
   exact⟨_,this,R,d,by omega,rfl,rfl⟩
inductive Eu (g:ai) (p:List Int):Int->Nat->Prop
 | start:Eu g p g.start 0
 | step (R:aF) (l1 l2:List Int) (n:Int) (f a:Nat):R∈g.rules->R.right=l1 ++ (-1 - n) :: l2->Eu g p R.left f->Sp g p l1 f a->Eu g p n a
def FO (g:ai) (p:List Int) (x:Item):Prop:=∃ R,g.rules[x.aZ]?=some R/\Eu g p R.left x.ca
theorem LH {l:List Int} {d:Nat} {s:Int} (h:l[d]?=some s):l=l.take d ++ s :: l.drop (d+1):=by
 have h1:=(OV.1 h)
 obtain⟨a,he⟩:=h1
 rw[<-he]
 simp
theorem FO.ask {g:ai} {p:List Int} {a:Nat} {x:Item} (h:FO g p x) (d:Sound g p a x) {R:aF} (c:g.rules[x.aZ]?=some R) {s:Int} (e:R.right[x.dot]?=some s):Eu g p (-1 - s) a:=by
 obtain⟨j,h1,f⟩:=h
 obtain⟨k,b,_,_,i⟩:=d
 rw[c] at h1 b;simp at h1 b;subst h1;subst b
 refine .step R (R.right.take x.dot) (R.right.drop (x.dot+1)) (-1 - s) x.ca a (O2 c) ?_ f i
 rw[show -1 - (-1 - s)=s by omega]
 exact LH e
theorem Sp.cut {g:ai} {p:List Int} {k:Nat} {l:List Int} {i j:Nat} (h:Sp g p l i j):j<=k->Sp g (p.take k) l i j:=by
 induction h with
 | nil i=>exact λ_=>.nil i
 | term s l i j a f h n =>
  intro hk
  have:=h.le
  obtain⟨c,o,b⟩:=f
  exact .term s l i j a ⟨c,by rw[PT,OM (by omega)];exact o,b⟩ (n hk)
 | cq s l R i m j a q r h1 b d e =>
  intro hk
  have:=b.le
  exact .cq s l R i m j a q r (d (by omega)) (e hk)
theorem ri:∀ (l:List aF) (acc:List Int),(l.foldl dc acc).length<=acc.length+l.length
 | [],acc=>by simp
 | r :: l,acc=>by
  have h1:=ri l (dc acc r)
  have a:(dc acc r).length<=acc.length+1:=by unfold dc;split <;> simp
  simp only[O3,OY]
  omega
theorem Kd (p q:List Bool) (l:List aF):(bN p q l).length<=l.length:=by
 have h1:=ri (l.filter (bk p q)) []
 have a:=List.length_filter_le (bk p q) l
 unfold bN
 simp only[Pc] at h1
 omega
theorem Mp {g:ai} (a:g.Ok) (p q:List Bool):(mz g (aL (bN p q g.rules)) p q).Ok:=by
 have j:=Kd p q g.rules
 have e:=a.rules
 unfold aG at e
 have c:∀ x,bm (aL (bN p q g.rules) x):=λx=>by
  have:=zk (bN p q g.rules) x
  unfold bm;omega
 have b:∀ x,bm (-1 - aL (bN p q g.rules) x):=λx=>by
  have:=zk (bN p q g.rules) x
  unfold bm;omega
 refine⟨a.ao,?_,?_,c _,a.term,λr hr=>?_⟩
 .unfold aG;simp only[mz,OX];omega
 .have:=List.length_filter_le (bk p q) g.rules
  unfold aG;simp only[mz,OX];omega
 .simp only[mz,O9,PC] at hr
  obtain⟨f,⟨h,_⟩,rfl⟩:=hr
  obtain⟨_,i2,i3,i4⟩:=a.aZ f h
  refine⟨c _,i2,by unfold aG at i3 ⊢;simpa [bg] using i3,λx d=>?_⟩
  simp only[bg,O9] at d
  obtain⟨s,i,rfl⟩:=d
  split
  .exact b _
  .exact i4 s i
section
variable {g r:ai} {p q:List Bool} {o:List Int}
theorem cx.ok (h:cx g p q o r) (a:g.Ok):r.Ok:=by
 have:=Mp a p q
 rw[<-h.oe,<-h.re] at this
 exact this
end
theorem yR {g:ai} (hr:aA g=true) {p l:List Int} {i j:Nat} (h:Sp g p l i j):bw l (al g true) true=true:=by
 induction h with
 | nil=>rfl
 | term s l i j c _ _ d =>
  simp only[bw,PH,OO] at d ⊢
  rw[OM c]
  exact⟨rfl,d⟩
 | cq s l R i k j c e f _ _ b a =>
  have g1:=ix hr e b
  rw[f] at g1
  simp only[bw,PH,OO] at a ⊢
  rw[OK (by omega)]
  exact⟨g1,a⟩
section
variable {g r:ai} {p q:List Bool} {o:List Int}
theorem cx.sp (h:cx g p q o r) {w l:List Int} {i j:Nat} (a:Sp g w l i j):(∀ s∈l,s < 0->-1 - s∈o)->Sp r w (l.map λs=>if s < 0 then -1 - aL o (-1 - s) else s) i j:=by
 induction a with
 | nil=>exact λ_=>.nil _
 | term s l i j d u _ v =>
  intro e
  rw[Pa,OK (by omega)]
  exact .term s _ i j d u (v λs a=>e s (by simp[a]))
 | cq s l R i k j d t hle h1 _ f m =>
  intro e
  have b:=e s (by simp) d
  obtain⟨z,x,c,y⟩:=h.from_ _ b
  have hk:bk p q R=true:=by
   rw[bk,OO] at c ⊢
   refine⟨by rw[hle,<-y];exact c.1,?_⟩
   rw[h.pe]
   exact yR h.right h1
  have n:=(h.kept R t hk).2
  have hm:bg (aL o) R∈r.rules:=by rw[h.rules];exact O9.2 ⟨R,PC.2 ⟨t,hk⟩,rfl⟩
  have A:=iN b
  rw[Pa,OM d]
  exact .cq _ _ (bg (aL o) R) i k j (by omega) hm (by simp only[bg];rw[hle];omega) (f n) (m λs a=>e s (by simp[a]))
theorem cx.JH (h:cx g p q o r) {w:List Int} {i j:Nat} (a:Sp g w [-1 - g.start] i j):Sp r w [-1 - r.start] i j:=by
 have b:=az h.right
 have c:=b.fF
 have:=h.sp a (λs a _=>by
  simp at a;subst a
  rw[show -1 - (-1 - g.start)=g.start by omega]
  exact h.start)
 rw[Pa,PQ,OM (by omega),show -1 - (-1 - g.start)=g.start by omega,<-h.um] at this
 exact this
end
theorem Sp.wide {g:ai} {p d:List Int} (hp:∀ i s,jg p i s->jg d i s) {l:List Int} {i j:Nat} (h:Sp g p l i j):Sp g d l i j:=by
 induction h with
 | nil i=>exact .nil i
 | term s l i j a e _ f=>exact .term s l i j a (hp _ _ e) f
 | cq s l R i k j a m n _ _ b c=>exact .cq s l R i k j a m n b c
def Bd {α:Type} (W:α->Prop) (c:Nat):Prop:=∀ L:List α,L.Nodup->(∀ w∈L,W w)->L.length<=c
theorem Bd.mono {α:Type} {W V:α->Prop} {c:Nat} (h:Bd W c) (a:∀ w,V w->W w):Bd V c:=λL b hm=>h L b λw hw=>a w (hm w hw)
theorem Bd.le {α:Type} {W:α->Prop} {c d:Nat} (h:Bd W c) (a:c<=d):Bd W d:=λL b hm=>Pp (h L b hm) a
theorem yu {α:Type} (p:α->Bool):∀ L:List α,L.length=(L.filter p).length+(L.filter λx=>!p x).length
 | []=>rfl
 | x :: L=>by
  have:=yu p L
  rw[List.filter_cons,List.filter_cons]
  cases p x <;> simp <;> omega
theorem Bd.or {α:Type} {A B:α->Prop} {a b:Nat} (e:Bd A a) (f:Bd B b):Bd (λw=>A w∨B w) (a+b):=by
 intro L c hm
 classical
 rw[yu (λw=>decide (A w)) L]
 have h1:=e (L.filter λw=>decide (A w)) (List.filter_sublist.nodup c) λw hw=>by simpa using (PC.1 hw).2
 have g:=f (L.filter λw=>!decide (A w)) (List.filter_sublist.nodup c) λw hw=>by
  have h:=PC.1 hw
  have d:=h.2
  simp at d
  exact(hm w h.1).resolve_left d
 omega
theorem Bd.none {α:Type} {W:α->Prop} (h:∀ w,¬ W w):Bd W 0:=λL _ hm=>by
 cases L with
 | nil=>exact OR _
 | cons w L=>exact absurd (hm w (by simp)) (h w)
theorem Bd.sum {α β:Type} {W:β->α->Prop} {c:β->Nat} : ∀ l:List β,(∀ x∈l,Bd (W x) (c x))->Bd (λw=>∃ x∈l,W x w) (l.map c).sum
 | [],_=>(Bd.none λw h=>by obtain⟨x,b,_⟩:=h;simp at b)
 | x :: l,h=>by
  have h1:=h x (by simp)
  have d:=Bd.sum l λy a=>h y (by simp[a])
  rw[Pa,List.sum_cons]
  refine(h1.or d).mono λw hw=>?_
  obtain⟨y,a,hw⟩:=hw
  rcases O1.1 a with rfl | a
  .exact .inl hw
  .exact .inr ⟨y,a,hw⟩
theorem yE {α:Type} : ∀ L:List α,∃ T:List α,T.Nodup/\∀ x,x∈T↔x∈L
 | []=>⟨[],by simp,by simp⟩
 | x :: L=>by
  obtain⟨T,h1,a⟩:=yE L
  by_cases h:x∈L
  .exact⟨T,h1,λy=>by rw[a,O1];exact⟨.inr,λe=>e.elim (λe=>e ▸ h) id⟩⟩
  .exact⟨x :: T,Ps.2 ⟨λe=>h ((a x).1 e),h1⟩,λy=>by rw[O1,O1,a]⟩
theorem zJ {α:Type} (b:Nat):∀ T:List α,(T.map λ_=>b).sum=T.length * b
 | []=>by simp
 | _ :: T=>by rw[Pa,List.sum_cons,zJ b T,OY,Pk];omega
theorem xX {t:List Int} {k:Nat} : ∀ L:List (List Int),L.Nodup->(∀ w∈L,w.take k=t)->(L.map (List.drop k)).Nodup
 | [],_,_=>by simp
 | w :: L,h,b=>by
  have h:=Ps.1 h
  rw[Pa,Ps]
  refine⟨λhm=>?_,xX L h.2 λv a=>b v (by simp[a])⟩
  obtain⟨v,a,e⟩:=O9.1 hm
  have c:=b w (by simp)
  have d:=b v (by simp[a])
  have:v=w:=by rw[<-List.take_append_drop k v,<-List.take_append_drop k w,e,c,d]
  subst this
  exact h.1 a
theorem Bd.prod {A B:List Int->Prop} {a b:Nat} (k:Nat) (g:Bd A a) (h:Bd B b):Bd (λw:List Int=>A (w.take k)/\B (w.drop k)) (a * b):=by
 intro L i hm
 obtain⟨T,j,c⟩:=yE (L.map (List.take k))
 have f:T.length<=a:=g T j λt l=>by
  obtain⟨w,hw,rfl⟩:=O9.1 ((c t).1 l)
  exact(hm w hw).1
 have h1:Bd (λw=>∃ t∈T,w∈L/\w.take k=t) (T.map λ_=>b).sum:=Bd.sum T λt _=>by
  intro M m d
  have e:=h (M.map (List.drop k)) (xX M m λw hw=>(d w hw).2) λv n=>by
   obtain⟨w,hw,rfl⟩:=O9.1 n
   exact(hm w (d w hw).1).2
  simpa using e
 have e:=h1 L i λw hw=>⟨w.take k,(c _).2 (O9.2 ⟨w,hw,rfl⟩),hw,rfl⟩
 rw[zJ] at e
 exact Pp e (Pf b f)
abbrev bF:=Option Nat
def dO:Nat:=4294967296 ^ 32
def eW (a b:bF):bF:=match a,b with
 | some a,some b=>if a+b < dO then some (a+b) else none
 | _,_=>none
def eS (a b:bF):bF:=if a=some 0∨b=some 0 then some 0 else match a,b with
 | some a,some b=>if a * b < dO then some (a * b) else none
 | _,_=>none
theorem Ab {a b:bF} (h:eW a b≠some 0):a≠some 0∨b≠some 0:=by
 by_cases c:a=some 0
 .right
  rintro rfl
  subst c
  exact h (by rw[eW,OM (by unfold dO;exact Nat.pow_pos (by decide))])
 .exact .inl c
theorem Fy {a b:bF} (h:eS a b≠some 0):a≠some 0/\b≠some 0:=by
 unfold eS at h
 split at h
 .simp at h
 .rename_i h1;exact⟨λe=>h1 (.inl e),λe=>h1 (.inr e)⟩
def fp {α:Type} (W:α->Prop) (c:bF):Prop:=match c with
 | some c=>Bd W c
 | none=>True
theorem fp.mono {α:Type} {W V:α->Prop} {c:bF} (h:fp W c) (a:∀ w,V w->W w):fp V c:=by
 cases c with
 | none=>trivial
 | some c=>exact Bd.mono h a
theorem fp.none {α:Type} {W:α->Prop} {c:bF} (h:∀ w,¬ W w):fp W c:=by
 cases c with
 | none=>trivial
 | some c=>exact(Bd.none h).le (PL _)
theorem fp.zero {α:Type} {W:α->Prop} (h:fp W (some 0)) (w:α):¬ W w:=λhw=>by
 have:=h [w] (by simp) (by simpa using hw)
 simp at this
theorem fp.or {α:Type} {A B:α->Prop} {a b:bF} (c:fp A a) (d:fp B b):fp (λw=>A w∨B w) (eW a b):=by
 cases a with
 | none=>trivial
 | some a =>
  cases b with
  | none=>trivial
  | some b =>
   unfold eW
   simp only
   split
   .exact Bd.or c d
   .trivial
theorem fp.prod {A B:List Int->Prop} {a b:bF} (k:Nat) (c:fp A a) (d:fp B b):fp (λw:List Int=>A (w.take k)/\B (w.drop k)) (eS a b):=by
 unfold eS
 split
 .rename_i h
  rcases h with rfl | rfl
  .exact .none λw hw=>c.zero _ hw.1
  .exact .none λw hw=>d.zero _ hw.2
 .cases a with
  | none=>trivial
  | some a =>
   cases b with
   | none=>trivial
   | some b =>
    simp only
    split
    .exact Bd.prod k c d
    .trivial
def dg (g:ai) (l:List Int) (m:Nat) (w:List Int):Prop:=w.length=m/\(∀ x∈w,0<=x)/\Sp g w l 0 m
section
variable {g:ai}
theorem Sp.left {p:List Int} {k:Nat} {l:List Int} {i j:Nat} (h:Sp g p l i j):k<=i->Sp g (p.drop k) l (i - k) (j - k):=by
 induction h with
 | nil i=>intro _;exact .nil _
 | term s l i j a e _ f =>
  intro hk
  obtain⟨c,n,o⟩:=e
  refine .term s l _ _ a ⟨c,by rw[Qc,show k+(i - k)=i by omega];exact n,o⟩ ?_
  have:=f (by omega)
  rwa [show i+1 - k=i - k+1 by omega] at this
 | cq s l R i m j a q r h1 _ b d =>
  intro hk
  have:=h1.le
  exact .cq s l R _ _ _ a q r (b hk) (d (by omega))
theorem Sp.right {v:List Int} (u:List Int) {l:List Int} {i j:Nat} (h:Sp g v l i j):Sp g (u ++ v) l (u.length+i) (u.length+j):=by
 induction h with
 | nil i=>exact .nil _
 | term s l i j a e _ f =>
  obtain⟨c,k,n⟩:=e
  exact .term s l _ _ a ⟨c,by rw[Ph (by omega),show u.length+i - u.length=i by omega];exact k,n⟩ f
 | cq s l R i m j a o p _ _ b d=>exact .cq s l R _ _ _ a o p b d
theorem Sp.more {u:List Int} (v:List Int) {l:List Int} {i j:Nat} (h:Sp g u l i j):Sp g (u ++ v) l i j:=by
 induction h with
 | nil i=>exact .nil _
 | term s l i j a f _ k =>
  obtain⟨c,e,n⟩:=f
  exact .term s l _ _ a ⟨c,by rw[O6 (OV.1 e).1];exact e,n⟩ k
 | cq s l R i m j a o p _ _ b d=>exact .cq s l R _ _ _ a o p b d
theorem dg.split {s:Int} {l:List Int} {m:Nat} {w:List Int} (h:dg g (s :: l) m w):∃ k,k < m+1/\dg g [s] k (w.take k)/\dg g l (m - k) (w.drop k):=by
 obtain⟨h1,d,e⟩:=h
 obtain⟨k,f,k2⟩:=Sp.split (a:=[s]) (b:=l) e
 have hk:=k2.le
 refine⟨k,by omega,⟨by rw[PM];omega,λx c=>d x (Qq c),f.cut (OR _)⟩,⟨by rw[List.length_drop];omega,λx c=>d x (List.mem_of_mem_drop c),?_⟩⟩
 have:=k2.left (k:=k) (OR _)
 rwa [Nat.sub_self] at this
theorem dg.join {s:Int} {l:List Int} {k n:Nat} {u v:List Int} (h1:dg g [s] k u) (b:dg g l n v):dg g (s :: l) (k+n) (u ++ v):=by
 obtain⟨c,a2,a3⟩:=h1
 obtain⟨h,d,e⟩:=b
 refine⟨by rw[PG];omega,λx f=>(Pg.1 f).elim (a2 x) (d x),?_⟩
 have a:=e.right u
 rw[c,Qd] at a
 exact(a3.more v).app a
theorem rH {m:Nat} {w:List Int} : dg g [] m w↔m=0/\w=[]:=by
 constructor
 .rintro⟨h1,_,a⟩
  cases a
  exact⟨rfl,PS.1 h1⟩
 .rintro⟨rfl,rfl⟩
  exact⟨rfl,by simp,.nil _⟩
theorem r7 {s:Int} (b:0<=s) {m:Nat} {w:List Int} : dg g [s] m w↔m=1/\w=[s]:=by
 constructor
 .rintro⟨h1,d,e⟩
  cases e with
  | term _ _ _ _ _ f h =>
   cases h
   obtain⟨c,a,i⟩:=f
   have hm:=d c (O2 a)
   rcases i with rfl | rfl
   .match w,h1 with
    | [x],_=>simp at a;subst a;exact⟨rfl,rfl⟩
   .omega
  | cq _ _ _ _ _ _ j=>omega
 .rintro⟨rfl,rfl⟩
  exact⟨rfl,by simpa using b,.term _ _ _ _ b ⟨s,by simp,.inl rfl⟩ (.nil _)⟩
theorem vl {s:Int} (e:s < 0) {m:Nat} {w:List Int} : dg g [s] m w↔∃ R∈g.rules,R.left = -1 - s/\dg g R.right m w:=by
 constructor
 .rintro⟨h1,a,b⟩
  cases b with
  | term _ _ _ _ h=>omega
  | cq _ _ R _ k _ _ c d f i =>
   cases i
   exact⟨R,c,d,h1,a,f⟩
 .rintro⟨R,c,d,h1,a,b⟩
  exact⟨h1,a,.cq _ _ R _ _ _ e c d b (.nil _)⟩
end
abbrev cQ:=List (List bF)
def gK (c:cQ) (n A:Nat):bF:=(c.getD n []).getD A (some 0)
def iO (c:cQ) (s:Int) (n:Nat):bF:=if s < 0 then gK c n (-1 - s).toNat else if n=1 then some 1 else some 0
def br (c:cQ) (s:Int) (now:Nat->bF) (m:Nat):Nat->bF
 | 0=>some 0
 | k+1=>if iO c s k=some 0 then br c s now m k else eW (br c s now m k) (eS (iO c s k) (now (m - k)))
def bj (c:cQ):List Int->Nat->bF
 | [],n=>if n=0 then some 1 else some 0
 | s :: l,m=>br c s (bj c l) m (m+1)
def oz (g:ai) (c:cQ) (A:Int) (m:Nat):bF:=g.rules.foldl (λs R=>if R.left=A then eW s (bj c R.right m) else s) (some 0)
def fj (g:ai) (m:Nat) (c:cQ) (A:Int):cQ:=c.set m ((c.getD m []).set A.toNat (oz g c A m))
def cd (g:ai) (ord:List Int):Nat->cQ
 | 0=>[]
 | m+1=>ord.foldl (fj g m) (cd g ord m ++ [List.replicate g.af.length (some 0)])
section
variable {g:ai} {c:cQ}
def rn (g:ai) (c:cQ):Prop:=∀ n A:Nat,gK c n A≠some 0->∃ w,dg g [-1 - (A:Int)] n w
theorem Gr (a:rn g c) {s:Int} {n:Nat} (h:iO c s n≠some 0):∃ w,dg g [s] n w:=by
 unfold iO at h
 split at h
 .rename_i b
  obtain⟨w,hw⟩:=a _ _ h
  refine⟨w,?_⟩
  rwa [show -1 - (((-1 - s).toNat:Nat):Int)=s by omega] at hw
 .rename_i b
  split at h
  .rename_i h1;exact⟨[s],(r7 (by omega)).2 ⟨h1,rfl⟩⟩
  .simp at h
theorem pb (a:rn g c):∀ (l:List Int) (m:Nat),bj c l m≠some 0->∃ w,dg g l m w
 | [],m,h=>by
  rw[bj] at h
  split at h
  .rename_i d;exact⟨[],rH.2 ⟨d,rfl⟩⟩
  .simp at h
 | s :: l,m,h=>by
  have key:∀ K,K<=m+1->br c s (bj c l) m K≠some 0->∃ w,dg g (s :: l) m w:=by
   intro K
   induction K with
   | zero=>intro _ h;simp[br] at h
   | succ K b =>
    intro j h
    rw[br] at h
    split at h
    .exact b (by omega) h
    .rename_i e
     rcases Ab h with h | h
     .exact b (by omega) h
     .obtain⟨_,f⟩:=Fy h
      obtain⟨u,hu⟩:=Gr a e
      obtain⟨v,i⟩:=pb a l _ f
      have:=hu.join i
      rw[show K+(m - K)=m by omega] at this
      exact⟨_,this⟩
  exact key (m+1) (OR _) h
theorem Gt (a:rn g c) {A m:Nat} (h:oz g c A m≠some 0):∃ w,dg g [-1 - (A:Int)] m w:=by
 have key:∀ (l:List aF) (s:bF),l.foldl (λs R=>if R.left=(A:Int) then eW s (bj c R.right m) else s) s≠some 0->s≠some 0∨∃ R∈l,R.left=A/\bj c R.right m≠some 0:=by
  intro l
  induction l with
  | nil=>intro s h;exact .inl h
  | cons R l b =>
   intro s h
   rw[O3] at h
   rcases b _ h with h | ⟨d,h1,f⟩
   .split at h
    .rename_i e
     rcases Ab h with h | h
     .exact .inl h
     .exact .inr ⟨R,by simp,e,h⟩
    .exact .inl h
   .exact .inr ⟨d,by simp[h1],f⟩
 rcases key _ _ h with h | ⟨R,i,e,h⟩
 .simp at h
 .obtain⟨w,hw⟩:=pb a _ _ h
  exact⟨w,(vl (by omega)).2 ⟨R,i,by omega,hw⟩⟩
def xA (g:ai) (c:cQ) (m:Nat) (D:Nat->Prop):Prop:=∀ n A:Nat,(n < m∨n=m/\D A)->fp (dg g [-1 - (A:Int)] n) (gK c n A)
def BH (g:ai) (l:List Int):Prop:=∃ w,dg g l 0 w
def Ge (g:ai) (D:Nat->Prop) (l:List Int):Prop:=∀ l1 s l2,l=l1 ++ s :: l2->s < 0->BH g l1->BH g l2->D (-1 - s).toNat
theorem BH.cons {s:Int} {l:List Int} (h1:BH g [s]) (a:BH g l):BH g (s :: l):=by
 obtain⟨u,hu⟩:=h1
 obtain⟨v,b⟩:=a
 exact⟨_,hu.join b⟩
theorem HC {m:Nat} {D:Nat->Prop} (d:xA g c m D) {s:Int} {k:Nat} (h:k < m∨k=m/\(s < 0->D (-1 - s).toNat)):fp (dg g [s] k) (iO c s k):=by
 unfold iO
 split
 .rename_i b
  have:=d k (-1 - s).toNat (h.imp id λh=>⟨h.1,h.2 b⟩)
  rwa [show -1 - (((-1 - s).toNat:Nat):Int)=s by omega] at this
 .rename_i b
  split
  .intro L a hm
   match L,a,hm with
   | [],_,_=>exact PL _
   | [_],_,_=>exact OR _
   | x :: y :: _,a,hm =>
    have h1:=((r7 (by omega)).1 (hm x (by simp))).2
    have e:=((r7 (by omega)).1 (hm y (by simp))).2
    subst h1;subst e
    simp at a
  .rename_i h1
   exact .none λw hw=>h1 ((r7 (by omega)).1 hw).1
theorem qE {m:Nat} {D:Nat->Prop} (p:xA g c m D):∀ (l:List Int) (j:Nat),(j < m∨j=m/\Ge g D l)->fp (dg g l j) (bj c l j)
 | [],j,_=>by
  rw[bj]
  split
  .intro L n hm
   match L,n,hm with
   | [],_,_=>exact PL _
   | [_],_,_=>exact OR _
   | x :: y :: _,n,hm =>
    have h1:=(rH.1 (hm x (by simp))).2
    have b:=(rH.1 (hm y (by simp))).2
    subst h1;subst b
    simp at n
  .rename_i d
   exact .none λw hw=>d (rH.1 hw).1
 | s :: l,j,i=>by
  have term:∀ k,k < j+1->(∀ w,¬ (dg g [s] k (List.take k w)/\dg g l (j - k) (List.drop k w)))∨(fp (dg g [s] k) (iO c s k)/\fp (dg g l (j - k)) (bj c l (j - k))):=by
   intro k hk
   by_cases h1:∃ u,dg g [s] k u
   .by_cases b:∃ v,dg g l (j - k) v
    .right
     refine⟨HC p ?_,qE p l _ ?_⟩
     .rcases i with i | ⟨rfl,o⟩
      .exact .inl (by omega)
      .by_cases e:k < j
       .exact .inl e
       .refine .inr ⟨by omega,λd=>o [] s l rfl d ⟨[],rH.2 ⟨rfl,rfl⟩⟩ ?_⟩
        rw[show j - k=0 by omega] at b
        exact b
     .rcases i with i | ⟨rfl,o⟩
      .exact .inl (by omega)
      .by_cases e:0 < k
       .exact .inl (by omega)
       .obtain rfl:k=0:=by omega
        refine .inr ⟨by omega,λq r t e' d z A=>o (s :: q) r t (by rw[e'];rfl) d (BH.cons h1 z) A⟩
    .exact .inl λw hw=>b ⟨_,hw.2⟩
   .exact .inl λw hw=>h1 ⟨_,hw.1⟩
  have key:∀ K,K<=j+1->fp (λw:List Int=>∃ k,k < K/\dg g [s] k (w.take k)/\dg g l (j - k) (w.drop k)) (br c s (bj c l) j K):=by
   intro K
   induction K with
   | zero=>intro _;exact .none λw ⟨k,hk,_⟩=>by omega
   | succ K a =>
    intro E
    have a:=a (by omega)
    have two:∀ w,(∃ k,k < K+1/\dg g [s] k (List.take k w)/\dg g l (j - k) (List.drop k w))->(∃ k,k < K/\dg g [s] k (List.take k w)/\dg g l (j - k) (List.drop k w))∨(dg g [s] K (List.take K w)/\dg g l (j - K) (List.drop K w)):=by
     rintro w ⟨k,hk,h⟩
     by_cases e:k=K
     .subst e;exact .inr h
     .exact .inl ⟨k,by omega,h⟩
    rw[br]
    rcases term K (by omega) with f | ⟨t1,t2⟩
    .split
     .exact a.mono λw hw=>(two w hw).resolve_right (f w)
     .exact(a.or (fp.none (W:=λ_=>False) λ_ h=>h)).mono λw hw=>.inl ((two w hw).resolve_right (f w))
    .split
     .rename_i B
      rw[B] at t1
      exact a.mono λw hw=>(two w hw).resolve_right λh=>t1.zero _ h.1
     .exact(a.or (fp.prod K t1 t2)).mono two
  exact(key (j+1) (OR _)).mono λw hw=>by
   obtain⟨k,C,k2⟩:=hw.split
   exact⟨k,C,k2⟩
theorem Jn {m:Nat} {D:Nat->Prop} (j:xA g c m D) {A:Nat} (k:∀ R∈g.rules,R.left=A->Ge g D R.right):fp (dg g [-1 - (A:Int)] m) (oz g c A m):=by
 have key:∀ (l:List aF) (s:bF) (W:List Int->Prop),(∀ R∈l,R.left=A->Ge g D R.right)->fp W s->fp (λw=>W w∨∃ R∈l,R.left=A/\dg g R.right m w) (l.foldl (λs R=>if R.left=(A:Int) then eW s (bj c R.right m) else s) s):=by
  intro l
  induction l with
  | nil=>intro s W _ h;exact h.mono λw hw=>hw.elim id λ⟨_,h,_⟩=>by simp at h
  | cons R l i =>
   intro s W d h
   rw[O3]
   split
   .rename_i e
    refine(i _ _ (λa f=>d a (by simp[f])) (h.or (qE j R.right m (.inr ⟨rfl,d R (by simp) e⟩)))).mono λw hw=>?_
    rcases hw with hw | ⟨a,h1,b⟩
    .exact .inl (.inl hw)
    .rcases O1.1 h1 with rfl | h1
     .exact .inl (.inr b.2)
     .exact .inr ⟨a,h1,b⟩
   .rename_i e
    refine(i _ _ (λa f=>d a (by simp[f])) h).mono λw hw=>?_
    rcases hw with hw | ⟨a,h1,b⟩
    .exact .inl hw
    .rcases O1.1 h1 with rfl | h1
     .exact absurd b.1 e
     .exact .inr ⟨a,h1,b⟩
 refine(key g.rules (some 0) (λ_=>False) k (.none λ_ h=>h)).mono λw hw=>?_
 obtain⟨R,h1,b,n⟩:=(vl (by omega)).1 hw
 exact .inr ⟨R,h1,by omega,n⟩
end
structure Lm (g:ai) (ord:List Int):Prop where
 ins:∀ A∈ord,0<=A/\A < g.af.length
 all:∀ A:Nat,A < g.af.length->(A:Int)∈ord
 left:∀ R∈g.rules,0<=R.left/\R.left < g.af.length
 Le:∀ pre A post,ord=pre ++ A :: post->∀ R∈g.rules,R.left=A->Ge g (λB=>(B:Int)∈pre) R.right
theorem Mf {g:ai} {c:cQ} {m:Nat} {A:Int} (d:0<=A) (f:A < g.af.length) (a:(c.getD m []).length=g.af.length) (n B:Nat):gK (fj g m c A) n B=if n=m/\(B:Int)=A then oz g c A m else gK c n B:=by
 have hm:m < c.length:=by
  rcases Pn m c.length with h | h
  .exact h
  .rw[OH,O5 h] at a
   simp at a;omega
 unfold gK fj
 simp only[OH] at a ⊢
 by_cases e:n=m
 .subst e
  rw[Pl hm]
  simp only[OS,true_and]
  by_cases b:(B:Int)=A
  .subst b
   rw[OM rfl,PJ,Pl (by omega)];rfl
  .rw[OK b,PE (by omega)]
 .rw[PE (Ne.symm e),OK (by omega)]
theorem yL {g:ai} {ord:List Int} (j:Lm g ord):∀ m:Nat,(cd g ord m).length=m/\(∀ r∈cd g ord m,r.length=g.af.length)/\rn g (cd g ord m)/\(∀ n A:Nat,n < m->A < g.af.length->fp (dg g [-1 - (A:Int)] n) (gK (cd g ord m) n A))
 | 0=>⟨rfl,by simp[cd],λn A h=>by simp[cd,gK] at h,λn A h=>by omega⟩
 | m+1=>by
  obtain⟨i1,i2,i3,i4⟩:=yL j m
  rw[cd]
  have b:∀ n A:Nat,gK (cd g ord m ++ [List.replicate g.af.length (some 0)]) n A=if n < m then gK (cd g ord m) n A else some 0:=by
   intro n A
   unfold gK
   simp only[OH]
   split
   .rw[O6 (by omega)]
   .rw[Ph (by omega)]
    by_cases e:n - (cd g ord m).length=0
    .rw[e]
     simp only[O4,OS]
     by_cases f:A < g.af.length
     .rw[Pw,OM f];rfl
     .rw[Pw,OK f];rfl
    .obtain⟨d,C⟩:∃ d,n - (cd g ord m).length=d+1:=⟨n - (cd g ord m).length - 1,by omega⟩
     rw[C];rfl
  have key:∀ (post pre:List Int) (c:cQ),ord=pre ++ post->c.length=m+1->(∀ r∈c,r.length=g.af.length)->rn g c->(∀ n A:Nat,n < m->A < g.af.length->fp (dg g [-1 - (A:Int)] n) (gK c n A))->(∀ A:Nat,(A:Int)∈pre->fp (dg g [-1 - (A:Int)] m) (gK c m A)) ->
    (post.foldl (fj g m) c).length=m+1/\(∀ r∈post.foldl (fj g m) c,r.length=g.af.length)/\rn g (post.foldl (fj g m) c)/\(∀ n A:Nat,n < m->A < g.af.length->fp (dg g [-1 - (A:Int)] n) (gK (post.foldl (fj g m) c) n A))/\(∀ A:Nat,(A:Int)∈ord->fp (dg g [-1 - (A:Int)] m) (gK (post.foldl (fj g m) c) m A)):=by
   intro post
   induction post with
   | nil=>intro pre c e h1 o p q s;rw[List.append_nil] at e;subst e;exact⟨h1,o,p,q,s⟩
   | cons B post D =>
    intro pre c e h1 o p q s
    obtain⟨u,v⟩:=j.ins B (by rw[e];simp)
    obtain⟨A,rfl⟩:∃ A:Nat,B=(A:Int):=⟨B.toNat,by omega⟩
    have k:(c.getD m []).length=g.af.length:=by
     have hm:m < c.length:=by omega
     have:c[m]?=some c[m]:=OI hm
     rw[OH,this]
     exact o _ (OW _)
    have i:=Mf (g:=g) (c:=c) (m:=m) u v k
    have E:xA g c m λX=>(X:Int)∈pre:=λn X a=>by
     rcases a with a | ⟨rfl,a⟩
     .by_cases x:X < g.af.length
      .exact q n X a x
      .refine .none λw hw=>?_
       obtain⟨R,y,z,_⟩:=(vl (by omega)).1 hw
       have:=j.left R y
       omega
     .exact s X a
    rw[O3]
    refine D (pre ++ [(A:Int)]) (fj g m c A) (by rw[e];simp) (by simp[fj,h1]) (λr hr=>?_) (λn X a=>?_) (λn X l a=>?_) (λX a=>?_)
    .unfold fj at hr
     rcases List.mem_or_eq_of_mem_set hr with hr | rfl
     .exact o r hr
     .rw[Qx];exact k
    .rw[i] at a
     split at a
     .rename_i t
      obtain⟨rfl,t⟩:=t
      obtain rfl:X=A:=by omega
      exact Gt p a
     .exact p n X a
    .rw[i,OK (by omega)]
     exact q n X l a
    .rw[i]
     split
     .rename_i t
      obtain rfl:X=A:=by omega
      exact Jn E λR y z=>j.Le pre X post e R y z
     .rename_i t
      rcases Pg.1 a with a | a
      .exact s X a
      .simp at a;omega
  obtain⟨F,k2,G,H,I⟩:=key ord [] (cd g ord m ++ [List.replicate g.af.length (some 0)]) rfl (by simp[i1]) (λr hr=>by
    rcases Pg.1 hr with hr | hr
    .exact i2 r hr
    .simp at hr;subst hr;simp) (λn A h=>by
    rw[b] at h
    split at h
    .exact i3 n A h
    .simp at h) (λn A l f=>by rw[b,OM l];exact i4 n A l f) (λA h=>by simp at h)
  refine⟨F,k2,G,λn A l f=>?_⟩
  by_cases e:n=m
  .subst e;exact I A (j.all A f)
  .exact H n A (by omega) f
abbrev LB:Nat:=4294967296
def bC:List Nat->Nat
 | []=>0
 | x :: l=>x+LB * bC l
def dt:Nat->Nat->List Nat
 | 0,_=>[]
 | f+1,n=>if n=0 then [] else n % LB :: dt f (n / LB)
def cB (n:Nat):List Nat:=dt 70 n
theorem zY:∀ (f n:Nat),∀ x∈dt f n,x < LB
 | 0,_,x,h=>by simp[dt] at h
 | f+1,n,x,h=>by
  rw[dt] at h
  split at h
  .simp at h
  .rcases O1.1 h with rfl | h
   .exact QC _ (by decide)
   .exact zY f _ x h
theorem C5 (k:Nat):0 < LB ^ k:=Nat.pow_pos (by decide)
theorem zL:∀ (f n i:Nat),n < LB ^ f->(dt f n).getD i 0=n / LB ^ i % LB
 | 0,n,i,h=>by
  have:n=0:=by rw[Nat.pow_zero] at h;omega
  subst this
  simp[dt]
 | f+1,n,i,h=>by
  rw[dt]
  split
  .rename_i a;subst a;simp
  .cases i with
   | zero=>simp
   | succ i =>
    rw[P8,zL f _ i (by rw[Qb (by decide)];rwa [<-PV]),Nat.div_div_eq_div_mul,PV,Px]
theorem sM:∀ (f n k:Nat),n < LB ^ f->((dt f n).length<=k↔n < LB ^ k)
 | 0,n,k,h=>by
  have:n=0:=by rw[Nat.pow_zero] at h;omega
  subst this
  simp[dt,C5]
 | f+1,n,k,h=>by
  rw[dt]
  split
  .rename_i a;subst a;simp[C5]
  .rename_i a
   cases k with
   | zero=>simp;omega
   | succ k =>
    rw[OY,Nat.add_le_add_iff_right,sM f _ k (by rw[Qb (by decide)];rwa [<-PV]),Qb (by decide),PV]
theorem AB:∀ (f:Nat) (l:List Nat),(∀ x∈l,x < LB)->(∀ x,l.getLast?=some x->x≠0)->l.length<=f->dt f (bC l)=l
 | 0,l,_,_,h=>by
  have:l=[]:=PS.1 (by omega)
  subst this;rfl
 | f+1,[],_,_,_=>by simp[bC,dt]
 | f+1,x :: l,d,e,h=>by
  have g:=d x (by simp)
  have i:bC (x :: l) / LB=bC l:=by
   rw[bC,Nat.add_mul_div_left _ _ (by decide),Nat.div_eq_of_lt g,PA]
  have hm:bC (x :: l) % LB=x:=by
   rw[bC,Nat.add_mul_mod_self_left,PX g]
  have a:=AB f l (λy b=>d y (by simp[b])) (λy b=>by
   cases l with
   | nil=>simp at b
   | cons z l=>exact e y (by rw[List.getLast?_cons_cons];exact b)) (by simpa using h)
  rw[dt,i,hm,a,OK]
  intro c
  cases l with
  | nil=>exact e x rfl (by simpa [bC] using c)
  | cons z l =>
   have j:bC (z :: l)=0:=by
    rw[bC] at c
    exact(Nat.mul_eq_zero.1 (Nat.add_eq_zero_iff.1 c).2).resolve_left (by decide)
   rw[j] at a
   cases f with
   | zero=>simp[dt] at a
   | succ f=>simp[dt] at a
theorem wa:∀ (a b:List Nat),bC (a ++ b)=bC a+LB ^ a.length * bC b
 | [],b=>by simp[bC]
 | x :: a,b=>by
  rw[PD,bC,bC,wa a b,OY,PV,Nat.mul_add,Px (LB ^ a.length) LB,<-Qe,P1]
theorem CP:∀ (l:List Nat) (i x:Nat),i < l.length->bC (l.set i x)+l.getD i 0 * LB ^ i=bC l+x * LB ^ i
 | [],i,x,h=>by simp at h
 | y :: l,0,x,_=>by simp[bC];omega
 | y :: l,i+1,x,h=>by
  have a:=CP l i x (by simpa using h)
  rw[List.set_cons_succ,bC,bC,P8,PV,Px (LB ^ i) LB,<-Qe,<-Qe,Px _ LB,Px x LB,Qe,Qe]
  have:=Qo (λz=>y+LB * z) a
  simp only[Nat.mul_add] at this
  omega
theorem D2:∀ (l:List Nat),(∀ x∈l,x < LB)->bC l < LB ^ l.length
 | [],_=>by simp[bC]
 | x :: l,h=>by
  have a:=D2 l λy b=>h y (by simp[b])
  have c:=h x (by simp)
  rw[bC,OY,PV]
  have:(bC l+1) * LB<=LB ^ l.length * LB:=Pf _ a
  rw[Pk,Px (bC l)] at this
  omega
theorem sJ:∀ k:Nat,bC (List.replicate k 0)=0
 | 0=>rfl
 | k+1=>by rw[List.replicate_succ,bC,sJ k,Nat.mul_zero]
theorem rl:dO=LB ^ 32:=rfl
theorem pr {n:Nat} (h:n < LB ^ 70) (i:Nat):(cB n).getD i 0=n / LB ^ i % LB:=zL 70 n i h
theorem ka {n:Nat} (h:n < LB ^ 70) (k:Nat):(cB n).length<=k↔n < LB ^ k:=sM 70 n k h
theorem sQ (n:Nat):∀ x∈cB n,x < LB:=zY 70 n
theorem yo:∀ (f n:Nat),n < LB ^ f->∀ x,(dt f n).getLast?=some x->x≠0
 | 0,_,_,x,h=>by simp[dt] at h
 | f+1,n,d,x,h=>by
  rw[dt] at h
  split at h
  .simp at h
  .rename_i b
   cases a:dt f (n / LB) with
   | nil =>
    rw[a] at h
    simp at h
    subst h
    have h1:=(sM f (n / LB) 0 (by rw[Qb (by decide)];rwa [<-PV])).1 (by rw[a];simp)
    rw[Nat.pow_zero] at h1
    have:=Nat.div_add_mod n LB
    intro e
    have c:n / LB=0:=Nat.lt_one_iff.1 h1
    rw[c,e] at this
    exact b (by simpa using this.symm)
   | cons z l =>
    rw[a,List.getLast?_cons_cons,<-a] at h
    exact yo f _ (by rw[Qb (by decide)];rwa [<-PV]) x h
theorem sF (a i:Nat):a % LB ^ (i+1)=a % LB ^ i+LB ^ i * (a / LB ^ i % LB):=by
 rw[PV,Nat.mod_mul]
theorem J5 {out:List Nat} {a b c i:Nat} (d:out.length=i) (h:bC out+LB ^ i * c=a % LB ^ i+b % LB ^ i) :
  bC (out ++ [(a / LB ^ i % LB+b / LB ^ i % LB+c) % LB])+LB ^ (i+1) * ((a / LB ^ i % LB+b / LB ^ i % LB+c) / LB)=a % LB ^ (i+1)+b % LB ^ (i+1):=by
 rw[wa,d,sF a,sF b]
 generalize a / LB ^ i % LB=x
 generalize b / LB ^ i % LB=y
 have h1:=Nat.div_add_mod (x+y+c) LB
 have e:LB ^ i * ((x+y+c) % LB)+LB ^ (i+1) * ((x+y+c) / LB)=LB ^ i * (x+y+c):=by
  rw[PV,Qe,<-Nat.mul_add,Nat.add_comm,h1]
 simp only[bC,Nat.mul_zero,Qd]
 rw[P1,e,Nat.mul_add,Nat.mul_add]
 omega
theorem Lq {out:List Nat} {a b c:Nat} (d:a < LB ^ 32) (f:b < LB ^ 32) (h:bC out+LB ^ 33 * c=a % LB ^ 33+b % LB ^ 33):bC out=a+b:=by
 have e:LB ^ 33=LB ^ 32 * LB:=PV _ _
 generalize LB ^ 32=B at *
 have g:B+B<=B * LB:=by
  have:B * 2<=B * LB:=Nat.mul_le_mul_left _ (by decide)
  omega
 rw[e] at h
 rw[PX (by omega),PX (by omega)] at h
 have:c=0:=by
  refine Pd λi=>?_
  have:B * LB * 1<=B * LB * c:=Nat.mul_le_mul_left _ (by omega)
  omega
 subst this
 omega
theorem Kq {O cur:List Nat} {x b c i k:Nat} (hk:i+k < cur.length) (h:bC cur+LB ^ (i+k) * c=bC O+x * (b % LB ^ k) * LB ^ i) :
  bC (cur.set (i+k) ((cur.getD (i+k) 0+x * (b / LB ^ k % LB)+c) % LB))+LB ^ (i+(k+1)) * ((cur.getD (i+k) 0+x * (b / LB ^ k % LB)+c) / LB)=bC O+x * (b % LB ^ (k+1)) * LB ^ i:=by
 have h1:=CP cur (i+k) ((cur.getD (i+k) 0+x * (b / LB ^ k % LB)+c) % LB) hk
 rw[sF b]
 generalize b / LB ^ k % LB=y at *
 generalize cur.getD (i+k) 0=z at *
 generalize cur.set (i+k) ((z+x * y+c) % LB)=a at *
 have d:=Nat.mod_add_div (z+x * y+c) LB
 have e:(z+x * y+c) % LB * LB ^ (i+k)+LB ^ (i+(k+1)) * ((z+x * y+c) / LB)=(z+x * y+c) * LB ^ (i+k):=by
  rw[<-P1 i k 1,PV,Px ((z+x * y+c) % LB),Qe,<-Nat.mul_add,d,Px]
 have f:x * (b % LB ^ k+LB ^ k * y) * LB ^ i=x * (b % LB ^ k) * LB ^ i+x * y * LB ^ (i+k):=by
  rw[Nat.mul_add,Pk,Nat.pow_add]
  congr 1
  rw[Px (LB ^ k) y,<-Qe,Qe (x * y),Px (LB ^ k)]
 rw[f]
 rw[Pk,Pk] at e
 rw[Px (LB ^ (i+k)) c] at h
 omega
theorem LR {O cur:List Nat} {a b c i:Nat} (hi:i < 32) (j:a < LB ^ 32) (g:b < LB ^ 32) (hO:bC O=a % LB ^ i * b) (h:bC cur+LB ^ 64 * c=bC O+(a / LB ^ i % LB) * (b % LB ^ (64 - i)) * LB ^ i):bC cur=a % LB ^ (i+1) * b:=by
 have d:b % LB ^ (64 - i)=b:=PX (O0 g (PF (by decide) (by omega)))
 rw[d,hO] at h
 have e:a % LB ^ i * b+a / LB ^ i % LB * b * LB ^ i=a % LB ^ (i+1) * b:=by
  rw[sF a,Pk]
  congr 1
  rw[Px (LB ^ i),Qe,Px b,<-Qe]
 rw[e] at h
 have l:a % LB ^ (i+1) * b < LB ^ 64:=by
  have k:a % LB ^ (i+1)<=a:=Nat.mod_le _ _
  have f:LB ^ 64=LB ^ 32 * LB ^ 32:=by rw[<-Nat.pow_add]
  rw[f]
  exact Nat.mul_lt_mul'' (Nat.lt_of_le_of_lt k j) g
 have:c=0:=by
  refine Pd λm=>?_
  have:LB ^ 64 * 1<=LB ^ 64 * c:=Nat.mul_le_mul_left _ (by omega)
  omega
 subst this
 omega
theorem LV {l:List Nat} (d:∀ x∈l,x < LB) {k:Nat} (hk:k<=l.length) (e:l.length<=70) (f:∀ j,k<=j->j < l.length->l.getD j 0=0) (b:k=0∨l.getD (k - 1) 0≠0):l.take k=cB (bC l):=by
 have g:l.drop k=List.replicate (l.length - k) 0:=by
  apply List.ext_getElem?
  intro i
  rw[Qc,Pw]
  split
  .have h1:=f (k+i) (by omega) (by omega)
   rw[OH,OI (show k+i < l.length by omega)] at h1
   rw[OI (show k+i < l.length by omega)]
   simpa using h1
  .rw[O5 (by omega)]
 have h:bC l=bC (l.take k):=by
  have:=wa (l.take k) (l.drop k)
  rw[List.take_append_drop,g,sJ] at this
  omega
 rw[h]
 refine(AB 70 (l.take k) (λx a=>d x (Qq a)) (λx a=>?_) (by simp;omega)).symm
 rcases b with rfl | b
 .simp at a
 .by_cases c:k=0
  .subst c;simp at a
  .rw[List.getLast?_eq_getElem?,PM,Pv hk,PT,OM (by omega)] at a
   rw[OH,a] at b
   exact b
def Nn (g:ai) (k:Int):aF:=g.rules.getD k.toNat ⟨0,[],0⟩
theorem getD_some {α:Type} {l:List α} {j:Nat} {d:α} (h:j < l.length):l[j]?=some (l.getD j d):=by simp[OH,h]
abbrev Tb:=List (List (List Bool))
def JB (T:Tb) (n i j:Nat):Bool:=((T.getD n []).getD i []).getD j false
open Classical in
noncomputable def M6 (g:ai) (p:List Int):Tb:=(List.range g.af.length).map λ(n:Nat)=>(List.range (p.length+1)).map λ(i:Nat)=>(List.range (p.length+1)).map λ(j:Nat)=>decide (Sp g p [-1 - (n:Int)] i j)
theorem Mw {g:ai} {p:List Int} {n i j:Nat} (a:n < g.af.length) (hi:i<=p.length) (b:j<=p.length):JB (M6 g p) n i j=true↔Sp g p [-1 - (n:Int)] i j:=by
 simp[JB,M6,OH,a,show i < p.length+1 by omega,show j < p.length+1 by omega]
theorem de.J8 {h:aw} {v t:V} (f:de h v t):Fr h v t:=by
 induction f with
 | val v=>exact .tree _ (.val v)
 | emp k=>exact .emp k
 | sl id off len esz z es es' hH hle hlen b _ c=>exact .sl id off len esz z es es' hH hle hlen b c
 | agg cs a b _ c=>exact .agg cs a b c
 | aU cs a b _ c=>exact .aU cs a b c
theorem LN {M i:Nat} {F:Nat->List V} {v:List V} : ((List.range M).map F).set i v=(List.range M).map λj=>if j=i then v else F j:=by
 apply List.ext_getElem (by simp)
 intro j h1 a
 simp only[List.getElem_set,List.getElem_map,List.getElem_range]
 by_cases e:i=j
 .subst e;simp
 .rw[OK e,OK (Ne.symm e)]
theorem gI {M i:Nat} {F:Nat->List V} (h:i < M):((List.range M).map F).getD i []=F i:=by simp[OH,h]
def uD (g:ai) (p:List Int):Bool:=p.all λx=>decide (-1<=x) && decide (x < g.ao.length)
noncomputable def dC (g:ai) (p:List Int):Bool:=JB (M6 g p) g.start.toNat 0 p.length
noncomputable def vo (g:ai) (p:List Int):Bool × Int:=if (aA g && decide (p.length<=60) && uD g p)=true then (dC g p,0) else (false,1)
def CF (x:Bool × Int):V:=.aU [gb x.1,gi x.2]
theorem G7 (x:Bool × Int):Tree (CF x):=Ay (.val _) (.val _)
theorem mq {g:ai} (hr:aA g=true) (p:List Int):dC g p=true↔Sp g p [-1 - g.start] 0 p.length:=by
 have a:=az hr
 have b:=a.fF
 have h1:=a.start
 rw[dC,Mw (by omega) (by omega) (by omega)]
 rw[show ((g.start.toNat:Nat):Int)=g.start by omega]
def KJ (g:ai) (w:List Int):Bool:=w.all λx=>decide (0<=x) && decide (x < g.ao.length)
def vx (g:ai) (w:List Int):Bool:=aA g && decide (w.length<=60) && KJ g w
theorem KI (g:ai) (w:List Int):∀ v∈[V.agg (ah g),encI w],Tree v:=by
 intro v a;simp at a
 rcases a with rfl | rfl
 .exact cW _ (cy g)
 .exact dU w
def pW:SF:=⟨ae [ab [bb 3 false],.region false [⟨none,[aa 4 0,ax 5 .lss 4 (-1),aa 6 5]⟩,⟨(some (6,false)),[aa 7 0,av 8 0 1,ak 9 8,aR 10 9,aV 11 .geq 7 10]⟩,⟨none,[bq 12 6 11,aa 3 12]⟩],.ret],
 [.tmp 3],13⟩
theorem uy:aE Tryz.prog 91 []=some pW:=by kernel_rfl
noncomputable def MY (g:ai) (w:List Int):Bool × Int:=if vx g w=true then (dC g w,0) else (false,1)
theorem Hu (g:ai) (c:g.Ok) (x:Int) (d:bm x):ar Tryz.prog 91 [gi x,.aC (ah g) 0] (gb (!(decide (-1<=x) && decide (x < g.ao.length)))):=by
 have a:=c.ao
 unfold aG at a
 refine ar.val (by
  intro v b;simp at b
  rcases b with rfl | rfl
  .exact .val _
  .exact gu (cy g)) λH=>?_
 refine an.of mixed uy ?_
 simp(disch:=omega)only[↓wr,seval,wq,pW,ah,encS]
 apply ag.dec<;>intro h1
 .simp(disch:=omega)only[↓wr,seval,wq]
  rw[decide_eq_false (show ¬ -1<=x by omega)];rfl
 .simp(disch:=omega)only[↓wr,seval,wq,ah,encS]
  rw[PO (show -1<=x by omega)]
  rw[Pz,<-decide_not];congr 2;exact decide_eq_decide.2 ⟨λh=>Int.not_lt.2 h,λh=>Int.not_lt.1 h⟩
theorem j8 {α:Type} (f:α->α):∀ (k:Nat) (x:α),iter f (k+1) x=f (iter f k x)
 | 0,x=>rfl
 | k+1,x=>by rw[iter,j8 f k,iter]
theorem bytes_beq (a b:ByteArray):(a == b)=decide (a=b):=by
 cases a with | mk a=>cases b with | mk b =>
 rw[PI]
 show (ByteArray.beq ⟨a⟩ ⟨b⟩=true)↔_
 simp only[ByteArray.beq]
 simp
theorem HM (a b:ByteArray):gD a b=decide (a=b):=by
 cases a with | mk a=>cases b with | mk b =>
 rw[PI]
 simp[gD]
theorem zm {α:Type} {a b:List α} {i:Nat} {x y:α} (c:a[i]?=some x) (d:b[i]?=some y) (h:a.take i=b.take i) (e:x=y):a.take (i+1)=b.take (i+1):=by
 rw[Pe,Pe,h,c,d,e]
theorem C2 {α:Type} {a b:List α} {i:Nat} (c:a.length<=i) (d:b.length<=i) (h:a.take i=b.take i):a=b:=by
 rwa [O8 c,O8 d] at h
theorem FF {α:Type} {a b:List α} {i:Nat} {x y:α} (d:a[i]?=some x) (c:b[i]?=some y) (e:x≠y):a≠b:=by
 rintro rfl;rw[d] at c;exact e (by simpa using c)
theorem BJ {α:Type} {a b:List α} (h:¬ a.length=b.length):a≠b:=λe=>h (by rw[e])
theorem Dg (x y:Term):eK Tryz.prog 9998 #[.string x.name,.int .i64 x.level,.int .i64 x.assoc] #[.string y.name,.int .i64 y.level,.int .i64 y.assoc]
  [{ name:= "Name",type:=9,offset:=0,embedded:=false,tag:= "",pkgPath:= "",byteOffset:=0 },{ name:= "Level",type:=3,offset:=1,embedded:=false,tag:= "",pkgPath:= "",byteOffset:=16 },
   { name:= "Assoc",type:=3,offset:=2,embedded:=false,tag:= "",pkgPath:= "",byteOffset:=24 }] (x.name == y.name && (x.level == y.level && (x.assoc == y.assoc && true))) :=
 .str _ _ _ _ _ (by decide) Tryz.underlying9 rfl rfl (.int _ _ _ _ _ _ (by decide) Tryz.underlying3 rfl rfl (.int _ _ _ _ _ _ (by decide) Tryz.underlying3 rfl rfl .nil))
theorem Mo (x y:Term):(x.name == y.name && (x.level == y.level && (x.assoc == y.assoc && true)))=decide (x=y):=by
 rw[bytes_beq,PI]
 cases x;cases y
 simp
theorem J3 (x y:ai):decide (x=y)=(decide (x.ao=y.ao) && (decide (x.af=y.af) && (decide (x.rules=y.rules) && decide (x.start=y.start)))):=by
 cases x;cases y
 rw[PI]
 simp
theorem G4 (g k:ai):∀ v∈[V.agg (ah g),V.agg (ah k)],Tree v:=by
 intro v a;simp at a
 rcases a with rfl | rfl <;> exact cW _ (cy _)
def kI:SC :=
 ae [ae [ab [aa 42 5,av 43 0 2,ak 44 43,aR 45 44,aV 46 .lss 42 45],bH 46 (.exit 0)],.block 1 (ae [ab [av 49 0 2,ak 50 49,aa 51 5,aW 52 3 50 51,ba 53 3 52,av 54 0 3,ak 55 54,aa 56 5,aW 57 3 55 56,ba 58 3 57,((some 59),.op (.old (.binOp .neq 130 (.tmp 53) (.tmp 58) 130) 4))],bc 59 (ae [ab [bb 4 false],.ret])]),ab [aa 47 5,ax 48 .add 47 1,aa 5 48]]
def lj:SC :=
 ae [ae [ab [aa 60 6,av 61 1 2,ak 62 61,aR 63 62,aV 64 .lss 60 63],bH 64 (.exit 2)],.block 3 (ae [ab [av 67 1 2,ak 68 67,aa 69 6,aW 70 1 68 69,ak 71 70,av 72 1 3,ak 73 72,aa 74 6,aW 75 1 73 74,ak 76 75,((some 77),.op (.tN .neq (.tmp 71) (.tmp 76)))],bc 77 (ae [ab [bb 4 false],.ret])]),ab [aa 65 6,ax 66 .add 65 1,aa 6 66]]
def lk:SC :=
 ae [ae [ab [aa 78 7,av 79 2 2,ak 80 79,aR 81 80,aV 82 .lss 78 81],bH 82 (.exit 4)],.block 5 (ae [ab [av 85 2 2,ak 86 85,aa 87 7,aW 88 3 86 87,ba 89 3 88,av 90 2 3,ak 91 90,aa 92 7,aW 93 3 91 92,ba 94 3 93,((some 8),.op (.alloc [(.val (.int .i64 0)),(.emp 1),(.val (.int .i64 0))])),((some 9),.op (.alloc [(.val (.int .i64 0)),(.emp 1),(.val (.int .i64 0))])),cb 3 8 89,cb 3 9 94],.region false [⟨none,[av 95 0 8,ak 96 95,av 97 0 9,ak 98 97,aV 99 .neq 96 98,aa 100 99]⟩,⟨(some (100,false)),[av 101 2 8,ak 102 101,av 103 2 9,ak 104 103,aV 105 .neq 102 104]⟩,⟨none,[bq 106 100 105,aa 107 106]⟩,⟨(some (107,false)),[av 108 1 8,ak 109 108,av 110 1 9,ak 111 110,aJ 112 26 [109,111],bS 113 112]⟩,⟨none,[bq 114 107 113]⟩],bc 114 (ae [ab [bb 4 false],.ret])]),ab [aa 83 7,ax 84 .add 83 1,aa 7 84]]
def nf:SF:=⟨ae [ab [cE 2 0,cE 3 1,bb 4 false],ae [.region false [⟨none,[av 10 0 2,ak 11 10,aR 12 11,av 13 0 3,ak 14 13,aR 15 14,aV 16 .neq 12 15,aa 17 16]⟩,⟨(some (17,false)),[av 18 1 2,ak 19 18,aR 20 19,av 21 1 3,ak 22 21,aR 23 22,aV 24 .neq 20 23]⟩,⟨none,[bq 25 17 24,aa 26 25]⟩,⟨(some (26,false)),[av 27 2 2,ak 28 27,aR 29 28,av 30 2 3,ak 31 30,aR 32 31,aV 33 .neq 29 32]⟩,⟨none,[bq 34 26 33,aa 35 34]⟩,⟨(some (35,false)),[av 36 3 2,ak 37 36,av 38 3 3,ak 39 38,aV 40 .neq 37 39]⟩,⟨none,[bq 41 35 40]⟩],bc 41 (ae [ab [bb 4 false],.ret])],ae [ab [aN 5 0],bJ 0 kI],ae [ab [aN 6 0],bJ 2 lj],ae [ab [aN 7 0],bJ 4 lk],ab [bb 4 true],.ret],
 [.tmp 4],115⟩
theorem qZ:aE Tryz.prog 31 [2,3]=some nf:=by kernel_rfl
theorem Ii (g k:ai) (o:g.Ok):ar Tryz.prog 31 [.agg (ah g),.agg (ah k)] (gb (decide (g=k))):=by
 refine ar.val (G4 g k) λH=>?_
 rw[J3]
 refine an.of mixed qZ ?_
 have h1:=o.ao
 have v:=o.af
 have w:=o.rules
 unfold aG at h1 v w
 simp(disch:=omega)only[↓wr,seval,wq,nf,ah,encS]
 repeat' (first | ((first|apply ag.dec|apply ag.eq|apply ag.ne|apply ag.split)<;>intro)|(simp(disch:=omega)only[↓wr,seval,wq,ah,encS]))
 .rename_i e;rw[decide_eq_false (BJ (by omega))];rfl
 .rename_i e;rw[decide_eq_false (p:=g.af=k.af) (BJ (by omega))];simp
 .rename_i e;rw[decide_eq_false (p:=g.rules=k.rules) (BJ (by omega))];simp
 .rename_i e;rw[decide_eq_false e];simp
 rename_i A B C z
 refine aP.up g.ao.length (λi T _=>g.ao.take i=k.ao.take i/\T 2=.aC (ah g) 0/\T 3=.aC (ah k) 0/\T 5=gi i) ⟨by simp,rfl,rfl,rfl⟩ ?_
 rintro i m T H hm ⟨hi,t2,t3,t5⟩
 simp(disch:=omega)only[↓wr,seval,wq,kI,t2,t3,t5,ah,encS]
 apply ag.dec<;>intro d
 .have a:=OI (l:=g.ao) (i:=i) (by omega)
  have b:=OI (l:=k.ao) (i:=i) (by omega)
  generalize g.ao[i]'(by omega)=x at a
  generalize k.ao[i]'(by omega)=y at b
  simp(disch:=omega)only[↓wr,seval,wq,t2,t3,t5,ON,a,b,c7,ah,encS]
  refine Dc (xs:=#[.string x.name,.int .i64 x.level,.int .i64 x.assoc]) (ys:=#[.string y.name,.int .i64 y.level,.int .i64 y.assoc]) Tryz.underlying130 (by kernel_rfl) (by kernel_rfl) ?_ ?_ (Dg x y) (.inr ⟨rfl,rfl⟩) ?_
  .rfl
  .rfl
  rw[Mo]
  simp(disch:=omega)only[↓wr,seval,wq,t2,t3,t5]
  apply ag.split<;>intro e
  .simp(disch:=omega)only[↓wr,seval,wq,t2,t3,t5]
   exact ay hm (by omega) ⟨zm a b hi (by simpa using e),t2,t3,rfl⟩
  .simp(disch:=omega)only[↓wr,seval,wq,t2,t3,t5]
   rw[decide_eq_false (FF a b (by simpa using e))];rfl
 have s:g.ao=k.ao:=C2 (by omega) (by omega) hi
 simp(disch:=omega)only[↓wr,seval,wq,t2,t3,t5]
 clear hi d hm
 refine aP.up g.af.length (λi T _=>g.af.take i=k.af.take i/\T 2=.aC (ah g) 0/\T 3=.aC (ah k) 0/\T 6=gi i) ⟨by simp,t2,t3,rfl⟩ ?_
 clear t2 t3 t5 T H i m
 rintro i m T H hm ⟨hi,t2,t3,t5⟩
 simp(disch:=omega)only[↓wr,seval,wq,lj,t2,t3,t5,ah,encS]
 apply ag.dec<;>intro d
 .have a:=OI (l:=g.af) (i:=i) (by omega)
  have b:=OI (l:=k.af) (i:=i) (by omega)
  generalize g.af[i]'(by omega)=x at a
  generalize k.af[i]'(by omega)=y at b
  simp(disch:=omega)only[↓wr,seval,wq,t2,t3,t5,ON,a,b,c7,ah,encS,HM]
  apply ag.split<;>intro e
  .simp(disch:=omega)only[↓wr,seval,wq,t2,t3,t5]
   exact ay hm (by omega) ⟨zm a b hi (by simpa using e),t2,t3,rfl⟩
  .simp(disch:=omega)only[↓wr,seval,wq,t2,t3,t5]
   rw[decide_eq_false (p:=g.af=k.af) (FF a b (by simpa using e))];simp
 have t:g.af=k.af:=C2 (by omega) (by omega) hi
 simp(disch:=omega)only[↓wr,seval,wq,t2,t3,t5]
 clear hi d hm
 refine aP.up g.rules.length (λi T _=>g.rules.take i=k.rules.take i/\T 2=.aC (ah g) 0/\T 3=.aC (ah k) 0/\T 7=gi i) ⟨by simp,t2,t3,rfl⟩ ?_
 clear t2 t3 t5 T H i m
 rintro i m T H hm ⟨hi,t2,t3,t5⟩
 simp(disch:=omega)only[↓wr,seval,wq,lk,t2,t3,t5,ah,encS]
 apply ag.dec<;>intro d
 .have a:=OI (l:=g.rules) (i:=i) (by omega)
  have b:=OI (l:=k.rules) (i:=i) (by omega)
  have j:g.rules[i]'(by omega)∈g.rules:=OW _
  generalize g.rules[i]'(by omega)=x at a j
  generalize k.rules[i]'(by omega)=y at b
  have q:=(o.aZ x j).2.2.1
  simp(disch:=omega)only[↓wr,seval,wq,t2,t3,t5,ON,a,b,aS,encI,ah,encS]
  intro n D
  try simp(disch:=omega)only[↓wr,seval,wq,t2,t3,t5,aS,encI]
  intro E r
  have c:=(c9 r cT).1
  try simp(disch:=omega)only[↓wr,seval,wq,t2,t3,t5,aS,encI,c,c.symm]
  have f:x≠y->V.val (Value.bool false)=V.val (Value.bool (decide (g.ao=k.ao) && (decide (g.af=k.af) && (decide (g.rules=k.rules) && decide (g.start=k.start))))):=λe=>by
   rw[decide_eq_false (p:=g.rules=k.rules) (FF a b e)];simp
  repeat' (first | ((first|apply ag.dec|apply ag.eq|apply ag.ne|apply ag.split)<;>intro)|(refine aj.pure (Fm x.right y.right q) ?_)|(simp(disch:=omega)only[↓wr,seval,wq,t2,t3,t5,aS,encI,c,c.symm]))
  .rename_i e;exact f λh=>e (by rw[h])
  .rename_i e;exact f λh=>e (by rw[h])
  .rename_i u t s
   refine ay hm (by omega) ⟨zm a b hi ?_,t2,t3,rfl⟩
   cases x;cases y
   simp_all
  .rename_i e;exact f λh=>by rw[h] at e;simp at e
 .have u:g.rules=k.rules:=C2 (by omega) (by omega) hi
  simp(disch:=omega)only[↓wr,seval,wq,t2,t3,t5]
  simp[s,t,u,z]
def pK:SF:=⟨ae [ab [cE 1 0,bb 2 false],ab [ba 7 4 1,aJ 8 47 [7],aa 6 8,cP 9 0 6,cP 10 1 6,cP 11 2 6,((some 3),.op (.alloc [(.emp 1),(.emp 1),(.emp 1),(.val (.int .i64 0))])),cb 4 3 9,aa 4 10,aa 5 11],.region false [⟨none,[aa 12 5,ax 13 .eql 12 0,aa 14 13]⟩,⟨(some (14,true)),[ba 15 4 1,ba 16 4 3,aJ 17 31 [15,16]]⟩,⟨none,[bV 18 14 17,aa 2 18]⟩],.ret],
 [.tmp 2],19⟩
theorem tH:aE Tryz.prog 15 [1]=some pK:=by kernel_rfl
theorem ME (g:ai) (a:g.Ok):ar Tryz.prog 15 [.agg (ah g)] (gb (isRed g)):=by
 refine ar.val (dD g) λH=>?_
 refine an.of mixed tH ?_
 simp(disch:=omega)only[↓wr,seval,wq,pK,ah,encS]
 refine aj.pure (vH g a).pure ?_
 unfold isRed
 generalize cX g=x
 obtain⟨k,b,e⟩:=x
 simp(disch:=omega)only[↓wr,seval,wq,wu,ah,encS]
 intro n c
 apply ag.eq<;>intro h
 .simp(disch:=omega)only[↓wr,seval,wq,wu,ah,encS]
  refine aj.pure (Ii g k a) ?_
  simp(disch:=omega)only[↓wr,seval,wq]
  simp[h]
 .simp(disch:=omega)only[↓wr,seval,wq]
  simp[h]
def Na:ai:=⟨[⟨⟨#[39,97,39]⟩,0,0⟩,⟨⟨#[39,98,39]⟩,0,0⟩,⟨⟨#[39,99,39]⟩,0,0⟩,⟨⟨#[39,100,39]⟩,0,0⟩],[⟨#[115]⟩,⟨#[117]⟩,⟨#[118]⟩],[⟨0,[0,(-2)],0⟩,⟨0,[1],1⟩,⟨0,[],(-1)⟩,⟨1,[(-2),2],2⟩,⟨2,[3,(-1)],3⟩],0⟩
def ML:ai:=⟨Na.ao,[⟨#[115]⟩],[⟨0,[1],1⟩,⟨0,[],(-1)⟩],0⟩
theorem lU:isRed ML=true:=by kernel_rfl
theorem de.fr {h:aw} {v t:V} (f:de h v t):Fr h v t:=by
 induction f with
 | val v=>exact .tree _ (.val _)
 | emp k=>exact .emp k
 | sl id off len esz z es es' h1 c d e _ b=>exact .sl id off len esz z es es' h1 c d e b
 | agg cs a h1 _ b=>exact .agg cs a h1 b
 | aU cs a h1 _ b=>exact .aU cs a h1 b
def bU {κ:Type} (kv:κ->V) (m:cA κ):List (V × V × Nat):=m.map λx=>(kv x.1,x.2.1,x.2.2)
structure Ct {κ:Type} [BEq κ] (P:Program) (kt:TypeId) (kv:κ->V):Prop where
 find:∀ k e m,jJ P kt (kv k) e (bU kv m)=some (eM k m)
 same:∀ k,sameKey (kv k) (kv k)=true
def gV {κ:Type} (m:cA κ) (c:Nat):Prop:=(m.map (·.2.2)).Nodup/\∀ x∈m,x.2.2 < c
def gC {κ:Type} [BEq κ] (m:cA κ) (k:κ):Option Nat:=(m.find? λx=>k == x.1).map (·.2.2)
section
variable {κ:Type} [BEq κ] [LawfulBEq κ] {kv:κ->V}
theorem j1 (k:κ):∀ m:cA κ,match eM k m with
  | some i=>∃ x,m[i]?=some x/\x.1=k/\getM m k=some x.2.1/\gC m k=some x.2.2/\(bU kv m)[i]?=some (kv k,x.2.1,x.2.2)/\∀ v c,(bU kv m).set i (kv k,v,x.2.2)=bU kv (bA k v c m)/\gC (bA k v c m) k=some x.2.2/\(bA k v c m).map (·.2.2)=m.map (·.2.2)
  | none=>getM m k=none/\gC m k=none/\∀ v c,bU kv m ++ [(kv k,v,c)]=bU kv (bA k v c m)/\gC (bA k v c m) k=some c/\(bA k v c m).map (·.2.2)=m.map (·.2.2) ++ [c]
 | []=>⟨rfl,rfl,λv c=>⟨rfl,by simp[bA,gC],rfl⟩⟩
 | x :: r=>by
  have a:=j1 k r
  simp only[eM]
  cases hk:k == x.1 with
  | true =>
   have b:x.1=k:=(eq_of_beq hk).symm
   exact⟨x,rfl,b,by simp[getM,hk],by simp[gC,hk],by simp[bU,b],λv c=>by simp[bA,hk,bU,gC]⟩
  | false =>
   simp only[Pb,if_false]
   cases hi:eM k r with
   | some i =>
    rw[hi] at a
    obtain⟨y,h1,d,e,f,g,h⟩:=a
    refine⟨y,by simpa using h1,d,by simpa [getM,hk] using e,by simpa [gC,hk] using f,by simpa [bU] using g,λv c=>?_⟩
    obtain⟨g1,g2,g3⟩:=h v c
    exact⟨by simp only[bU] at g1 ⊢;simp[bA,hk,g1],by simpa [bA,hk,gC] using g2,by simp[bA,hk,g3]⟩
   | none =>
    rw[hi] at a
    refine⟨by simpa [getM,hk] using a.1,by simpa [gC,hk] using a.2.1,λv c=>?_⟩
    obtain⟨g1,g2,g3⟩:=a.2.2 v c
    exact⟨by simp only[bU] at g1 ⊢;simp[bA,hk,g1],by simpa [bA,hk,gC] using g2,by simp[bA,hk,g3]⟩
theorem gV.put {m:cA κ} {c:Nat} (h:gV m c) (k:κ) (v:V):gV (bA k v c m) (c+1):=by
 have f:=j1 (kv:=λ_=>V.any) k m
 cases i:eM k m with
 | some j =>
  rw[i] at f
  obtain⟨y,_,_,_,_,_,n⟩:=f
  have e:=(n v c).2.2
  refine⟨by rw[e];exact h.1,λx g=>?_⟩
  have:x.2.2∈m.map (·.2.2):=by rw[<-e];exact O9.2 ⟨x,g,rfl⟩
  obtain⟨y,d,o⟩:=O9.1 this
  have:=h.2 y d
  omega
 | none =>
  rw[i] at f
  have e:=(f.2.2 v c).2.2
  refine⟨?_,λx g=>?_⟩
  .rw[e,List.nodup_append]
   refine⟨h.1,by simp,λa p b l=>?_⟩
   simp at l;subst l
   obtain⟨y,d,rfl⟩:=O9.1 p
   have:=h.2 y d
   omega
  .have:x.2.2∈m.map (·.2.2) ++ [c]:=by rw[<-e];exact O9.2 ⟨x,g,rfl⟩
   rcases Pg.1 this with h1 | h1
   .obtain⟨y,d,o⟩:=O9.1 h1
    have:=h.2 y d
    omega
   .simp at h1;omega
theorem gV.MA {m:cA κ} {c:Nat} (h:gV m c) {k:κ} {b:Nat} (d:gC m k=some b) (v:V) (f:Nat):gV (bA k v f m) c:=by
 have a:=j1 (kv:=λ_=>V.any) k m
 cases g:eM k m with
 | some j =>
  rw[g] at a
  obtain⟨y,_,_,_,_,_,i⟩:=a
  have e:=(i v f).2.2
  refine⟨by rw[e];exact h.1,λx l=>?_⟩
  have:x.2.2∈m.map (·.2.2):=by rw[<-e];exact O9.2 ⟨x,l,rfl⟩
  obtain⟨y,n,o⟩:=O9.1 this
  have:=h.2 y n
  omega
 | none =>
  rw[g] at a
  rw[a.2.1] at d;simp at d
omit [BEq κ] [LawfulBEq κ] in
theorem find_born (b:Nat):∀ (m:cA κ) (i:Nat) (x:κ × V × Nat),(m.map (·.2.2)).Nodup->m[i]?=some x->x.2.2=b->(bU kv m).findIdx? (λe=>e.2.2 == b)=some i
 | [],i,x,_,h,_=>by simp at h
 | y :: m,0,x,a,h,e=>by
  simp at h;subst h
  simp[bU,List.findIdx?_cons,e]
 | y :: m,i+1,x,a,h,e=>by
  simp only[Pa,Ps] at a
  have h:m[i]?=some x:=by simpa using h
  have f:x∈m:=O2 h
  have c:¬ y.2.2=b:=λg=>a.1 (by rw[g,<-e];exact O9.2 ⟨x,f,rfl⟩)
  have d:=find_born b m i x a.2 h e
  simp only[bU] at d
  simp[bU,List.findIdx?_cons,c,d]
variable {P:Program} {T:Env} {H:View} {kt et t ty:TypeId}
theorem K1 {K:V->View->Prop} {w:bL (T,H,K)} {x i:Operand} {z:V} {id c:Nat} {m:cA κ} {k:κ} (hm:cU P t=some (kt,et)) (d:zeroV P et=some z) (hk:Ct P kt kv)
  (e:ev T x=.mp id) (hi:ev T i=kv k) (hH:H id=.map (bU kv m) c) (h:K ((getM m k).getD z) H):oD P (.lookup t x i false) ty T H K w:=by
 intro n _
 have f:=hk.find k (bU kv m).isEmpty m
 have a:=j1 (kv:=kv) k m
 refine⟨(getM m k).getD z,.none,[id],?_,h⟩
 simp only[sI,bo,oper,dG,hm,d,e,hi,hH,f]
 cases b:eM k m with
 | some j =>
  rw[b] at a
  obtain⟨y,h1,o,g,p,l,_⟩:=a
  simp[l,g]
 | none =>
  rw[b] at a
  simp[a.1]
theorem Ac {z:V} {id c:Nat} {m:cA κ} {k:κ} (hm:cU P t=some (kt,et)) (l:zeroV P et=some z) (hk:Ct P kt kv) (hH:H id=.map (bU kv m) c) (e:gV m c) :
  ∃ b f,cM P t (.mp id) (kv k) H=some (.aU [(getM m k).getD z,bz b],.dP id (.map (bU kv (bA k ((getM m k).getD z) c m)) f),[id])/\gV (bA k ((getM m k).getD z) c m) f/\gC (bA k ((getM m k).getD z) c m) k=some b:=by
 have d:=hk.find k false m
 have a:=j1 (kv:=kv) k m
 cases g:eM k m with
 | some j =>
  rw[g] at a d
  obtain⟨y,h1,p,h,n,o,i⟩:=a
  refine⟨y.2.2,c,?_,?_,?_⟩
  .simp only[cM,hm,hH,d,o,hk.same k,if_true,h,OS]
   rw[(i y.2.1 c).1]
  .exact e.MA n _ _
  .rw[h];exact(i _ c).2.1
 | none =>
  rw[g] at a d
  refine⟨c,c+1,?_,e.put k _,?_⟩
  .simp only[cM,hm,hH,d,l,a.1,Option.getD_none]
   rw[(a.2.2 z c).1]
  .rw[a.1];exact(a.2.2 _ c).2.1
theorem Mx {K:V->View->Prop} {w:bL (T,H,K)} {x i:Operand} {z:V} {id c:Nat} {m:cA κ} {k:κ} (hm:cU P t=some (kt,et)) (d:zeroV P et=some z) (hk:Ct P kt kv)
  (e:ev T x=.mp id) (hi:ev T i=kv k) (hH:H id=.map (bU kv m) c) (f:gV m c)
  (h:∀ b a,gV (bA k ((getM m k).getD z) c m) a->gC (bA k ((getM m k).getD z) c m) k=some b->K (.aU [(getM m k).getD z,bz b]) (H.set id (.map (bU kv (bA k ((getM m k).getD z) c m)) a))):oD P (.mapEntry t x i) ty T H K w:=by
 intro n _
 obtain⟨b,a,h1,g,j⟩:=Ac (k:=k) hm d hk hH f
 refine⟨.aU [(getM m k).getD z,bz b],.dP id (.map (bU kv (bA k ((getM m k).getD z) c m)) a),[id],?_,h b a g j⟩
 simp only[sI,bo,oper,e,hi]
 exact h1
theorem Mt {K:V->View->Prop} {w:bL (T,H,K)} {x s y:Operand} {id c b:Nat} {m:cA κ} {k:κ} {v:V} (i:ev T x=.mp id) (l:ev T s=bz b) (o:ev T y=v) (hH:H id=.map (bU kv m) c) (p:gV m c) (a:gC m k=some b)
  (h:∀ q,K .any (H.set id (.map (bU kv (bA k v q m)) c))):oD P (.entryStore t x s y) ty T H K w:=by
 intro n _
 have d:=j1 (kv:=kv) k m
 cases g:eM k m with
 | none=>rw[g] at d;rw[d.2.1] at a;simp at a
 | some j =>
  rw[g] at d
  obtain⟨z,h1,C,D,f,r,u⟩:=d
  rw[a] at f
  have e:z.2.2=b:=by simp at f;exact f.symm
  have A:=find_born (kv:=kv) b m j z p.1 h1 e
  refine⟨.any,.dP id (.map (bU kv (bA k v c m)) c),[id],?_,h c⟩
  have B:asNat (bz b)=some b:=by simp[asNat,bz]
  simp only[sI,bo,oper,i,l,o,gP,B,hH,A,r]
  rw[(u v c).1]
theorem NI {z:V} {id c:Nat} {m:cA κ} {k:κ} (hm:cU P t=some (kt,et)) (f:zeroV P et=some z) (hk:Ct P kt kv) (hH:H id=.map (bU kv m) c) (i:gV m c):C6 P t (.mp id) (kv k) H:=by
 refine⟨⟨_,_,hH⟩,λv obj rd he=>?_⟩
 obtain⟨b,l,h1,n,g⟩:=Ac (k:=k) hm f hk hH i
 rw[he] at h1
 simp only[OJ,OL,aM.dP.injEq] at h1
 obtain⟨_,⟨_,rfl⟩,_⟩:=h1
 have key:∀ (a:cA κ) (c2:Nat) (H':View),H' id=.map (bU kv a) c2->dG P t (.mp id) (kv k) false H'=some ((getM a k).getD z,.none,[id]):=by
  intro a c2 H' e
  have o:=hk.find k (bU kv a).isEmpty a
  have d:=j1 (kv:=kv) k a
  simp only[dG,hm,f,e,o]
  cases h:eM k a with
  | some j =>
   rw[h] at d
   obtain⟨y,h1,n,g,q,p,_⟩:=d
   simp[p,g]
  | none =>
   rw[h] at d
   simp[d.1]
 rw[key (bA k ((getM m k).getD z) c m) l _ (by simp[View.set]),key m c H hH,po]
 simp
end
def dx (x:Item):List V:=[bz x.aZ,bz x.dot,bz x.ca]
def nR (x:Item):V:=.agg (dx x)
def iI (x:Item):Value:=.agg #[.int .i64 x.aZ,.int .i64 x.dot,.int .i64 x.ca]
theorem wy (x:Item):bO (nR x)=some (iI x):=rfl
theorem ym:∀ m:cA Item,eX (bU nR m)=some (m.map λx=>{ key:=iI x.1,val:=.nilFunc,born:=x.2.2 })
 | []=>rfl
 | x :: r=>by
  have:=ym r
  simp only[bU] at this
  simp[bU,eX,wy,this]
structure MR (P:Program) (kt:TypeId):Prop where
 ty:∃ f0 f1 f2:Field,P.underlying kt=some (.struct #[f0,f1,f2])/\f0.name≠ "_" /\ f1.name≠ "_" /\ f2.name≠ "_" /\ P.underlying f0.type=some (.int .i64)/\P.underlying f1.type=some (.int .i64)/\P.underlying f2.type=some (.int .i64)/\f0.offset=0/\f1.offset=1/\f2.offset=2
 held:P.stoodInHeld kt=false
theorem ub {P:Program} {α:Type} (x:α):aT P (pure x:Sem α)=some x:=rfl
theorem MB {P:Program} {kt:TypeId} (h:MR P kt):Ct P kt nR where
 same:=λk=>by simp[sameKey,wy,iI,Instr.sameBits]
 find:=by
  obtain⟨f0,f1,f2,hu,t,u,w,f,g,l,o0,n,o⟩:=h.ty
  have heq:∀ a b:Item,aT P (Op.equal kt (iI a) (iI b))=some (a == b):=by
   intro a b
   have y:eK P 9998 #[.int .i64 (a.aZ:Int),.int .i64 (a.dot:Int),.int .i64 (a.ca:Int)] #[.int .i64 (b.aZ:Int),.int .i64 (b.dot:Int),.int .i64 (b.ca:Int)] [f0,f1,f2] (((a.aZ:Int) == b.aZ) && (((a.dot:Int) == b.dot) && (((a.ca:Int) == b.ca) && true))) :=
    .int f0 _ _ .i64 _ _ t f (by rw[o0];rfl) (by rw[o0];rfl) (.int f1 _ _ .i64 _ _ u g (by rw[n];rfl) (by rw[n];rfl) (.int f2 _ _ .i64 _ _ w l (by rw[o];rfl) (by rw[o];rfl) .nil))
   rw[iI,iI,o8 hu h.held y]
   congr 1
   rw[PI]
   simp only[OO,PB,Int.natCast_inj,and_true]
   cases a;cases b;simp
  have c:∀ (k:Item) (m:cA Item) (i:Nat),aT P (Instr.findAsking kt (iI k) (m.map λx=>{ key:=iI x.1,val:=.nilFunc,born:=x.2.2 }) i)=some ((eM k m).map λj=>(i+j,.nilFunc)):=by
   intro k m
   induction m with
   | nil=>intro i;rfl
   | cons x r z =>
    intro i
    simp only[Pa,Instr.findAsking,aI,heq,Pj,eM]
    cases hk:k == x.1 with
    | true=>simp[ub]
    | false =>
     simp only[Pb,if_false,z (i+1),Option.map_map]
     congr 2
     funext j
     simp only[Function.comp]
     congr 1
     omega
  have hint:∀ (e:Bool) (p:TypeId) (v:Value),P.underlying p=some (.int .i64)->aT P (Instr.checkKey e 9999 p v)=some ():=λe p v q=>yz q trivial e 9998 v
  have d:∀ (k:Item) (e:Bool),aT P (Instr.checkKey e 10000 kt (iI k))=some ():=by
   intro k e
   unfold Instr.checkKey iI
   rw[aI,cI hu,Pj]
   have A:=fk (P:=P) f (.inr ⟨_,rfl⟩) #[.int .i64 (k.aZ:Int),.int .i64 (k.dot:Int),.int .i64 (k.ca:Int)] f0.offset (v:=.int .i64 k.aZ) (by rw[o0];rfl)
   have B:=fk (P:=P) g (.inr ⟨_,rfl⟩) #[.int .i64 (k.aZ:Int),.int .i64 (k.dot:Int),.int .i64 (k.ca:Int)] f1.offset (v:=.int .i64 k.dot) (by rw[n];rfl)
   have C:=fk (P:=P) l (.inr ⟨_,rfl⟩) #[.int .i64 (k.aZ:Int),.int .i64 (k.dot:Int),.int .i64 (k.ca:Int)] f2.offset (v:=.int .i64 k.ca) (by rw[o];rfl)
   simp only[<-Array.forIn_toList,List.forIn_cons,List.forIn_nil,OM t,OM u,OM w,aI,A,B,C,hint e _ _ f,hint e _ _ g,hint e _ _ l,Pj,ub]
  intro k e m
  have s:aT P (underlying kt)=some _:=cI hu
  simp only[jJ,wy,ym,aI,d,Pj]
  have:aT P (Instr.findKey kt (iI k) (m.map λx=>{ key:=iI x.1,val:=.nilFunc,born:=x.2.2 }))=some ((eM k m).map λj=>(0+j,.nilFunc)):=by
   unfold Instr.findKey
   rw[aI,s,Pj]
   cases m with
   | nil=>rfl
   | cons x r=>exact c k (x :: r) 0
  rw[this]
  cases eM k m with
  | none=>rfl
  | some j=>simp
def HR (m:cA Item) (s:List Item) (B:Nat):Prop:=∀ x,(x∈s->∃ k:Nat,getM m x=some (bz k)/\1<=k/\k<=B)/\(x ∉ s->getM m x=none)
structure ji (H:View) (c sid mid:Nat) (sv:Nat->V) (mi:Nat->Nat) (mm:Nat->cA Item) (cl:Nat->Nat) (g:ai) (p:List Int) (nu:V) (S S1:Nat->List Item) (B n:Nat) (K:List (Nat × bp)):Prop where
 box:H c=.arr 8 [[.aX (g.ao.map c7),encS g.af,.aX (g.rules.map aS),gi g.start,encI p,nu,.sl sid 0 n 1,.sl mid 0 n 1]]
 fe:H sid=.arr 1 ((List.range n).map λj=>[sv j])
 seen:H mid=.arr 1 ((List.range n).map λj=>[.mp (mi j)])
 set:∀ j,j < n->aO H (sv j) 3 ((S j).map dx)
 map:∀ j,j < n->H (mi j)=.map (bU nR (mm j)) (cl j)/\gV (mm j) (cl j)/\HR (mm j) (S1 j) B
 ne:sid≠mid
 uH:∀ i j o,i < n->j < n->owner (sv i)=some o->owner (sv j)=some o->i=j
 y3:∀ i j,i < n->j < n->mi i=mi j->i=j
 off:∀ q∈K,H q.1=q.2/\q.2≠.dead/\q.1≠sid/\(∀ j,j < n->q.1≠mi j)/\∀ j,j < n->owner (sv j)≠some q.1
def Ch (H:View) (c:Nat) (g:ai) (p:List Int) (nu:V) (S:Nat->List Item) (B n:Nat) (K:List (Nat × bp)):Prop:=∃ sid mid sv mi mm cl,ji H c sid mid sv mi mm cl g p nu S S B n K
def fY (S:Nat->List Item) (a:Nat) (x:Item):Nat->List Item:=λb=>if b=a then (if x∈S a then S a else S a ++ [x]) else S b
theorem Ch.more {H:View} {c:Nat} {g:ai} {p:List Int} {e:V} {S:Nat->List Item} {B f n:Nat} {K:List (Nat × bp)} (h:Ch H c g p e S B n K) (q:B<=f):Ch H c g p e S f n K:=by
 obtain⟨b,d,i,l,mm,cl,h⟩:=h
 refine⟨b,d,i,l,mm,cl,h.box,h.fe,h.seen,h.set,λj a=>⟨(h.map j a).1,(h.map j a).2.1,λx=>⟨λm=>?_,((h.map j a).2.2 x).2⟩⟩,h.ne,h.uH,h.y3,h.off⟩
 obtain⟨k,h1,o,r⟩:=((h.map j a).2.2 x).1 m
 exact⟨k,h1,o,by omega⟩
theorem Ch.drop {H:View} {c:Nat} {g:ai} {p:List Int} {d:V} {S:Nat->List Item} {B n:Nat} {q:Nat × bp} {K:List (Nat × bp)} (h:Ch H c g p d S B n (q :: K)):Ch H c g p d S B n K:=by
 obtain⟨a,b,e,f,mm,cl,h⟩:=h
 exact⟨a,b,e,f,mm,cl,h.box,h.fe,h.seen,h.set,h.map,h.ne,h.uH,h.y3,λq i=>h.off q (by simp[i])⟩
theorem ji.new {H:View} {c f i:Nat} {m:Nat->V} {r:Nat->Nat} {mm:Nat->cA Item} {cl:Nat->Nat} {g:ai} {p:List Int} {s:V} {S t:Nat->List Item} {B n:Nat} {K:List (Nat × bp)} (h:ji H c f i m r mm cl g p s S t B n K)
  {b:Nat} {o:bp} (k:H b=.dead) (v:o≠.dead):ji (H.set b o) c f i m r mm cl g p s S t B n ((b,o) :: K):=by
 have keep:∀ id,H id≠.dead->(H.set b o) id=H id:=λid d=>by
  have e:id≠b:=by rintro rfl;exact d k
  simp[View.set,e]
 have live:∀ {id},H id≠.dead->b≠id:=λd e=>d (e ▸ k)
 refine⟨?_,?_,?_,λj a=>?_,λj a=>?_,h.ne,h.uH,h.y3,λq l=>?_⟩
 .rw[keep _ (by rw[h.box];simp)];exact h.box
 .rw[keep _ (by rw[h.fe];simp)];exact h.fe
 .rw[keep _ (by rw[h.seen];simp)];exact h.seen
 .exact(h.set j a).fresh k
 .rw[keep _ (by rw[(h.map j a).1];simp)];exact h.map j a
 .rcases O1.1 l with rfl | l
  .refine⟨by simp[View.set],v,live (by rw[h.fe];simp),λj a=>live (by rw[(h.map j a).1];simp),λj a=>?_⟩
   have:=(h.set j a).ne k
   exact this
  .obtain⟨h1,u,w⟩:=h.off q l
   exact⟨by rw[keep _ (by rw[h1];exact u)];exact h1,u,w⟩
theorem Ch.new {H:View} {c:Nat} {g:ai} {p:List Int} {e:V} {S:Nat->List Item} {B n b:Nat} {o:bp} {K:List (Nat × bp)} (h:Ch H c g p e S B n K) (f:H b=.dead) (i:o≠.dead):Ch (H.set b o) c g p e S B n ((b,o) :: K):=by
 obtain⟨a,d,j,k,mm,cl,h⟩:=h
 exact⟨a,d,j,k,mm,cl,h.new f i⟩
theorem Ch.kept {H:View} {c:Nat} {g:ai} {p:List Int} {a:V} {S:Nat->List Item} {B n:Nat} {K:List (Nat × bp)} (h:Ch H c g p a S B n K):∀ q∈K,H q.1=q.2:=by
 obtain⟨b,d,f,i,mm,cl,h⟩:=h
 exact λq e=>(h.off q e).1
def nr:SF:=⟨ae [ab [cE 5 2],.vn (188,12,13) [] [⟨none,[aa 6 0,fT 7 6,av 8 7 7,ak 9 8,aa 10 1,aW 11 1 9 10,ak 12 11,ba 13 3 5,((some 14),.op (.old (.lookup 188 (.tmp 12) (.tmp 13) false) 3)),ax 15 .add 14 1,((some 16),.op (.old (.mapEntry 188 (.tmp 12) (.tmp 13)) 0)),cP 17 1 16,(none,.op (.old (.entryStore 188 (.tmp 12) (.tmp 17) (.tmp 15)) 0))]⟩],ab [aa 18 0,fT 19 18,av 20 7 19,ak 21 20,aa 22 1,aW 23 1 21 22,ak 24 23,ba 25 3 5,((some 26),.op (.old (.lookup 188 (.tmp 24) (.tmp 25) false) 3)),ax 27 .eql 26 1],bc 27 (.rj [(30,39)] [⟨none,[aa 28 0,fT 29 28,av 30 6 29,ak 31 30,aa 32 1,aa 33 0,fT 34 33,av 35 6 34,ak 36 35,aa 37 1,aW 38 1 36 37,ak 39 38,ba 40 3 5,((some 41),.op (.bM 1 3 [(.val (.int .i64 0)),(.val (.int .i64 0)),(.val (.int .i64 0))] [(0,(.tmp 40))])),pk 42 3 24 39 41,aW 43 1 31 32,cb 1 43 42]⟩])],
 [],44⟩
theorem rI:aE Tryz.prog 176 [5,100000]=some nr:=by kernel_rfl
theorem J6:MR Tryz.prog 191 :=
 ⟨⟨⟨ "rule",3,0,false,"","gerund/oracle",0⟩,⟨ "dot",3,1,false,"","gerund/oracle",8⟩,⟨ "from",3,2,false,"","gerund/oracle",16⟩,by kernel_rfl,by decide,by decide,by decide,Tryz.underlying3,Tryz.underlying3,Tryz.underlying3,rfl,rfl,rfl⟩,by kernel_rfl⟩
theorem LC {m:cA Item} {s:List Item} {B c f:Nat} {x:Item} (h:HR m s B) (k:Nat) (hk:(x∈s/\getM m x=some (bz k))∨(x ∉ s/\k=0)) (j:k<=B) (z:V):HR (bA x (bz (k+1:Nat)) f (bA x z c m)) (if x∈s then s else s ++ [x]) (B+1):=by
 intro y
 rw[po,po]
 by_cases e:y=x
 .subst e
  refine⟨λ_=>⟨k+1,by simp,by omega,by omega⟩,λd=>?_⟩
  exfalso
  by_cases a:y∈s
  .rw[OM a] at d;exact d a
  .rw[OK a] at d;exact d (by simp)
 .have e':(y == x)=false:=by simpa using e
  simp only[e',Pb,if_false]
  have b:(y∈if x∈s then s else s ++ [x])↔y∈s:=by
   split
   .exact Iff.rfl
   .simp[e]
  rw[b]
  refine⟨λa=>?_,(h y).2⟩
  obtain⟨g,h1,i,l⟩:=(h y).1 a
  exact⟨g,h1,i,by omega⟩
theorem ji.wrote {H:View} {c f i:Nat} {v:Nat->V} {d:Nat->Nat} {mm:Nat->cA Item} {cl:Nat->Nat} {g:ai} {p:List Int} {w:V} {S r:Nat->List Item} {B n:Nat} {K:List (Nat × bp)} (h:ji H c f i v d mm cl g p w S r B n K)
  {a:Nat} (s:a < n) {x:Item} {l:cA Item} {o:Nat} (D:gV l o) (E:HR l (fY r a x a) (B+1)) :
  ji (H.set (d a) (.map (bU nR l) o)) c f i v d (λj=>if j=a then l else mm j) (λj=>if j=a then o else cl j) g p w S (fY r a x) (B+1) n K:=by
 obtain⟨t,F,G⟩:=h.map a s
 have keep:∀ id z es,H id=.arr z es->(H.set (d a) (.map (bU nR l) o)) id=H id:=λid z es b=>by
  have e:id≠d a:=by rintro rfl;rw[t] at b;simp at b
  simp[View.set,e]
 refine⟨?_,?_,?_,λj m=>?_,λj m=>?_,h.ne,h.uH,h.y3,λq I=>?_⟩
 .rw[keep _ _ _ h.box];exact h.box
 .rw[keep _ _ _ h.fe];exact h.fe
 .rw[keep _ _ _ h.seen];exact h.seen
 .exact(h.set j m).keep λid b=>keep _ _ _ ((h.set j m).live b).1
 .by_cases e:j=a
  .subst e
   simp only[if_true]
   exact⟨by simp[View.set],D,E⟩
  .have J:d j≠d a:=λq=>e (h.y3 j a m s q)
   simp only[OK e]
   obtain⟨g1,g2,g3⟩:=h.map j m
   refine⟨by simp[View.set,J,g1],g2,?_⟩
   simp only[fY,OK e]
   intro y
   refine⟨λL=>?_,(g3 y).2⟩
   obtain⟨k,h1,u,A⟩:=(g3 y).1 L
   exact⟨k,h1,u,by omega⟩
 .obtain⟨h1,u,A,C,M⟩:=h.off q I
  exact⟨by simp[View.set,C a s,h1],u,A,C,M⟩
theorem ji.MV {H H':View} {c d s:Nat} {m:Nat->V} {z:Nat->Nat} {mm:Nat->cA Item} {cl:Nat->Nat} {g:ai} {p:List Int} {D:V} {S E:Nat->List Item} {B n:Nat} {K:List (Nat × bp)} (h:ji H c d s m z mm cl g p D S E B n K)
  {a:Nat} (v:a < n) {x:Item} (F:¬ x∈S a) {u':V} (G:aO H' u' 3 ((S a).map dx ++ [dx x])) (I:Left H H' (m a) u') :
  ji (H'.set d (.arr 1 (((List.range n).map λj=>[m j]).set a [u']))) c d s (λj=>if j=a then u' else m j) z mm cl g p D (fY S a x) E B n K:=by
 have own:∀ {id},owner (m a)=some id->H id=.arr 3 ((S a).map dx):=λr=>((h.set a v).live r).1
 have J:owner (m a)≠some d:=λe=>by
  have:=own e
  rw[h.fe] at this;simp at this
 have keep:∀ id,H id≠.dead->owner (m a)≠some id->H' id=H id/\owner u'≠some id:=I
 have L:=keep d (by rw[h.fe];simp) J
 have b:∀ id,H id≠.dead->owner (m a)≠some id->id≠d->(H'.set d (.arr 1 (((List.range n).map λj=>[m j]).set a [u']))) id=H id:=λid h1 f w=>by
  simp only[View.set,OK w];exact(keep id h1 f).1
 have t:∀ {id o},H id=o->o≠.arr 3 ((S a).map dx)->owner (m a)≠some id:=λh1 f e=>f (by rw[<-h1];exact own e)
 refine⟨?_,?_,?_,λj l=>?_,λj l=>?_,h.ne,λi j o hi l h1 f=>?_,h.y3,λq M=>?_⟩
 .rw[b c (by rw[h.box];simp) (t h.box (by simp)) (by rintro rfl;have:=h.box;rw[h.fe] at this;simp at this)];exact h.box
 .simp only[View.set,if_true]
  congr 1
  rw[LN]
  apply Qu
  intro j _
  split <;> rfl
 .rw[b s (by rw[h.seen];simp) (t h.seen (by simp)) h.ne.symm];exact h.seen
 .by_cases e:j=a
  .subst e
   simp only[if_true,fY,OK F,PW,Pa,PQ]
   exact G.other L.2
  .simp only[OK e,fY]
   refine(h.set j l).keep λid r=>?_
   have k:=((h.set j l).live r).1
   refine b id (by rw[k];simp) (λu=>e (h.uH j a id l v r u)) ?_
   rintro rfl;rw[h.fe] at k;simp at k
 .obtain⟨g1,g2,g3⟩:=h.map j l
  refine⟨?_,g2,g3⟩
  rw[b (z j) (by rw[g1];simp) (t g1 (by simp)) (by intro e;rw[e,h.fe] at g1;simp at g1)];exact g1
 .by_cases y:i=a
  .by_cases u:j=a
   .omega
   .simp only[OM y,OK u] at h1 f
    exfalso
    have k:=((h.set j l).live f).1
    exact(keep o (by rw[k];simp) (λA=>u (h.uH j a o l v f A))).2 h1
  .by_cases u:j=a
   .simp only[OK y,OM u] at h1 f
    exfalso
    have k:=((h.set i hi).live h1).1
    exact(keep o (by rw[k];simp) (λA=>y (h.uH i a o hi v h1 A))).2 f
   .simp only[OK y,OK u] at h1 f
    exact h.uH i j o hi l h1 f
 .obtain⟨h1,f,w,N,C⟩:=h.off q M
  refine⟨?_,f,w,N,λj l=>?_⟩
  .rw[b q.1 (by rw[h1];exact f) (C a v) w];exact h1
  .by_cases e:j=a
   .simp only[OM e];exact(keep q.1 (by rw[h1];exact f) (C a v)).2
   .simp only[OK e];exact C j l
theorem xI (c:Nat) (g:ai) (p:List Int) (Z:V) (S:Nat->List Item) (B n a:Nat) (x:Item) (K:List (Nat × bp)) (H:View) (hC:Ch H c g p Z S B n K) (j:a < n) (hn:n < 1000) (hB:B < 1000000000000) (hl:(S a).length < 1000000)
  (hx:x.aZ < 1000/\x.dot < 1000/\x.ca < 1000):an Tryz.prog 176 [.ptr c 0 0,bz a,.agg (dx x)] H λ_ H'=>Ch H' c g p Z (fY S a x) (B+1) n K:=by
 obtain⟨C,a1,sv,A,mm,cl,h⟩:=hC
 obtain⟨r,D,t⟩:=h.map a j
 have s:cU Tryz.prog 188=some (191,3):=by kernel_rfl
 have L:zeroV Tryz.prog 3=some (gi 0):=by kernel_rfl
 have i:=MB J6
 have N:∃ k:Nat,(getM (mm a) x).getD (gi 0)=bz k/\k<=B/\((x∈S a/\getM (mm a) x=some (bz k)/\1<=k)∨(¬ x∈S a/\k=0)):=by
  by_cases d:x∈S a
  .obtain⟨k,h1,l,f⟩:=(t x).1 d
   exact⟨k,by rw[h1];rfl,f,.inl ⟨d,h1,l⟩⟩
  .exact⟨0,by rw[(t x).2 d];rfl,by omega,.inr ⟨d,rfl⟩⟩
 obtain⟨k,E,O,u⟩:=N
 refine an.of mixed rI ?_
 simp(disch:=omega)only[↓wr,seval,wq,nr,h.box,h.seen,gI j,dx]
 refine⟨j,by simp;omega,?_⟩
 refine K1 (kv:=nR) (kt:=191) (et:=3) (z:=gi 0) s L i (id:=A a) (c:=cl a) (m:=mm a) (k:=x) (by simp(disch:=omega)only[↓wr,seval,wq]) (by simp(disch:=omega)only[↓wr,seval,wq];rfl) r ?_
 rw[E]
 simp(disch:=omega)only[↓wr,seval,wq]
 refine Mx (kv:=nR) (kt:=191) (et:=3) (z:=gi 0) s L i (id:=A a) (c:=cl a) (m:=mm a) (k:=x) (by simp(disch:=omega)only[↓wr,seval,wq]) (by simp(disch:=omega)only[↓wr,seval,wq];rfl) r D λb P Q w=>?_
 rw[E] at Q w ⊢
 simp(disch:=omega)only[↓wr,seval,wq]
 have ek:V.val (.int .i64 ((k:Int)+1))=bz (k+1:Nat):=by simp[bz]
 refine Mt (kv:=nR) (id:=A a) (c:=P) (b:=b) (m:=bA x (bz k) (cl a) (mm a)) (k:=x) (v:=bz (k+1:Nat)) (by simp(disch:=omega)only[↓wr,seval,wq]) (by simp(disch:=omega)only[↓wr,seval,wq]) (by simp(disch:=omega)only[↓wr,seval,wq];exact ek) (by simp[View.set,bz]) Q w λM=>?_
 simp(disch:=omega)only[↓wr,seval,wq]
 refine⟨NI (kv:=nR) s L i r D,?_⟩
 rw[set_set]
 have F:HR (bA x (bz (k+1:Nat)) M (bA x (bz k) (cl a) (mm a))) (fY S a x a) (B+1):=by
  simp only[fY,if_true]
  exact LC t k (u.elim (λh=>.inl ⟨h.1,h.2.1⟩) .inr) O _
 have l:=h.wrote j (Q.MA w (bz (k+1:Nat)) M) F
 have q:getM (bA x (bz (k+1:Nat)) M (bA x (bz k) (cl a) (mm a))) x=some (bz (k+1:Nat)):=by rw[po];simp
 simp only[bz] at l q ⊢
 generalize bA x (.val (.int .i64 ((k+1:Nat):Int))) M (bA x (.val (.int .i64 (k:Int))) (cl a) (mm a))=m2 at l q ⊢
 generalize View.set H (A a) (.map (bU nR m2) P)=H2 at l ⊢
 have R:c≠A a:=λe=>by
  have:=h.box
  rw[e,r] at this;simp at this
 simp only[OK R,h.box]
 simp(disch:=omega)only[↓wr,seval,wq,l.box,l.seen,gI j]
 refine⟨j,by simp;omega,?_⟩
 have G:=(l.map a j).1
 simp only[if_true] at G
 refine K1 (kv:=nR) (kt:=191) (et:=3) (z:=gi 0) s L i (id:=A a) (c:=P) (m:=m2) (k:=x) (by simp(disch:=omega)only[↓wr,seval,wq]) (by simp(disch:=omega)only[↓wr,seval,wq];rfl) G ?_
 rw[q]
 simp(disch:=omega)only[↓wr,seval,wq,OS]
 apply ag.eq<;>intro e
 .have d:¬ x∈S a:=by
   rcases u with f | f
   .omega
   .exact f.1
  simp(disch:=omega)only[↓wr,seval,wq,l.box,l.fe,gI j]
  refine⟨j,by simp;omega,λb1 T=>?_⟩
  rw[cL]
  have f:=l.new T (o:=.arr 3 [dx x]) (by simp)
  simp only[dx,bz] at f
  have U:=f.off _ (P3 ..)
  generalize View.set H2 b1 _=H3 at f U ⊢
  have W:=f.set a j
  have X:fv (.ptr c 0 6) (sv a):=by
   rcases W with ⟨_,k,e⟩ | ⟨m,e,hm⟩
   .rw[e];trivial
   .rw[e]
    show c≠m
    rintro rfl
    have:=f.box
    rw[hm] at this;simp at this
  simp(disch:=omega)only[↓wr,seval,wq]
  refine p7 W (by simp) (by simp[V.cells,aD]) (by simp[aB];omega) (by simp[aB];omega) λu' H' y I=>?_
  have Y:owner (sv a)≠some C:=λe=>by
   have:=(W.live e).1
   rw[f.fe] at this;simp at this
  have J:=(I C (by rw[f.fe];simp) Y).1
  rw[f.fe] at J
  simp(disch:=omega)only[↓wr,seval,wq,J,y.cells,y.tz,gI j]
  refine⟨j,by simp;omega,X,?_⟩
  have h4:=f.MV j d (u':=u') y I
  exact Ch.drop ⟨_,_,_,_,_,_,h4⟩
 .have d:x∈S a:=by
   rcases u with f | f
   .exact f.1
   .omega
  simp(disch:=omega)only[↓wr,seval,wq]
  have hS:fY S a x=S:=by
   funext b
   simp only[fY,OM d]
   split
   .rename_i e;rw[e]
   .rfl
  rw[hS] at l ⊢
  exact⟨_,_,_,_,_,_,l⟩
end Gv
