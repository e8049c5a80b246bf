/-
  Part 10 of the proof: what the machine does and what the functions answer.
  Conditions: those that each lemma names.
-/
import Derived.Test.YtiophifnkakjgaaGreatSGzC4I
set_option linter.unusedSimpArgs false
set_option linter.unusedVariables false
set_option maxRecDepth 100000
set_option maxHeartbeats 20000000
namespace Gv
noncomputable section
open Go Go.Proofs
theorem Pk {l:List Int} {a b:List Bool} {t:Bool} (h:iM a b) (k:fB l a t=true):fB l b t=true:=by
 simp only[fB,abC] at k ⊢
 intro s d
 have:=k s d
 by_cases c:0<=s
 .rw[abb c] at this ⊢;exact this
 .rw[aa9 c] at this ⊢;exact h.2 _ this
theorem iM.V2 {a b:List Bool} (h:iM a b) (k:iM b a):a=b:=by
 have h1:=h.dp
 have c:=k.dp
 exact h1.2 (by omega)
def qy (g:ak) (t:Bool) (is:List Bool):Prop:=∀i,is.getD i false=true->∃r∈g.rules,r.left.toNat=i/\fB r.right is t=true
theorem qy.step {g:ak} {t:Bool} {is:List Bool} {r:bf} (h:qy g t is) (hr:r∈g.rules):qy g t (fu t is r):=by
 have hle:iM is (fu t is r):=by
  unfold fu
  split
  .exact .set _ _
  .exact .refl _
 intro i hi
 by_cases e:is.getD i false=true
 .obtain⟨c,h1,d,f⟩:=h i e
  exact⟨c,h1,d,Pk hle f⟩
 .unfold fu at hi
  by_cases a:fB r.right is t=true
  .rw[abb a] at hi
   have:r.left.toNat=i:=by
    refine acF λb=>e ?_
    simp only[aa7,ab1,aa9 b] at hi ⊢
    exact hi
   exact⟨r,hr,this,Pk hle a⟩
  .rw[aa9 a] at hi;exact absurd hi e
theorem qy.fold {g:ak} {t:Bool}:∀(l:List bf) (is:List Bool),(∀r∈l,r∈g.rules)->qy g t is->qy g t (l.foldl (fu t) is)
 | [],is,_,h=>h
 | r::l,is,a,h=>qy.fold l _ (λx b=>a x (by simp[b])) (h.step (a r (by simp)))
theorem qy.iter {g:ak} {t:Bool}:∀(n:Nat) (is:List Bool),qy g t is->qy g t (iter (lO g t) n is)
 | 0,_,h=>h
 | n+1,is,h=>qy.iter n _ (qy.fold g.rules is (λ_ h=>h) h)
theorem Ra (g:ak) (t:Bool):qy g t (bk g t):=by
 unfold bk
 split
 .refine qy.iter _ _ ?_
  intro i hi
  simp only[cK,aa7,ab0] at hi
  split at hi<;>simp at hi
 .intro i hi;simp at hi
theorem OU (is:List Bool) (s:Int):iM is (mark is s):=by
 unfold mark
 split
 .exact .set _ _
 .exact .refl _
theorem Ec:∀(l:List Int) (is:List Bool),iM is (l.foldl mark is)
 | [],is=>.refl _
 | s::l,is=>(OU is s).trans (Ec l _)
theorem MC (p is:List Bool) (r:bf):iM is (jb p is r):=by
 unfold jb
 split
 .exact Ec _ _
 .exact .refl _
theorem Me (p:List Bool):∀(l:List bf) (is:List Bool),iM is (l.foldl (jb p) is)
 | [],is=>.refl _
 | r::l,is=>(MC p is r).trans (Me p l _)
theorem ID {p:List Bool}:∀ {l:List bf} {is:List Bool},l.foldl (jb p) is=is->∀r∈l,jb p is r=is
 | [],_,_,_,h=>by simp at h
 | r::l,is,h,x,a=>by
  rw[abY] at h
  have h1:=Me p l (jb p is r)
  rw[h] at h1
  have b:=(h1.V2 (MC p is r))
  rcases abw.1 a with rfl | a
  .exact b
  .rw[b] at h;exact ID h x a
theorem JC:∀ {l:List Int} {is:List Bool},l.foldl mark is=is->∀s∈l,mark is s=is
 | [],_,_,_,h=>by simp at h
 | r::l,is,h,x,a=>by
  rw[abY] at h
  have h1:=Ec l (mark is r)
  rw[h] at h1
  have b:=(h1.V2 (OU is r))
  rcases abw.1 a with rfl | a
  .exact b
  .rw[b] at h;exact JC h x a
theorem I9 {g:ak} (hr:bu g=true):tD g (bk g true) (cU g)=cU g/\iM ((cK g).set g.start.toNat true) (cU g):=by
 have a:=bF hr
 have h:=xz (vP (bk g true)) g.rules 16 ((cK g).set g.start.toNat true) (by have:=a.av;simp[cK];omega)
 rw[Pc,Te hr] at h
 exact h
theorem M9 {g:ak} (hr:bu g=true):(cU g).getD g.start.toNat false=true:=by
 have a:=bF hr
 refine(I9 hr).2.2 _ ?_
 have b:=a.lB
 have c:=a.start
 simp only[aa7]
 rw[ac1 (by simp[cK];omega)]
 rfl
theorem Q7 {g:ak} (hr:bu g=true) {r:bf} (hm:r∈g.rules) (hk:dP (bk g true) (cU g) r=true) {s:Int} (b:s∈r.right) (c:s<0):(cU g).getD (-1-s).toNat false=true:=by
 have d:=bF hr
 have h1:=ID (I9 hr).1 r hm
 unfold jb at h1
 rw[dP] at hk
 rw[abb hk] at h1
 have a:=JC h1 s b
 unfold mark at a
 rw[abb c] at a
 rw[<-a]
 have e:=sH hr
 have:=d.neg hm b c
 simp only[aa7]
 rw[ac1 (by omega)]
 rfl
theorem Sf {g:ak} (hr:bu g=true) {x:Int} (d:0<=x) (hp:(bk g true).getD x.toNat false=true) (a:(cU g).getD x.toNat false=true):x∈cZ (bk g true) (cU g) g.rules:=by
 obtain⟨r,h1,e,b⟩:=Ra g true _ hp
 have c:=bF hr
 have f:=c.left r h1
 have:r.left=x:=by omega
 refine Kq.2 ⟨r,h1,?_,this⟩
 rw[dP,this,a,b];rfl
theorem QR (g:ak):(if bu g=true then
  if (bk g true).getD g.start.toNat false=true then (zD g (eY (cZ (bk g true) (cU g) g.rules)) (bk g true) (cU g),dD (bk g true) (cU g) g.rules 0,0)
  else (vR,[],9)
 else (vR,[],1))=iS g:=by
 unfold iS
 by_cases hr:bu g=true
 .rw[abb hr,abb hr]
  by_cases hp:(bk g true).getD g.start.toNat false=true
  .rw[abb hp,abb hp]
   have c:=bF hr
   rw[Sw]
   .exact Sf hr c.lB hp (M9 hr)
   .intro r hm
    obtain⟨h1,a⟩:=acr.1 hm
    refine⟨Kq.2 ⟨r,h1,a,rfl⟩,λs b d=>?_⟩
    refine Sf hr (by omega) ?_ (Q7 hr h1 a b d)
    rw[dP,abh] at a
    have:=a.2
    simp only[fB,abC] at this
    have:=this s b
    rwa [aa9 (by omega)] at this
  .rw[aa9 hp,aa9 hp]
 .rw[aa9 hr,aa9 hr]
theorem PW (g:ak) (a:g.Ok) (b:g.Small):bX aa 92 [.agg (aj g)] (Ax (iS g)):=by
 rw[<-QR];exact MZ g a b
def cd (g:ak) (k:Int):bf:=g.rules.getD k.toNat ⟨0,[],0⟩
theorem getD_some {α:Type} {l:List α} {j:Nat} {d:α} (h:j<l.length):l[j]?=some (l.getD j d):=by simp[h]
section
variable {g r:ak} {p q:List Bool} {o:List Int}
end
theorem VK {l:List Bool} {i j:Nat} (h:(l.set i true).getD j false=true):j=i∨l.getD j false=true:=by
 by_cases e:i=j
 .exact .inl e.symm
 .right
  simp only[aa7,ab1,aa9 e] at h ⊢
  exact h
theorem QZ {g:ak} {i:Nat} : (cK g).getD i false=false:=by
 simp only[cK,aa7,ab0]
 split<;>rfl
theorem Ij (t:Bool) (is:List Bool) (R:bf):iM is (fu t is R):=by
 unfold fu
 split
 .exact .set _ _
 .exact .refl _
theorem Im (t:Bool):∀(l:List bf) (is:List Bool),iM is (l.foldl (fu t) is)
 | [],is=>.refl _
 | R::l,is=>(Ij t is R).trans (Im t l _)
theorem GK {t:Bool}:∀ {l:List bf} {is:List Bool},l.foldl (fu t) is=is->∀R∈l,fu t is R=is
 | [],_,_,_,h=>by simp at h
 | R::l,is,h,x,a=>by
  rw[abY] at h
  have h1:=Im t l (fu t is R)
  rw[h] at h1
  have b:=(h1.V2 (Ij t is R))
  rcases abw.1 a with rfl | a
  .exact b
  .rw[b] at h;exact GK h x a
theorem TO {g:ak} (hr:bu g=true) (t:Bool):lO g t (bk g t)=bk g t:=by
 have a:=bF hr
 have h:=xz (nW t) g.rules 16 (cK g) (by have:=a.av;simp[cK];omega)
 rw[OW,MR hr] at h
 exact h.1
theorem Cx {g:ak} (hr:bu g=true) {t:Bool} {R:bf} (a:R∈g.rules) (b:fB R.right (bk g t) t=true):(bk g t).getD R.left.toNat false=true:=by
 have h1:=GK (TO hr t) R a
 have c:=bF hr
 have d:=jj hr t
 have e:=c.left R a
 unfold fu at h1
 rw[abb b] at h1
 rw[<-h1]
 simp only[aa7]
 rw[ac1 (by omega)]
 rfl
section
variable {g r:ak} {p q:List Bool} {o:List Int}
end
def isRed (g:ak):Bool:=(iS g).2.2==0&&decide (g=(iS g).1)
def vN (p:List Int) (i:Nat) (s:Int):Prop:=∃c,p[i]?=some c/\(c=s∨c = -1)
inductive Sp (g:ak) (p:List Int):List Int->Nat->Nat->Prop
 | nil (i:Nat):Sp g p [] i i
 | term (s:Int) (l:List Int) (i j:Nat):0<=s->vN p i s->Sp g p l (i+1) j->Sp g p (s::l) i j
 | eN (s:Int) (l:List Int) (R:bf) (i k j:Nat):s<0->R∈g.rules->R.left = -1-s->Sp g p R.right i k->Sp g p l k j->Sp g p (s::l) i j
theorem Sp.le {g:ak} {p:List Int} {l:List Int} {i j:Nat} (h:Sp g p l i j):i<=j:=by
 induction h with
 | nil=>exact abg _
 | term _ _ _ _ _ _ _ c=>omega
 | eN _ _ _ _ _ _ _ _ _ _ _ a b=>omega
theorem Sp.len {g:ak} {p:List Int} {l:List Int} {i j:Nat} (h:Sp g p l i j):i<=p.length->j<=p.length:=by
 induction h with
 | nil=>exact id
 | term _ _ i _ _ d _ e =>
  intro _
  obtain⟨c,f,_⟩:=d
  have:=(abf.1 f).1
  exact e (by omega)
 | eN _ _ _ _ _ _ _ _ _ _ _ a b=>exact λh=>b (a h)
theorem Sp.app {g:ak} {p:List Int} {a:List Int} {i k:Nat} (h:Sp g p a i k):∀ {b:List Int} {j:Nat},Sp g p b k j->Sp g p (a++b) i j:=by
 induction h with
 | nil=>exact λh=>h
 | term s l i _ c f _ m=>exact λd=>.term s _ i _ c f (m d)
 | eN s l R i k _ c n o h1 _ _ e=>exact λd=>.eN s _ R i k _ c n o h1 (e d)
theorem Sp.split {g:ak} {p:List Int}:∀ {a b:List Int} {i j:Nat},Sp g p (a++b) i j->∃k,Sp g p a i k/\Sp g p b k j
 | [],b,i,j,h=>⟨i,.nil i,h⟩
 | s::a,b,i,j,h=>by
  cases h with
  | term _ _ _ _ c e h =>
   obtain⟨k,h1,d⟩:=Sp.split h
   exact⟨k,.term s a i k c e h1,d⟩
  | eN _ _ R _ m _ c f l h1 h =>
   obtain⟨k,d,n⟩:=Sp.split h
   exact⟨k,.eN s a R i m k c f l h1 d,n⟩
theorem Xu {g:ak} (hr:bu g=true) {p l:List Int} {i j:Nat} (h:Sp g p l i j):i=j->fB l (bk g false) false=true:=by
 induction h with
 | nil=>intro _;rfl
 | term _ _ _ _ _ _ h _=>intro e;have:=h.le;omega
 | eN s l R i k j m c d h1 f a b =>
  intro e
  have n:=h1.le
  have o:=f.le
  have g1:=Cx hr c (a (by omega))
  rw[d] at g1
  have g2:=b (by omega)
  simp only[fB,acj,abh] at g2 ⊢
  rw[aa9 (by omega)]
  exact⟨g1,g2⟩
def xb (g:ak) (is:List Bool):Prop:=∀i,is.getD i false=true->∃R∈g.rules,R.left.toNat=i/\∀(p:List Int) (k:Nat),Sp g p R.right k k
theorem Kx {g:ak} (a:∀r∈g.rules,0<=r.left) {is:List Bool} (h:xb g is):∀l:List Int,fB l is false=true->∀(p:List Int) (k:Nat),Sp g p l k k
 | [],_,p,k=>.nil k
 | s::l,b,p,k=>by
  simp only[fB,acj,abh] at b
  obtain⟨h1,e⟩:=b
  by_cases c:0<=s
  .rw[abb c] at h1;simp at h1
  .rw[aa9 c] at h1
   obtain⟨R,d,i,f⟩:=h _ h1
   have:=a R d
   exact .eN s l R k k k (by omega) d (by omega) (f p k) (Kx a h l e p k)
theorem PU {g:ak} (hr:bu g=true):xb g (bk g false):=by
 have j:=bF hr
 have b:=λr c=>(j.left r c).1
 have d:∀(is:List Bool) (R:bf),R∈g.rules->xb g is->xb g (fu false is R):=by
  intro is R k h i hi
  unfold fu at hi
  split at hi
  .rename_i m
   rcases VK hi with rfl | hi
   .exact⟨R,k,rfl,Kx b h R.right m⟩
   .exact h i hi
  .exact h i hi
 have a:∀(l:List bf) (is:List Bool),(∀R∈l,R∈g.rules)->xb g is->xb g (l.foldl (fu false) is):=by
  intro l
  induction l with
  | nil=>intro is _ h;exact h
  | cons R l e=>intro is b h;exact e _ (λx o=>b x (by simp[o])) (d is R (b R (by simp)) h)
 have f:∀(n:Nat) (is:List Bool),xb g is->xb g (iter (lO g false) n is):=by
  intro n
  induction n with
  | zero=>intro is h;exact h
  | succ n e=>intro is h;exact e _ (a g.rules is (λ_ h=>h) h)
 unfold bk
 rw[abb hr]
 exact f _ _ λi hi=>by rw[QZ] at hi;simp at hi
structure Item where
 aB:Nat
 dot:Nat
 ep:Nat
 deriving DecidableEq
def Sound (g:ak) (p:List Int) (at_:Nat) (x:Item):Prop:=∃R,g.rules[x.aB]?=some R/\x.dot<=R.right.length/\x.ep<=at_/\Sp g p (R.right.take x.dot) x.ep at_
structure Fa (g:ak) (p:List Int) (S:Nat->List Item):Prop where
 start:∀(i:Nat) (R:bf),g.rules[i]?=some R->R.left=g.start->⟨i,0,0⟩∈S 0
 term:∀a x R s,x∈S a->g.rules[x.aB]?=some R->R.right[x.dot]?=some s->0<=s->vN p a s->⟨x.aB,x.dot+1,x.ep⟩∈S (a+1)
 pred:∀a x R s i R',x∈S a->g.rules[x.aB]?=some R->R.right[x.dot]?=some s->s<0->g.rules[i]?=some R'->R'.left = -1-s->a<=p.length->⟨i,0,a⟩∈S a
 null:∀a x R s,x∈S a->g.rules[x.aB]?=some R->R.right[x.dot]?=some s->s<0->(bk g false).getD (-1-s).toNat false=true->a<=p.length->⟨x.aB,x.dot+1,x.ep⟩∈S a
 comp:∀a y R' x R s,y∈S a->g.rules[y.aB]?=some R'->y.dot=R'.right.length->y.ep<a->x∈S y.ep->g.rules[x.aB]?=some R->R.right[x.dot]?=some s->s<0->R'.left = -1-s->a<=p.length->⟨x.aB,x.dot+1,x.ep⟩∈S a
theorem P6 {g:ak} (hr:bu g=true) {p:List Int} {S:Nat->List Item} (w:Fa g p S) {l:List Int} {a j:Nat} (h:Sp g p l a j):
  ∀(x:Item) (R:bf),x∈S a->g.rules[x.aB]?=some R->R.right.drop x.dot=l->x.dot<=R.right.length->a<=p.length->⟨x.aB,R.right.length,x.ep⟩∈S j:=by
 induction h with
 | nil i =>
  intro x R d b f hle _
  have:x.dot=R.right.length:=by
   have:=ach List.length f
   simp at this;omega
  rw[<-this];exact d
 | term s l i j u E _ G =>
  intro x R d b f hle hp
  have m:R.right[x.dot]?=some s:=by
   have:=ach (·[0]?) f
   simpa using this
  have n:=(abf.1 m).1
  have h1:=w.term i x R s d b m u E
  obtain⟨c,y,_⟩:=E
  have H:=(abf.1 y).1
  refine G ⟨x.aB,x.dot+1,x.ep⟩ R h1 b ?_ n (by omega)
  have:=ach List.tail f
  simpa using this
 | eN s l Q i k j u F z o I A B =>
  intro x R d b f hle hp
  have m:R.right[x.dot]?=some s:=by
   have:=ach (·[0]?) f
   simpa using this
  have n:=(abf.1 m).1
  obtain⟨q,J,C⟩:=acY F
  have r:g.rules[q]?=some Q:=by rw[aa8 J,C]
  have D:=w.pred i x R s q Q d b m u r z hp
  have t:=A ⟨q,0,i⟩ Q D r (by simp) (by simp) hp
  have hk:=o.len hp
  have v:⟨x.aB,x.dot+1,x.ep⟩∈S k:=by
   rcases Nat.lt_or_eq_of_le o.le with e | e
   .exact w.comp k ⟨q,Q.right.length,i⟩ Q x R s t r rfl e d b m u z hk
   .subst e
    have:=Cx hr F (Xu hr o rfl)
    rw[z] at this
    exact w.null i x R s d b m u this hp
  refine B ⟨x.aB,x.dot+1,x.ep⟩ R v b ?_ n hk
  have:=ach List.tail f
  simpa using this
theorem Um {g:ak} (hr:bu g=true) {p:List Int} {S:Nat->List Item} (j:Fa g p S) (l:∀a x,x∈S a->Sound g p a x):
  (∃x∈S p.length,∃R,g.rules[x.aB]?=some R/\R.left=g.start/\x.ep=0/\x.dot=R.right.length)↔Sp g p [-1-g.start] 0 p.length:=by
 have m:=bF hr
 have u:=m.lB
 constructor
 .rintro⟨x,n,R,e,o,f,r⟩
  obtain⟨v,c,_,_,b⟩:=l _ x n
  rw[e] at c;simp at c;subst c
  rw[r,acu,f] at b
  exact .eN _ _ R 0 p.length p.length (by omega) (abi e) (by omega) b (.nil _)
 .intro h
  cases h with
  | term _ _ _ _ h1 _ _=>omega
  | eN _ _ R _ k _ h1 e o b s =>
   cases s
   obtain⟨q,t,i⟩:=acY e
   have d:g.rules[q]?=some R:=by rw[aa8 t,i]
   have:=P6 hr j b ⟨q,0,0⟩ R (j.start q R d (by omega)) d (by simp) (by simp) (by omega)
   exact⟨_,this,R,d,by omega,rfl,rfl⟩
inductive In (p:List Int) (T:Nat->Nat->Nat->Prop):List Int->Nat->Nat->Prop
 | nil (i:Nat):In p T [] i i
 | term (s:Int) (l:List Int) (i j:Nat):0<=s->vN p i s->In p T l (i+1) j->In p T (s::l) i j
 | eN (s:Int) (l:List Int) (i k j:Nat):s<0->T (-1-s).toNat i k->In p T l k j->In p T (s::l) i j
theorem W4 {g:ak} {p:List Int} {T:Nat->Nat->Nat->Prop} (c:∀n i j,T n i j->Sp g p [-1-(n:Int)] i j) {l:List Int} {i j:Nat} (h:In p T l i j):Sp g p l i j:=by
 induction h with
 | nil i=>exact .nil i
 | term s l i j b d _ a=>exact .term s l i j b d a
 | eN s l i k j b h1 _ a =>
  have:=c _ _ _ h1
  rw[show -1-(((-1-s).toNat:Nat):Int)=s by omega] at this
  exact Sp.app this a
theorem Zw {g:ak} (u:∀r∈g.rules,0<=r.left) {p:List Int} {T:Nat->Nat->Nat->Prop} (n:∀R∈g.rules,∀i j,i<=p.length->In p T R.right i j->T R.left.toNat i j) {l:List Int} {i j:Nat} (h:Sp g p l i j):i<=p.length->In p T l i j:=by
 induction h with
 | nil i=>intro _;exact .nil i
 | term s l i j a b _ o =>
  intro _
  obtain⟨c,m,d⟩:=b
  have:=(abf.1 m).1
  exact .term s l i j a ⟨c,m,d⟩ (o (by omega))
 | eN s l R i k j a q t h1 _ e f =>
  intro hp
  have:=n R q i k hp (e hp)
  rw[t] at this
  exact .eN s l i k j a this (f (h1.len hp))
theorem SK {g:ak} (b:∀r∈g.rules,0<=r.left) {p:List Int} {T:Nat->Nat->Nat->Prop} (c:∀n i j,T n i j->Sp g p [-1-(n:Int)] i j) (a:∀R∈g.rules,∀i j,i<=p.length->In p T R.right i j->T R.left.toNat i j) {n i j:Nat} (hi:i<=p.length):
  T n i j↔Sp g p [-1-(n:Int)] i j:=by
 refine⟨c n i j,λh=>?_⟩
 cases h with
 | term _ _ _ _ d _ _=>omega
 | eN _ _ R _ k _ d e l h1 f =>
  cases f
  have:=a R e i _ hi (Zw b a h1 hi)
  rw[show R.left.toNat=n by omega] at this
  exact this
theorem In.app {p:List Int} {T:Nat->Nat->Nat->Prop} {a:List Int} {i k:Nat} (h:In p T a i k):∀ {b:List Int} {j:Nat},In p T b k j->In p T (a++b) i j:=by
 induction h with
 | nil=>exact λh=>h
 | term s l i _ c f _ d=>exact λe=>.term s _ i _ c f (d e)
 | eN s l i k _ c h1 _ d=>exact λe=>.eN s _ i k _ c h1 (d e)
theorem In.split {p:List Int} {T:Nat->Nat->Nat->Prop}:∀ {a b:List Int} {i j:Nat},In p T (a++b) i j->∃k,In p T a i k/\In p T b k j
 | [],b,i,j,h=>⟨i,.nil i,h⟩
 | s::a,b,i,j,h=>by
  cases h with
  | term _ _ _ _ c e h =>
   obtain⟨k,h1,d⟩:=In.split h
   exact⟨k,.term s a i k c e h1,d⟩
  | eN _ _ _ m _ c h1 h =>
   obtain⟨k,d,f⟩:=In.split h
   exact⟨k,.eN s a i m k c h1 d,f⟩
theorem In.le {p:List Int} {T:Nat->Nat->Nat->Prop} (a:∀n i j,T n i j->i<=j) {l:List Int} {i j:Nat} (h:In p T l i j):i<=j:=by
 induction h with
 | nil=>exact abg _
 | term _ _ _ _ _ _ _ b=>omega
 | eN _ _ _ _ _ _ h1 _ b=>have:=a _ _ _ h1;omega
def stepT (p:List Int) (T:Nat->Nat->Nat->Prop) (s:Int) (i j:Nat):Prop:=if 0<=s then vN p i s/\j=i+1 else T (-1-s).toNat i j
theorem In.one {p:List Int} {T:Nat->Nat->Nat->Prop} {s:Int} {i j:Nat} : In p T [s] i j↔stepT p T s i j:=by
 unfold stepT
 constructor
 .intro h
  cases h with
  | term _ _ _ _ a b h=>cases h;rw[abb a];exact⟨b,rfl⟩
  | eN _ _ _ _ _ a h1 h=>cases h;rw[aa9 (by omega)];exact h1
 .intro h
  by_cases a:0<=s
  .rw[abb a] at h
   obtain⟨b,rfl⟩:=h
   exact .term s [] i _ a b (.nil _)
  .rw[aa9 a] at h
   exact .eN s [] i j j (by omega) h (.nil _)
theorem In.snoc {p:List Int} {T:Nat->Nat->Nat->Prop} {a:List Int} {s:Int} {i j:Nat} : In p T (a++[s]) i j↔∃k,In p T a i k/\stepT p T s k j:=
 ⟨λh=>by obtain⟨k,h1,b⟩:=h.split;exact⟨k,h1,In.one.1 b⟩,λ⟨k,h1,b⟩=>h1.app (In.one.2 b)⟩
abbrev Tb:=List (List (List Bool))
def iB (T:Tb) (n i j:Nat):Bool:=((T.getD n []).getD i []).getD j false
def kP (T:Tb) (N M:Nat):Prop:=T.length=N/\∀r∈T,r.length=M/\∀c∈r,c.length=M
theorem kP.row {T:Tb} {N M n:Nat} (h:kP T N M) (a:n<N):∃r,T[n]?=some r/\r.length=M/\T.getD n []=r:=by
 have:n<T.length:=by rw[h.1];exact a
 exact⟨T[n],aa8 this,(h.2 _ (abe _)).1,by simp[this]⟩
theorem kP.cell {T:Tb} {N M n i:Nat} (h:kP T N M) (a:n<N) (hi:i<M):∃r c,T[n]?=some r/\r[i]?=some c/\c.length=M/\(T.getD n []).getD i []=c:=by
 obtain⟨r,hr,d,b⟩:=h.row a
 have h1:i<r.length:=by omega
 refine⟨r,r[i],hr,aa8 h1,(h.2 r (abi hr)).2 _ (abe _),?_⟩
 rw[b];simp[h1]
def qX (T:Tb) (n i j:Nat):Tb:=T.set n ((T.getD n []).set i (((T.getD n []).getD i []).set j true))
def BP (N M:Nat):Tb:=List.replicate N (List.replicate M (List.replicate M false))
theorem Ox (N M:Nat):kP (BP N M) N M:=by
 refine⟨by simp[BP],λr hr=>?_⟩
 simp only[BP,List.mem_replicate] at hr
 obtain⟨_,rfl⟩:=hr
 refine⟨by simp,λc a=>?_⟩
 simp only[List.mem_replicate] at a
 obtain⟨_,rfl⟩:=a
 simp
theorem Yo (N M n i j:Nat):iB (BP N M) n i j=false:=by
 simp only[iB,BP,aa7,ab0]
 split
 .simp only[abp,ab0]
  split
  .simp only[abp,ab0]
   split<;>rfl
  .rfl
 .rfl
theorem U1 {T:Tb} {N M n i j:Nat} (h:kP T N M) (k:n<N) (hi:i<M):kP (qX T n i j) N M:=by
 obtain⟨r,c,hr,m,e,l⟩:=h.cell k hi
 obtain⟨o,a,f,b⟩:=h.row k
 rw[hr] at a;simp at a;subst a
 refine⟨by simp[qX,h.1],λx d=>?_⟩
 rw[qX,b,] at d
 rcases List.mem_or_eq_of_mem_set d with d | rfl
 .exact h.2 x d
 .refine⟨by simp[f],λy g=>?_⟩
  rcases List.mem_or_eq_of_mem_set g with g | rfl
  .exact(h.2 r (abi hr)).2 y g
  .rw[b] at l
   rw[l];simp[e]
theorem WK {T:Tb} {N M n i j d f k:Nat} (h:kP T N M) (l:n<N) (hi:i<M) (y:j<M):iB (qX T n i j) d f k=if d=n/\f=i/\k=j then true else iB T d f k:=by
 obtain⟨r,c,hr,z,u,t⟩:=h.cell l hi
 obtain⟨A,a,v,b⟩:=h.row l
 rw[hr] at a;simp at a;subst a
 have w:n<T.length:=by rw[h.1];exact l
 have m:i<r.length:=by omega
 have o:j<c.length:=by omega
 rw[b] at t
 have g:r.getD i []=c:=t
 simp only[iB,qX,b,g]
 by_cases p:d=n
 .subst p
  have x:(T.set d (r.set i (c.set j true))).getD d []=r.set i (c.set j true):=by simp[w]
  rw[x,b]
  by_cases q:f=i
  .subst q
   have a2:(r.set f (c.set j true)).getD f []=c.set j true:=by simp[m]
   rw[a2,g]
   by_cases s:k=j
   .subst s
    simp[o]
   .rw[aa9 (λe=>s e.2.2)]
    simp[Ne.symm s]
  .rw[aa9 (λe=>q e.2.1)]
   simp[Ne.symm q]
 .rw[aa9 (λe=>p e.1)]
  simp[Ne.symm p]
def kF (p:List Int) (T:Tb) (s:Int) (a j:Nat):Bool:=
 if 0<=s then decide (a<p.length)&&(p.getD a 0==s||p.getD a 0 == -1)&&decide (j=a+1) else decide (a<=j)&&iB T (-1-s).toNat a j
def fD (p:List Int) (T:Tb) (s:Int) (now:List Bool) (f a0 j:Nat):Bool:=(List.range a0).any λa=>decide (f<=a)&&now.getD a false&&kF p T s a j
def gF (M:Nat) (F:Nat->Bool):List Bool:=(List.range M).map F
def oN (p:List Int) (T:Tb) (f:Nat) (now:List Bool) (s:Int):List Bool:=gF (p.length+1) (fD p T s now f (p.length+1))
def mc (p:List Int) (T:Tb) (l:List Int) (f:Nat):List Bool:=l.foldl (oN p T f) (gF (p.length+1) λj=>decide (j=f))
theorem lI (M:Nat) (F:Nat->Bool):(gF M F).length=M:=by simp[gF]
theorem L8 {M j:Nat} {F:Nat->Bool} (h:j<M):(gF M F).getD j false=F j:=by simp[gF,h]
theorem NP {M i:Nat} {F:Nat->Bool} (v:Bool):(gF M F).set i v=gF M λj=>if j=i then v else F j:=by
 apply ab2 (by simp[gF])
 intro j h1 a
 simp only[gF,abc,List.length_range] at a
 simp only[gF,List.getElem_set,ac4,adl]
 by_cases e:i=j
 .subst e;simp
 .rw[aa9 e,aa9 (Ne.symm e)]
theorem mq {M:Nat} {F G:Nat->Bool} (h:∀j,j<M->F j=G j):gF M F=gF M G:=by
 unfold gF
 apply aca
 intro j a
 exact h j (by simpa using a)
theorem Be (p:List Int) (T:Tb) (f:Nat):∀(l:List Int) (now:List Bool),now.length=p.length+1->(l.foldl (oN p T f) now).length=p.length+1
 | [],_,h=>h
 | s::l,now,_=>Be p T f l _ (by rw[oN,lI])
theorem I3 (p:List Int) (T:Tb) (l:List Int) (f:Nat):(mc p T l f).length=p.length+1:=Be p T f l _ (lI _ _)
theorem QX (p:List Int) (T:Tb) (s:Int) (now:List Bool) (f a j:Nat):fD p T s now f (a+1) j=(fD p T s now f a j||(decide (f<=a)&&now.getD a false&&kF p T s a j)):=by
 simp[fD,acD]
theorem MW (p:List Int) (T:Tb) (s:Int) (now:List Bool) (f j:Nat):fD p T s now f f j=false:=by
 simp only[fD,List.any_eq_false,ab7]
 intro a b
 rw[decide_eq_false (by omega)];simp
def oH (T:Tb):V:=.aY (T.map λr=>[.aY (r.map λc=>[bY c])])
theorem P3 (T:Tb):Tree (oH T):=eA _ _ λr _ v a=>by
 simp at a;subst a
 exact eA _ _ λc _ v a=>by simp at a;subst a;exact jQ c
def qR:SC:=
 ai [ai [ag [af 75 13,af 76 1,aM 77 76,aS 78 .leq 75 77],bO 78 (.exit 4)],.block 5 (.region false [⟨none,[af 81 11,af 82 13,af 83 11,af 84 13,aL 85 1 83 84,au 86 85,af 87 86]⟩,⟨(some (87,false)),[af 88 2,af 89 0,af 90 10,aL 91 1 89 90,au 92 91,((some 93),.op (.arith .sub (.val (.val (.int .i64 (-1)))) (.tmp 92))),aL 94 1 88 93,au 95 94,af 96 12,aL 97 1 95 96,au 98 97,af 99 13,aL 100 1 98 99,au 101 100]⟩,⟨none,[cJ 102 87 101,aL 103 1 81 82,cz 1 103 102]⟩]),ag [af 79 13,aI 80 .add 79 1,af 13 80]]
def pR:SC:=
 ai [ai [ag [af 32 12,af 33 1,aM 34 33,aS 35 .leq 32 34],bO 35 (.exit 2)],.block 3 (ai [ai [ag [af 38 9,af 39 12,aL 40 1 38 39,au 41 40,cO 42 41],aX 42 (.exit 3)],ai [ag [af 43 0,af 44 10,aL 45 1 43 44,au 46 45,aI 47 .geq 46 0],aX 47 (ai [ai [.region false [⟨none,[af 48 12,af 49 1,aM 50 49,aS 51 .lss 48 50,af 52 51]⟩,⟨(some (52,true)),[af 53 1,af 54 12,aL 55 1 53 54,au 56 55,af 57 0,af 58 10,aL 59 1 57 58,au 60 59,aS 61 .eql 56 60,af 62 61]⟩,⟨(some (62,false)),[af 63 1,af 64 12,aL 65 1 63 64,au 66 65,aI 67 .eql 66 (-1)]⟩,⟨(some (52,true)),[cJ 68 62 67]⟩,⟨none,[dA 69 52 68]⟩],aX 69 (ag [af 70 11,af 71 12,aI 72 .add 71 1,aL 73 1 70 72,(none,.op (.store 1 (.tmp 73) (.val (.val (.bool true)))))])],.exit 3])],ag [af 74 12,af 13 74],bR 4 qR]),ag [af 36 12,aI 37 .add 36 1,af 12 37]]
def qA:SC:=
 ai [ai [ag [af 21 10,af 22 0,aM 23 22,aS 24 .lss 21 23],bO 24 (.exit 0)],.block 1 (ai [ag [af 27 1,aM 28 27,aI 29 .add 28 1,((some 30),.op (.make 1 1 [(.val (.bool false))] (.tmp 29) (.tmp 29))),af 11 30],ai [ag [af 31 3,af 12 31],bR 2 pR],ag [af 104 11,af 9 104]]),ag [af 25 10,aI 26 .add 25 1,af 10 26]]
def tJ:SF:=⟨ai [ag [bL 8 1],ag [af 14 1,aM 15 14,aI 16 .add 15 1,((some 17),.op (.make 1 1 [(.val (.bool false))] (.tmp 16) (.tmp 16))),af 9 17],ag [af 18 9,af 19 3,aL 20 1 18 19,(none,.op (.store 1 (.tmp 20) (.val (.val (.bool true)))))],ai [ag [aT 10 0],bR 0 qA],ag [af 105 9,af 8 105],.ret],
 [.tmp 8],106⟩
theorem yN:aJ aa 200 []=some tJ:=by kernel_rfl
theorem uI {l:List Bool} {i:Nat} (h:i<l.length):(bU l).getD i []=[gb (l.getD i false)]:=by simp[h]
theorem XE (l p:List Int) (T:Tb) (f N:Nat) (hl:aG l) (hp:p.length<=1000) (hT:kP T N (p.length+1)) (hf:f<=p.length) (hn:∀x∈l,bm x/\(x<0->-1-x<N)):
  bX aa 200 [encI l,encI p,oH T,gi f] (bY (mc p T l f)):=by
 unfold aG at hl
 have hM:((p.length:Int)+1).toNat=p.length+1:=by omega
 refine bX.of (by
  intro v Y;simp at Y
  rcases Y with rfl | rfl | rfl | rfl
  .exact bg l
  .exact bg p
  .exact P3 T
  .exact .val _) ?_
 refine az.of mixed yN ?_
 simp(disch:=omega)only[↓wr,seval,wq,tJ,encI]
 refine⟨⟨by omega,by unfold aE;omega,by unfold aE;omega⟩,λh=>by omega,?_⟩
 intro _ b
 try simp(disch:=omega)only[↓wr,seval,wq,encI]
 refine⟨by omega,by simp;omega,?_⟩
 have E:(List.replicate (p.length+1) [gb false]).set f [gb true]=bU (gF (p.length+1) λj=>decide (j=f)):=by
  rw[show List.replicate (p.length+1) [gb false]=bU (List.replicate (p.length+1) false) by simp,iG]
  congr 1
  apply ab2 (by simp[gF])
  intro j h1 h2
  simp only[gF,List.getElem_set,List.getElem_replicate,ac4,adl]
  by_cases e:f=j
  .subst e;simp
  .rw[aa9 e];simp[Ne.symm e]
 refine aW.up l.length (λq a H'=>∃(b:Nat),a 9=.sl b 0 (p.length+1) 1/\H' b=.arr 1 (bU ((l.take q).foldl (oN p T f) (gF (p.length+1) λj=>decide (j=f))))/\a 0=encI l/\a 1=encI p/\a 2=oH T/\a 3=gi f/\a 10=gi q) ?_ ?_
 .refine⟨b,rfl,?_,rfl,rfl,rfl,rfl,rfl⟩
  simp only[View.set,if_true]
  rw[aa7,ab0,abb (by omega)]
  rw[List.take_zero,adi,<-E];rfl
 rintro q k a H hk ⟨b,t9,o,t0,t1,t2,t3,t10⟩
 have P:=Be p T f (l.take q) (gF (p.length+1) λj=>decide (j=f)) (lI _ _)
 have F:∀x,l[q]?=some x->(l.take (q+1)).foldl (oN p T f) (gF (p.length+1) λj=>decide (j=f))=oN p T f ((l.take q).foldl (oN p T f) (gF (p.length+1) λj=>decide (j=f))) x:=λx hx=>by
  rw[abr,hx,acM];rfl
 simp(disch:=omega)only[↓wr,seval,wq,qA,t0,t10,encI]
 apply ao.dec<;>intro hc
 .have O:l[q]?=some (l[q]'(by omega)):=aa8 (by omega)
  have D:l[q]'(by omega)∈l:=abe _
  have G:=F _ O
  generalize l[q]'(by omega)=s at O D G
  generalize (l.take q).foldl (oN p T f) (gF (p.length+1) λj=>decide (j=f))=now at o P G
  obtain⟨⟨a8,bd⟩,Z⟩:=hn s D
  simp(disch:=omega)only[↓wr,seval,wq,t1,t3,encI]
  refine⟨⟨by omega,by unfold aE;omega,by unfold aE;omega⟩,λh=>by omega,?_⟩
  intro _ d w
  have A:b≠d:=by rintro rfl;rw[o] at w;simp at w
  try simp(disch:=omega)only[↓wr,seval,wq,t0,t1,t2,t3,t9,t10,encI]
  refine aW.up (p.length+1-f) (λi a H'=>H' b=.arr 1 (bU now)/\H' d=.arr 1 (bU (gF (p.length+1) (fD p T s now f (f+i))))/\a 9=.sl b 0 (p.length+1) 1/\a 11=.sl d 0 (p.length+1) 1/\a 0=encI l/\a 1=encI p/\a 2=oH T/\a 3=gi f/\a 10=gi q/\a 12=gi ((f+i:Nat):Int)) ?_ ?_
  .refine⟨by simp[View.set,A,o],?_,t9,rfl,t0,t1,t2,t3,t10,rfl⟩
   simp only[View.set,if_true]
   rw[hM,show List.replicate (p.length+1) [V.val (Value.bool false)]=bU (List.replicate (p.length+1) false) by simp]
   congr 2
   apply ab2 (by simp[gF])
   intro j h1 h2
   simp only[gF,List.getElem_replicate,ac4,adl]
   rw[acI,MW]
  clear w o t0 t1 t2 t3 t9 t10
  rintro i m a H hm ⟨o,w,t9,t11,t0,t1,t2,t3,t10,t12⟩
  simp(disch:=omega)only[↓wr,seval,wq,pR,t1,t12,encI]
  apply ao.dec<;>intro ae
  .have al:=uI (l:=now) (i:=f+i) (by omega)
   simp(disch:=omega)only[↓wr,seval,wq,t9,t12,o,al]
   refine⟨by omega,by omega,?_⟩
   have t:=QX p T s now f (f+i)
   rw[abJ (show f<=f+i by omega),abQ] at t
   have bl:∀j,(λj=>fD p T s now f (f+i) j) j=fD p T s now f (f+i) j:=λ_=>rfl
   generalize now.getD (f+i) false=bn at t
   apply ao.split<;>intro I
   .subst I
    simp only[abQ] at t
    simp(disch:=omega)only[↓wr,seval,wq,t0,t10,encI,aba,O]
    apply ao.dec<;>intro J
    .have z:∀j,kF p T s (f+i) j=(decide (f+i<p.length)&&(p.getD (f+i) 0==s||p.getD (f+i) 0 == -1)&&decide (j=f+i+1)):=λj=>by rw[kF,abb (show 0<=s from J)]
     simp(disch:=omega)only[↓wr,seval,wq,t1,t12,encI]
     apply ao.dec<;>intro ha
     .have K:p[f+i]?=some (p.getD (f+i) 0):=by simp[show f+i<p.length by omega]
      generalize p.getD (f+i) 0=c at K z
      have g:∀v:Bool,(bU (gF (p.length+1) (fD p T s now f (f+i)))).set (f+i+1) [gb v]=bU (gF (p.length+1) λj=>if j=f+i+1 then v else fD p T s now f (f+i) j):=λv=>by rw[iG,NP]
      have y:=uI (l:=gF (p.length+1) (fD p T s now f (f+i))) (i:=f+i+1) (by rw[lI];omega)
      have Q:(c=s∨c = -1)->bU (gF (p.length+1) (fD p T s now f (f+(i+1))))=bU (gF (p.length+1) λj=>if j=f+i+1 then true else fD p T s now f (f+i) j):=λB=>by
       congr 1
       refine mq λj _=>?_
       rw[<-abP,t,z]
       by_cases e:j=f+i+1
       .rw[abb e,abJ (show f+i<p.length by omega),abJ e]
        rcases B with h | h<;>simp[h]
       .rw[aa9 e,decide_eq_false e];simp
      have an:¬ (c=s∨c = -1)->bU (gF (p.length+1) (fD p T s now f (f+(i+1))))=bU (gF (p.length+1) (fD p T s now f (f+i))):=λB=>by
       congr 1
       refine mq λj _=>?_
       rw[<-abP,t,z,show (c==s||c == -1)=false by simp;omega];simp
      have R:((f+i:Nat):Int)+1=((f+i+1:Nat):Int):=by omega
      have ga:∀ {C:Env} {H2:View},C 9=.sl b 0 (p.length+1) 1->C 11=.sl d 0 (p.length+1) 1->C 0=encI l->C 1=encI p->C 2=oH T->C 3=gi f->C 10=gi q->C 12=gi (((f+i:Nat):Int)+1)->H2 b=.arr 1 (bU now)->H2 d=.arr 1 (bU (gF (p.length+1) (fD p T s now f (f+(i+1))))) ->
        ∃k',k'<m/\FL (p.length+1-f) k' (λi a H'=>H' b=.arr 1 (bU now)/\H' d=.arr 1 (bU (gF (p.length+1) (fD p T s now f (f+i))))/\a 9=.sl b 0 (p.length+1) 1/\a 11=.sl d 0 (p.length+1) 1/\a 0=encI l/\a 1=encI p/\a 2=oH T/\a 3=gi f/\a 10=gi q/\a 12=gi ((f+i:Nat):Int)) C H2:=λa9 aq a0 a1 a2 a3 ar a12 ab ad=>aF hm (by omega) ⟨ab,ad,a9,aq,a0,a1,a2,a3,ar,by rw[a12];rfl⟩
      simp(disch:=omega)only[↓wr,seval,wq,t0,t1,t10,t12,encI,aba,O,K]
      apply ao.eq<;>intro B
      .simp(disch:=omega)only[↓wr,seval,wq,t9,t10,t11,t12,R,w]
       refine⟨by omega,by rw[lI];omega,?_⟩
       refine ga t9 t11 t0 t1 t2 t3 t10 rfl (by simp[View.set,A,o]) ?_
       simp only[View.set,if_true]
       rw[y,Q (.inl B),<-g true];rfl
      .simp(disch:=omega)only[↓wr,seval,wq,t1,t12,encI,aba,K]
       apply ao.eq<;>intro S
       .simp(disch:=omega)only[↓wr,seval,wq,t9,t10,t11,t12,R,w]
        refine⟨by omega,by rw[lI];omega,?_⟩
        refine ga t9 t11 t0 t1 t2 t3 t10 rfl (by simp[View.set,A,o]) ?_
        simp only[View.set,if_true]
        rw[y,Q (.inr S),<-g true];rfl
       .simp(disch:=omega)only[↓wr,seval,wq,t9,t10,t11,t12]
        exact ga t9 t11 t0 t1 t2 t3 t10 rfl o (by rw[an (by omega)];exact w)
     .simp(disch:=omega)only[↓wr,seval,wq,t9,t10,t11,t12]
      refine aF hm (by omega) ⟨o,?_,t9,t11,t0,t1,t2,t3,t10,rfl⟩
      rw[w,<-abP]
      refine ach (λl=>ct.arr 1 (bU l)) (mq λj _=>?_)
      rw[t,z,decide_eq_false (show ¬ f+i<p.length by omega)];simp
    .have br : -1-s<N:=Z (by omega)
     obtain⟨row,cell,U,L,bs,a6⟩:=hT.cell (n:=(-1-s).toNat) (i:=f+i) (by omega) (by omega)
     have z:∀j,kF p T s (f+i) j=(decide (f+i<=j)&&cell.getD j false):=λj=>by
      rw[kF,aa9 (show ¬ 0<=s from J),iB,a6]
     simp(disch:=omega)only[↓wr,seval,wq,t12]
     refine aW.up (p.length+1-(f+i)) (λr a H'=>H' b=.arr 1 (bU now)/\H' d=.arr 1 (bU (gF (p.length+1) λj=>fD p T s now f (f+i) j||(decide (j<f+i+r)&&kF p T s (f+i) j)))/\a 9=.sl b 0 (p.length+1) 1/\a 11=.sl d 0 (p.length+1) 1/\a 0=encI l/\a 1=encI p/\a 2=oH T/\a 3=gi f/\a 10=gi q/\a 12=gi ((f+i:Nat):Int)/\a 13=gi ((f+i+r:Nat):Int)) ?_ ?_
     .refine⟨o,?_,t9,t11,t0,t1,t2,t3,t10,t12,rfl⟩
      rw[w]
      refine ach (λl=>ct.arr 1 (bU l)) (mq λj _=>?_)
      rw[z]
      by_cases e:j<f+i
      .rw[decide_eq_false (show ¬ f+i<=j by omega)];simp
      .rw[decide_eq_false (show ¬ j<f+i+0 by omega)];simp
     clear w o t0 t1 t2 t3 t9 t10 t11 t12
     rintro r u a H hu ⟨o,w,t9,t11,t0,t1,t2,t3,t10,t12,t13⟩
     simp(disch:=omega)only[↓wr,seval,wq,qR,t1,t13,encI]
     apply ao.dec<;>intro a7
     .have hF:∀j,(fD p T s now f (f+i) j||(decide (j<f+i+(r+1))&&kF p T s (f+i) j))=if j=f+i+r then (fD p T s now f (f+i) j||kF p T s (f+i) j) else (fD p T s now f (f+i) j||(decide (j<f+i+r)&&kF p T s (f+i) j)):=λj=>by
       by_cases e:j=f+i+r
       .rw[abb e,abJ (show j<f+i+(r+1) by omega),abQ]
       .rw[aa9 e]
        congr 2
        simp only[decide_eq_decide];omega
      have y:=uI (l:=gF (p.length+1) λj=>fD p T s now f (f+i) j||(decide (j<f+i+r)&&kF p T s (f+i) j)) (i:=f+i+r) (by rw[lI];omega)
      rw[L8 (by omega),decide_eq_false (show ¬ f+i+r<f+i+r by omega),acq,Bool.or_false] at y
      have W:=z (f+i+r)
      rw[abJ (show f+i<=f+i+r by omega),abQ] at W
      have X:cell[f+i+r]?=some (cell.getD (f+i+r) false):=by simp[show f+i+r<cell.length by omega]
      have g:∀v,v=(fD p T s now f (f+i) (f+i+r)||kF p T s (f+i) (f+i+r))->(bU (gF (p.length+1) λj=>fD p T s now f (f+i) j||(decide (j<f+i+r)&&kF p T s (f+i) j))).set (f+i+r) [gb v]=bU (gF (p.length+1) λj=>fD p T s now f (f+i) j||(decide (j<f+i+(r+1))&&kF p T s (f+i) j)):=λv Y=>by
       rw[iG,NP]
       refine ach bU (mq λj _=>?_)
       rw[hF]
       by_cases e:j=f+i+r
       .subst e;rw[abb rfl,abb rfl,Y]
       .rw[aa9 e,aa9 e]
      rw[W] at g
      generalize cell.getD (f+i+r) false=cv at X g
      generalize fD p T s now f (f+i) (f+i+r)=pv at y g
      simp(disch:=omega)only[↓wr,seval,wq,t11,t13,w,y]
      refine⟨by omega,by rw[lI];omega,?_⟩
      apply ao.split<;>intro M
      .simp(disch:=omega)only[↓wr,seval,wq,t9,t10,t11,t12,t13,w]
       refine⟨by omega,by rw[lI];omega,aF hu (by omega) ⟨by simp[View.set,A,o],?_,t9,t11,t0,t1,t2,t3,t10,t12,rfl⟩⟩
       simp only[View.set,if_true]
       rw[y,<-g true (by rw[M];rfl)];rfl
      .simp(disch:=omega)only[↓wr,seval,wq,t0,t2,t9,t10,t11,t12,t13,encI,oH,bY,aba,O,U,L,X,w]
       refine⟨by omega,by rw[lI];omega,aF hu (by omega) ⟨by simp[View.set,A,o],?_,t9,t11,t0,t1,t2,t3,t10,t12,rfl⟩⟩
       simp only[View.set,if_true]
       rw[y,<-g cv (by rw[M];rfl)];rfl
     .simp(disch:=omega)only[↓wr,seval,wq,t9,t10,t11,t12]
      have hr:f+i+r=p.length+1:=by omega
      refine aF hm (by omega) ⟨o,?_,t9,t11,t0,t1,t2,t3,t10,rfl⟩
      rw[w,<-abP]
      refine ach (λl=>ct.arr 1 (bU l)) (mq λj hj=>?_)
      rw[t,hr,abJ hj,abQ]
   .subst I
    simp only[acq,Bool.or_false] at t
    simp(disch:=omega)only[↓wr,seval,wq,t9,t10,t11,t12]
    refine aF hm (by omega) ⟨o,?_,t9,t11,t0,t1,t2,t3,t10,by rfl⟩
    rw[w,<-abP]
    exact ach (λl=>ct.arr 1 (bU l)) (mq λj _=>(t j).symm)
  .have hi:f+i=p.length+1:=by omega
   rw[hi] at w
   simp(disch:=omega)only[↓wr,seval,wq,t9,t10,t11]
   refine aF hk (by omega) ⟨d,rfl,?_,t0,t1,t2,t3,rfl⟩
   rw[G];exact w
 .have e:q=l.length:=by omega
  subst e
  rw[acu] at o P
  simp(disch:=omega)only[↓wr,seval,wq,t9]
  intro h' hh
  have:=tZ (h:=h') (id:=b) (is:=mc p T l f) (by rw[hh];exact o)
  rwa [I3] at this
def EY (T:Tb) (n i j:Nat):Prop:=i<=j/\iB T n i j=true
theorem Is {p:List Int} {T:Tb} {s:Int} {a j:Nat} : kF p T s a j=true↔stepT p (EY T) s a j:=by
 unfold kF stepT
 split
 .simp only[abh,abn,acW,ab9]
  constructor
  .rintro⟨⟨h1,b⟩,d⟩
   exact⟨⟨p.getD a 0,by simp[h1],b⟩,d⟩
  .rintro⟨⟨c,e,b⟩,d⟩
   have h1:=(abf.1 e).1
   have:p.getD a 0=c:=by simp[e]
   exact⟨⟨h1,by rw[this];exact b⟩,d⟩
 .simp only[abh,abn];rfl
theorem MQ {T:Tb}:∀n i j,EY T n i j->i<=j:=λ_ _ _ h=>h.1
theorem K9 {p:List Int} {T:Tb} {f:Nat} (i:f<=p.length):∀(l pre:List Int) (now:List Bool),(∀j,j<=p.length->(now.getD j false=true↔In p (EY T) pre f j)) ->
  ∀j,j<=p.length->((l.foldl (oN p T f) now).getD j false=true↔In p (EY T) (pre++l) f j)
 | [],pre,now,h,j,b=>by rw[abV];exact h j b
 | s::l,pre,now,h,j,b=>by
  have k:∀j,j<=p.length->((oN p T f now s).getD j false=true↔In p (EY T) (pre++[s]) f j):=λj b=>by
   rw[oN,L8 (by omega),In.snoc]
   simp only[fD,acE,ab7,abh,abn]
   constructor
   .rintro⟨a,g,⟨_,c⟩,d⟩
    exact⟨a,(h a (by omega)).1 c,Is.1 d⟩
   .rintro⟨a,c,d⟩
    have hle:=c.le MQ
    have g:a<=p.length:=by
     have e:=d
     unfold stepT at e
     split at e
     .omega
     .have:=e.1;omega
    exact⟨a,by omega,⟨hle,(h a g).2 c⟩,Is.2 d⟩
  have:=K9 i l (pre++[s]) (oN p T f now s) k j b
  rwa [ace] at this
theorem Kr {p:List Int} {T:Tb} {l:List Int} {f:Nat} (b:f<=p.length) {j:Nat} (a:j<=p.length):(mc p T l f).getD j false=true↔In p (EY T) l f j:=by
 have:=K9 (T:=T) b l [] (gF (p.length+1) λj=>decide (j=f)) (λj a=>by
  rw[L8 (by omega),abn]
  constructor
  .rintro rfl;exact .nil _
  .intro h;cases h;rfl) j a
 exact this
open Classical in
def Dx (g:ak) (p:List Int):Tb:=(List.range g.av.length).map λ(n:Nat)=>(List.range (p.length+1)).map λ(i:Nat)=>(List.range (p.length+1)).map λ(j:Nat)=>decide (Sp g p [-1-(n:Int)] i j)
theorem Tt (g:ak) (p:List Int):kP (Dx g p) g.av.length (p.length+1):=by
 refine⟨by simp[Dx],λr hr=>?_⟩
 simp only[Dx,abt] at hr
 obtain⟨n,_,rfl⟩:=hr
 refine⟨by simp,λc a=>?_⟩
 simp only[abt] at a
 obtain⟨i,_,rfl⟩:=a
 simp
theorem To {g:ak} {p:List Int} {n i j:Nat} (a:n<g.av.length) (hi:i<=p.length) (b:j<=p.length):iB (Dx g p) n i j=true↔Sp g p [-1-(n:Int)] i j:=by
 simp[iB,Dx,a,show i<p.length+1 by omega,show j<p.length+1 by omega]
theorem YF {S T:Tb} {N M:Nat} (a:kP S N M) (b:kP T N M) (h:∀n i j,n<N->i<M->j<M->iB S n i j=iB T n i j):S=T:=by
 apply ab2 (by rw[a.1,b.1])
 intro n h1 c
 have f:n<N:=by rw[<-a.1];exact h1
 have g:=(a.2 _ (abe h1)).1
 have a2:=(b.2 _ (abe c)).1
 apply ab2 (by rw[g,a2])
 intro i d e
 have hi:i<M:=by omega
 have k:=(a.2 _ (abe h1)).2 _ (abe d)
 have l:=(b.2 _ (abe c)).2 _ (abe e)
 apply ab2 (by rw[k,l])
 intro j m o
 have:=h n i j f hi (by omega)
 simpa [iB,aa7,h1,c,d,e,m,o] using this
theorem Y8 {g:ak} {p:List Int} {T:Tb} (c:∀r∈g.rules,0<=r.left) (m:∀r∈g.rules,r.left<g.av.length) (d:kP T g.av.length (p.length+1)) (b:∀n i j,EY T n i j->Sp g p [-1-(n:Int)] i j)
  (e:∀n i j,iB T n i j=true->i<=j) (f:∀R∈g.rules,∀i j,i<=j->j<=p.length->(mc p T R.right i).getD j false=true->iB T R.left.toNat i j=true):T=Dx g p:=by
 refine YF d (Tt g p) λn i j k hi o=>?_
 rw[abW,To k (by omega) (by omega)]
 have a:∀R∈g.rules,∀i j,i<=p.length->In p (EY T) R.right i j->EY T R.left.toNat i j:=λR l i j hi h=>by
  have hle:=h.le MQ
  have hlen:=(W4 b h).len hi
  exact⟨hle,f R l i j hle hlen ((Kr hi hlen).2 h)⟩
 rw[<-SK c b a (by omega)]
 exact⟨λh=>⟨e n i j h,h⟩,λh=>h.2⟩
structure qc (H:View) (I N M:Nat) (R:Nat->Nat) (C:Nat->Nat->Nat) (T:Tb):Prop where
 top:H I=.arr 1 ((List.range N).map λn=>[.sl (R n) 0 M 1])
 row:∀n,n<N->H (R n)=.arr 1 ((List.range M).map λi=>[.sl (C n i) 0 M 1])
 cell:∀n i,n<N->i<M->H (C n i)=.arr 1 (bU ((T.getD n []).getD i []))
 inj:∀n i n' i',n<N->i<M->n'<N->i'<M->C n i=C n' i'->n=n'/\i=i'
theorem Mq {c:List Bool} {k:Nat} {F:Nat->List V} (a:0<c.length) (h:bU c=(List.range k).map F) (b:∀n x,F n≠[gb x]):False:=by
 cases c with
 | nil=>simp at a
 | cons x c =>
  cases k with
  | zero=>simp at h
  | succ k =>
   rw[List.range_succ_eq_map] at h
   simp only[abE,List.cons.injEq] at h
   exact b 0 x h.1.symm
theorem qc.keep {H H':View} {I N M:Nat} {R:Nat->Nat} {C:Nat->Nat->Nat} {T:Tb} (h:qc H I N M R C T) (hk:∀id,H id≠.dead->H' id=H id):qc H' I N M R C T:=
 ⟨by rw[hk _ (by rw[h.top];simp)];exact h.top,λn a=>by rw[hk _ (by rw[h.row n a];simp)];exact h.row n a,λn i a hi=>by rw[hk _ (by rw[h.cell n i a hi];simp)];exact h.cell n i a hi,h.inj⟩
theorem qc.put {H:View} {I N M:Nat} {R:Nat->Nat} {C:Nat->Nat->Nat} {T:Tb} (h:qc H I N M R C T) (g:kP T N M) {n i j:Nat} (d:n<N) (hi:i<M) (v:j<M):
  qc (H.set (C n i) (.arr 1 (bU (((T.getD n []).getD i []).set j true)))) I N M R C (qX T n i j):=by
 obtain⟨r,c,hr,w,o,p⟩:=g.cell d hi
 have a:=h.cell n i d hi
 rw[p] at a
 have s:I≠C n i:=λe=>by
  have:=h.top
  rw[e,a] at this
  simp only[ct.arr.injEq,true_and] at this
  exact Mq (by omega) this λ_ _=>by simp
 have t:∀m,m<N->R m≠C n i:=λm hm e=>by
  have:=h.row m hm
  rw[e,a] at this
  simp only[ct.arr.injEq,true_and] at this
  exact Mq (by omega) this λ_ _=>by simp
 refine⟨by simp only[View.set,aa9 s];exact h.top,λm hm=>by simp only[View.set,aa9 (t m hm)];exact h.row m hm,λm q hm k=>?_,h.inj⟩
 obtain⟨x,b,l,u⟩:=g.row d
 rw[hr] at b;simp at b;subst b
 have f:n<T.length:=by rw[g.1];exact d
 by_cases e:C m q=C n i
 .obtain⟨rfl,rfl⟩:=h.inj m q n i hm k d hi e
  simp only[View.set,if_true]
  congr 2
  rw[qX]
  simp[f]
  have:q<T[m].length:=by
   have:=(abf.1 hr).2
   rw[this,l];exact k
  simp[this]
 .simp only[View.set,aa9 e]
  rw[h.cell m q hm k]
  congr 2
  rw[qX]
  by_cases em:n=m
  .subst em
   have eq:i≠q:=λe'=>e (by rw[e'])
   simp[f,eq]
  .simp[em]
theorem qc.ZS {h:Heap} {I N M:Nat} {R:Nat->Nat} {C:Nat->Nat->Nat} {T:Tb} (f:qc h.view I N M R C T) (e:kP T N M):dF h (.sl I 0 N 1) (oH T):=by
 refine .sl I 0 N 1 1 _ _ f.top (by simp) (by simp[e.1]) (λn b=>?_) (λn j b m=>?_)
 .obtain⟨r,hr,_⟩:=e.row b
  simp[hr,b]
 .obtain⟨r,hr,g,k⟩:=e.row b
  have p:((T.map λr=>[V.aY (r.map λc=>[bY c])]).getD n [])=[V.aY (r.map λc=>[bY c])]:=by simp[hr]
  have s:(((List.range N).map λn=>[V.sl (R n) 0 M 1]).getD (0+n) [])=[V.sl (R n) 0 M 1]:=by simp[b]
  rw[p] at m ⊢
  rw[s]
  have:j=0:=by simp at m;omega
  subst this
  refine .sl (R n) 0 M 1 1 _ _ (f.row n b) (by simp) (by simp[g]) (λi hi=>?_) (λi q hi o=>?_)
  .simp[hi,show i<r.length by omega]
  .have d:i<r.length:=by omega
   have f1:((r.map λc=>[bY c]).getD i [])=[bY r[i]]:=by simp[d]
   have f2:(((List.range M).map λi=>[V.sl (C n i) 0 M 1]).getD (0+i) [])=[V.sl (C n i) 0 M 1]:=by simp[hi]
   rw[f1] at o ⊢
   rw[f2]
   have:q=0:=by simp at o;omega
   subst this
   have a:=f.cell n i b hi
   have t:(T.getD n []).getD i []=r[i]:=by rw[k];simp[d]
   rw[t] at a
   have l:=(e.2 r (abi hr)).2 _ (abe d)
   have:=tZ (h:=h) (id:=C n i) (is:=r[i]) a
   rwa [l] at this
theorem dF.LR {h:Heap} {v t:V} (f:dF h v t):Fr h v t:=by
 induction f with
 | val v=>exact .tree _ (.val v)
 | emp k=>exact .emp k
 | sl id off len esz z es es' hH hle hlen b _ c=>exact .sl id off len esz z es es' hH hle hlen b c
 | agg cs a b _ c=>exact .agg cs a b c
 | bc cs a b _ c=>exact .bc cs a b c
theorem qc.kI {H:View} {I N M:Nat} {R:Nat->Nat} {C:Nat->Nat->Nat} {T:Tb} (a:qc H I N M R C T) (b:kP T N M):cm H (.sl I 0 N 1) (oH T):=by
 rintro h rfl
 exact(a.ZS b).LR
structure Xj (H:View) (I N M k:Nat) (R:Nat->Nat) (C:Nat->Nat->Nat):Prop where
 top:H I=.arr 1 ((List.range N).map λn=>[if n<k then .sl (R n) 0 M 1 else .emp 1])
 row:∀n,n<k->H (R n)=.arr 1 ((List.range M).map λi=>[.sl (C n i) 0 M 1])
 cell:∀n i,n<k->i<M->H (C n i)=.arr 1 (List.replicate M [gb false])
 inj:∀n i n' i',n<k->i<M->n'<k->i'<M->C n i=C n' i'->n=n'/\i=i'
 ne:∀n,n<k->I≠R n
structure Hy (H:View) (I N M k:Nat) (R:Nat->Nat) (C:Nat->Nat->Nat) (r i:Nat) (D:Nat->Nat):Prop where
 top:H I=.arr 1 ((List.range N).map λn=>[if n<k then .sl (R n) 0 M 1 else if n=k then .sl r 0 M 1 else .emp 1])
 row:∀n,n<k->H (R n)=.arr 1 ((List.range M).map λi=>[.sl (C n i) 0 M 1])
 cell:∀n i,n<k->i<M->H (C n i)=.arr 1 (List.replicate M [gb false])
 inj:∀n i n' i',n<k->i<M->n'<k->i'<M->C n i=C n' i'->n=n'/\i=i'
 ne:∀n,n<k->I≠R n
 WO:H r=.arr 1 ((List.range M).map λj=>[if j<i then .sl (D j) 0 M 1 else .emp 1])
 Kd:∀j,j<i->H (D j)=.arr 1 (List.replicate M [gb false])
 Yy:∀j j',j<i->j'<i->D j=D j'->j=j'
 IP:I≠r/\(∀n,n<k->R n≠r)/\∀n q j,n<k->q<M->j<i->C n q≠D j
theorem HE {M i:Nat} {F:Nat->List V} {v:List V} : ((List.range M).map F).set i v=(List.range M).map λj=>if j=i then v else F j:=by
 apply ab2 (by simp)
 intro j h1 a
 simp only[List.getElem_set,ac4,adl]
 by_cases e:i=j
 .subst e;simp
 .rw[aa9 e,aa9 (Ne.symm e)]
theorem gK {M i:Nat} {F:Nat->List V} (h:i<M):((List.range M).map F).getD i []=F i:=by simp[h]
theorem Xj.done {H:View} {I N M:Nat} {R:Nat->Nat} {C:Nat->Nat->Nat} (h:Xj H I N M N R C):qc H I N M R C (BP N M):=by
 refine⟨?_,h.row,λn i a hi=>?_,h.inj⟩
 .rw[h.top]
  congr 1
  apply aca
  intro n a
  rw[abb (by simpa using a)]
 .rw[h.cell n i a hi]
  simp[BP,a,hi]
theorem Hy.V4 {H:View} {I N M k:Nat} {R:Nat->Nat} {C:Nat->Nat->Nat} {r:Nat} {D:Nat->Nat} (h:Hy H I N M k R C r M D):Xj H I N M (k+1) (λn=>if n=k then r else R n) (λn=>if n=k then D else C n):=by
 refine⟨?_,λn g=>?_,λn i g hi=>?_,λn i d f g hi j a e=>?_,λn g=>?_⟩
 .rw[h.top]
  congr 1
  apply aca
  intro n _
  by_cases c:n<k
  .rw[abb c,abb (by omega),aa9 (by omega)]
  .by_cases b:n=k
   .rw[aa9 c,abb b,abb (by omega),abb b]
   .rw[aa9 c,aa9 b,aa9 (by omega)]
 .by_cases e:n=k
  .simp only[abb e]
   rw[h.WO]
   congr 1
   apply aca
   intro i hi
   rw[abb (by simpa using hi)]
  .simp only[aa9 e];exact h.row n (by omega)
 .by_cases e:n=k
  .simp only[abb e];exact h.Kd i hi
  .simp only[aa9 e];exact h.cell n i (by omega) hi
 .by_cases c:n=k
  .by_cases b:d=k
   .simp only[abb c,abb b] at e
    exact⟨by omega,h.Yy i f hi a e⟩
   .simp only[abb c,aa9 b] at e
    exact absurd e.symm (h.IP.2.2 d f i (by omega) a hi)
  .by_cases b:d=k
   .simp only[aa9 c,abb b] at e
    exact absurd e (h.IP.2.2 n i f (by omega) hi a)
   .simp only[aa9 c,aa9 b] at e
    exact h.inj n i d f (by omega) hi (by omega) a e
 .by_cases e:n=k
  .simp only[abb e];exact h.IP.1
  .simp only[aa9 e];exact h.ne n (by omega)
theorem Hy.next {H H':View} {I N M k:Nat} {R:Nat->Nat} {C:Nat->Nat->Nat} {r i d:Nat} {D:Nat->Nat} (h:Hy H I N M k R C r i D) (x:0<N) (u:0<M) (v:H d=.dead)
  (o:H' r=.arr 1 (((List.range M).map λj=>[if j<i then V.sl (D j) 0 M 1 else .emp 1]).set i [.sl d 0 M 1])) (p:H' d=.arr 1 (List.replicate M [gb false])) (g:∀id,H id≠.dead->id≠r->H' id=H id):
  Hy H' I N M k R C r (i+1) (λj=>if j=i then d else D j):=by
 have live:∀id,H id≠.dead->id≠d:=λid a e=>by subst e;exact a v
 have b:∀id,H id=.arr 1 (List.replicate M [gb false])->id≠r:=λid a e=>by
  rw[e,h.WO] at a
  simp only[ct.arr.injEq,true_and] at a
  have:=ach (·[0]?) a
  simp[u] at this
  split at this<;>simp at this
 refine⟨?_,λn c=>?_,λn q c l=>?_,h.inj,h.ne,?_,λj t=>?_,λj m t w e=>?_,⟨h.IP.1,h.IP.2.1,λn q j c l t=>?_⟩⟩
 .rw[g I (by rw[h.top];simp) h.IP.1];exact h.top
 .rw[g _ (by rw[h.row n c];simp) (h.IP.2.1 n c)];exact h.row n c
 .have:=h.cell n q c l
  rw[g _ (by rw[this];simp) (b _ this)];exact this
 .rw[o,HE]
  congr 1
  apply aca
  intro j _
  by_cases e:j=i
  .rw[abb e,abb (by omega),abb e]
  .rw[aa9 e]
   by_cases f:j<i
   .rw[abb f,abb (by omega),aa9 e]
   .rw[aa9 f,aa9 (by omega)]
 .by_cases e:j=i
  .simp only[abb e];exact p
  .simp only[aa9 e]
   have:=h.Kd j (by omega)
   rw[g _ (by rw[this];simp) (b _ this)];exact this
 .by_cases s:j=i
  .by_cases f:m=i
   .omega
   .simp only[abb s,aa9 f] at e
    exact absurd e.symm (live _ (by rw[h.Kd m (by omega)];simp))
  .by_cases f:m=i
   .simp only[aa9 s,abb f] at e
    exact absurd e (live _ (by rw[h.Kd j (by omega)];simp))
   .simp only[aa9 s,aa9 f] at e
    exact h.Yy j m (by omega) (by omega) e
 .by_cases e:j=i
  .simp only[abb e];exact live _ (by rw[h.cell n q c l];simp)
  .simp only[aa9 e];exact h.IP.2.2 n q j c l (by omega)
theorem HD:∀(l:List Nat) (i v:Nat) (h:i<l.length),(l.set i v).sum+l[i]=l.sum+v
 | x::l,0,v,_=>by simp;omega
 | x::l,i+1,v,h=>by
  have:=HD l i v (by simpa using h)
  simp;omega
theorem LI:∀(l:List Nat) (b:Nat),(∀x∈l,x<=b)->l.sum<=l.length*b
 | [],_,_=>by simp
 | x::l,b,h=>by
  have h1:=LI l b λy a=>h y (by simp[a])
  have c:=h x (by simp)
  simp only[List.sum_cons,abl,abR];omega
theorem I8:∀(c:List Bool) (j:Nat),j<c.length->c.getD j false=false->dp (c.set j true)=dp c+1
 | x::c,0,_,h=>by
  have:x=false:=by simpa using h
  subst this
  simp[dp]
 | x::c,j+1,a,h=>by
  have:=I8 c j (by simpa using a) (by simpa using h)
  unfold dp at this ⊢
  simp only[List.set_cons_succ,List.countP_cons,this];omega
def ED (r:List (List Bool)):Nat:=(r.map dp).sum
def sg (T:Tb):Nat:=(T.map ED).sum
theorem Kw {T:Tb} {N M:Nat} (h:kP T N M):sg T<=N*(M*M):=by
 have:=LI (T.map ED) (M*M) (λx a=>by
  obtain⟨r,hr,rfl⟩:=abt.1 a
  have:=LI (r.map dp) M (λy b=>by
   obtain⟨c,d,rfl⟩:=abt.1 b
   rw[<-(h.2 r hr).2 c d];exact vG c)
  rw[abc,(h.2 r hr).1] at this
  exact this)
 rw[abc,h.1] at this
 exact this
theorem XP {T:Tb} {N M n i j:Nat} (h:kP T N M) (d:n<N) (hi:i<M) (t:j<M) (o:iB T n i j=false):sg (qX T n i j)=sg T+1:=by
 obtain⟨r,c,hr,p,q,m⟩:=h.cell d hi
 obtain⟨u,a,s,b⟩:=h.row d
 rw[hr] at a;simp at a;subst a
 have e:r.getD i []=c:=by rw[<-b];exact m
 have f:n<T.length:=by rw[h.1];exact d
 have g:i<r.length:=by omega
 have k:T[n]=r:=(abf.1 hr).2
 have l:r[i]=c:=(abf.1 p).2
 have h1:dp (c.set j true)=dp c+1:=I8 c j (by omega) (by rw[<-m];exact o)
 have v:ED (r.set i (c.set j true))=ED r+1:=by
  have:=HD (r.map dp) i (dp (c.set j true)) (by simpa using g)
  unfold ED
  rw[acR]
  simp only[ac4,l] at this
  omega
 have:=HD (T.map ED) n (ED (r.set i (c.set j true))) (by simpa using f)
 unfold sg qX
 rw[b,e,acR]
 simp only[ac4,k] at this
 omega
def sO:SC:=
 ai [ai [ag [af 31 7,af 32 1,aM 33 32,aS 34 .leq 31 33],bO 34 (.exit 2)],.block 3 (ag [af 37 5,af 38 6,aL 39 1 37 38,au 40 39,af 41 7,af 42 1,aM 43 42,aI 44 .add 43 1,((some 45),.op (.make 1 1 [(.val (.bool false))] (.tmp 44) (.tmp 44))),aL 46 1 40 41,cz 1 46 45]),ag [af 35 7,aI 36 .add 35 1,af 7 36]]
def tG:SC:=
 ai [ai [ag [af 18 6,af 19 5,aM 20 19,aS 21 .lss 18 20],bO 21 (.exit 0)],.block 1 (ai [ag [af 24 5,af 25 6,af 26 1,aM 27 26,aI 28 .add 27 1,((some 29),.op (.make 1 24 [(.emp 1)] (.tmp 28) (.tmp 28))),aL 30 1 24 25,cz 1 30 29],ag [aT 7 0],bR 2 sO]),ag [af 22 6,aI 23 .add 22 1,af 6 23]]
def tK:SC:=
 ai [ai [ag [af 73 13,af 74 1,aM 75 74,aS 76 .leq 73 75],bO 76 (.exit 10)],.block 11 (ai [.region false [⟨none,[af 79 12,af 80 13,aL 81 1 79 80,au 82 81,af 83 82]⟩,⟨(some (83,true)),[af 84 5,aw 85 0 10,au 86 85,aL 87 1 84 86,au 88 87,af 89 11,aL 90 1 88 89,au 91 90,af 92 13,aL 93 1 91 92,au 94 93,cO 95 94]⟩,⟨none,[dA 96 83 95]⟩],aX 96 (ai [ag [af 97 5,aw 98 0 10,au 99 98,aL 100 1 97 99,au 101 100,af 102 11,aL 103 1 101 102,au 104 103,af 105 13,aL 106 1 104 105,(none,.op (.store 1 (.tmp 106) (.val (.val (.bool true)))))],ag [bb 8 true]])]),ag [af 77 13,aI 78 .add 77 1,af 13 78]]
def tw:SC:=
 ai [ai [ag [af 60 11,af 61 1,aM 62 61,aS 63 .leq 60 62],bO 63 (.exit 8)],.block 9 (ai [ag [aw 66 1 10,au 67 66,af 68 1,af 69 5,af 70 11,aU 71 200 [67,68,69,70],af 12 71],ag [af 72 11,af 13 72],bR 10 tK]),ag [af 64 11,aI 65 .add 64 1,af 11 65]]
def tv:SC:=
 ai [ai [ag [af 48 9,aw 49 2 2,au 50 49,aM 51 50,aS 52 .lss 48 51],bO 52 (.exit 6)],.block 7 (ai [ag [aw 55 2 2,au 56 55,af 57 9,aL 58 3 56 57,aV 59 3 58,((some 10),.op (.alloc [(.val (.int .i64 0)),(.emp 1),(.val (.int .i64 0))])),cz 3 10 59],ag [aT 11 0],bR 8 tw]),ag [af 53 9,aI 54 .add 53 1,af 9 54]]
def mL:SC:=
 ai [ai [ag [af 47 8],bO 47 (.exit 4)],.block 5 (ai [ag [bb 8 false],ag [aT 9 0],bR 6 tv])]
def vE:SF:=⟨ai [ag [bZ 2 0,bL 4 1],ag [aw 14 1 2,au 15 14,aM 16 15,((some 17),.op (.make 1 24 [(.emp 1)] (.tmp 16) (.tmp 16))),af 5 17],ai [ag [aT 6 0],bR 0 tG],ag [bb 8 true],bR 4 mL,ag [af 107 5,af 4 107],.ret],
 [.tmp 4],108⟩
theorem Bd:aJ aa 139 [2]=some vE:=by kernel_rfl
def VE (g:ak) (p:List Int) (I:Nat) (R:Nat->Nat) (C:Nat->Nat->Nat) (T0:Tb) (D:Prop) (T:Env) (H:View):Prop:=
 ∃T1,qc H I g.av.length (p.length+1) R C T1/\kP T1 g.av.length (p.length+1)/\(∀n i j,iB T1 n i j=true->i<=j/\Sp g p [-1-(n:Int)] i j) /\
  ((T 8=gb false/\T1=T0/\D)∨(T 8=gb true/\sg T0<sg T1))/\T 1=encI p/\T 2=.aR (aj g) 0/\T 5=.sl I 0 g.av.length 1
def lP (p:List Int) (T0:Tb) (r:bf) (f:Nat):Prop:=∀j,f<=j->j<=p.length->(mc p T0 r.right f).getD j false=true->iB T0 r.left.toNat f j=true
theorem ZE (g:ak) (hg:g.Ok) (hf:g.c5) (p:List Int) (hp:p.length<=1000):bX aa 139 [.agg (aj g),encI p] (oH (Dx g p)):=by
 have z1:=hf.ly
 have z2:=hf.av
 have z3:=hf.rules
 refine bX.of (by
  intro v hv;simp at hv
  rcases hv with rfl | rfl
  .exact bW _ (cy g)
  .exact bg p) ?_
 refine az.of mixed Bd ?_
 have hM:((p.length:Int)+1).toNat=p.length+1:=by omega
 simp(disch:=omega)only[↓wr,seval,wq,vE,aj,encS]
 refine⟨⟨by omega,by unfold aE;omega,by unfold aE;omega⟩,λh=>by omega,?_⟩
 intro _ I
 try simp(disch:=omega)only[↓wr,seval,wq,aj,encS]
 refine aW.up g.av.length (λk t H'=>(∃R C,Xj H' I g.av.length (p.length+1) k R C)/\t 1=encI p/\t 2=.aR (aj g) 0/\t 5=.sl I 0 g.av.length 1/\t 6=gi k) ?_ ?_
 .refine⟨⟨λ_=>0,λ_ _=>0,⟨?_,λn K=>by omega,λn i K=>by omega,λn i n' i' K=>by omega,λn K=>by omega⟩⟩,rfl,rfl,rfl,rfl⟩
  simp[View.set]
  apply ab2 (by simp)
  intro n h1 h2
  simp
 rintro k m t H hk ⟨⟨R,C,G⟩,t1,t2,t5,t6⟩
 simp(disch:=omega)only[↓wr,seval,wq,tG,t5,t6]
 apply ao.dec<;>intro hc
 .have P:=G.top
  simp(disch:=omega)only[↓wr,seval,wq,t1,t5,t6,encI,P]
  refine⟨⟨by omega,by unfold aE;omega,by unfold aE;omega⟩,λh=>by omega,?_⟩
  intro _ r hr
  have Z:I≠r:=by rintro rfl;rw[P] at hr;simp at hr
  try simp(disch:=omega)only[↓wr,seval,wq,hM,Z]
  refine⟨by omega,by simp;omega,?_⟩
  try simp(disch:=omega)only[↓wr,seval,wq,t1,t2,t5,t6,encI,P,hM,Z]
  refine aW.up (p.length+1) (λi t H'=>(∃D,Hy H' I g.av.length (p.length+1) k R C r i D)/\t 1=encI p/\t 2=.aR (aj g) 0/\t 5=.sl I 0 g.av.length 1/\t 6=gi k/\t 7=gi i) ?_ ?_
  .refine⟨⟨λ_=>0,?_⟩,t1,t2,t5,t6,rfl⟩
   have old:∀id,H id≠.dead->id≠I->∀o1 o2,((H.set r o1).set I o2) id=H id:=λid T hI o1 o2=>by
    have:id≠r:=by rintro rfl;exact T hr
    simp[View.set,hI,this]
   have b8:∀n,n<k->R n≠r:=λn K e=>by have:=G.row n K;rw[e,hr] at this;simp at this
   have cI:∀n i,n<k->i<p.length+1->C n i≠I:=λn i K hi e=>by
    have h1:=G.cell n i K hi
    rw[e,P] at h1
    simp only[ct.arr.injEq,true_and] at h1
    have:=ach (·[0]?) h1
    simp[show 0<g.av.length by omega] at this
    split at this<;>simp at this
   refine⟨?_,λn K=>?_,λn i K hi=>?_,G.inj,G.ne,?_,λj hj=>by omega,λj j' hj=>by omega,⟨Z,b8,λn q j _ _ hj=>by omega⟩⟩
   .simp only[View.set,if_true]
    rw[gK (by omega)]
    simp only[adh,List.drop_nil]
    rw[HE]
    congr 1
    apply aca
    intro n _
    by_cases e1:n=k
    .rw[abb e1,aa9 (by omega),abb e1]
    .rw[aa9 e1]
     by_cases e2:n<k
     .rw[abb e2,abb e2]
     .rw[aa9 e2,aa9 e2,aa9 e1]
   .rw[old _ (by rw[G.row n K];simp) (G.ne n K).symm];exact G.row n K
   .rw[old _ (by rw[G.cell n i K hi];simp) (cI n i K hi)];exact G.cell n i K hi
   .simp only[View.set,aa9 Z.symm,if_true]
    congr 1
    apply ab2 (by simp)
    intro n h1 h2
    simp
  clear P hr G t1 t2 t5 t6
  rintro i q t H hq ⟨⟨D,G⟩,t1,t2,t5,t6,t7⟩
  simp(disch:=omega)only[↓wr,seval,wq,sO,t1,t7,encI]
  apply ao.dec<;>intro a7
  .have P:=G.top
   have O:=gK (F:=λn=>[if n<k then V.sl (R n) 0 (p.length+1) 1 else if n=k then .sl r 0 (p.length+1) 1 else .emp 1]) (show k<g.av.length by omega)
   simp only[aa9 (show ¬ k<k by omega),if_true] at O
   have bs:=G.WO
   simp(disch:=omega)only[↓wr,seval,wq,t1,t5,t6,t7,encI,P,O]
   refine⟨by omega,by simp;omega,⟨by omega,by unfold aE;omega,by unfold aE;omega⟩,λh=>by omega,?_⟩
   intro _ d hd
   have bx:r≠d:=by rintro rfl;rw[bs] at hd;simp at hd
   try simp(disch:=omega)only[↓wr,seval,wq,t6,t7,hM,bs,bx]
   refine⟨by omega,by simp;omega,aF hq (by omega) ⟨⟨_,G.next (d:=d) (by omega) (by omega) hd ?_ ?_ ?_⟩,t1,t2,t5,t6,rfl⟩⟩
   .simp only[View.set,if_true]
    rw[gK (by omega)];rfl
   .simp only[View.set,aa9 bx.symm,if_true];rfl
   .intro id T b0
    have:id≠d:=by rintro rfl;exact T hd
    simp[View.set,b0,this]
  .simp(disch:=omega)only[↓wr,seval,wq,t6]
   have b9:i=p.length+1:=by omega
   subst b9
   exact aF hk (by omega) ⟨⟨_,_,G.V4⟩,t1,t2,t5,rfl⟩
 .simp(disch:=omega)only[↓wr,seval,wq]
  have ca:k=g.av.length:=by omega
  subst ca
  have B:=G.done
  refine aW.intro (λk t H'=>∃z,qc H' I g.av.length (p.length+1) R C z/\kP z g.av.length (p.length+1)/\(∀n i j,iB z n i j=true->i<=j/\Sp g p [-1-(n:Int)] i j) /\
   ((t 8=gb true/\k+sg z=g.av.length*((p.length+1)*(p.length+1))+1)∨(t 8=gb false/\∀r∈g.rules,∀f,f<=p.length->lP p z r f))/\t 1=encI p/\t 2=.aR (aj g) 0/\t 5=.sl I 0 g.av.length 1) (g.av.length*((p.length+1)*(p.length+1))+1-sg (BP g.av.length (p.length+1))) ?_ ?_
  .have:=Kw (Ox g.av.length (p.length+1))
   exact⟨_,B,Ox _ _,λn i j h=>by rw[Yo] at h;simp at h,.inl ⟨rfl,by omega⟩,t1,t2,t5⟩
  clear G B t1 t2 t5 t6
  rintro k t H ⟨z,B,U,ab,Q,t1,t2,t5⟩
  rcases Q with ⟨t8,cS⟩ | ⟨t8,b1⟩
  .simp(disch:=omega)only[↓wr,seval,wq,mL,t8]
   refine aW.up g.rules.length (λi t H'=>VE g p I R C z (∀q r,q<i->g.rules[q]?=some r->∀f,f<=p.length->lP p z r f) t H'/\t 9=gi i) ⟨⟨z,B,U,ab,.inl ⟨rfl,rfl,λq r hq=>by omega⟩,t1,t2,t5⟩,rfl⟩ ?_
   clear B t1 t2 t5 t8
   rintro i m t H hm ⟨⟨A,B,o,y,Q,t1,t2,t5⟩,t9⟩
   simp(disch:=omega)only[↓wr,seval,wq,tv,t2,t9,aj]
   apply ao.dec<;>intro a7
   .have a8:g.rules[i]?=some (g.rules[i]'(by omega)):=aa8 (by omega)
    have L:g.rules[i]'(by omega)∈g.rules:=abe _
    generalize g.rules[i]'(by omega)=r at a8 L
    simp(disch:=omega)only[↓wr,seval,wq,t2,t9,aj,aQ,encI,aba,a8]
    intro b M
    try simp(disch:=omega)only[↓wr,seval,wq,t1,t2,t5,t9]
    have hl:=hf.left r L
    have b2:=hg.aB r L
    refine aW.up (p.length+1) (λf t H'=>VE g p I R C z ((∀q r,q<i->g.rules[q]?=some r->∀f,f<=p.length->lP p z r f)/\∀J,J<f->lP p z r J) t H'/\t 9=gi i/\t 10=.ptr b 0 0/\H' b=.arr 3 [aQ r]/\t 11=gi f) ?_ ?_
    .refine⟨⟨A,B.keep λid T=>?_,o,y,?_,t1,t2,t5⟩,t9,rfl,by simp[View.set,aQ,encI],rfl⟩
     .have:id≠b:=by rintro rfl;exact T M
      simp[View.set,this]
     .rcases Q with ⟨a,b,c⟩ | h
      .exact .inl ⟨a,b,c,λJ W=>by omega⟩
      .exact .inr h
    clear B Q t1 t2 t5 t9 M o y
    rintro f u t H hu ⟨⟨A,B,o,y,Q,t1,t2,t5⟩,t9,t10,M,t11⟩
    simp(disch:=omega)only[↓wr,seval,wq,tw,t1,t11,encI]
    apply ao.dec<;>intro cb
    .simp(disch:=omega)only[↓wr,seval,wq,t1,t5,t10,t11,M,aQ,encI]
     have cc:=XE r.right p A f g.av.length b2.2.2.1 hp o (by omega) (λx hx=>⟨b2.2.2.2 x hx,λK=>hf.neg L hx K⟩)
     refine ay.gV cc (by kernel_rfl) ⟨cm.tree (bg r.right),cm.tree (bg p),B.kI o,cm.tree (.val _),trivial⟩ ?_
     have cf:=I3 p A r.right f
     have b3:∀j,j<=p.length->(mc p A r.right f).getD j false=true->f<=j/\Sp g p r.right f j:=λj hj he=>by
      have h1:=(Kr (show f<=p.length by omega) hj).1 he
      exact⟨h1.le MQ,W4 (λn i j h=>(y n i j h.2).2) h1⟩
     have b4:A=z->mc p A r.right f=mc p z r.right f:=λe=>by rw[e]
     have bd:(t 8=gb false/\A=z/\((∀q r,q<i->g.rules[q]?=some r->∀f,f<=p.length->lP p z r f)/\∀J,J<f->lP p z r J)/\mc p A r.right f=mc p z r.right f)∨(t 8=gb true/\sg z<sg A):=by
      rcases Q with ⟨a,b,c⟩ | h
      .exact .inl ⟨a,b,c,b4 b⟩
      .exact .inr h
     clear Q b4
     generalize mc p A r.right f=E at cf b3 bd
     simp(disch:=omega)only[↓wr,seval,wq,t11]
     refine aW.up (p.length+1-f) (λs t H'=>VE g p I R C z (((∀q r,q<i->g.rules[q]?=some r->∀f,f<=p.length->lP p z r f)/\∀J,J<f->lP p z r J)/\E=mc p z r.right f/\∀j,f<=j->j<f+s->E.getD j false=true->iB z r.left.toNat f j=true) t H'/\t 9=gi i/\t 10=.ptr b 0 0/\H' b=.arr 3 [aQ r]/\t 11=gi f/\t 12=bY E/\t 13=gi ((f+s:Nat):Int)) ?_ ?_
     .refine⟨⟨A,B,o,y,?_,t1,t2,t5⟩,t9,t10,M,t11,rfl,rfl⟩
      rcases bd with ⟨a,b,c,d⟩ | h
      .exact .inl ⟨a,b,c,d,λj h1 h2=>by omega⟩
      .exact .inr h
     clear B bd t1 t2 t5 t9 t10 t11 M o y
     rintro s w t H hw ⟨⟨A,B,o,y,Q,t1,t2,t5⟩,t9,t10,M,t11,t12,t13⟩
     simp(disch:=omega)only[↓wr,seval,wq,tK,t1,t13,encI]
     apply ao.dec<;>intro ch
     .have cj:E[f+s]?=some (E.getD (f+s) false):=by simp[show f+s<E.length by omega]
      have ar:=b3 (f+s) (by omega)
      simp(disch:=omega)only[↓wr,seval,wq,t12,t13,bY,aba,cj]
      generalize a1:E.getD (f+s) false=lv at ar
      have N:r.left.toNat<g.av.length:=by omega
      have P:=B.top
      have O:=gK (F:=λn=>[V.sl (R n) 0 (p.length+1) 1]) N
      have ae:=B.row r.left.toNat N
      have al:=gK (F:=λi=>[V.sl (C r.left.toNat i) 0 (p.length+1) 1]) (show f<p.length+1 by omega)
      have S:=B.cell r.left.toNat f N (by omega)
      obtain⟨row,cell,cV,ck,b1,bl⟩:=o.cell N (show f<p.length+1 by omega)
      rw[bl] at S
      have an:=uI (l:=cell) (i:=f+s) (by omega)
      have b5:iB A r.left.toNat f (f+s)=cell.getD (f+s) false:=by rw[iB,bl]
      have X:∀(bn:Bool),(bn=true->iB A r.left.toNat f (f+s)=true)->E.getD (f+s) false=bn->((t 8=gb false/\A=z/\((∀q r,q<i->g.rules[q]?=some r->∀f,f<=p.length->lP p z r f)/\∀J,J<f->lP p z r J)/\E=mc p z r.right f/\∀j,f<=j->j<f+(s+1)->E.getD j false=true->iB z r.left.toNat f j=true)∨(t 8=gb true/\sg z<sg A)):=λbn Y b7=>by
       rcases Q with ⟨a,b,c,d,e⟩ | h
       .refine .inl ⟨a,b,c,d,λj h1 h2 h3=>?_⟩
        by_cases ej:j=f+s
        .subst ej
         rw[b7] at h3
         rw[<-b];exact Y h3
        .exact e j h1 (by omega) h3
       .exact .inr h
      apply ao.split<;>intro Y
      .subst Y
       obtain⟨_,cu⟩:=ar rfl
       simp(disch:=omega)only[↓wr,seval,wq,t5,t10,t11,t13,M,aQ,P,O,ae,al,S,an]
       refine⟨by omega,by simp;omega,?_⟩
       try simp(disch:=omega)only[↓wr,seval,wq,t1,t2,t5,t9,t10,t11,t12,t13,M,aQ,P,O,ae,al,S,an]
       refine⟨by omega,by simp;omega,by omega,by omega,?_⟩
       apply ao.split<;>intro br
       .simp(disch:=omega)only[↓wr,seval,wq,t1,t2,t5,t9,t11,t13]
        exact aF hw (by omega) ⟨⟨A,B,o,y,X true (λ_=>by rw[b5];exact br) a1,t1,t2,t5⟩,t9,t10,M,t11,t12,rfl⟩
       .simp(disch:=omega)only[↓wr,seval,wq,t1,t2,t5,t9,t10,t11,t13,M,aQ,P,O,ae,al,S,an]
        refine⟨by omega,by simp;omega,?_⟩
        try simp(disch:=omega)only[↓wr,seval,wq,t1,t2,t5,t9,t10,t11,t12,t13,M,aQ,P,O,ae,al,S,an]
        refine⟨by omega,by simp;omega,by omega,by omega,?_⟩
        have a6:=B.put o N (show f<p.length+1 by omega) (show f+s<p.length+1 by omega)
        have cv:=XP o N (show f<p.length+1 by omega) (show f+s<p.length+1 by omega) (by rw[b5];exact br)
        rw[bl,<-iG] at a6
        have cA:b≠C r.left.toNat f:=λe=>by rw[e,S] at M;simp at M
        refine aF hw (by omega) ⟨⟨qX A r.left.toNat f (f+s),?_,U1 o N (by omega),λn i' j' h=>?_,.inr ⟨rfl,?_⟩,t1,t2,t5⟩,t9,t10,by simp[View.set,cA,M,aQ],t11,t12,rfl⟩
        .exact a6
        .rw[WK o N (by omega) (by omega)] at h
         split at h
         .rename_i e
          obtain⟨rfl,rfl,rfl⟩:=e
          refine⟨by omega,?_⟩
          exact .eN _ _ r _ _ _ (by omega) L (by omega) cu (.nil _)
         .exact y n i' j' h
        .rcases Q with ⟨_,e,_⟩ | ⟨_,e⟩
         .rw[cv,e];omega
         .omega
      .subst Y
       simp(disch:=omega)only[↓wr,seval,wq,t1,t2,t5,t9,t11,t13]
       exact aF hw (by omega) ⟨⟨A,B,o,y,X false (λh=>by simp at h) a1,t1,t2,t5⟩,t9,t10,M,t11,t12,rfl⟩
     .simp(disch:=omega)only[↓wr,seval,wq,t1,t2,t5,t9,t11]
      refine aF hu (by omega) ⟨⟨A,B,o,y,?_,t1,t2,t5⟩,t9,t10,M,rfl⟩
      rcases Q with ⟨a,b,c,d,e⟩ | h
      .refine .inl ⟨a,b,c.1,λJ W=>?_⟩
       by_cases ef:J=f
       .subst ef
        exact λj h1 h2 h3=>e j h1 (by omega) (by rw[d];exact h3)
       .exact c.2 J (by omega)
      .exact .inr h
    .simp(disch:=omega)only[↓wr,seval,wq,t1,t2,t5,t9]
     refine aF hm (by omega) ⟨⟨A,B,o,y,?_,t1,t2,t5⟩,rfl⟩
     rcases Q with ⟨a,b,c,d⟩ | h
     .refine .inl ⟨a,b,λq r' hq aq J W=>?_⟩
      by_cases eq:q=i
      .subst eq
       rw[a8] at aq;simp at aq;subst aq
       exact d J (by omega)
      .exact c q r' (by omega) aq J W
     .exact .inr h
   .simp(disch:=omega)only[↓wr,seval,wq,t1,t2,t5]
    rcases Q with ⟨a,b,c⟩ | ⟨a,b⟩
    .subst b
     refine⟨0,by have:=Kw U;omega,A,B,U,ab,.inr ⟨a,λr hr f W=>?_⟩,rfl⟩
     obtain⟨q,hq,cC⟩:=acY hr
     exact c q r (by omega) (by rw[aa8 hq,cC]) f W
    .have:=Kw o
     exact⟨g.av.length*((p.length+1)*(p.length+1))+1-sg A,by omega,A,B,o,y,.inl ⟨a,by omega⟩,rfl⟩
  .simp(disch:=omega)only[↓wr,seval,wq,mL,t5,t8]
   intro h' hh
   have hT:z=Dx g p:=Y8 (λr hr=>(hf.left r hr).1) (λr hr=>(hf.left r hr).2) U (λn i j h=>(ab n i j h.2).2) (λn i j h=>(ab n i j h).1) λr hr f j cN hj he=>b1 r hr f (by omega) j cN hj he
   rw[<-hT]
   exact qc.ZS (by rw[hh];exact B) U
def Cc (g:ak) (p:List Int):Bool:=p.all λx=>decide (-1<=x)&&decide (x<g.ax.length)
def nQ (g:ak) (p:List Int):Bool:=iB (Dx g p) g.start.toNat 0 p.length
def E7 (g:ak) (p:List Int):Bool × Int:=if (bu g&&decide (p.length<=60)&&Cc g p)=true then (nQ g p,0) else (false,1)
def Br (x:Bool × Int):V:=.bc [gb x.1,gi x.2]
theorem Cj (x:Bool × Int):Tree (Br x):=tP (.val _) (.val _)
theorem D5 {g:ak} (hr:bu g=true) (p:List Int):nQ g p=true↔Sp g p [-1-g.start] 0 p.length:=by
 have a:=bF hr
 have b:=a.lB
 have h1:=a.start
 rw[nQ,To (by omega) (by omega) (by omega)]
 rw[show ((g.start.toNat:Nat):Int)=g.start by omega]
def qv:SC:=
 ai [ai [ag [af 15 6,af 16 1,aM 17 16,aS 18 .lss 15 17],bO 18 (.exit 0)],.block 1 (ai [.region false [⟨none,[af 21 1,af 22 6,aL 23 1 21 22,au 24 23,aI 25 .lss 24 (-1),af 26 25]⟩,⟨(some (26,false)),[af 27 1,af 28 6,aL 29 1 27 28,au 30 29,aw 31 0 2,au 32 31,aM 33 32,aS 34 .geq 30 33]⟩,⟨none,[cJ 35 26 34]⟩],aX 35 (ai [ag [bb 4 false,aT 5 1],.ret])]),ag [af 19 6,aI 20 .add 19 1,af 6 20]]
def tj:SF:=⟨ai [ag [bZ 2 0,bb 4 false,aT 5 0],ai [.region false [⟨none,[aV 7 4 2,aU 8 50 [7],cO 9 8,af 10 9]⟩,⟨(some (10,false)),[af 11 1,aM 12 11,aI 13 .gtr 12 60]⟩,⟨none,[cJ 14 10 13]⟩],aX 14 (ai [ag [bb 4 false,aT 5 1],.ret])],ai [ag [aT 6 0],bR 0 qv],.region true [⟨none,[aV 36 4 2,af 37 1,aU 38 139 [36,37],aw 39 3 2,au 40 39,aL 41 1 38 40,au 42 41,((some 43),.op (.idx 1 (.tmp 42) (.val (.val (.int .i64 0))))),au 44 43,af 45 1,aM 46 45,aL 47 1 44 46,au 48 47,af 4 48,aT 5 0]⟩],.ret],
 [.tmp 4,.tmp 5],49⟩
theorem zi:aJ aa 78 [2]=some tj:=by kernel_rfl
theorem Rf (g:ak) (q:g.Ok) (p:List Int) (hp:aG p) (E:∀x∈p,bm x):aC aa 78 [.agg (aj g),encI p] (Br (E7 g p)):=by
 refine aC.tree (by
  intro v y;simp at y
  rcases y with rfl | rfl
  .exact bW _ (cy g)
  .exact bg p) (Cj _) λH=>?_
 refine az.of mixed zi ?_
 unfold aG at hp
 have r:=q.ax
 unfold aG at r
 have bad:(bu g&&decide (p.length<=60)&&Cc g p)=false->Br (E7 g p)=.bc [gb false,gi 1]:=λe=>by
  unfold E7;rw[aa9 (by rw[e];simp)];rfl
 simp(disch:=omega)only[↓wr,seval,wq,tj,aj,encS,encI]
 refine ay.pure (jV g q) ?_
 simp(disch:=omega)only[↓wr,seval,wq]
 apply ao.split<;>intro hr
 .have s:=bF hr
  simp(disch:=omega)only[↓wr,seval,wq]
  apply ao.dec<;>intro z
  .simp(disch:=omega)only[↓wr,seval,wq]
   exact(bad (by rw[decide_eq_false (by omega)];simp)).symm
  .simp(disch:=omega)only[↓wr,seval,wq]
   refine aW.up p.length (λi o H'=>Cc g (p.take i)=true/\o 1=encI p/\o 2=.aR (aj g) 0/\o 6=gi i) ⟨rfl,rfl,rfl,rfl⟩ ?_
   rintro i k o H' hk ⟨a,t1,t2,t6⟩
   simp(disch:=omega)only[↓wr,seval,wq,qv,t1,t6,encI]
   apply ao.dec<;>intro A
   .have b:p[i]?=some (p[i]'(by omega)):=aa8 (by omega)
    have c:p[i]'(by omega)∈p:=abe _
    have h:p.take (i+1)=p.take i++[p[i]'(by omega)]:=by rw[abr,b];rfl
    generalize p[i]'(by omega)=x at b c h
    have t:Cc g (p.take (i+1))=(decide (-1<=x)&&decide (x<g.ax.length)):=by
     unfold Cc at a ⊢
     rw[h,adn,a];simp
    have j:(decide (-1<=x)&&decide (x<g.ax.length))=false->Cc g p=false:=λe=>by
     unfold Cc
     rw[ac9]
     exact⟨x,c,by rw[e];simp⟩
    simp(disch:=omega)only[↓wr,seval,wq,t1,t6,encI,aj,encS,aba,b]
    apply ao.dec<;>intro h1
    .simp(disch:=omega)only[↓wr,seval,wq,t1,t2,t6]
     exact(bad (by rw[j (by rw[decide_eq_false (by omega)];rfl),acK])).symm
    .simp(disch:=omega)only[↓wr,seval,wq,t1,t2,t6,encI,aj,encS,aba,b]
     apply ao.dec<;>intro B
     .simp(disch:=omega)only[↓wr,seval,wq,t1,t2,t6]
      exact(bad (by rw[j (by rw[decide_eq_false (show ¬ x<(g.ax.length:Int) by omega),acK]),acK])).symm
     .simp(disch:=omega)only[↓wr,seval,wq,t1,t2,t6]
      exact aF hk (by omega) ⟨by rw[t,abJ (by omega),abJ (by omega)];rfl,t1,t2,rfl⟩
   .rw[abo (by omega)] at a
    simp(disch:=omega)only[↓wr,seval,wq,t1,t2,aj,encS]
    have l:=ZE g q s p (by omega)
    simp only[aj,encS] at l
    refine ay.pure l.pure ?_
    have F:=s.lB
    have h1:=s.start
    obtain⟨row,cell,d,f,C,u⟩:=(Tt g p).cell (n:=g.start.toNat) (i:=0) (by omega) (by omega)
    have m:cell[p.length]?=some (nQ g p):=by
     rw[nQ,iB,u];simp[show p.length<cell.length by omega]
    have D:E7 g p=(nQ g p,0):=abb (by rw[hr,a,abJ (by omega)];rfl)
    generalize Dx g p=S at d ⊢
    have w:cell[(p.length:Int).toNat]?=some (nQ g p):=by rw[abM];exact m
    simp(disch:=omega)only[↓wr,seval,wq,t1,t2,encI,aj,encS,oH,bY,aba,d,f,m]
    rw[D];rfl
 .simp(disch:=omega)only[↓wr,seval,wq]
  exact(bad (by rw[hr];simp)).symm
def Cf (g:ak) (w:List Int):Bool:=w.all λx=>decide (0<=x)&&decide (x<g.ax.length)
def iZ (g:ak) (w:List Int):Bool:=bu g&&decide (w.length<=60)&&Cf g w
theorem zB (g:ak) (w:List Int):∀v∈[V.agg (aj g),encI w],Tree v:=by
 intro v a;simp at a
 rcases a with rfl | rfl
 .exact bW _ (cy g)
 .exact bg w
def qE:SC:=
 ai [ai [ag [af 14 5,af 15 1,aM 16 15,aS 17 .lss 14 16],bO 17 (.exit 0)],.block 1 (ai [.region false [⟨none,[af 20 1,af 21 5,aL 22 1 20 21,au 23 22,aI 24 .lss 23 0,af 25 24]⟩,⟨(some (25,false)),[af 26 1,af 27 5,aL 28 1 26 27,au 29 28,aw 30 0 2,au 31 30,aM 32 31,aS 33 .geq 29 32]⟩,⟨none,[cJ 34 25 33]⟩],aX 34 (ai [ag [bb 4 false],.ret])]),ag [af 18 5,aI 19 .add 18 1,af 5 19]]
def s8:SF:=⟨ai [ag [bZ 2 0,bb 4 false],ai [.region false [⟨none,[aV 6 4 2,aU 7 50 [6],cO 8 7,af 9 8]⟩,⟨(some (9,false)),[af 10 1,aM 11 10,aI 12 .gtr 11 60]⟩,⟨none,[cJ 13 9 12]⟩],aX 13 (ai [ag [bb 4 false],.ret])],ai [ag [aT 5 0],bR 0 qE],ag [bb 4 true],.ret],
 [.tmp 4],35⟩
theorem ym:aJ aa 17 [2]=some s8:=by kernel_rfl
def uq:SF:=⟨ai [ag [bZ 2 0,bb 4 false,aT 5 0],ai [ag [aV 6 4 2,af 7 1,aU 8 17 [6,7],cO 9 8],aX 9 (ai [ag [bb 4 false,aT 5 1],.ret])],ag [aV 10 4 2,af 11 1,aU 12 78 [10,11],c7 13 0 12,c7 14 1 12,af 4 13,af 5 14],.ret],
 [.tmp 4,.tmp 5],15⟩
theorem zE:aJ aa 35 [2]=some uq:=by kernel_rfl
def yo:SF:=⟨ai [ag [bb 3 false],.region false [⟨none,[af 4 0,aI 5 .lss 4 0,af 6 5]⟩,⟨(some (6,false)),[af 7 0,aw 8 0 1,au 9 8,aM 10 9,aS 11 .geq 7 10]⟩,⟨none,[cJ 12 6 11,af 3 12]⟩],.ret],
 [.tmp 3],13⟩
theorem Di:aJ aa 108 []=some yo:=by kernel_rfl
def Bp:SF:=⟨ai [ag [bZ 2 0,bb 4 false],ai [.region false [⟨none,[aV 5 4 2,aU 6 89 [5],cO 7 6,af 8 7]⟩,⟨(some (8,false)),[af 9 1,aM 10 9,aI 11 .gtr 10 60]⟩,⟨none,[cJ 12 8 11]⟩],aX 12 (ai [ag [bb 4 false],.ret])],ag [af 13 1,((some 14),.op (.uh 108 [] [(.tmp 2)])),aU 15 90 [13,14],cO 16 15,af 4 16],.ret],
 [.tmp 4],17⟩
theorem Gr:aJ aa 52 [2]=some Bp:=by kernel_rfl
theorem Uc (g:ak) (m:g.Ok) (p:List Int) (hp:aG p) (r:∀x∈p,bm x):aC aa 17 [.agg (aj g),encI p] (gb (iZ g p)):=by
 refine aC.val (zB g p) λH=>?_
 refine az.of mixed ym ?_
 unfold aG at hp
 have j:=m.ax
 unfold aG at j
 simp(disch:=omega)only[↓wr,seval,wq,s8,aj,encS,encI]
 refine ay.pure (jV g m) ?_
 simp(disch:=omega)only[↓wr,seval,wq]
 apply ao.split<;>intro hr
 .simp(disch:=omega)only[↓wr,seval,wq]
  apply ao.dec<;>intro n
  .simp(disch:=omega)only[↓wr,seval,wq]
   rw[iZ,decide_eq_false (show ¬ p.length<=60 by omega)];simp
  .simp(disch:=omega)only[↓wr,seval,wq]
   refine aW.up p.length (λi h H'=>Cf g (p.take i)=true/\h 1=encI p/\h 2=.aR (aj g) 0/\h 5=gi i) ⟨rfl,rfl,rfl,rfl⟩ ?_
   rintro i k h H' hk ⟨a,t1,t2,t6⟩
   simp(disch:=omega)only[↓wr,seval,wq,qE,t1,t6,encI]
   apply ao.dec<;>intro o
   .have b:p[i]?=some (p[i]'(by omega)):=aa8 (by omega)
    have c:p[i]'(by omega)∈p:=abe _
    have d:p.take (i+1)=p.take i++[p[i]'(by omega)]:=by rw[abr,b];rfl
    generalize p[i]'(by omega)=x at b c d
    have l:Cf g (p.take (i+1))=(decide (0<=x)&&decide (x<g.ax.length)):=by
     unfold Cf at a ⊢
     rw[d,adn,a];simp
    have f:(decide (0<=x)&&decide (x<g.ax.length))=false->iZ g p=false:=λe=>by
     have:Cf g p=false:=by
      unfold Cf
      rw[ac9]
      exact⟨x,c,by rw[e];simp⟩
     rw[iZ,this,acK]
    simp(disch:=omega)only[↓wr,seval,wq,t1,t6,encI,aj,encS,aba,b]
    apply ao.dec<;>intro h1
    .simp(disch:=omega)only[↓wr,seval,wq,t6]
     rw[f (by rw[decide_eq_false (by omega)];rfl)]
    .simp(disch:=omega)only[↓wr,seval,wq,t1,t2,t6,encI,aj,encS,aba,b]
     apply ao.dec<;>intro q
     .simp(disch:=omega)only[↓wr,seval,wq,t6]
      rw[f (by rw[decide_eq_false (show ¬ x<(g.ax.length:Int) by omega),acK])]
     .simp(disch:=omega)only[↓wr,seval,wq,t6]
      exact aF hk (by omega) ⟨by rw[l,abJ (by omega),abJ (by omega)];rfl,t1,t2,rfl⟩
   .rw[abo (by omega)] at a
    simp(disch:=omega)only[↓wr,seval,wq]
    rw[iZ,hr,a,abJ (by omega)];rfl
 .simp(disch:=omega)only[↓wr,seval,wq]
  rw[iZ,hr];rfl
def k6 (g:ak) (w:List Int):Bool × Int:=if iZ g w=true then (nQ g w,0) else (false,1)
theorem VU {g:ak} {w:List Int} (h:iZ g w=true):E7 g w=(nQ g w,0):=by
 unfold iZ at h
 simp only[abh,abn] at h
 refine abb ?_
 rw[h.1.1,abJ h.1.2]
 simp only[abQ,Cc,abC,abh,abn]
 intro x a
 have:=abC.1 h.2 x a
 simp only[abh,abn] at this
 omega
theorem V0 (g:ak) (b:g.Ok) (w:List Int) (hw:aG w) (c:∀x∈w,bm x):aC aa 35 [.agg (aj g),encI w] (Br (k6 g w)):=by
 refine aC.tree (zB g w) (Cj _) λH=>?_
 refine az.of mixed zE ?_
 simp(disch:=omega)only[↓wr,seval,wq,uq,aj,encS]
 have h1:=Uc g b w hw c
 have d:=Rf g b w hw c
 simp only[aj,encS] at h1 d
 refine ay.pure h1 ?_
 simp(disch:=omega)only[↓wr,seval,wq]
 apply ao.split<;>intro a
 .simp(disch:=omega)only[↓wr,seval,wq]
  refine ay.pure d ?_
  rw[VU a]
  simp(disch:=omega)only[↓wr,seval,wq,Br]
  rw[k6,abb a]
 .simp(disch:=omega)only[↓wr,seval,wq]
  rw[k6,aa9 (by rw[a];simp)];rfl
theorem Re (g:ak) (c:g.Ok) (x:Int) (d:bm x):aC aa 108 [gi x,.aR (aj g) 0] (gb (!(decide (0<=x)&&decide (x<g.ax.length)))):=by
 have a:=c.ax
 unfold aG at a
 refine aC.val (by
  intro v b;simp at b
  rcases b with rfl | rfl
  .exact .val _
  .exact iJ (cy g)) λH=>?_
 refine az.of mixed Di ?_
 simp(disch:=omega)only[↓wr,seval,wq,yo,aj,encS]
 apply ao.dec<;>intro h1
 .simp(disch:=omega)only[↓wr,seval,wq]
  rw[decide_eq_false (show ¬ 0<=x by omega)];rfl
 .simp(disch:=omega)only[↓wr,seval,wq]
  rw[abJ (show 0<=x by omega)]
  rw[abQ,<-decide_not];congr 2;exact decide_eq_decide.2 ⟨λh=>Int.not_lt.2 h,λh=>Int.not_lt.1 h⟩
theorem K0 (g:ak) (b:g.Ok) (d:g.Small) (w:List Int) (hw:aG w) (e:∀x∈w,bm x):aC aa 52 [.agg (aj g),encI w] (gb (iZ g w)):=by
 refine aC.val (zB g w) λH=>?_
 have a:=ju w hw 108 [.aR (aj g) 0] (by intro v c;simp at c;subst c;exact iJ (cy g)) (λx=>!(decide (0<=x)&&decide (x<g.ax.length))) (λx f=>Re g b x (e x f)) (by kernel_rfl)
 refine az.of mixed Gr ?_
 unfold aG at hw
 simp(disch:=omega)only[↓wr,seval,wq,Bp,aj,encS]
 refine ay.pure (pF g b d.names) ?_
 simp only[aj,encS] at a
 simp(disch:=omega)only[↓wr,seval,wq]
 apply ao.split<;>intro hr
 .simp(disch:=omega)only[↓wr,seval,wq,encI]
  apply ao.dec<;>intro h
  .simp(disch:=omega)only[↓wr,seval,wq]
   rw[iZ,decide_eq_false (show ¬ w.length<=60 by omega)];simp
  .simp(disch:=omega)only[↓wr,seval,wq]
   refine ay.pure a ?_
   simp(disch:=omega)only[↓wr,seval,wq]
   rw[iZ,hr,abJ (show w.length<=60 by omega),<-List.not_all_eq_any_not,Bool.not_not];rfl
 .simp(disch:=omega)only[↓wr,seval,wq]
  rw[iZ,hr];rfl
end
end Gv
