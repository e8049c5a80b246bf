/-
  Part 10 of the proof: what the machine does and what the functions answer.
  Conditions: those that each lemma names.
-/
import Derived.Test.YtiophifnkakjgaaGreatSGzC6I
set_option linter.unusedSimpArgs false
set_option linter.unusedVariables false
set_option maxRecDepth 100000
set_option maxHeartbeats 20000000
namespace Gv
noncomputable section
open Go Go.Proofs
theorem Nt {l:List Int} {a b:List Bool} {t:Bool} (h:iP a b) (k:fA l a t=true):fA l b t=true:=by
 simp only[fA,abj] at k ⊢
 intro s d
 have:=k s d
 by_cases c:0<=s
 .rw[aaT c] at this ⊢;exact this
 .rw[aaR c] at this ⊢;exact h.2 _ this
theorem iP.VG {a b:List Bool} (h:iP a b) (k:iP b a):a=b:=by
 have h1:=h.dh
 have c:=k.dh
 exact h1.2 (by omega)
def qa (g:aj) (t:Bool) (is:List Bool):Prop:=∀i,is.getD i false=true->∃r∈g.rules,r.left.toNat=i/\fA r.right is t=true
theorem qa.step {g:aj} {t:Bool} {is:List Bool} {r:bc} (h:qa g t is) (hr:r∈g.rules):qa g t (fq t is r):=by
 have hle:iP is (fq t is r):=by
  unfold fq
  split
  .exact .set _ _
  .exact .refl _
 intro i hi
 by_cases e:is.getD i false=true
 .obtain⟨c,h1,d,f⟩:=h i e
  exact⟨c,h1,d,Nt hle f⟩
 .unfold fq at hi
  by_cases a:fA r.right is t=true
  .rw[aaT a] at hi
   have:r.left.toNat=i:=by
    refine ack λb=>e ?_
    simp only[aaP,abI,aaR b] at hi ⊢
    exact hi
   exact⟨r,hr,this,Nt hle a⟩
  .rw[aaR a] at hi;exact absurd hi e
theorem qa.fold {g:aj} {t:Bool}:∀(l:List bc) (is:List Bool),(∀r∈l,r∈g.rules)->qa g t is->qa g t (l.foldl (fq t) is)
 | [],is,_,h=>h
 | r::l,is,a,h=>qa.fold l _ (λx b=>a x (by simp[b])) (h.step (a r (by simp)))
theorem qa.iter {g:aj} {t:Bool}:∀(n:Nat) (is:List Bool),qa g t is->qa g t (iter (lK g t) n is)
 | 0,_,h=>h
 | n+1,is,h=>qa.iter n _ (qa.fold g.rules is (λ_ h=>h) h)
theorem PO (g:aj) (t:Bool):qa g t (bj g t):=by
 unfold bj
 split
 .refine qa.iter _ _ ?_
  intro i hi
  simp only[cM,aaP,abH] at hi
  split at hi<;>simp at hi
 .intro i hi;simp at hi
theorem NI (is:List Bool) (s:Int):iP is (mark is s):=by
 unfold mark
 split
 .exact .set _ _
 .exact .refl _
theorem D5:∀(l:List Int) (is:List Bool),iP is (l.foldl mark is)
 | [],is=>.refl _
 | s::l,is=>(NI is s).trans (D5 l _)
theorem J7 (p is:List Bool) (r:bc):iP is (iZ p is r):=by
 unfold iZ
 split
 .exact D5 _ _
 .exact .refl _
theorem Kn (p:List Bool):∀(l:List bc) (is:List Bool),iP is (l.foldl (iZ p) is)
 | [],is=>.refl _
 | r::l,is=>(J7 p is r).trans (Kn p l _)
theorem I2 {p:List Bool}:∀ {l:List bc} {is:List Bool},l.foldl (iZ p) is=is->∀r∈l,iZ p is r=is
 | [],_,_,_,h=>by simp at h
 | r::l,is,h,x,a=>by
  rw[abF] at h
  have h1:=Kn p l (iZ p is r)
  rw[h] at h1
  have b:=(h1.VG (J7 p is r))
  rcases abd.1 a with rfl | a
  .exact b
  .rw[b] at h;exact I2 h x a
theorem IS:∀ {l:List Int} {is:List Bool},l.foldl mark is=is->∀s∈l,mark is s=is
 | [],_,_,_,h=>by simp at h
 | r::l,is,h,x,a=>by
  rw[abF] at h
  have h1:=D5 l (mark is r)
  rw[h] at h1
  have b:=(h1.VG (NI is r))
  rcases abd.1 a with rfl | a
  .exact b
  .rw[b] at h;exact IS h x a
theorem IK {g:aj} (hr:bt g=true):tg g (bj g true) (cW g)=cW g/\iP ((cM g).set g.start.toNat true) (cW g):=by
 have a:=bE hr
 have h:=wz (vR (bj g true)) g.rules 16 ((cM g).set g.start.toNat true) (by have:=a.av;simp[cM];omega)
 rw[N8,QW hr] at h
 exact h
theorem MS {g:aj} (hr:bt g=true):(cW g).getD g.start.toNat false=true:=by
 have a:=bE hr
 refine(IK hr).2.2 _ ?_
 have b:=a.lB
 have c:=a.start
 simp only[aaP]
 rw[acL (by simp[cM];omega)]
 rfl
theorem P2 {g:aj} (hr:bt g=true) {r:bc} (hm:r∈g.rules) (hk:dL (bj g true) (cW g) r=true) {s:Int} (b:s∈r.right) (c:s<0):(cW g).getD (-1-s).toNat false=true:=by
 have d:=bE hr
 have h1:=I2 (IK hr).1 r hm
 unfold iZ at h1
 rw[dL] at hk
 rw[aaT hk] at h1
 have a:=IS h1 s b
 unfold mark at a
 rw[aaT c] at a
 rw[<-a]
 have e:=sD hr
 have:=d.neg hm b c
 simp only[aaP]
 rw[acL (by omega)]
 rfl
theorem RQ {g:aj} (hr:bt g=true) {x:Int} (d:0<=x) (hp:(bj g true).getD x.toNat false=true) (a:(cW g).getD x.toNat false=true):x∈c5 (bj g true) (cW g) g.rules:=by
 obtain⟨r,h1,e,b⟩:=PO g true _ hp
 have c:=bE hr
 have f:=c.left r h1
 have:r.left=x:=by omega
 refine LH.2 ⟨r,h1,?_,this⟩
 rw[dL,this,a,b];rfl
theorem Qq (g:aj):(if bt g=true then
  if (bj g true).getD g.start.toNat false=true then (zm g (eV (c5 (bj g true) (cW g) g.rules)) (bj g true) (cW g),dz (bj g true) (cW g) g.rules 0,0)
  else (vh,[],9)
 else (vh,[],1))=iR g:=by
 unfold iR
 by_cases hr:bt g=true
 .rw[aaT hr,aaT hr]
  by_cases hp:(bj g true).getD g.start.toNat false=true
  .rw[aaT hp,aaT hp]
   have c:=bE hr
   rw[To]
   .exact RQ hr c.lB hp (MS hr)
   .intro r hm
    obtain⟨h1,a⟩:=ab7.1 hm
    refine⟨LH.2 ⟨r,h1,a,rfl⟩,λs b d=>?_⟩
    refine RQ hr (by omega) ?_ (P2 hr h1 a b d)
    rw[dL,aaZ] at a
    have:=a.2
    simp only[fA,abj] at this
    have:=this s b
    rwa [aaR (by omega)] at this
  .rw[aaR hp,aaR hp]
 .rw[aaR hr,aaR hr]
theorem QF (g:aj) (a:g.Ok) (b:g.Small):cg aa 92 [.agg (ak g)] (Ac (iR g)):=by
 rw[<-Qq];exact MQ g a b
def bZ (g:aj) (k:Int):bc:=g.rules.getD k.toNat ⟨0,[],0⟩
theorem getD_some {α:Type} {l:List α} {j:Nat} {d:α} (h:j<l.length):l[j]?=some (l.getD j d):=by simp[aaP,h]
section
variable {g r:aj} {p q:List Bool} {o:List Int}
end
theorem We {l:List Bool} {i j:Nat} (h:(l.set i true).getD j false=true):j=i∨l.getD j false=true:=by
 by_cases e:i=j
 .exact .inl e.symm
 .right
  simp only[aaP,abI,aaR e] at h ⊢
  exact h
theorem QJ {g:aj} {i:Nat} : (cM g).getD i false=false:=by
 simp only[cM,aaP,abH]
 split<;>rfl
theorem I3 (t:Bool) (is:List Bool) (R:bc):iP is (fq t is R):=by
 unfold fq
 split
 .exact .set _ _
 .exact .refl _
theorem Ie (t:Bool):∀(l:List bc) (is:List Bool),iP is (l.foldl (fq t) is)
 | [],is=>.refl _
 | R::l,is=>(I3 t is R).trans (Ie t l _)
theorem GP {t:Bool}:∀ {l:List bc} {is:List Bool},l.foldl (fq t) is=is->∀R∈l,fq t is R=is
 | [],_,_,_,h=>by simp at h
 | R::l,is,h,x,a=>by
  rw[abF] at h
  have h1:=Ie t l (fq t is R)
  rw[h] at h1
  have b:=(h1.VG (I3 t is R))
  rcases abd.1 a with rfl | a
  .exact b
  .rw[b] at h;exact GP h x a
theorem Sc {g:aj} (hr:bt g=true) (t:Bool):lK g t (bj g t)=bj g t:=by
 have a:=bE hr
 have h:=wz (oE t) g.rules 16 (cM g) (by have:=a.av;simp[cM];omega)
 rw[Nl,LX hr] at h
 exact h.1
theorem Cp {g:aj} (hr:bt g=true) {t:Bool} {R:bc} (a:R∈g.rules) (b:fA R.right (bj g t) t=true):(bj g t).getD R.left.toNat false=true:=by
 have h1:=GP (Sc hr t) R a
 have c:=bE hr
 have d:=jn hr t
 have e:=c.left R a
 unfold fq at h1
 rw[aaT b] at h1
 rw[<-h1]
 simp only[aaP]
 rw[acL (by omega)]
 rfl
section
variable {g r:aj} {p q:List Bool} {o:List Int}
end
def isRed (g:aj):Bool:=(iR g).2.2==0&&decide (g=(iR g).1)
def vn (p:List Int) (i:Nat) (s:Int):Prop:=∃c,p[i]?=some c/\(c=s∨c = -1)
inductive Sp (g:aj) (p:List Int):List Int->Nat->Nat->Prop
 | nil (i:Nat):Sp g p [] i i
 | term (s:Int) (l:List Int) (i j:Nat):0<=s->vn p i s->Sp g p l (i+1) j->Sp g p (s::l) i j
 | eJ (s:Int) (l:List Int) (R:bc) (i k j:Nat):s<0->R∈g.rules->R.left = -1-s->Sp g p R.right i k->Sp g p l k j->Sp g p (s::l) i j
theorem Sp.le {g:aj} {p:List Int} {l:List Int} {i j:Nat} (h:Sp g p l i j):i<=j:=by
 induction h with
 | nil=>exact aaY _
 | term _ _ _ _ _ _ _ c=>omega
 | eJ _ _ _ _ _ _ _ _ _ _ _ a b=>omega
theorem Sp.len {g:aj} {p:List Int} {l:List Int} {i j:Nat} (h:Sp g p l i j):i<=p.length->j<=p.length:=by
 induction h with
 | nil=>exact id
 | term _ _ i _ _ d _ e =>
  intro _
  obtain⟨c,f,_⟩:=d
  have:=(aaX.1 f).1
  exact e (by omega)
 | eJ _ _ _ _ _ _ _ _ _ _ _ a b=>exact λh=>b (a h)
theorem Sp.app {g:aj} {p:List Int} {a:List Int} {i k:Nat} (h:Sp g p a i k):∀ {b:List Int} {j:Nat},Sp g p b k j->Sp g p (a++b) i j:=by
 induction h with
 | nil=>exact λh=>h
 | term s l i _ c f _ m=>exact λd=>.term s _ i _ c f (m d)
 | eJ s l R i k _ c n o h1 _ _ e=>exact λd=>.eJ s _ R i k _ c n o h1 (e d)
theorem Sp.split {g:aj} {p:List Int}:∀ {a b:List Int} {i j:Nat},Sp g p (a++b) i j->∃k,Sp g p a i k/\Sp g p b k j
 | [],b,i,j,h=>⟨i,.nil i,h⟩
 | s::a,b,i,j,h=>by
  cases h with
  | term _ _ _ _ c e h =>
   obtain⟨k,h1,d⟩:=Sp.split h
   exact⟨k,.term s a i k c e h1,d⟩
  | eJ _ _ R _ m _ c f l h1 h =>
   obtain⟨k,d,n⟩:=Sp.split h
   exact⟨k,.eJ s a R i m k c f l h1 d,n⟩
theorem X9 {g:aj} (hr:bt g=true) {p l:List Int} {i j:Nat} (h:Sp g p l i j):i=j->fA l (bj g false) false=true:=by
 induction h with
 | nil=>intro _;rfl
 | term _ _ _ _ _ _ h _=>intro e;have:=h.le;omega
 | eJ s l R i k j m c d h1 f a b =>
  intro e
  have n:=h1.le
  have o:=f.le
  have g1:=Cp hr c (a (by omega))
  rw[d] at g1
  have g2:=b (by omega)
  simp only[fA,ab0,aaZ] at g2 ⊢
  rw[aaR (by omega)]
  exact⟨g1,g2⟩
def wO (g:aj) (is:List Bool):Prop:=∀i,is.getD i false=true->∃R∈g.rules,R.left.toNat=i/\∀(p:List Int) (k:Nat),Sp g p R.right k k
theorem Ke {g:aj} (a:∀r∈g.rules,0<=r.left) {is:List Bool} (h:wO g is):∀l:List Int,fA l is false=true->∀(p:List Int) (k:Nat),Sp g p l k k
 | [],_,p,k=>.nil k
 | s::l,b,p,k=>by
  simp only[fA,ab0,aaZ] at b
  obtain⟨h1,e⟩:=b
  by_cases c:0<=s
  .rw[aaT c] at h1;simp at h1
  .rw[aaR c] at h1
   obtain⟨R,d,i,f⟩:=h _ h1
   have:=a R d
   exact .eJ s l R k k k (by omega) d (by omega) (f p k) (Ke a h l e p k)
theorem PE {g:aj} (hr:bt g=true):wO g (bj g false):=by
 have j:=bE hr
 have b:=λr c=>(j.left r c).1
 have d:∀(is:List Bool) (R:bc),R∈g.rules->wO g is->wO g (fq false is R):=by
  intro is R k h i hi
  unfold fq at hi
  split at hi
  .rename_i m
   rcases We hi with rfl | hi
   .exact⟨R,k,rfl,Ke b h R.right m⟩
   .exact h i hi
  .exact h i hi
 have a:∀(l:List bc) (is:List Bool),(∀R∈l,R∈g.rules)->wO g is->wO g (l.foldl (fq false) is):=by
  intro l
  induction l with
  | nil=>intro is _ h;exact h
  | cons R l e=>intro is b h;exact e _ (λx o=>b x (by simp[o])) (d is R (b R (by simp)) h)
 have f:∀(n:Nat) (is:List Bool),wO g is->wO g (iter (lK g false) n is):=by
  intro n
  induction n with
  | zero=>intro is h;exact h
  | succ n e=>intro is h;exact e _ (a g.rules is (λ_ h=>h) h)
 unfold bj
 rw[aaT hr]
 exact f _ _ λi hi=>by rw[QJ] at hi;simp at hi
structure Item where
 aB:Nat
 dot:Nat
 eh:Nat
 deriving DecidableEq
def Sound (g:aj) (p:List Int) (at_:Nat) (x:Item):Prop:=∃R,g.rules[x.aB]?=some R/\x.dot<=R.right.length/\x.eh<=at_/\Sp g p (R.right.take x.dot) x.eh at_
structure E5 (g:aj) (p:List Int) (S:Nat->List Item):Prop where
 start:∀(i:Nat) (R:bc),g.rules[i]?=some R->R.left=g.start->⟨i,0,0⟩∈S 0
 term:∀a x R s,x∈S a->g.rules[x.aB]?=some R->R.right[x.dot]?=some s->0<=s->vn p a s->⟨x.aB,x.dot+1,x.eh⟩∈S (a+1)
 pred:∀a x R s i R',x∈S a->g.rules[x.aB]?=some R->R.right[x.dot]?=some s->s<0->g.rules[i]?=some R'->R'.left = -1-s->a<=p.length->⟨i,0,a⟩∈S a
 null:∀a x R s,x∈S a->g.rules[x.aB]?=some R->R.right[x.dot]?=some s->s<0->(bj g false).getD (-1-s).toNat false=true->a<=p.length->⟨x.aB,x.dot+1,x.eh⟩∈S a
 comp:∀a y R' x R s,y∈S a->g.rules[y.aB]?=some R'->y.dot=R'.right.length->y.eh<a->x∈S y.eh->g.rules[x.aB]?=some R->R.right[x.dot]?=some s->s<0->R'.left = -1-s->a<=p.length->⟨x.aB,x.dot+1,x.eh⟩∈S a
theorem Pp {g:aj} (hr:bt g=true) {p:List Int} {S:Nat->List Item} (w:E5 g p S) {l:List Int} {a j:Nat} (h:Sp g p l a j):
  ∀(x:Item) (R:bc),x∈S a->g.rules[x.aB]?=some R->R.right.drop x.dot=l->x.dot<=R.right.length->a<=p.length->⟨x.aB,R.right.length,x.eh⟩∈S j:=by
 induction h with
 | nil i =>
  intro x R d b f hle _
  have:x.dot=R.right.length:=by
   have:=abY List.length f
   simp at this;omega
  rw[<-this];exact d
 | term s l i j u E _ G =>
  intro x R d b f hle hp
  have m:R.right[x.dot]?=some s:=by
   have:=abY (·[0]?) f
   simpa using this
  have n:=(aaX.1 m).1
  have h1:=w.term i x R s d b m u E
  obtain⟨c,y,_⟩:=E
  have H:=(aaX.1 y).1
  refine G ⟨x.aB,x.dot+1,x.eh⟩ R h1 b ?_ n (by omega)
  have:=abY List.tail f
  simpa using this
 | eJ s l Q i k j u F z o I A B =>
  intro x R d b f hle hp
  have m:R.right[x.dot]?=some s:=by
   have:=abY (·[0]?) f
   simpa using this
  have n:=(aaX.1 m).1
  obtain⟨q,J,C⟩:=acI F
  have r:g.rules[q]?=some Q:=by rw[aaQ J,C]
  have D:=w.pred i x R s q Q d b m u r z hp
  have t:=A ⟨q,0,i⟩ Q D r (by simp) (by simp) hp
  have hk:=o.len hp
  have v:⟨x.aB,x.dot+1,x.eh⟩∈S k:=by
   rcases Nat.lt_or_eq_of_le o.le with e | e
   .exact w.comp k ⟨q,Q.right.length,i⟩ Q x R s t r rfl e d b m u z hk
   .subst e
    have:=Cp hr F (X9 hr o rfl)
    rw[z] at this
    exact w.null i x R s d b m u this hp
  refine B ⟨x.aB,x.dot+1,x.eh⟩ R v b ?_ n hk
  have:=abY List.tail f
  simpa using this
theorem SD {g:aj} (hr:bt g=true) {p:List Int} {S:Nat->List Item} (j:E5 g p S) (l:∀a x,x∈S a->Sound g p a x):
  (∃x∈S p.length,∃R,g.rules[x.aB]?=some R/\R.left=g.start/\x.eh=0/\x.dot=R.right.length)↔Sp g p [-1-g.start] 0 p.length:=by
 have m:=bE hr
 have u:=m.lB
 constructor
 .rintro⟨x,n,R,e,o,f,r⟩
  obtain⟨v,c,_,_,b⟩:=l _ x n
  rw[e] at c;simp at c;subst c
  rw[r,aca,f] at b
  exact .eJ _ _ R 0 p.length p.length (by omega) (aa1 e) (by omega) b (.nil _)
 .intro h
  cases h with
  | term _ _ _ _ h1 _ _=>omega
  | eJ _ _ R _ k _ h1 e o b s =>
   cases s
   obtain⟨q,t,i⟩:=acI e
   have d:g.rules[q]?=some R:=by rw[aaQ t,i]
   have:=Pp hr j b ⟨q,0,0⟩ R (j.start q R d (by omega)) d (by simp) (by simp) (by omega)
   exact⟨_,this,R,d,by omega,rfl,rfl⟩
inductive In (p:List Int) (T:Nat->Nat->Nat->Prop):List Int->Nat->Nat->Prop
 | nil (i:Nat):In p T [] i i
 | term (s:Int) (l:List Int) (i j:Nat):0<=s->vn p i s->In p T l (i+1) j->In p T (s::l) i j
 | eJ (s:Int) (l:List Int) (i k j:Nat):s<0->T (-1-s).toNat i k->In p T l k j->In p T (s::l) i j
theorem WG {g:aj} {p:List Int} {T:Nat->Nat->Nat->Prop} (c:∀n i j,T n i j->Sp g p [-1-(n:Int)] i j) {l:List Int} {i j:Nat} (h:In p T l i j):Sp g p l i j:=by
 induction h with
 | nil i=>exact .nil i
 | term s l i j b d _ a=>exact .term s l i j b d a
 | eJ s l i k j b h1 _ a =>
  have:=c _ _ _ h1
  rw[show -1-(((-1-s).toNat:Nat):Int)=s by omega] at this
  exact Sp.app this a
theorem Y9 {g:aj} (u:∀r∈g.rules,0<=r.left) {p:List Int} {T:Nat->Nat->Nat->Prop} (n:∀R∈g.rules,∀i j,i<=p.length->In p T R.right i j->T R.left.toNat i j) {l:List Int} {i j:Nat} (h:Sp g p l i j):i<=p.length->In p T l i j:=by
 induction h with
 | nil i=>intro _;exact .nil i
 | term s l i j a b _ o =>
  intro _
  obtain⟨c,m,d⟩:=b
  have:=(aaX.1 m).1
  exact .term s l i j a ⟨c,m,d⟩ (o (by omega))
 | eJ s l R i k j a q t h1 _ e f =>
  intro hp
  have:=n R q i k hp (e hp)
  rw[t] at this
  exact .eJ s l i k j a this (f (h1.len hp))
theorem Q0 {g:aj} (b:∀r∈g.rules,0<=r.left) {p:List Int} {T:Nat->Nat->Nat->Prop} (c:∀n i j,T n i j->Sp g p [-1-(n:Int)] i j) (a:∀R∈g.rules,∀i j,i<=p.length->In p T R.right i j->T R.left.toNat i j) {n i j:Nat} (hi:i<=p.length):
  T n i j↔Sp g p [-1-(n:Int)] i j:=by
 refine⟨c n i j,λh=>?_⟩
 cases h with
 | term _ _ _ _ d _ _=>omega
 | eJ _ _ R _ k _ d e l h1 f =>
  cases f
  have:=a R e i _ hi (Y9 b a h1 hi)
  rw[show R.left.toNat=n by omega] at this
  exact this
theorem In.app {p:List Int} {T:Nat->Nat->Nat->Prop} {a:List Int} {i k:Nat} (h:In p T a i k):∀ {b:List Int} {j:Nat},In p T b k j->In p T (a++b) i j:=by
 induction h with
 | nil=>exact λh=>h
 | term s l i _ c f _ d=>exact λe=>.term s _ i _ c f (d e)
 | eJ s l i k _ c h1 _ d=>exact λe=>.eJ s _ i k _ c h1 (d e)
theorem In.split {p:List Int} {T:Nat->Nat->Nat->Prop}:∀ {a b:List Int} {i j:Nat},In p T (a++b) i j->∃k,In p T a i k/\In p T b k j
 | [],b,i,j,h=>⟨i,.nil i,h⟩
 | s::a,b,i,j,h=>by
  cases h with
  | term _ _ _ _ c e h =>
   obtain⟨k,h1,d⟩:=In.split h
   exact⟨k,.term s a i k c e h1,d⟩
  | eJ _ _ _ m _ c h1 h =>
   obtain⟨k,d,f⟩:=In.split h
   exact⟨k,.eJ s a i m k c h1 d,f⟩
theorem In.le {p:List Int} {T:Nat->Nat->Nat->Prop} (a:∀n i j,T n i j->i<=j) {l:List Int} {i j:Nat} (h:In p T l i j):i<=j:=by
 induction h with
 | nil=>exact aaY _
 | term _ _ _ _ _ _ _ b=>omega
 | eJ _ _ _ _ _ _ h1 _ b=>have:=a _ _ _ h1;omega
def stepT (p:List Int) (T:Nat->Nat->Nat->Prop) (s:Int) (i j:Nat):Prop:=if 0<=s then vn p i s/\j=i+1 else T (-1-s).toNat i j
theorem In.one {p:List Int} {T:Nat->Nat->Nat->Prop} {s:Int} {i j:Nat} : In p T [s] i j↔stepT p T s i j:=by
 unfold stepT
 constructor
 .intro h
  cases h with
  | term _ _ _ _ a b h=>cases h;rw[aaT a];exact⟨b,rfl⟩
  | eJ _ _ _ _ _ a h1 h=>cases h;rw[aaR (by omega)];exact h1
 .intro h
  by_cases a:0<=s
  .rw[aaT a] at h
   obtain⟨b,rfl⟩:=h
   exact .term s [] i _ a b (.nil _)
  .rw[aaR a] at h
   exact .eJ s [] i j j (by omega) h (.nil _)
theorem In.snoc {p:List Int} {T:Nat->Nat->Nat->Prop} {a:List Int} {s:Int} {i j:Nat} : In p T (a++[s]) i j↔∃k,In p T a i k/\stepT p T s k j:=
 ⟨λh=>by obtain⟨k,h1,b⟩:=h.split;exact⟨k,h1,In.one.1 b⟩,λ⟨k,h1,b⟩=>h1.app (In.one.2 b)⟩
abbrev Tb:=List (List (List Bool))
def iB (T:Tb) (n i j:Nat):Bool:=((T.getD n []).getD i []).getD j false
def kS (T:Tb) (N M:Nat):Prop:=T.length=N/\∀r∈T,r.length=M/\∀c∈r,c.length=M
theorem kS.row {T:Tb} {N M n:Nat} (h:kS T N M) (a:n<N):∃r,T[n]?=some r/\r.length=M/\T.getD n []=r:=by
 have:n<T.length:=by rw[h.1];exact a
 exact⟨T[n],aaQ this,(h.2 _ (aaW _)).1,by simp[aaP,this]⟩
theorem kS.cell {T:Tb} {N M n i:Nat} (h:kS T N M) (a:n<N) (hi:i<M):∃r c,T[n]?=some r/\r[i]?=some c/\c.length=M/\(T.getD n []).getD i []=c:=by
 obtain⟨r,hr,d,b⟩:=h.row a
 have h1:i<r.length:=by omega
 refine⟨r,r[i],hr,aaQ h1,(h.2 r (aa1 hr)).2 _ (aaW _),?_⟩
 rw[b];simp[aaP,h1]
def qT (T:Tb) (n i j:Nat):Tb:=T.set n ((T.getD n []).set i (((T.getD n []).getD i []).set j true))
def Cu (N M:Nat):Tb:=List.replicate N (List.replicate M (List.replicate M false))
theorem Ns (N M:Nat):kS (Cu N M) N M:=by
 refine⟨by simp[Cu],λr hr=>?_⟩
 simp only[Cu,List.mem_replicate] at hr
 obtain⟨_,rfl⟩:=hr
 refine⟨by simp,λc a=>?_⟩
 simp only[List.mem_replicate] at a
 obtain⟨_,rfl⟩:=a
 simp
theorem Xp (N M n i j:Nat):iB (Cu N M) n i j=false:=by
 simp only[iB,Cu,aaP,abH]
 split
 .simp only[aa8,abH]
  split
  .simp only[aa8,abH]
   split<;>rfl
  .rfl
 .rfl
theorem UZ {T:Tb} {N M n i j:Nat} (h:kS T N M) (k:n<N) (hi:i<M):kS (qT T n i j) N M:=by
 obtain⟨r,c,hr,m,e,l⟩:=h.cell k hi
 obtain⟨o,a,f,b⟩:=h.row k
 rw[hr] at a;simp at a;subst a
 refine⟨by simp[qT,h.1],λx d=>?_⟩
 rw[qT,b,] at d
 rcases List.mem_or_eq_of_mem_set d with d | rfl
 .exact h.2 x d
 .refine⟨by simp[f],λy g=>?_⟩
  rcases List.mem_or_eq_of_mem_set g with g | rfl
  .exact(h.2 r (aa1 hr)).2 y g
  .rw[b] at l
   rw[l];simp[e]
theorem VF {T:Tb} {N M n i j d f k:Nat} (h:kS T N M) (l:n<N) (hi:i<M) (y:j<M):iB (qT T n i j) d f k=if d=n/\f=i/\k=j then true else iB T d f k:=by
 obtain⟨r,c,hr,z,u,t⟩:=h.cell l hi
 obtain⟨A,a,v,b⟩:=h.row l
 rw[hr] at a;simp at a;subst a
 have w:n<T.length:=by rw[h.1];exact l
 have m:i<r.length:=by omega
 have o:j<c.length:=by omega
 rw[b] at t
 have g:r.getD i []=c:=t
 simp only[iB,qT,b,g]
 by_cases p:d=n
 .subst p
  have x:(T.set d (r.set i (c.set j true))).getD d []=r.set i (c.set j true):=by simp[aaP,w]
  rw[x,b]
  by_cases q:f=i
  .subst q
   have a2:(r.set f (c.set j true)).getD f []=c.set j true:=by simp[aaP,m]
   rw[a2,g]
   by_cases s:k=j
   .subst s
    simp[aaP,o]
   .rw[aaR (λe=>s e.2.2)]
    simp[aaP,abI,Ne.symm s]
  .rw[aaR (λe=>q e.2.1)]
   simp[aaP,abI,Ne.symm q]
 .rw[aaR (λe=>p e.1)]
  simp[aaP,abI,Ne.symm p]
def ky (p:List Int) (T:Tb) (s:Int) (a j:Nat):Bool:=
 if 0<=s then decide (a<p.length)&&(p.getD a 0==s||p.getD a 0 == -1)&&decide (j=a+1) else decide (a<=j)&&iB T (-1-s).toNat a j
def fC (p:List Int) (T:Tb) (s:Int) (now:List Bool) (f a0 j:Nat):Bool:=(List.range a0).any λa=>decide (f<=a)&&now.getD a false&&ky p T s a j
def gL (M:Nat) (F:Nat->Bool):List Bool:=(List.range M).map F
def oK (p:List Int) (T:Tb) (f:Nat) (now:List Bool) (s:Int):List Bool:=gL (p.length+1) (fC p T s now f (p.length+1))
def ma (p:List Int) (T:Tb) (l:List Int) (f:Nat):List Bool:=l.foldl (oK p T f) (gL (p.length+1) λj=>decide (j=f))
theorem lH (M:Nat) (F:Nat->Bool):(gL M F).length=M:=by simp[gL]
theorem Lf {M j:Nat} {F:Nat->Bool} (h:j<M):(gL M F).getD j false=F j:=by simp[gL,aaP,h]
theorem NH {M i:Nat} {F:Nat->Bool} (v:Bool):(gL M F).set i v=gL M λj=>if j=i then v else F j:=by
 apply abJ (by simp[gL])
 intro j h1 a
 simp only[gL,aaU,List.length_range] at a
 simp only[gL,List.getElem_set,acN,ac1]
 by_cases e:i=j
 .subst e;simp
 .rw[aaR e,aaR (Ne.symm e)]
theorem mM {M:Nat} {F G:Nat->Bool} (h:∀j,j<M->F j=G j):gL M F=gL M G:=by
 unfold gL
 apply abR
 intro j a
 exact h j (by simpa using a)
theorem BW (p:List Int) (T:Tb) (f:Nat):∀(l:List Int) (now:List Bool),now.length=p.length+1->(l.foldl (oK p T f) now).length=p.length+1
 | [],_,h=>h
 | s::l,now,_=>BW p T f l _ (by rw[oK,lH])
theorem HP (p:List Int) (T:Tb) (l:List Int) (f:Nat):(ma p T l f).length=p.length+1:=BW p T f l _ (lH _ _)
theorem QC (p:List Int) (T:Tb) (s:Int) (now:List Bool) (f a j:Nat):fC p T s now f (a+1) j=(fC p T s now f a j||(decide (f<=a)&&now.getD a false&&ky p T s a j)):=by
 simp[fC,acj]
theorem MA (p:List Int) (T:Tb) (s:Int) (now:List Bool) (f j:Nat):fC p T s now f f j=false:=by
 simp only[fC,ac6,abL]
 intro a b
 rw[decide_eq_false (by omega)];simp
def oH (T:Tb):V:=.aZ (T.map λr=>[.aZ (r.map λc=>[bX c])])
theorem Pc (T:Tb):Tree (oH T):=fi _ _ λr _ v a=>by
 simp at a;subst a
 exact fi _ _ λc _ v a=>by simp at a;subst a;exact j9 c
def qC:SC:=
 ai [ai [ag [af 75 13,af 76 1,aN 77 76,aS 78 .leq 75 77],bP 78 (.exit 4)],.block 5 (.region false [⟨none,[af 81 11,af 82 13,af 83 11,af 84 13,aL 85 1 83 84,au 86 85,af 87 86]⟩,⟨(some (87,false)),[af 88 2,af 89 0,af 90 10,aL 91 1 89 90,au 92 91,((some 93),.op (.arith .sub (.val (.val (.int .i64 (-1)))) (.tmp 92))),aL 94 1 88 93,au 95 94,af 96 12,aL 97 1 95 96,au 98 97,af 99 13,aL 100 1 98 99,au 101 100]⟩,⟨none,[cE 102 87 101,aL 103 1 81 82,cz 1 103 102]⟩]),ag [af 79 13,aH 80 .add 79 1,af 13 80]]
def qN:SC:=
 ai [ai [ag [af 32 12,af 33 1,aN 34 33,aS 35 .leq 32 34],bP 35 (.exit 2)],.block 3 (ai [ai [ag [af 38 9,af 39 12,aL 40 1 38 39,au 41 40,cR 42 41],aX 42 (.exit 3)],ai [ag [af 43 0,af 44 10,aL 45 1 43 44,au 46 45,aH 47 .geq 46 0],aX 47 (ai [ai [.region false [⟨none,[af 48 12,af 49 1,aN 50 49,aS 51 .lss 48 50,af 52 51]⟩,⟨(some (52,true)),[af 53 1,af 54 12,aL 55 1 53 54,au 56 55,af 57 0,af 58 10,aL 59 1 57 58,au 60 59,aS 61 .eql 56 60,af 62 61]⟩,⟨(some (62,false)),[af 63 1,af 64 12,aL 65 1 63 64,au 66 65,aH 67 .eql 66 (-1)]⟩,⟨(some (52,true)),[cE 68 62 67]⟩,⟨none,[dO 69 52 68]⟩],aX 69 (ag [af 70 11,af 71 12,aH 72 .add 71 1,aL 73 1 70 72,(none,.op (.store 1 (.tmp 73) (.val (.val (.bool true)))))])],.exit 3])],ag [af 74 12,af 13 74],bQ 4 qC]),ag [af 36 12,aH 37 .add 36 1,af 12 37]]
def qX:SC:=
 ai [ai [ag [af 21 10,af 22 0,aN 23 22,aS 24 .lss 21 23],bP 24 (.exit 0)],.block 1 (ai [ag [af 27 1,aN 28 27,aH 29 .add 28 1,((some 30),.op (.make 1 1 [(.val (.bool false))] (.tmp 29) (.tmp 29))),af 11 30],ai [ag [af 31 3,af 12 31],bQ 2 qN],ag [af 104 11,af 9 104]]),ag [af 25 10,aH 26 .add 25 1,af 10 26]]
def sK:SF:=⟨ai [ag [bT 8 1],ag [af 14 1,aN 15 14,aH 16 .add 15 1,((some 17),.op (.make 1 1 [(.val (.bool false))] (.tmp 16) (.tmp 16))),af 9 17],ag [af 18 9,af 19 3,aL 20 1 18 19,(none,.op (.store 1 (.tmp 20) (.val (.val (.bool true)))))],ai [ag [aT 10 0],bQ 0 qX],ag [af 105 9,af 8 105],.ret],
 [.tmp 8],106⟩
theorem yj:aJ aa 200 []=some sK:=by kernel_rfl
theorem uK {l:List Bool} {i:Nat} (h:i<l.length):(bU l).getD i []=[gb (l.getD i false)]:=by simp[aaP,h]
theorem XT (l p:List Int) (T:Tb) (f N:Nat) (hl:aI l) (hp:p.length<=1000) (hT:kS T N (p.length+1)) (hf:f<=p.length) (hn:∀x∈l,bm x/\(x<0->-1-x<N)):
  cg aa 200 [encI l,encI p,oH T,gi f] (bX (ma p T l f)):=by
 unfold aI at hl
 have hM:((p.length:Int)+1).toNat=p.length+1:=by omega
 refine cg.of (by
  intro v Y;simp at Y
  rcases Y with rfl | rfl | rfl | rfl
  .exact bC l
  .exact bC p
  .exact Pc T
  .exact .val _) ?_
 refine ay.of mixed yj ?_
 simp(disch:=omega)only[↓wr,seval,wq,sK,encI]
 refine⟨⟨by omega,by unfold aF;omega,by unfold aF;omega⟩,λh=>by omega,?_⟩
 intro _ b
 try simp(disch:=omega)only[↓wr,seval,wq,encI]
 refine⟨by omega,by simp;omega,?_⟩
 have E:(List.replicate (p.length+1) [gb false]).set f [gb true]=bU (gL (p.length+1) λj=>decide (j=f)):=by
  rw[show List.replicate (p.length+1) [gb false]=bU (List.replicate (p.length+1) false) by simp,iJ]
  congr 1
  apply abJ (by simp[gL])
  intro j h1 h2
  simp only[gL,List.getElem_set,List.getElem_replicate,acN,ac1]
  by_cases e:f=j
  .subst e;simp
  .rw[aaR e];simp[Ne.symm e]
 refine aW.up l.length (λq a H'=>∃(b:Nat),a 9=.sl b 0 (p.length+1) 1/\H' b=.arr 1 (bU ((l.take q).foldl (oK p T f) (gL (p.length+1) λj=>decide (j=f))))/\a 0=encI l/\a 1=encI p/\a 2=oH T/\a 3=gi f/\a 10=gi q) ?_ ?_
 .refine⟨b,rfl,?_,rfl,rfl,rfl,rfl,rfl⟩
  simp only[View.set,if_true]
  rw[aaP,abH,aaT (by omega)]
  rw[List.take_zero,acY,<-E];rfl
 rintro q k a H hk ⟨b,t9,o,t0,t1,t2,t3,t10⟩
 have P:=BW p T f (l.take q) (gL (p.length+1) λj=>decide (j=f)) (lH _ _)
 have F:∀x,l[q]?=some x->(l.take (q+1)).foldl (oK p T f) (gL (p.length+1) λj=>decide (j=f))=oK p T f ((l.take q).foldl (oK p T f) (gL (p.length+1) λj=>decide (j=f))) x:=λx hx=>by
  rw[aa9,hx,acw];rfl
 simp(disch:=omega)only[↓wr,seval,wq,qX,t0,t1,t2,t3,t9,t10,encI]
 apply ao.dec<;>intro hc
 .have O:l[q]?=some (l[q]'(by omega)):=aaQ (by omega)
  have D:l[q]'(by omega)∈l:=aaW _
  have G:=F _ O
  generalize l[q]'(by omega)=s at O D G
  generalize (l.take q).foldl (oK p T f) (gL (p.length+1) λj=>decide (j=f))=now at o P G
  obtain⟨⟨a8,bd⟩,Z⟩:=hn s D
  simp(disch:=omega)only[↓wr,seval,wq,t0,t1,t2,t3,t9,t10,encI]
  refine⟨⟨by omega,by unfold aF;omega,by unfold aF;omega⟩,λh=>by omega,?_⟩
  intro _ d w
  have A:b≠d:=by rintro rfl;rw[o] at w;simp at w
  try simp(disch:=omega)only[↓wr,seval,wq,t0,t1,t2,t3,t9,t10,encI]
  refine aW.up (p.length+1-f) (λi a H'=>H' b=.arr 1 (bU now)/\H' d=.arr 1 (bU (gL (p.length+1) (fC p T s now f (f+i))))/\a 9=.sl b 0 (p.length+1) 1/\a 11=.sl d 0 (p.length+1) 1/\a 0=encI l/\a 1=encI p/\a 2=oH T/\a 3=gi f/\a 10=gi q/\a 12=gi ((f+i:Nat):Int)) ?_ ?_
  .refine⟨by simp[View.set,A,o],?_,t9,rfl,t0,t1,t2,t3,t10,rfl⟩
   simp only[View.set,if_true]
   rw[hM,show List.replicate (p.length+1) [V.val (Value.bool false)]=bU (List.replicate (p.length+1) false) by simp]
   congr 2
   apply abJ (by simp[gL])
   intro j h1 h2
   simp only[gL,List.getElem_replicate,acN,ac1]
   rw[acp,MA]
  clear w o t0 t1 t2 t3 t9 t10
  rintro i m a H hm ⟨o,w,t9,t11,t0,t1,t2,t3,t10,t12⟩
  simp(disch:=omega)only[↓wr,seval,wq,qN,t0,t1,t2,t3,t9,t10,t11,t12,encI]
  apply ao.dec<;>intro ae
  .have al:=uK (l:=now) (i:=f+i) (by omega)
   simp(disch:=omega)only[↓wr,seval,wq,t0,t1,t2,t3,t9,t10,t11,t12,o,al]
   refine⟨by omega,by omega,?_⟩
   have t:=QC p T s now f (f+i)
   rw[abt (show f<=f+i by omega),aby] at t
   have bl:∀j,(λj=>fC p T s now f (f+i) j) j=fC p T s now f (f+i) j:=λ_=>rfl
   generalize now.getD (f+i) false=bn at t
   apply ao.split<;>intro I
   .subst I
    simp only[aby] at t
    simp(disch:=omega)only[↓wr,seval,wq,t0,t1,t2,t3,t9,t10,t11,t12,encI,aaS,O]
    apply ao.dec<;>intro J
    .have z:∀j,ky p T s (f+i) j=(decide (f+i<p.length)&&(p.getD (f+i) 0==s||p.getD (f+i) 0 == -1)&&decide (j=f+i+1)):=λj=>by rw[ky,aaT (show 0<=s from J)]
     simp(disch:=omega)only[↓wr,seval,wq,t0,t1,t2,t3,t9,t10,t11,t12,encI]
     apply ao.dec<;>intro ha
     .have K:p[f+i]?=some (p.getD (f+i) 0):=by simp[aaP,show f+i<p.length by omega]
      generalize p.getD (f+i) 0=c at K z
      have g:∀v:Bool,(bU (gL (p.length+1) (fC p T s now f (f+i)))).set (f+i+1) [gb v]=bU (gL (p.length+1) λj=>if j=f+i+1 then v else fC p T s now f (f+i) j):=λv=>by rw[iJ,NH]
      have y:=uK (l:=gL (p.length+1) (fC p T s now f (f+i))) (i:=f+i+1) (by rw[lH];omega)
      have Q:(c=s∨c = -1)->bU (gL (p.length+1) (fC p T s now f (f+(i+1))))=bU (gL (p.length+1) λj=>if j=f+i+1 then true else fC p T s now f (f+i) j):=λB=>by
       congr 1
       refine mM λj _=>?_
       rw[<-abx,t,z]
       by_cases e:j=f+i+1
       .rw[aaT e,abt (show f+i<p.length by omega),abt e]
        rcases B with h | h<;>simp[h]
       .rw[aaR e,decide_eq_false e];simp
      have an:¬ (c=s∨c = -1)->bU (gL (p.length+1) (fC p T s now f (f+(i+1))))=bU (gL (p.length+1) (fC p T s now f (f+i))):=λB=>by
       congr 1
       refine mM λj _=>?_
       rw[<-abx,t,z,show (c==s||c == -1)=false by simp;omega];simp
      have R:((f+i:Nat):Int)+1=((f+i+1:Nat):Int):=by omega
      have ga:∀ {C:Env} {H2:View},C 9=.sl b 0 (p.length+1) 1->C 11=.sl d 0 (p.length+1) 1->C 0=encI l->C 1=encI p->C 2=oH T->C 3=gi f->C 10=gi q->C 12=gi (((f+i:Nat):Int)+1)->H2 b=.arr 1 (bU now)->H2 d=.arr 1 (bU (gL (p.length+1) (fC p T s now f (f+(i+1))))) ->
        ∃k',k'<m/\FQ (p.length+1-f) k' (λi a H'=>H' b=.arr 1 (bU now)/\H' d=.arr 1 (bU (gL (p.length+1) (fC p T s now f (f+i))))/\a 9=.sl b 0 (p.length+1) 1/\a 11=.sl d 0 (p.length+1) 1/\a 0=encI l/\a 1=encI p/\a 2=oH T/\a 3=gi f/\a 10=gi q/\a 12=gi ((f+i:Nat):Int)) C H2:=λa9 aq a0 a1 a2 a3 ar a12 ab ad=>aE hm (by omega) ⟨ab,ad,a9,aq,a0,a1,a2,a3,ar,by rw[a12];rfl⟩
      simp(disch:=omega)only[↓wr,seval,wq,t0,t1,t2,t3,t9,t10,t11,t12,encI,aaS,O,K]
      apply ao.eq<;>intro B
      .simp(disch:=omega)only[↓wr,seval,wq,t0,t1,t2,t3,t9,t10,t11,t12,R,w]
       refine⟨by omega,by rw[lH];omega,?_⟩
       refine ga t9 t11 t0 t1 t2 t3 t10 rfl (by simp[View.set,A,o]) ?_
       simp only[View.set,if_true]
       rw[y,Q (.inl B),<-g true];rfl
      .simp(disch:=omega)only[↓wr,seval,wq,t0,t1,t2,t3,t9,t10,t11,t12,encI,aaS,O,K]
       apply ao.eq<;>intro S
       .simp(disch:=omega)only[↓wr,seval,wq,t0,t1,t2,t3,t9,t10,t11,t12,R,w]
        refine⟨by omega,by rw[lH];omega,?_⟩
        refine ga t9 t11 t0 t1 t2 t3 t10 rfl (by simp[View.set,A,o]) ?_
        simp only[View.set,if_true]
        rw[y,Q (.inr S),<-g true];rfl
       .simp(disch:=omega)only[↓wr,seval,wq,t0,t1,t2,t3,t9,t10,t11,t12]
        exact ga t9 t11 t0 t1 t2 t3 t10 rfl o (by rw[an (by omega)];exact w)
     .simp(disch:=omega)only[↓wr,seval,wq,t0,t1,t2,t3,t9,t10,t11,t12]
      refine aE hm (by omega) ⟨o,?_,t9,t11,t0,t1,t2,t3,t10,rfl⟩
      rw[w,<-abx]
      refine abY (λl=>cr.arr 1 (bU l)) (mM λj _=>?_)
      rw[t,z,decide_eq_false (show ¬ f+i<p.length by omega)];simp
    .have br : -1-s<N:=Z (by omega)
     obtain⟨row,cell,U,L,bs,a6⟩:=hT.cell (n:=(-1-s).toNat) (i:=f+i) (by omega) (by omega)
     have z:∀j,ky p T s (f+i) j=(decide (f+i<=j)&&cell.getD j false):=λj=>by
      rw[ky,aaR (show ¬ 0<=s from J),iB,a6]
     simp(disch:=omega)only[↓wr,seval,wq,t0,t1,t2,t3,t9,t10,t11,t12]
     refine aW.up (p.length+1-(f+i)) (λr a H'=>H' b=.arr 1 (bU now)/\H' d=.arr 1 (bU (gL (p.length+1) λj=>fC p T s now f (f+i) j||(decide (j<f+i+r)&&ky p T s (f+i) j)))/\a 9=.sl b 0 (p.length+1) 1/\a 11=.sl d 0 (p.length+1) 1/\a 0=encI l/\a 1=encI p/\a 2=oH T/\a 3=gi f/\a 10=gi q/\a 12=gi ((f+i:Nat):Int)/\a 13=gi ((f+i+r:Nat):Int)) ?_ ?_
     .refine⟨o,?_,t9,t11,t0,t1,t2,t3,t10,t12,rfl⟩
      rw[w]
      refine abY (λl=>cr.arr 1 (bU l)) (mM λj _=>?_)
      rw[z]
      by_cases e:j<f+i
      .rw[decide_eq_false (show ¬ f+i<=j by omega)];simp
      .rw[decide_eq_false (show ¬ j<f+i+0 by omega)];simp
     clear w o t0 t1 t2 t3 t9 t10 t11 t12
     rintro r u a H hu ⟨o,w,t9,t11,t0,t1,t2,t3,t10,t12,t13⟩
     simp(disch:=omega)only[↓wr,seval,wq,qC,t0,t1,t2,t3,t9,t10,t11,t12,t13,encI]
     apply ao.dec<;>intro a7
     .have hF:∀j,(fC p T s now f (f+i) j||(decide (j<f+i+(r+1))&&ky p T s (f+i) j))=if j=f+i+r then (fC p T s now f (f+i) j||ky p T s (f+i) j) else (fC p T s now f (f+i) j||(decide (j<f+i+r)&&ky p T s (f+i) j)):=λj=>by
       by_cases e:j=f+i+r
       .rw[aaT e,abt (show j<f+i+(r+1) by omega),aby]
       .rw[aaR e]
        congr 2
        simp only[decide_eq_decide];omega
      have y:=uK (l:=gL (p.length+1) λj=>fC p T s now f (f+i) j||(decide (j<f+i+r)&&ky p T s (f+i) j)) (i:=f+i+r) (by rw[lH];omega)
      rw[Lf (by omega),decide_eq_false (show ¬ f+i+r<f+i+r by omega),ab6,Bool.or_false] at y
      have W:=z (f+i+r)
      rw[abt (show f+i<=f+i+r by omega),aby] at W
      have X:cell[f+i+r]?=some (cell.getD (f+i+r) false):=by simp[aaP,show f+i+r<cell.length by omega]
      have g:∀v,v=(fC p T s now f (f+i) (f+i+r)||ky p T s (f+i) (f+i+r))->(bU (gL (p.length+1) λj=>fC p T s now f (f+i) j||(decide (j<f+i+r)&&ky p T s (f+i) j))).set (f+i+r) [gb v]=bU (gL (p.length+1) λj=>fC p T s now f (f+i) j||(decide (j<f+i+(r+1))&&ky p T s (f+i) j)):=λv Y=>by
       rw[iJ,NH]
       refine abY bU (mM λj _=>?_)
       rw[hF]
       by_cases e:j=f+i+r
       .subst e;rw[aaT rfl,aaT rfl,Y]
       .rw[aaR e,aaR e]
      rw[W] at g
      generalize cell.getD (f+i+r) false=cv at X g
      generalize fC p T s now f (f+i) (f+i+r)=pv at y g
      simp(disch:=omega)only[↓wr,seval,wq,t0,t1,t2,t3,t9,t10,t11,t12,t13,w,y]
      refine⟨by omega,by rw[lH];omega,?_⟩
      apply ao.split<;>intro M
      .simp(disch:=omega)only[↓wr,seval,wq,t0,t1,t2,t3,t9,t10,t11,t12,t13,w]
       refine⟨by omega,by rw[lH];omega,aE hu (by omega) ⟨by simp[View.set,A,o],?_,t9,t11,t0,t1,t2,t3,t10,t12,rfl⟩⟩
       simp only[View.set,if_true]
       rw[y,<-g true (by rw[M];rfl)];rfl
      .simp(disch:=omega)only[↓wr,seval,wq,t0,t1,t2,t3,t9,t10,t11,t12,t13,encI,oH,bX,aaS,O,U,L,X,w]
       refine⟨by omega,by rw[lH];omega,aE hu (by omega) ⟨by simp[View.set,A,o],?_,t9,t11,t0,t1,t2,t3,t10,t12,rfl⟩⟩
       simp only[View.set,if_true]
       rw[y,<-g cv (by rw[M];rfl)];rfl
     .simp(disch:=omega)only[↓wr,seval,wq,t0,t1,t2,t3,t9,t10,t11,t12,t13]
      have hr:f+i+r=p.length+1:=by omega
      refine aE hm (by omega) ⟨o,?_,t9,t11,t0,t1,t2,t3,t10,rfl⟩
      rw[w,<-abx]
      refine abY (λl=>cr.arr 1 (bU l)) (mM λj hj=>?_)
      rw[t,hr,abt hj,aby]
   .subst I
    simp only[ab6,Bool.or_false] at t
    simp(disch:=omega)only[↓wr,seval,wq,t0,t1,t2,t3,t9,t10,t11,t12]
    refine aE hm (by omega) ⟨o,?_,t9,t11,t0,t1,t2,t3,t10,by rfl⟩
    rw[w,<-abx]
    exact abY (λl=>cr.arr 1 (bU l)) (mM λj _=>(t j).symm)
  .have hi:f+i=p.length+1:=by omega
   rw[hi] at w
   simp(disch:=omega)only[↓wr,seval,wq,t0,t1,t2,t3,t9,t10,t11,t12]
   refine aE hk (by omega) ⟨d,rfl,?_,t0,t1,t2,t3,rfl⟩
   rw[G];exact w
 .have e:q=l.length:=by omega
  subst e
  rw[aca] at o P
  simp(disch:=omega)only[↓wr,seval,wq,t0,t1,t2,t3,t9,t10]
  intro h' hh
  have:=sM (h:=h') (id:=b) (is:=ma p T l f) (by rw[hh];exact o)
  rwa [HP] at this
def E1 (T:Tb) (n i j:Nat):Prop:=i<=j/\iB T n i j=true
theorem Jm {p:List Int} {T:Tb} {s:Int} {a j:Nat} : ky p T s a j=true↔stepT p (E1 T) s a j:=by
 unfold ky stepT
 split
 .simp only[aaZ,aa5,acG,abQ]
  constructor
  .rintro⟨⟨h1,b⟩,d⟩
   exact⟨⟨p.getD a 0,by simp[aaP,h1],b⟩,d⟩
  .rintro⟨⟨c,e,b⟩,d⟩
   have h1:=(aaX.1 e).1
   have:p.getD a 0=c:=by simp[aaP,e]
   exact⟨⟨h1,by rw[this];exact b⟩,d⟩
 .simp only[aaZ,aa5];rfl
theorem Ml {T:Tb}:∀n i j,E1 T n i j->i<=j:=λ_ _ _ h=>h.1
theorem LC {p:List Int} {T:Tb} {f:Nat} (i:f<=p.length):∀(l pre:List Int) (now:List Bool),(∀j,j<=p.length->(now.getD j false=true↔In p (E1 T) pre f j)) ->
  ∀j,j<=p.length->((l.foldl (oK p T f) now).getD j false=true↔In p (E1 T) (pre++l) f j)
 | [],pre,now,h,j,b=>by rw[abW];exact h j b
 | s::l,pre,now,h,j,b=>by
  have k:∀j,j<=p.length->((oK p T f now s).getD j false=true↔In p (E1 T) (pre++[s]) f j):=λj b=>by
   rw[oK,Lf (by omega),In.snoc]
   simp only[fC,ab8,abL,aaZ,aa5]
   constructor
   .rintro⟨a,g,⟨_,c⟩,d⟩
    exact⟨a,(h a (by omega)).1 c,Jm.1 d⟩
   .rintro⟨a,c,d⟩
    have hle:=c.le Ml
    have g:a<=p.length:=by
     have e:=d
     unfold stepT at e
     split at e
     .omega
     .have:=e.1;omega
    exact⟨a,by omega,⟨hle,(h a g).2 c⟩,Jm.2 d⟩
  have:=LC i l (pre++[s]) (oK p T f now s) k j b
  rwa [abU] at this
theorem Mw {p:List Int} {T:Tb} {l:List Int} {f:Nat} (b:f<=p.length) {j:Nat} (a:j<=p.length):(ma p T l f).getD j false=true↔In p (E1 T) l f j:=by
 have:=LC (T:=T) b l [] (gL (p.length+1) λj=>decide (j=f)) (λj a=>by
  rw[Lf (by omega),aa5]
  constructor
  .rintro rfl;exact .nil _
  .intro h;cases h;rfl) j a
 exact this
open Classical in
def DD (g:aj) (p:List Int):Tb:=(List.range g.av.length).map λ(n:Nat)=>(List.range (p.length+1)).map λ(i:Nat)=>(List.range (p.length+1)).map λ(j:Nat)=>decide (Sp g p [-1-(n:Int)] i j)
theorem TL (g:aj) (p:List Int):kS (DD g p) g.av.length (p.length+1):=by
 refine⟨by simp[DD],λr hr=>?_⟩
 simp only[DD,aba] at hr
 obtain⟨n,_,rfl⟩:=hr
 refine⟨by simp,λc a=>?_⟩
 simp only[aba] at a
 obtain⟨i,_,rfl⟩:=a
 simp
theorem Th {g:aj} {p:List Int} {n i j:Nat} (a:n<g.av.length) (hi:i<=p.length) (b:j<=p.length):iB (DD g p) n i j=true↔Sp g p [-1-(n:Int)] i j:=by
 simp[iB,DD,aaP,a,show i<p.length+1 by omega,show j<p.length+1 by omega]
theorem YG {S T:Tb} {N M:Nat} (a:kS S N M) (b:kS T N M) (h:∀n i j,n<N->i<M->j<M->iB S n i j=iB T n i j):S=T:=by
 apply abJ (by rw[a.1,b.1])
 intro n h1 c
 have f:n<N:=by rw[<-a.1];exact h1
 have g:=(a.2 _ (aaW h1)).1
 have a2:=(b.2 _ (aaW c)).1
 apply abJ (by rw[g,a2])
 intro i d e
 have hi:i<M:=by omega
 have k:=(a.2 _ (aaW h1)).2 _ (aaW d)
 have l:=(b.2 _ (aaW c)).2 _ (aaW e)
 apply abJ (by rw[k,l])
 intro j m o
 have:=h n i j f hi (by omega)
 simpa [iB,aaP,h1,c,d,e,m,o] using this
theorem YP {g:aj} {p:List Int} {T:Tb} (c:∀r∈g.rules,0<=r.left) (m:∀r∈g.rules,r.left<g.av.length) (d:kS T g.av.length (p.length+1)) (b:∀n i j,E1 T n i j->Sp g p [-1-(n:Int)] i j)
  (e:∀n i j,iB T n i j=true->i<=j) (f:∀R∈g.rules,∀i j,i<=j->j<=p.length->(ma p T R.right i).getD j false=true->iB T R.left.toNat i j=true):T=DD g p:=by
 refine YG d (TL g p) λn i j k hi o=>?_
 rw[abD,Th k (by omega) (by omega)]
 have a:∀R∈g.rules,∀i j,i<=p.length->In p (E1 T) R.right i j->E1 T R.left.toNat i j:=λR l i j hi h=>by
  have hle:=h.le Ml
  have hlen:=(WG b h).len hi
  exact⟨hle,f R l i j hle hlen ((Mw hi hlen).2 h)⟩
 rw[<-Q0 c b a (by omega)]
 exact⟨λh=>⟨e n i j h,h⟩,λh=>h.2⟩
structure qv (H:View) (I N M:Nat) (R:Nat->Nat) (C:Nat->Nat->Nat) (T:Tb):Prop where
 top:H I=.arr 1 ((List.range N).map λn=>[.sl (R n) 0 M 1])
 row:∀n,n<N->H (R n)=.arr 1 ((List.range M).map λi=>[.sl (C n i) 0 M 1])
 cell:∀n i,n<N->i<M->H (C n i)=.arr 1 (bU ((T.getD n []).getD i []))
 inj:∀n i n' i',n<N->i<M->n'<N->i'<M->C n i=C n' i'->n=n'/\i=i'
theorem KA {c:List Bool} {k:Nat} {F:Nat->List V} (a:0<c.length) (h:bU c=(List.range k).map F) (b:∀n x,F n≠[gb x]):False:=by
 cases c with
 | nil=>simp at a
 | cons x c =>
  cases k with
  | zero=>simp at h
  | succ k =>
   rw[List.range_succ_eq_map] at h
   simp only[abl,List.cons.injEq] at h
   exact b 0 x h.1.symm
theorem qv.keep {H H':View} {I N M:Nat} {R:Nat->Nat} {C:Nat->Nat->Nat} {T:Tb} (h:qv H I N M R C T) (hk:∀id,H id≠.dead->H' id=H id):qv H' I N M R C T:=
 ⟨by rw[hk _ (by rw[h.top];simp)];exact h.top,λn a=>by rw[hk _ (by rw[h.row n a];simp)];exact h.row n a,λn i a hi=>by rw[hk _ (by rw[h.cell n i a hi];simp)];exact h.cell n i a hi,h.inj⟩
theorem qv.put {H:View} {I N M:Nat} {R:Nat->Nat} {C:Nat->Nat->Nat} {T:Tb} (h:qv H I N M R C T) (g:kS T N M) {n i j:Nat} (d:n<N) (hi:i<M) (v:j<M):
  qv (H.set (C n i) (.arr 1 (bU (((T.getD n []).getD i []).set j true)))) I N M R C (qT T n i j):=by
 obtain⟨r,c,hr,w,o,p⟩:=g.cell d hi
 have a:=h.cell n i d hi
 rw[p] at a
 have s:I≠C n i:=λe=>by
  have:=h.top
  rw[e,a] at this
  simp only[cr.arr.injEq,true_and] at this
  exact KA (by omega) this λ_ _=>by simp
 have t:∀m,m<N->R m≠C n i:=λm hm e=>by
  have:=h.row m hm
  rw[e,a] at this
  simp only[cr.arr.injEq,true_and] at this
  exact KA (by omega) this λ_ _=>by simp
 refine⟨by simp only[View.set,aaR s];exact h.top,λm hm=>by simp only[View.set,aaR (t m hm)];exact h.row m hm,λm q hm k=>?_,h.inj⟩
 obtain⟨x,b,l,u⟩:=g.row d
 rw[hr] at b;simp at b;subst b
 have f:n<T.length:=by rw[g.1];exact d
 by_cases e:C m q=C n i
 .obtain⟨rfl,rfl⟩:=h.inj m q n i hm k d hi e
  simp only[View.set,if_true]
  congr 2
  rw[qT]
  simp[aaP,f]
  have:q<T[m].length:=by
   have:=(aaX.1 hr).2
   rw[this,l];exact k
  simp[this]
 .simp only[View.set,aaR e]
  rw[h.cell m q hm k]
  congr 2
  rw[qT]
  by_cases em:n=m
  .subst em
   have eq:i≠q:=λe'=>e (by rw[e'])
   simp[aaP,f,abI,eq]
  .simp[aaP,abI,em]
theorem qv.ZA {h:Heap} {I N M:Nat} {R:Nat->Nat} {C:Nat->Nat->Nat} {T:Tb} (f:qv h.view I N M R C T) (e:kS T N M):dD h (.sl I 0 N 1) (oH T):=by
 refine .sl I 0 N 1 1 _ _ f.top (by simp) (by simp[e.1]) (λn b=>?_) (λn j b m=>?_)
 .obtain⟨r,hr,_⟩:=e.row b
  simp[aaP,hr,b]
 .obtain⟨r,hr,g,k⟩:=e.row b
  have p:((T.map λr=>[V.aZ (r.map λc=>[bX c])]).getD n [])=[V.aZ (r.map λc=>[bX c])]:=by simp[aaP,hr]
  have s:(((List.range N).map λn=>[V.sl (R n) 0 M 1]).getD (0+n) [])=[V.sl (R n) 0 M 1]:=by simp[aaP,b]
  rw[p] at m ⊢
  rw[s]
  have:j=0:=by simp at m;omega
  subst this
  refine .sl (R n) 0 M 1 1 _ _ (f.row n b) (by simp) (by simp[g]) (λi hi=>?_) (λi q hi o=>?_)
  .simp[aaP,hi,show i<r.length by omega]
  .have d:i<r.length:=by omega
   have f1:((r.map λc=>[bX c]).getD i [])=[bX r[i]]:=by simp[aaP,d]
   have f2:(((List.range M).map λi=>[V.sl (C n i) 0 M 1]).getD (0+i) [])=[V.sl (C n i) 0 M 1]:=by simp[aaP,hi]
   rw[f1] at o ⊢
   rw[f2]
   have:q=0:=by simp at o;omega
   subst this
   have a:=f.cell n i b hi
   have t:(T.getD n []).getD i []=r[i]:=by rw[k];simp[aaP,d]
   rw[t] at a
   have l:=(e.2 r (aa1 hr)).2 _ (aaW d)
   have:=sM (h:=h) (id:=C n i) (is:=r[i]) a
   rwa [l] at this
theorem dD.J4 {h:Heap} {v t:V} (f:dD h v t):Fr h v t:=by
 induction f with
 | val v=>exact .tree _ (.val v)
 | emp k=>exact .emp k
 | sl id off len esz z es es' hH hle hlen b _ c=>exact .sl id off len esz z es es' hH hle hlen b c
 | agg cs a b _ c=>exact .agg cs a b c
 | bb cs a b _ c=>exact .bb cs a b c
theorem qv.kL {H:View} {I N M:Nat} {R:Nat->Nat} {C:Nat->Nat->Nat} {T:Tb} (a:qv H I N M R C T) (b:kS T N M):ct H (.sl I 0 N 1) (oH T):=by
 rintro h rfl
 exact(a.ZA b).J4
structure WA (H:View) (I N M k:Nat) (R:Nat->Nat) (C:Nat->Nat->Nat):Prop where
 top:H I=.arr 1 ((List.range N).map λn=>[if n<k then .sl (R n) 0 M 1 else .emp 1])
 row:∀n,n<k->H (R n)=.arr 1 ((List.range M).map λi=>[.sl (C n i) 0 M 1])
 cell:∀n i,n<k->i<M->H (C n i)=.arr 1 (List.replicate M [gb false])
 inj:∀n i n' i',n<k->i<M->n'<k->i'<M->C n i=C n' i'->n=n'/\i=i'
 ne:∀n,n<k->I≠R n
structure Hq (H:View) (I N M k:Nat) (R:Nat->Nat) (C:Nat->Nat->Nat) (r i:Nat) (D:Nat->Nat):Prop where
 top:H I=.arr 1 ((List.range N).map λn=>[if n<k then .sl (R n) 0 M 1 else if n=k then .sl r 0 M 1 else .emp 1])
 row:∀n,n<k->H (R n)=.arr 1 ((List.range M).map λi=>[.sl (C n i) 0 M 1])
 cell:∀n i,n<k->i<M->H (C n i)=.arr 1 (List.replicate M [gb false])
 inj:∀n i n' i',n<k->i<M->n'<k->i'<M->C n i=C n' i'->n=n'/\i=i'
 ne:∀n,n<k->I≠R n
 Vw:H r=.arr 1 ((List.range M).map λj=>[if j<i then .sl (D j) 0 M 1 else .emp 1])
 JD:∀j,j<i->H (D j)=.arr 1 (List.replicate M [gb false])
 YC:∀j j',j<i->j'<i->D j=D j'->j=j'
 Il:I≠r/\(∀n,n<k->R n≠r)/\∀n q j,n<k->q<M->j<i->C n q≠D j
theorem He {M i:Nat} {F:Nat->List V} {v:List V} : ((List.range M).map F).set i v=(List.range M).map λj=>if j=i then v else F j:=by
 apply abJ (by simp)
 intro j h1 a
 simp only[List.getElem_set,acN,ac1]
 by_cases e:i=j
 .subst e;simp
 .rw[aaR e,aaR (Ne.symm e)]
theorem gJ {M i:Nat} {F:Nat->List V} (h:i<M):((List.range M).map F).getD i []=F i:=by simp[aaP,h]
theorem WA.done {H:View} {I N M:Nat} {R:Nat->Nat} {C:Nat->Nat->Nat} (h:WA H I N M N R C):qv H I N M R C (Cu N M):=by
 refine⟨?_,h.row,λn i a hi=>?_,h.inj⟩
 .rw[h.top]
  congr 1
  apply abR
  intro n a
  rw[aaT (by simpa using a)]
 .rw[h.cell n i a hi]
  simp[Cu,aaP,a,hi]
theorem Hq.U7 {H:View} {I N M k:Nat} {R:Nat->Nat} {C:Nat->Nat->Nat} {r:Nat} {D:Nat->Nat} (h:Hq H I N M k R C r M D):WA H I N M (k+1) (λn=>if n=k then r else R n) (λn=>if n=k then D else C n):=by
 refine⟨?_,λn g=>?_,λn i g hi=>?_,λn i d f g hi j a e=>?_,λn g=>?_⟩
 .rw[h.top]
  congr 1
  apply abR
  intro n _
  by_cases c:n<k
  .rw[aaT c,aaT (by omega),aaR (by omega)]
  .by_cases b:n=k
   .rw[aaR c,aaT b,aaT (by omega),aaT b]
   .rw[aaR c,aaR b,aaR (by omega)]
 .by_cases e:n=k
  .simp only[aaT e]
   rw[h.Vw]
   congr 1
   apply abR
   intro i hi
   rw[aaT (by simpa using hi)]
  .simp only[aaR e];exact h.row n (by omega)
 .by_cases e:n=k
  .simp only[aaT e];exact h.JD i hi
  .simp only[aaR e];exact h.cell n i (by omega) hi
 .by_cases c:n=k
  .by_cases b:d=k
   .simp only[aaT c,aaT b] at e
    exact⟨by omega,h.YC i f hi a e⟩
   .simp only[aaT c,aaR b] at e
    exact absurd e.symm (h.Il.2.2 d f i (by omega) a hi)
  .by_cases b:d=k
   .simp only[aaR c,aaT b] at e
    exact absurd e (h.Il.2.2 n i f (by omega) hi a)
   .simp only[aaR c,aaR b] at e
    exact h.inj n i d f (by omega) hi (by omega) a e
 .by_cases e:n=k
  .simp only[aaT e];exact h.Il.1
  .simp only[aaR e];exact h.ne n (by omega)
theorem Hq.next {H H':View} {I N M k:Nat} {R:Nat->Nat} {C:Nat->Nat->Nat} {r i d:Nat} {D:Nat->Nat} (h:Hq H I N M k R C r i D) (x:0<N) (u:0<M) (v:H d=.dead)
  (o:H' r=.arr 1 (((List.range M).map λj=>[if j<i then V.sl (D j) 0 M 1 else .emp 1]).set i [.sl d 0 M 1])) (p:H' d=.arr 1 (List.replicate M [gb false])) (g:∀id,H id≠.dead->id≠r->H' id=H id):
  Hq H' I N M k R C r (i+1) (λj=>if j=i then d else D j):=by
 have live:∀id,H id≠.dead->id≠d:=λid a e=>by subst e;exact a v
 have b:∀id,H id=.arr 1 (List.replicate M [gb false])->id≠r:=λid a e=>by
  rw[e,h.Vw] at a
  simp only[cr.arr.injEq,true_and] at a
  have:=abY (·[0]?) a
  simp[u] at this
  split at this<;>simp at this
 refine⟨?_,λn c=>?_,λn q c l=>?_,h.inj,h.ne,?_,λj t=>?_,λj m t w e=>?_,⟨h.Il.1,h.Il.2.1,λn q j c l t=>?_⟩⟩
 .rw[g I (by rw[h.top];simp) h.Il.1];exact h.top
 .rw[g _ (by rw[h.row n c];simp) (h.Il.2.1 n c)];exact h.row n c
 .have:=h.cell n q c l
  rw[g _ (by rw[this];simp) (b _ this)];exact this
 .rw[o,He]
  congr 1
  apply abR
  intro j _
  by_cases e:j=i
  .rw[aaT e,aaT (by omega),aaT e]
  .rw[aaR e]
   by_cases f:j<i
   .rw[aaT f,aaT (by omega),aaR e]
   .rw[aaR f,aaR (by omega)]
 .by_cases e:j=i
  .simp only[aaT e];exact p
  .simp only[aaR e]
   have:=h.JD j (by omega)
   rw[g _ (by rw[this];simp) (b _ this)];exact this
 .by_cases s:j=i
  .by_cases f:m=i
   .omega
   .simp only[aaT s,aaR f] at e
    exact absurd e.symm (live _ (by rw[h.JD m (by omega)];simp))
  .by_cases f:m=i
   .simp only[aaR s,aaT f] at e
    exact absurd e (live _ (by rw[h.JD j (by omega)];simp))
   .simp only[aaR s,aaR f] at e
    exact h.YC j m (by omega) (by omega) e
 .by_cases e:j=i
  .simp only[aaT e];exact live _ (by rw[h.cell n q c l];simp)
  .simp only[aaR e];exact h.Il.2.2 n q j c l (by omega)
theorem Hb:∀(l:List Nat) (i v:Nat) (h:i<l.length),(l.set i v).sum+l[i]=l.sum+v
 | x::l,0,v,_=>by simp;omega
 | x::l,i+1,v,h=>by
  have:=Hb l i v (by simpa using h)
  simp;omega
theorem JY:∀(l:List Nat) (b:Nat),(∀x∈l,x<=b)->l.sum<=l.length*b
 | [],_,_=>by simp
 | x::l,b,h=>by
  have h1:=JY l b λy a=>h y (by simp[a])
  have c:=h x (by simp)
  simp only[List.sum_cons,aa3,abz];omega
theorem IW:∀(c:List Bool) (j:Nat),j<c.length->c.getD j false=false->dh (c.set j true)=dh c+1
 | x::c,0,_,h=>by
  have:x=false:=by simpa using h
  subst this
  simp[dh]
 | x::c,j+1,a,h=>by
  have:=IW c j (by simpa using a) (by simpa using h)
  unfold dh at this ⊢
  simp only[List.set_cons_succ,List.countP_cons,this];omega
def DX (r:List (List Bool)):Nat:=(r.map dh).sum
def rR (T:Tb):Nat:=(T.map DX).sum
theorem Kh {T:Tb} {N M:Nat} (h:kS T N M):rR T<=N*(M*M):=by
 have:=JY (T.map DX) (M*M) (λx a=>by
  obtain⟨r,hr,rfl⟩:=aba.1 a
  have:=JY (r.map dh) M (λy b=>by
   obtain⟨c,d,rfl⟩:=aba.1 b
   rw[<-(h.2 r hr).2 c d];exact vC c)
  rw[aaU,(h.2 r hr).1] at this
  exact this)
 rw[aaU,h.1] at this
 exact this
theorem X8 {T:Tb} {N M n i j:Nat} (h:kS T N M) (d:n<N) (hi:i<M) (t:j<M) (o:iB T n i j=false):rR (qT T n i j)=rR T+1:=by
 obtain⟨r,c,hr,p,q,m⟩:=h.cell d hi
 obtain⟨u,a,s,b⟩:=h.row d
 rw[hr] at a;simp at a;subst a
 have e:r.getD i []=c:=by rw[<-b];exact m
 have f:n<T.length:=by rw[h.1];exact d
 have g:i<r.length:=by omega
 have k:T[n]=r:=(aaX.1 hr).2
 have l:r[i]=c:=(aaX.1 p).2
 have h1:dh (c.set j true)=dh c+1:=IW c j (by omega) (by rw[<-m];exact o)
 have v:DX (r.set i (c.set j true))=DX r+1:=by
  have:=Hb (r.map dh) i (dh (c.set j true)) (by simpa using g)
  unfold DX
  rw[acB]
  simp only[acN,l] at this
  omega
 have:=Hb (T.map DX) n (DX (r.set i (c.set j true))) (by simpa using f)
 unfold rR qT
 rw[b,e,acB]
 simp only[acN,k] at this
 omega
def tx:SC:=
 ai [ai [ag [af 31 7,af 32 1,aN 33 32,aS 34 .leq 31 33],bP 34 (.exit 2)],.block 3 (ag [af 37 5,af 38 6,aL 39 1 37 38,au 40 39,af 41 7,af 42 1,aN 43 42,aH 44 .add 43 1,((some 45),.op (.make 1 1 [(.val (.bool false))] (.tmp 44) (.tmp 44))),aL 46 1 40 41,cz 1 46 45]),ag [af 35 7,aH 36 .add 35 1,af 7 36]]
def sR:SC:=
 ai [ai [ag [af 18 6,af 19 5,aN 20 19,aS 21 .lss 18 20],bP 21 (.exit 0)],.block 1 (ai [ag [af 24 5,af 25 6,af 26 1,aN 27 26,aH 28 .add 27 1,((some 29),.op (.make 1 24 [(.emp 1)] (.tmp 28) (.tmp 28))),aL 30 1 24 25,cz 1 30 29],ag [aT 7 0],bQ 2 tx]),ag [af 22 6,aH 23 .add 22 1,af 6 23]]
def sX:SC:=
 ai [ai [ag [af 73 13,af 74 1,aN 75 74,aS 76 .leq 73 75],bP 76 (.exit 10)],.block 11 (ai [.region false [⟨none,[af 79 12,af 80 13,aL 81 1 79 80,au 82 81,af 83 82]⟩,⟨(some (83,true)),[af 84 5,aw 85 0 10,au 86 85,aL 87 1 84 86,au 88 87,af 89 11,aL 90 1 88 89,au 91 90,af 92 13,aL 93 1 91 92,au 94 93,cR 95 94]⟩,⟨none,[dO 96 83 95]⟩],aX 96 (ai [ag [af 97 5,aw 98 0 10,au 99 98,aL 100 1 97 99,au 101 100,af 102 11,aL 103 1 101 102,au 104 103,af 105 13,aL 106 1 104 105,(none,.op (.store 1 (.tmp 106) (.val (.val (.bool true)))))],ag [bh 8 true]])]),ag [af 77 13,aH 78 .add 77 1,af 13 78]]
def tu:SC:=
 ai [ai [ag [af 60 11,af 61 1,aN 62 61,aS 63 .leq 60 62],bP 63 (.exit 8)],.block 9 (ai [ag [aw 66 1 10,au 67 66,af 68 1,af 69 5,af 70 11,aV 71 200 [67,68,69,70],af 12 71],ag [af 72 11,af 13 72],bQ 10 sX]),ag [af 64 11,aH 65 .add 64 1,af 11 65]]
def sO:SC:=
 ai [ai [ag [af 48 9,aw 49 2 2,au 50 49,aN 51 50,aS 52 .lss 48 51],bP 52 (.exit 6)],.block 7 (ai [ag [aw 55 2 2,au 56 55,af 57 9,aL 58 3 56 57,aU 59 3 58,((some 10),.op (.alloc [(.val (.int .i64 0)),(.emp 1),(.val (.int .i64 0))])),cz 3 10 59],ag [aT 11 0],bQ 8 tu]),ag [af 53 9,aH 54 .add 53 1,af 9 54]]
def mc:SC:=
 ai [ai [ag [af 47 8],bP 47 (.exit 4)],.block 5 (ai [ag [bh 8 false],ag [aT 9 0],bQ 6 sO])]
def vK:SF:=⟨ai [ag [cm 2 0,bT 4 1],ag [aw 14 1 2,au 15 14,aN 16 15,((some 17),.op (.make 1 24 [(.emp 1)] (.tmp 16) (.tmp 16))),af 5 17],ai [ag [aT 6 0],bQ 0 sR],ag [bh 8 true],bQ 4 mc,ag [af 107 5,af 4 107],.ret],
 [.tmp 4],108⟩
theorem AV:aJ aa 139 [2]=some vK:=by kernel_rfl
def UJ (g:aj) (p:List Int) (I:Nat) (R:Nat->Nat) (C:Nat->Nat->Nat) (T0:Tb) (D:Prop) (T:Env) (H:View):Prop:=
 ∃T1,qv H I g.av.length (p.length+1) R C T1/\kS T1 g.av.length (p.length+1)/\(∀n i j,iB T1 n i j=true->i<=j/\Sp g p [-1-(n:Int)] i j) /\
  ((T 8=gb false/\T1=T0/\D)∨(T 8=gb true/\rR T0<rR T1))/\T 1=encI p/\T 2=.aR (ak g) 0/\T 5=.sl I 0 g.av.length 1
def lM (p:List Int) (T0:Tb) (r:bc) (f:Nat):Prop:=∀j,f<=j->j<=p.length->(ma p T0 r.right f).getD j false=true->iB T0 r.left.toNat f j=true
theorem Zg (g:aj) (hg:g.Ok) (hf:g.c6) (p:List Int) (hp:p.length<=1000):cg aa 139 [.agg (ak g),encI p] (oH (DD g p)):=by
 have z1:=hf.lp
 have z2:=hf.av
 have z3:=hf.rules
 refine cg.of (by
  intro v hv;simp at hv
  rcases hv with rfl | rfl
  .exact bW _ (cx g)
  .exact bC p) ?_
 refine ay.of mixed AV ?_
 have hM:((p.length:Int)+1).toNat=p.length+1:=by omega
 simp(disch:=omega)only[↓wr,seval,wq,vK,ak,encS]
 refine⟨⟨by omega,by unfold aF;omega,by unfold aF;omega⟩,λh=>by omega,?_⟩
 intro _ I
 try simp(disch:=omega)only[↓wr,seval,wq,ak,encS]
 refine aW.up g.av.length (λk t H'=>(∃R C,WA H' I g.av.length (p.length+1) k R C)/\t 1=encI p/\t 2=.aR (ak g) 0/\t 5=.sl I 0 g.av.length 1/\t 6=gi k) ?_ ?_
 .refine⟨⟨λ_=>0,λ_ _=>0,⟨?_,λn K=>by omega,λn i K=>by omega,λn i n' i' K=>by omega,λn K=>by omega⟩⟩,rfl,rfl,rfl,rfl⟩
  simp[View.set]
  apply abJ (by simp)
  intro n h1 h2
  simp
 rintro k m t H hk ⟨⟨R,C,G⟩,t1,t2,t5,t6⟩
 simp(disch:=omega)only[↓wr,seval,wq,sR,t1,t2,t5,t6]
 apply ao.dec<;>intro hc
 .have P:=G.top
  simp(disch:=omega)only[↓wr,seval,wq,t1,t2,t5,t6,encI,P]
  refine⟨⟨by omega,by unfold aF;omega,by unfold aF;omega⟩,λh=>by omega,?_⟩
  intro _ r hr
  have Z:I≠r:=by rintro rfl;rw[P] at hr;simp at hr
  try simp(disch:=omega)only[↓wr,seval,wq,t1,t2,t5,t6,encI,P,hM,Z]
  refine⟨by omega,by simp;omega,?_⟩
  try simp(disch:=omega)only[↓wr,seval,wq,t1,t2,t5,t6,encI,P,hM,Z]
  refine aW.up (p.length+1) (λi t H'=>(∃D,Hq H' I g.av.length (p.length+1) k R C r i D)/\t 1=encI p/\t 2=.aR (ak g) 0/\t 5=.sl I 0 g.av.length 1/\t 6=gi k/\t 7=gi i) ?_ ?_
  .refine⟨⟨λ_=>0,?_⟩,t1,t2,t5,t6,rfl⟩
   have old:∀id,H id≠.dead->id≠I->∀o1 o2,((H.set r o1).set I o2) id=H id:=λid T hI o1 o2=>by
    have:id≠r:=by rintro rfl;exact T hr
    simp[View.set,hI,this]
   have b8:∀n,n<k->R n≠r:=λn K e=>by have:=G.row n K;rw[e,hr] at this;simp at this
   have cI:∀n i,n<k->i<p.length+1->C n i≠I:=λn i K hi e=>by
    have h1:=G.cell n i K hi
    rw[e,P] at h1
    simp only[cr.arr.injEq,true_and] at h1
    have:=abY (·[0]?) h1
    simp[show 0<g.av.length by omega] at this
    split at this<;>simp at this
   refine⟨?_,λn K=>?_,λn i K hi=>?_,G.inj,G.ne,?_,λj hj=>by omega,λj j' hj=>by omega,⟨Z,b8,λn q j _ _ hj=>by omega⟩⟩
   .simp only[View.set,if_true]
    rw[gJ (by omega)]
    simp only[acX,List.drop_nil,abP]
    rw[He]
    congr 1
    apply abR
    intro n _
    by_cases e1:n=k
    .rw[aaT e1,aaR (by omega),aaT e1]
    .rw[aaR e1]
     by_cases e2:n<k
     .rw[aaT e2,aaT e2]
     .rw[aaR e2,aaR e2,aaR e1]
   .rw[old _ (by rw[G.row n K];simp) (G.ne n K).symm];exact G.row n K
   .rw[old _ (by rw[G.cell n i K hi];simp) (cI n i K hi)];exact G.cell n i K hi
   .simp only[View.set,aaR Z.symm,if_true]
    congr 1
    apply abJ (by simp)
    intro n h1 h2
    simp
  clear P hr G t1 t2 t5 t6
  rintro i q t H hq ⟨⟨D,G⟩,t1,t2,t5,t6,t7⟩
  simp(disch:=omega)only[↓wr,seval,wq,tx,t1,t2,t5,t6,t7,encI]
  apply ao.dec<;>intro a7
  .have P:=G.top
   have O:=gJ (F:=λn=>[if n<k then V.sl (R n) 0 (p.length+1) 1 else if n=k then .sl r 0 (p.length+1) 1 else .emp 1]) (show k<g.av.length by omega)
   simp only[aaR (show ¬ k<k by omega),if_true] at O
   have bs:=G.Vw
   simp(disch:=omega)only[↓wr,seval,wq,t1,t2,t5,t6,t7,encI,P,O]
   refine⟨by omega,by simp;omega,⟨by omega,by unfold aF;omega,by unfold aF;omega⟩,λh=>by omega,?_⟩
   intro _ d hd
   have bx:r≠d:=by rintro rfl;rw[bs] at hd;simp at hd
   try simp(disch:=omega)only[↓wr,seval,wq,t1,t2,t5,t6,t7,hM,bs,bx]
   refine⟨by omega,by simp;omega,aE hq (by omega) ⟨⟨_,G.next (d:=d) (by omega) (by omega) hd ?_ ?_ ?_⟩,t1,t2,t5,t6,rfl⟩⟩
   .simp only[View.set,if_true]
    rw[gJ (by omega)];rfl
   .simp only[View.set,aaR bx.symm,if_true];rfl
   .intro id T b0
    have:id≠d:=by rintro rfl;exact T hd
    simp[View.set,b0,this]
  .simp(disch:=omega)only[↓wr,seval,wq,t1,t2,t5,t6,t7]
   have b9:i=p.length+1:=by omega
   subst b9
   exact aE hk (by omega) ⟨⟨_,_,G.U7⟩,t1,t2,t5,rfl⟩
 .simp(disch:=omega)only[↓wr,seval,wq,t1,t2,t5,t6]
  have ca:k=g.av.length:=by omega
  subst ca
  have B:=G.done
  refine aW.intro (λk t H'=>∃z,qv H' I g.av.length (p.length+1) R C z/\kS z g.av.length (p.length+1)/\(∀n i j,iB z n i j=true->i<=j/\Sp g p [-1-(n:Int)] i j) /\
   ((t 8=gb true/\k+rR z=g.av.length*((p.length+1)*(p.length+1))+1)∨(t 8=gb false/\∀r∈g.rules,∀f,f<=p.length->lM p z r f))/\t 1=encI p/\t 2=.aR (ak g) 0/\t 5=.sl I 0 g.av.length 1) (g.av.length*((p.length+1)*(p.length+1))+1-rR (Cu g.av.length (p.length+1))) ?_ ?_
  .have:=Kh (Ns g.av.length (p.length+1))
   exact⟨_,B,Ns _ _,λn i j h=>by rw[Xp] at h;simp at h,.inl ⟨rfl,by omega⟩,t1,t2,t5⟩
  clear G B t1 t2 t5 t6
  rintro k t H ⟨z,B,U,ab,Q,t1,t2,t5⟩
  rcases Q with ⟨t8,cS⟩ | ⟨t8,b1⟩
  .simp(disch:=omega)only[↓wr,seval,wq,mc,t1,t2,t5,t8]
   refine aW.up g.rules.length (λi t H'=>UJ g p I R C z (∀q r,q<i->g.rules[q]?=some r->∀f,f<=p.length->lM p z r f) t H'/\t 9=gi i) ⟨⟨z,B,U,ab,.inl ⟨rfl,rfl,λq r hq=>by omega⟩,t1,t2,t5⟩,rfl⟩ ?_
   clear B t1 t2 t5 t8
   rintro i m t H hm ⟨⟨A,B,o,y,Q,t1,t2,t5⟩,t9⟩
   simp(disch:=omega)only[↓wr,seval,wq,sO,t1,t2,t5,t9,ak]
   apply ao.dec<;>intro a7
   .have a8:g.rules[i]?=some (g.rules[i]'(by omega)):=aaQ (by omega)
    have L:g.rules[i]'(by omega)∈g.rules:=aaW _
    generalize g.rules[i]'(by omega)=r at a8 L
    simp(disch:=omega)only[↓wr,seval,wq,t1,t2,t5,t9,ak,aQ,encI,aaS,a8]
    intro b M
    try simp(disch:=omega)only[↓wr,seval,wq,t1,t2,t5,t9]
    have hl:=hf.left r L
    have b2:=hg.aB r L
    refine aW.up (p.length+1) (λf t H'=>UJ g p I R C z ((∀q r,q<i->g.rules[q]?=some r->∀f,f<=p.length->lM p z r f)/\∀J,J<f->lM p z r J) t H'/\t 9=gi i/\t 10=.ptr b 0 0/\H' b=.arr 3 [aQ r]/\t 11=gi f) ?_ ?_
    .refine⟨⟨A,B.keep λid T=>?_,o,y,?_,t1,t2,t5⟩,t9,rfl,by simp[View.set,aQ,encI],rfl⟩
     .have:id≠b:=by rintro rfl;exact T M
      simp[View.set,this]
     .rcases Q with ⟨a,b,c⟩ | h
      .exact .inl ⟨a,b,c,λJ W=>by omega⟩
      .exact .inr h
    clear B Q t1 t2 t5 t9 M o y
    rintro f u t H hu ⟨⟨A,B,o,y,Q,t1,t2,t5⟩,t9,t10,M,t11⟩
    simp(disch:=omega)only[↓wr,seval,wq,tu,t1,t2,t5,t9,t10,t11,encI]
    apply ao.dec<;>intro cb
    .simp(disch:=omega)only[↓wr,seval,wq,t1,t2,t5,t9,t10,t11,M,aQ,encI]
     have cc:=XT r.right p A f g.av.length b2.2.2.1 hp o (by omega) (λx hx=>⟨b2.2.2.2 x hx,λK=>hf.neg L hx K⟩)
     refine az.kC cc (by kernel_rfl) ⟨ct.tree (bC r.right),ct.tree (bC p),B.kL o,ct.tree (.val _),trivial⟩ ?_
     have cf:=HP p A r.right f
     have b3:∀j,j<=p.length->(ma p A r.right f).getD j false=true->f<=j/\Sp g p r.right f j:=λj hj he=>by
      have h1:=(Mw (show f<=p.length by omega) hj).1 he
      exact⟨h1.le Ml,WG (λn i j h=>(y n i j h.2).2) h1⟩
     have b4:A=z->ma p A r.right f=ma p z r.right f:=λe=>by rw[e]
     have bd:(t 8=gb false/\A=z/\((∀q r,q<i->g.rules[q]?=some r->∀f,f<=p.length->lM p z r f)/\∀J,J<f->lM p z r J)/\ma p A r.right f=ma p z r.right f)∨(t 8=gb true/\rR z<rR A):=by
      rcases Q with ⟨a,b,c⟩ | h
      .exact .inl ⟨a,b,c,b4 b⟩
      .exact .inr h
     clear Q b4
     generalize ma p A r.right f=E at cf b3 bd
     simp(disch:=omega)only[↓wr,seval,wq,t1,t2,t5,t9,t10,t11]
     refine aW.up (p.length+1-f) (λs t H'=>UJ g p I R C z (((∀q r,q<i->g.rules[q]?=some r->∀f,f<=p.length->lM p z r f)/\∀J,J<f->lM p z r J)/\E=ma p z r.right f/\∀j,f<=j->j<f+s->E.getD j false=true->iB z r.left.toNat f j=true) t H'/\t 9=gi i/\t 10=.ptr b 0 0/\H' b=.arr 3 [aQ r]/\t 11=gi f/\t 12=bX E/\t 13=gi ((f+s:Nat):Int)) ?_ ?_
     .refine⟨⟨A,B,o,y,?_,t1,t2,t5⟩,t9,t10,M,t11,rfl,rfl⟩
      rcases bd with ⟨a,b,c,d⟩ | h
      .exact .inl ⟨a,b,c,d,λj h1 h2=>by omega⟩
      .exact .inr h
     clear B bd t1 t2 t5 t9 t10 t11 M o y
     rintro s w t H hw ⟨⟨A,B,o,y,Q,t1,t2,t5⟩,t9,t10,M,t11,t12,t13⟩
     simp(disch:=omega)only[↓wr,seval,wq,sX,t1,t2,t5,t9,t10,t11,t12,t13,encI]
     apply ao.dec<;>intro ch
     .have cj:E[f+s]?=some (E.getD (f+s) false):=by simp[aaP,show f+s<E.length by omega]
      have ar:=b3 (f+s) (by omega)
      simp(disch:=omega)only[↓wr,seval,wq,t1,t2,t5,t9,t10,t11,t12,t13,bX,aaS,cj]
      generalize a1:E.getD (f+s) false=lv at ar
      have N:r.left.toNat<g.av.length:=by omega
      have P:=B.top
      have O:=gJ (F:=λn=>[V.sl (R n) 0 (p.length+1) 1]) N
      have ae:=B.row r.left.toNat N
      have al:=gJ (F:=λi=>[V.sl (C r.left.toNat i) 0 (p.length+1) 1]) (show f<p.length+1 by omega)
      have S:=B.cell r.left.toNat f N (by omega)
      obtain⟨row,cell,cV,ck,b1,bl⟩:=o.cell N (show f<p.length+1 by omega)
      rw[bl] at S
      have an:=uK (l:=cell) (i:=f+s) (by omega)
      have b5:iB A r.left.toNat f (f+s)=cell.getD (f+s) false:=by rw[iB,bl]
      have X:∀(bn:Bool),(bn=true->iB A r.left.toNat f (f+s)=true)->E.getD (f+s) false=bn->((t 8=gb false/\A=z/\((∀q r,q<i->g.rules[q]?=some r->∀f,f<=p.length->lM p z r f)/\∀J,J<f->lM p z r J)/\E=ma p z r.right f/\∀j,f<=j->j<f+(s+1)->E.getD j false=true->iB z r.left.toNat f j=true)∨(t 8=gb true/\rR z<rR A)):=λbn Y b7=>by
       rcases Q with ⟨a,b,c,d,e⟩ | h
       .refine .inl ⟨a,b,c,d,λj h1 h2 h3=>?_⟩
        by_cases ej:j=f+s
        .subst ej
         rw[b7] at h3
         rw[<-b];exact Y h3
        .exact e j h1 (by omega) h3
       .exact .inr h
      apply ao.split<;>intro Y
      .subst Y
       obtain⟨_,cu⟩:=ar rfl
       simp(disch:=omega)only[↓wr,seval,wq,t1,t2,t5,t9,t10,t11,t12,t13,M,aQ,P,O,ae,al,S,an]
       refine⟨by omega,by simp;omega,?_⟩
       try simp(disch:=omega)only[↓wr,seval,wq,t1,t2,t5,t9,t10,t11,t12,t13,M,aQ,P,O,ae,al,S,an]
       refine⟨by omega,by simp;omega,by omega,by omega,?_⟩
       apply ao.split<;>intro br
       .simp(disch:=omega)only[↓wr,seval,wq,t1,t2,t5,t9,t10,t11,t12,t13]
        exact aE hw (by omega) ⟨⟨A,B,o,y,X true (λ_=>by rw[b5];exact br) a1,t1,t2,t5⟩,t9,t10,M,t11,t12,rfl⟩
       .simp(disch:=omega)only[↓wr,seval,wq,t1,t2,t5,t9,t10,t11,t12,t13,M,aQ,P,O,ae,al,S,an]
        refine⟨by omega,by simp;omega,?_⟩
        try simp(disch:=omega)only[↓wr,seval,wq,t1,t2,t5,t9,t10,t11,t12,t13,M,aQ,P,O,ae,al,S,an]
        refine⟨by omega,by simp;omega,by omega,by omega,?_⟩
        have a6:=B.put o N (show f<p.length+1 by omega) (show f+s<p.length+1 by omega)
        have cv:=X8 o N (show f<p.length+1 by omega) (show f+s<p.length+1 by omega) (by rw[b5];exact br)
        rw[bl,<-iJ] at a6
        have cA:b≠C r.left.toNat f:=λe=>by rw[e,S] at M;simp at M
        refine aE hw (by omega) ⟨⟨qT A r.left.toNat f (f+s),?_,UZ o N (by omega),λn i' j' h=>?_,.inr ⟨rfl,?_⟩,t1,t2,t5⟩,t9,t10,by simp[View.set,cA,M,aQ],t11,t12,rfl⟩
        .exact a6
        .rw[VF o N (by omega) (by omega)] at h
         split at h
         .rename_i e
          obtain⟨rfl,rfl,rfl⟩:=e
          refine⟨by omega,?_⟩
          exact .eJ _ _ r _ _ _ (by omega) L (by omega) cu (.nil _)
         .exact y n i' j' h
        .rcases Q with ⟨_,e,_⟩ | ⟨_,e⟩
         .rw[cv,e];omega
         .omega
      .subst Y
       simp(disch:=omega)only[↓wr,seval,wq,t1,t2,t5,t9,t10,t11,t12,t13]
       exact aE hw (by omega) ⟨⟨A,B,o,y,X false (λh=>by simp at h) a1,t1,t2,t5⟩,t9,t10,M,t11,t12,rfl⟩
     .simp(disch:=omega)only[↓wr,seval,wq,t1,t2,t5,t9,t10,t11,t12,t13]
      refine aE hu (by omega) ⟨⟨A,B,o,y,?_,t1,t2,t5⟩,t9,t10,M,rfl⟩
      rcases Q with ⟨a,b,c,d,e⟩ | h
      .refine .inl ⟨a,b,c.1,λJ W=>?_⟩
       by_cases ef:J=f
       .subst ef
        exact λj h1 h2 h3=>e j h1 (by omega) (by rw[d];exact h3)
       .exact c.2 J (by omega)
      .exact .inr h
    .simp(disch:=omega)only[↓wr,seval,wq,t1,t2,t5,t9,t10,t11]
     refine aE hm (by omega) ⟨⟨A,B,o,y,?_,t1,t2,t5⟩,rfl⟩
     rcases Q with ⟨a,b,c,d⟩ | h
     .refine .inl ⟨a,b,λq r' hq aq J W=>?_⟩
      by_cases eq:q=i
      .subst eq
       rw[a8] at aq;simp at aq;subst aq
       exact d J (by omega)
      .exact c q r' (by omega) aq J W
     .exact .inr h
   .simp(disch:=omega)only[↓wr,seval,wq,t1,t2,t5,t9]
    rcases Q with ⟨a,b,c⟩ | ⟨a,b⟩
    .subst b
     refine⟨0,by have:=Kh U;omega,A,B,U,ab,.inr ⟨a,λr hr f W=>?_⟩,rfl⟩
     obtain⟨q,hq,cC⟩:=acI hr
     exact c q r (by omega) (by rw[aaQ hq,cC]) f W
    .have:=Kh o
     exact⟨g.av.length*((p.length+1)*(p.length+1))+1-rR A,by omega,A,B,o,y,.inl ⟨a,by omega⟩,rfl⟩
  .simp(disch:=omega)only[↓wr,seval,wq,mc,t1,t2,t5,t8]
   intro h' hh
   have hT:z=DD g p:=YP (λr hr=>(hf.left r hr).1) (λr hr=>(hf.left r hr).2) U (λn i j h=>(ab n i j h.2).2) (λn i j h=>(ab n i j h).1) λr hr f j cN hj he=>b1 r hr f (by omega) j cN hj he
   rw[<-hT]
   exact qv.ZA (by rw[hh];exact B) U
def BK (g:aj) (p:List Int):Bool:=p.all λx=>decide (-1<=x)&&decide (x<g.ax.length)
def mN (g:aj) (p:List Int):Bool:=iB (DD g p) g.start.toNat 0 p.length
def GM (g:aj) (p:List Int):Bool × Int:=if (bt g&&decide (p.length<=60)&&BK g p)=true then (mN g p,0) else (false,1)
def zT (x:Bool × Int):V:=.bb [gb x.1,gi x.2]
theorem BU (x:Bool × Int):Tree (zT x):=wg (.val _) (.val _)
theorem Eo {g:aj} (hr:bt g=true) (p:List Int):mN g p=true↔Sp g p [-1-g.start] 0 p.length:=by
 have a:=bE hr
 have b:=a.lB
 have h1:=a.start
 rw[mN,Th (by omega) (by omega) (by omega)]
 rw[show ((g.start.toNat:Nat):Int)=g.start by omega]
def qE:SC:=
 ai [ai [ag [af 15 6,af 16 1,aN 17 16,aS 18 .lss 15 17],bP 18 (.exit 0)],.block 1 (ai [.region false [⟨none,[af 21 1,af 22 6,aL 23 1 21 22,au 24 23,aH 25 .lss 24 (-1),af 26 25]⟩,⟨(some (26,false)),[af 27 1,af 28 6,aL 29 1 27 28,au 30 29,aw 31 0 2,au 32 31,aN 33 32,aS 34 .geq 30 33]⟩,⟨none,[cE 35 26 34]⟩],aX 35 (ai [ag [bh 4 false,aT 5 1],.ret])]),ag [af 19 6,aH 20 .add 19 1,af 6 20]]
def s7:SF:=⟨ai [ag [cm 2 0,bh 4 false,aT 5 0],ai [.region false [⟨none,[aU 7 4 2,aV 8 50 [7],cR 9 8,af 10 9]⟩,⟨(some (10,false)),[af 11 1,aN 12 11,aH 13 .gtr 12 60]⟩,⟨none,[cE 14 10 13]⟩],aX 14 (ai [ag [bh 4 false,aT 5 1],.ret])],ai [ag [aT 6 0],bQ 0 qE],.region true [⟨none,[aU 36 4 2,af 37 1,aV 38 139 [36,37],aw 39 3 2,au 40 39,aL 41 1 38 40,au 42 41,((some 43),.op (.idx 1 (.tmp 42) (.val (.val (.int .i64 0))))),au 44 43,af 45 1,aN 46 45,aL 47 1 44 46,au 48 47,af 4 48,aT 5 0]⟩],.ret],
 [.tmp 4,.tmp 5],49⟩
theorem y7:aJ aa 78 [2]=some s7:=by kernel_rfl
theorem TY (g:aj) (q:g.Ok) (p:List Int) (hp:aI p) (E:∀x∈p,bm x):aC aa 78 [.agg (ak g),encI p] (zT (GM g p)):=by
 refine aC.tree (by
  intro v y;simp at y
  rcases y with rfl | rfl
  .exact bW _ (cx g)
  .exact bC p) (BU _) λH=>?_
 refine ay.of mixed y7 ?_
 unfold aI at hp
 have r:=q.ax
 unfold aI at r
 have bad:(bt g&&decide (p.length<=60)&&BK g p)=false->zT (GM g p)=.bb [gb false,gi 1]:=λe=>by
  unfold GM;rw[aaR (by rw[e];simp)];rfl
 simp(disch:=omega)only[↓wr,seval,wq,s7,ak,encS,encI]
 refine az.pure (j7 g q) ?_
 simp(disch:=omega)only[↓wr,seval,wq]
 apply ao.split<;>intro hr
 .have s:=bE hr
  simp(disch:=omega)only[↓wr,seval,wq,encI]
  apply ao.dec<;>intro z
  .simp(disch:=omega)only[↓wr,seval,wq]
   exact(bad (by rw[decide_eq_false (by omega)];simp)).symm
  .simp(disch:=omega)only[↓wr,seval,wq,encI]
   refine aW.up p.length (λi o H'=>BK g (p.take i)=true/\o 1=encI p/\o 2=.aR (ak g) 0/\o 6=gi i) ⟨rfl,rfl,rfl,rfl⟩ ?_
   rintro i k o H' hk ⟨a,t1,t2,t6⟩
   simp(disch:=omega)only[↓wr,seval,wq,qE,t1,t2,t6,encI]
   apply ao.dec<;>intro A
   .have b:p[i]?=some (p[i]'(by omega)):=aaQ (by omega)
    have c:p[i]'(by omega)∈p:=aaW _
    have h:p.take (i+1)=p.take i++[p[i]'(by omega)]:=by rw[aa9,b];rfl
    generalize p[i]'(by omega)=x at b c h
    have t:BK g (p.take (i+1))=(decide (-1<=x)&&decide (x<g.ax.length)):=by
     unfold BK at a ⊢
     rw[h,ac3,a];simp
    have j:(decide (-1<=x)&&decide (x<g.ax.length))=false->BK g p=false:=λe=>by
     unfold BK
     rw[acS]
     exact⟨x,c,by rw[e];simp⟩
    simp(disch:=omega)only[↓wr,seval,wq,t1,t2,t6,encI,ak,encS,aaS,b]
    apply ao.dec<;>intro h1
    .simp(disch:=omega)only[↓wr,seval,wq,t1,t2,t6]
     exact(bad (by rw[j (by rw[decide_eq_false (by omega)];rfl),acr])).symm
    .simp(disch:=omega)only[↓wr,seval,wq,t1,t2,t6,encI,ak,encS,aaS,b]
     apply ao.dec<;>intro B
     .simp(disch:=omega)only[↓wr,seval,wq,t1,t2,t6]
      exact(bad (by rw[j (by rw[decide_eq_false (show ¬ x<(g.ax.length:Int) by omega),acr]),acr])).symm
     .simp(disch:=omega)only[↓wr,seval,wq,t1,t2,t6]
      exact aE hk (by omega) ⟨by rw[t,abt (by omega),abt (by omega)];rfl,t1,t2,rfl⟩
   .rw[aa6 (by omega)] at a
    simp(disch:=omega)only[↓wr,seval,wq,t1,t2,t6,ak,encS]
    have l:=Zg g q s p (by omega)
    simp only[ak,encS] at l
    refine az.pure l.pure ?_
    have F:=s.lB
    have h1:=s.start
    obtain⟨row,cell,d,f,C,u⟩:=(TL g p).cell (n:=g.start.toNat) (i:=0) (by omega) (by omega)
    have m:cell[p.length]?=some (mN g p):=by
     rw[mN,iB,u];simp[aaP,show p.length<cell.length by omega]
    have D:GM g p=(mN g p,0):=aaT (by rw[hr,a,abt (by omega)];rfl)
    generalize DD g p=S at d ⊢
    have w:cell[(p.length:Int).toNat]?=some (mN g p):=by rw[abu];exact m
    simp(disch:=omega)only[↓wr,seval,wq,t1,t2,t6,encI,ak,encS,oH,bX,aaS,d,f,m,w]
    rw[D];rfl
 .simp(disch:=omega)only[↓wr,seval,wq]
  exact(bad (by rw[hr];simp)).symm
def Cm (g:aj) (w:List Int):Bool:=w.all λx=>decide (0<=x)&&decide (x<g.ax.length)
def je (g:aj) (w:List Int):Bool:=bt g&&decide (w.length<=60)&&Cm g w
theorem An (g:aj) (w:List Int):∀v∈[V.agg (ak g),encI w],Tree v:=by
 intro v a;simp at a
 rcases a with rfl | rfl
 .exact bW _ (cx g)
 .exact bC w
def qP:SC:=
 ai [ai [ag [af 14 5,af 15 1,aN 16 15,aS 17 .lss 14 16],bP 17 (.exit 0)],.block 1 (ai [.region false [⟨none,[af 20 1,af 21 5,aL 22 1 20 21,au 23 22,aH 24 .lss 23 0,af 25 24]⟩,⟨(some (25,false)),[af 26 1,af 27 5,aL 28 1 26 27,au 29 28,aw 30 0 2,au 31 30,aN 32 31,aS 33 .geq 29 32]⟩,⟨none,[cE 34 25 33]⟩],aX 34 (ai [ag [bh 4 false],.ret])]),ag [af 18 5,aH 19 .add 18 1,af 5 19]]
def tw:SF:=⟨ai [ag [cm 2 0,bh 4 false],ai [.region false [⟨none,[aU 6 4 2,aV 7 50 [6],cR 8 7,af 9 8]⟩,⟨(some (9,false)),[af 10 1,aN 11 10,aH 12 .gtr 11 60]⟩,⟨none,[cE 13 9 12]⟩],aX 13 (ai [ag [bh 4 false],.ret])],ai [ag [aT 5 0],bQ 0 qP],ag [bh 4 true],.ret],
 [.tmp 4],35⟩
theorem yz:aJ aa 17 [2]=some tw:=by kernel_rfl
def ui:SF:=⟨ai [ag [cm 2 0,bh 4 false,aT 5 0],ai [ag [aU 6 4 2,af 7 1,aV 8 17 [6,7],cR 9 8],aX 9 (ai [ag [bh 4 false,aT 5 1],.ret])],ag [aU 10 4 2,af 11 1,aV 12 78 [10,11],c7 13 0 12,c7 14 1 12,af 4 13,af 5 14],.ret],
 [.tmp 4,.tmp 5],15⟩
theorem zf:aJ aa 35 [2]=some ui:=by kernel_rfl
def yo:SF:=⟨ai [ag [bh 3 false],.region false [⟨none,[af 4 0,aH 5 .lss 4 0,af 6 5]⟩,⟨(some (6,false)),[af 7 0,aw 8 0 1,au 9 8,aN 10 9,aS 11 .geq 7 10]⟩,⟨none,[cE 12 6 11,af 3 12]⟩],.ret],
 [.tmp 3],13⟩
theorem C7:aJ aa 108 []=some yo:=by kernel_rfl
def BL:SF:=⟨ai [ag [cm 2 0,bh 4 false],ai [.region false [⟨none,[aU 5 4 2,aV 6 89 [5],cR 7 6,af 8 7]⟩,⟨(some (8,false)),[af 9 1,aN 10 9,aH 11 .gtr 10 60]⟩,⟨none,[cE 12 8 11]⟩],aX 12 (ai [ag [bh 4 false],.ret])],ag [af 13 1,((some 14),.op (.tU 108 [] [(.tmp 2)])),aV 15 90 [13,14],cR 16 15,af 4 16],.ret],
 [.tmp 4],17⟩
theorem Fy:aJ aa 52 [2]=some BL:=by kernel_rfl
theorem Tp (g:aj) (m:g.Ok) (p:List Int) (hp:aI p) (r:∀x∈p,bm x):aC aa 17 [.agg (ak g),encI p] (gb (je g p)):=by
 refine aC.val (An g p) λH=>?_
 refine ay.of mixed yz ?_
 unfold aI at hp
 have j:=m.ax
 unfold aI at j
 simp(disch:=omega)only[↓wr,seval,wq,tw,ak,encS,encI]
 refine az.pure (j7 g m) ?_
 simp(disch:=omega)only[↓wr,seval,wq]
 apply ao.split<;>intro hr
 .simp(disch:=omega)only[↓wr,seval,wq,encI]
  apply ao.dec<;>intro n
  .simp(disch:=omega)only[↓wr,seval,wq]
   rw[je,decide_eq_false (show ¬ p.length<=60 by omega)];simp
  .simp(disch:=omega)only[↓wr,seval,wq,encI]
   refine aW.up p.length (λi h H'=>Cm g (p.take i)=true/\h 1=encI p/\h 2=.aR (ak g) 0/\h 5=gi i) ⟨rfl,rfl,rfl,rfl⟩ ?_
   rintro i k h H' hk ⟨a,t1,t2,t6⟩
   simp(disch:=omega)only[↓wr,seval,wq,qP,t1,t2,t6,encI]
   apply ao.dec<;>intro o
   .have b:p[i]?=some (p[i]'(by omega)):=aaQ (by omega)
    have c:p[i]'(by omega)∈p:=aaW _
    have d:p.take (i+1)=p.take i++[p[i]'(by omega)]:=by rw[aa9,b];rfl
    generalize p[i]'(by omega)=x at b c d
    have l:Cm g (p.take (i+1))=(decide (0<=x)&&decide (x<g.ax.length)):=by
     unfold Cm at a ⊢
     rw[d,ac3,a];simp
    have f:(decide (0<=x)&&decide (x<g.ax.length))=false->je g p=false:=λe=>by
     have:Cm g p=false:=by
      unfold Cm
      rw[acS]
      exact⟨x,c,by rw[e];simp⟩
     rw[je,this,acr]
    simp(disch:=omega)only[↓wr,seval,wq,t1,t2,t6,encI,ak,encS,aaS,b]
    apply ao.dec<;>intro h1
    .simp(disch:=omega)only[↓wr,seval,wq,t1,t2,t6]
     rw[f (by rw[decide_eq_false (by omega)];rfl)]
    .simp(disch:=omega)only[↓wr,seval,wq,t1,t2,t6,encI,ak,encS,aaS,b]
     apply ao.dec<;>intro q
     .simp(disch:=omega)only[↓wr,seval,wq,t1,t2,t6]
      rw[f (by rw[decide_eq_false (show ¬ x<(g.ax.length:Int) by omega),acr])]
     .simp(disch:=omega)only[↓wr,seval,wq,t1,t2,t6]
      exact aE hk (by omega) ⟨by rw[l,abt (by omega),abt (by omega)];rfl,t1,t2,rfl⟩
   .rw[aa6 (by omega)] at a
    simp(disch:=omega)only[↓wr,seval,wq,t1,t2,t6]
    rw[je,hr,a,abt (by omega)];rfl
 .simp(disch:=omega)only[↓wr,seval,wq]
  rw[je,hr];rfl
def kQ (g:aj) (w:List Int):Bool × Int:=if je g w=true then (mN g w,0) else (false,1)
theorem Wa {g:aj} {w:List Int} (h:je g w=true):GM g w=(mN g w,0):=by
 unfold je at h
 simp only[aaZ,aa5] at h
 refine aaT ?_
 rw[h.1.1,abt h.1.2]
 simp only[aby,BK,abj,aaZ,aa5]
 intro x a
 have:=abj.1 h.2 x a
 simp only[aaZ,aa5] at this
 omega
theorem Wk (g:aj) (b:g.Ok) (w:List Int) (hw:aI w) (c:∀x∈w,bm x):aC aa 35 [.agg (ak g),encI w] (zT (kQ g w)):=by
 refine aC.tree (An g w) (BU _) λH=>?_
 refine ay.of mixed zf ?_
 simp(disch:=omega)only[↓wr,seval,wq,ui,ak,encS]
 have h1:=Tp g b w hw c
 have d:=TY g b w hw c
 simp only[ak,encS] at h1 d
 refine az.pure h1 ?_
 simp(disch:=omega)only[↓wr,seval,wq]
 apply ao.split<;>intro a
 .simp(disch:=omega)only[↓wr,seval,wq]
  refine az.pure d ?_
  rw[Wa a]
  simp(disch:=omega)only[↓wr,seval,wq,zT]
  rw[kQ,aaT a]
 .simp(disch:=omega)only[↓wr,seval,wq]
  rw[kQ,aaR (by rw[a];simp)];rfl
theorem RU (g:aj) (c:g.Ok) (x:Int) (d:bm x):aC aa 108 [gi x,.aR (ak g) 0] (gb (!(decide (0<=x)&&decide (x<g.ax.length)))):=by
 have a:=c.ax
 unfold aI at a
 refine aC.val (by
  intro v b;simp at b
  rcases b with rfl | rfl
  .exact .val _
  .exact iD (cx g)) λH=>?_
 refine ay.of mixed C7 ?_
 simp(disch:=omega)only[↓wr,seval,wq,yo,ak,encS]
 apply ao.dec<;>intro h1
 .simp(disch:=omega)only[↓wr,seval,wq]
  rw[decide_eq_false (show ¬ 0<=x by omega)];rfl
 .simp(disch:=omega)only[↓wr,seval,wq,ak,encS]
  rw[abt (show 0<=x by omega)]
  rw[aby,<-decide_not];congr 2;exact decide_eq_decide.2 ⟨λh=>Int.not_lt.2 h,λh=>Int.not_lt.1 h⟩
theorem La (g:aj) (b:g.Ok) (d:g.Small) (w:List Int) (hw:aI w) (e:∀x∈w,bm x):aC aa 52 [.agg (ak g),encI w] (gb (je g w)):=by
 refine aC.val (An g w) λH=>?_
 have a:=jr w hw 108 [.aR (ak g) 0] (by intro v c;simp at c;subst c;exact iD (cx g)) (λx=>!(decide (0<=x)&&decide (x<g.ax.length))) (λx f=>RU g b x (e x f)) (by kernel_rfl)
 refine ay.of mixed Fy ?_
 unfold aI at hw
 simp(disch:=omega)only[↓wr,seval,wq,BL,ak,encS]
 refine az.pure (pw g b d.names) ?_
 simp only[ak,encS] at a
 simp(disch:=omega)only[↓wr,seval,wq]
 apply ao.split<;>intro hr
 .simp(disch:=omega)only[↓wr,seval,wq,encI]
  apply ao.dec<;>intro h
  .simp(disch:=omega)only[↓wr,seval,wq]
   rw[je,decide_eq_false (show ¬ w.length<=60 by omega)];simp
  .simp(disch:=omega)only[↓wr,seval,wq]
   refine az.pure a ?_
   simp(disch:=omega)only[↓wr,seval,wq]
   rw[je,hr,abt (show w.length<=60 by omega),<-List.not_all_eq_any_not,Bool.not_not];rfl
 .simp(disch:=omega)only[↓wr,seval,wq]
  rw[je,hr];rfl
end
end Gv
