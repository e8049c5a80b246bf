/-
  Part 11 of the proof: what the machine does and what the functions answer.
  Conditions: those that each lemma names.
-/
import Derived.Test.YtiophifnkakjgaaGreatSGzC4J
set_option linter.unusedSimpArgs false
set_option linter.unusedVariables false
set_option maxRecDepth 100000
set_option maxHeartbeats 20000000
namespace Gv
open Go Go.Proofs
structure bC where
 aB:Int
 bJ:Int
 rules:Int
 ax:Int
def j5:bC:=⟨(-1),0,0,0⟩
def bp:bC:=⟨0,0,0,0⟩
def bB (P:List bC) (m:Nat):bC:=P.getD m j5
abbrev cr (x:Int):Nat:=(-1-x).toNat
def bS (P:List bC):List Int->bC->bC × Bool
 | [],s=>(s,true)
 | x::l,s=>if 0<=x then bS P l ⟨s.aB,s.bJ,s.rules,min 1048576 (s.ax+1)⟩
  else if (bB P (cr x)).aB<0 then (s,false)
  else bS P l ⟨s.aB,max s.bJ (bB P (cr x)).bJ,min 1048576 (s.rules+(bB P (cr x)).rules),min 1048576 (s.ax+(bB P (cr x)).ax)⟩
def bK (P:List bC) (m:Nat):Prop:=0<=(bB P m).aB
def iH (P:List bC) (l:List Int):Prop:=∀x∈l,x<0->bK P (cr x)
theorem hZ (P:List bC):∀(l:List Int) (s:bC),(bS P l s).2=true↔iH P l
 | [],s=>by simp[bS,iH]
 | x::l,s=>by
  simp only[bS,iH,abw]
  by_cases h:0<=x
  .rw[abb h,hZ P l]
   refine⟨λk y a b=>?_,λk y a=>k y (.inr a)⟩
   rcases a with rfl | a
   .omega
   .exact k y a b
  .rw[aa9 h]
   by_cases c:(bB P (cr x)).aB<0
   .rw[abb c]
    simp only[abI,false_iff]
    intro k
    have:=k x (.inl rfl) (by omega)
    unfold bK at this;omega
   .rw[aa9 c,hZ P l]
    refine⟨λk y a b=>?_,λk y a=>k y (.inr a)⟩
    rcases a with rfl | a
    .unfold bK;omega
    .exact k y a b
theorem ji (P:List bC) (k:Int):∀(l:List Int) (s:bC),iH P l->((bS P l s).1.bJ<=k↔s.bJ<=k/\∀x∈l,x<0->(bB P (cr x)).bJ<=k)
 | [],s,_=>by simp[bS]
 | x::l,s,h=>by
  have e:iH P l:=λy c=>h y (by simp[c])
  simp only[bS,abw]
  by_cases f:0<=x
  .rw[abb f,ji P k l _ e]
   refine⟨λ⟨a,b⟩=>⟨a,λy c d=>?_⟩,λ⟨a,b⟩=>⟨a,λy c=>b y (.inr c)⟩⟩
   rcases c with rfl | c
   .omega
   .exact b y c d
  .have:=h x (by simp) (by omega)
   unfold bK at this
   rw[aa9 f,aa9 (by omega),ji P k l _ e]
   refine⟨λ⟨a,b⟩=>⟨by simp only at a;omega,λy c d=>?_⟩,λ⟨a,b⟩=>⟨by have:=b x (.inl rfl) (by omega);simp only;omega,λy c=>b y (.inr c)⟩⟩
   rcases c with rfl | c
   .simp only at a;omega
   .exact b y c d
theorem GQ {P P':List bC}:∀(l:List Int) (s:bC),(∀x∈l,x<0->bB P (cr x)=bB P' (cr x))->bS P l s=bS P' l s
 | [],s,_=>rfl
 | x::l,s,h=>by
  have b:=λs=>GQ (P:=P) (P':=P') l s λy c=>h y (by simp[c])
  simp only[bS]
  by_cases a:0<=x
  .rw[abb a,abb a,b]
  .rw[aa9 a,aa9 a,h x (by simp) (by omega),b]
theorem tx (P:List bC):∀(l:List Int) (s:bC),s.bJ<=(bS P l s).1.bJ
 | [],s=>Int.le_refl _
 | x::l,s=>by
  simp only[bS]
  split
  .exact tx P l _
  .split
   .exact Int.le_refl _
   .have:=tx P l ⟨s.aB,max s.bJ (bB P (cr x)).bJ,min 1048576 (s.rules+(bB P (cr x)).rules),min 1048576 (s.ax+(bB P (cr x)).ax)⟩
    simp only at this ⊢;omega
def gv (P:List bC) (i:Nat) (r:bf):bC:=⟨i,(bS P r.right bp).1.bJ+1,min 1048576 ((bS P r.right bp).1.rules+1),(bS P r.right bp).1.ax⟩
def sA (P:List bC) (i:Nat) (N:List bC) (r:bf):List bC:=
 if 0<=(bB N r.left.toNat).aB then N else if (bS P r.right bp).2=true then N.set r.left.toNat (gv P i r) else N
def oK (P:List bC):Nat->List bC->List bf->List bC
 | _,N,[]=>N
 | i,N,r::l=>oK P (i+1) (sA P i N r) l
def B1 (rules:List bf) (P:List bC):List bC:=oK P 0 P rules
def nN (P:List bC) (m:Nat):Nat->List bf->Option bC
 | _,[]=>none
 | i,r::l=>if r.left.toNat=m/\(bS P r.right bp).2=true then some (gv P i r) else nN P m (i+1) l
theorem CZ {N:List bC} {i m:Nat} {p:bC} (hm:m<N.length):bB (N.set i p) m=if i=m then p else bB N m:=by
 simp only[bB,aa7,ab1]
 split
 .rename_i e;subst e;simp[hm]
 .rfl
theorem I2 (P:List bC) (i:Nat) (N:List bC) (r:bf):(sA P i N r).length=N.length:=by
 unfold sA;split; · rfl
 split<;>simp
theorem Io (P:List bC):∀(l:List bf) (i:Nat) (N:List bC),(oK P i N l).length=N.length
 | [],_,_=>rfl
 | r::l,i,N=>by rw[oK,Io P l,I2]
theorem Lj (P:List bC) (m:Nat):∀(l:List bf) (i:Nat) (N:List bC),m<N.length->bB (oK P i N l) m=if 0<=(bB N m).aB then bB N m else (nN P m i l).getD (bB N m)
 | [],i,N,hm=>by simp[oK,nN]
 | r::l,i,N,hm=>by
  rw[oK,Lj P m l (i+1) _ (by rw[I2];exact hm),nN]
  unfold sA
  by_cases h1:0<=(bB N r.left.toNat).aB
  .rw[abb h1]
   by_cases a:r.left.toNat=m
   .subst a
    rw[abb h1,abb h1]
   .rw[aa9 (c:=r.left.toNat=m/\_) (λe=>a e.1)]
  .rw[aa9 h1]
   by_cases b:(bS P r.right bp).2=true
   .rw[abb b]
    by_cases a:r.left.toNat=m
    .subst a
     rw[CZ hm,abb rfl,aa9 h1,abb (show (0:Int)<=(gv P i r).aB by simp only[gv];omega),abb (c:=r.left.toNat=r.left.toNat/\_) (And.intro rfl b)]
     rfl
    .rw[CZ hm,aa9 a,aa9 (c:=r.left.toNat=m/\_) (λe=>a e.1)]
   .rw[aa9 b,aa9 (c:=r.left.toNat=m/\_) (λe=>b e.2)]
theorem jX {P:List bC} {m:Nat}:∀ {l:List bf} {i:Nat} {p:bC},nN P m i l=some p->∃(j:Nat) (r:bf),l[j]?=some r/\r.left.toNat=m/\iH P r.right/\p=gv P (i+j) r/\∀(f:Nat) (g:bf),f<j->l[f]?=some g->g.left.toNat=m->¬ iH P g.right
 | [],i,p,h=>by simp[nN] at h
 | r::l,i,p,h=>by
  rw[nN] at h
  by_cases k:r.left.toNat=m/\(bS P r.right bp).2=true
  .rw[abb k] at h
   exact⟨0,r,rfl,k.1,(hZ P _ _).1 k.2,by simpa using h.symm,λf g o=>by omega⟩
  .rw[aa9 k] at h
   obtain⟨j,q,a,b,c,d,e⟩:=jX h
   refine⟨j+1,q,by simpa using a,b,c,by rw[d];congr 1;omega,λf g o hr n hk=>?_⟩
   cases f with
   | zero =>
    simp at hr;subst hr
    exact k ⟨n,(hZ P _ _).2 hk⟩
   | succ f=>exact e f g (by omega) (by simpa using hr) n hk
theorem B3 {P:List bC} {m:Nat}:∀ {l:List bf} {i:Nat},nN P m i l=none->∀r∈l,r.left.toNat=m->¬ iH P r.right
 | [],i,h,r,hr,_,_=>by simp at hr
 | r::l,i,h,c,hr,b,hk=>by
  rw[nN] at h
  by_cases a:r.left.toNat=m/\(bS P r.right bp).2=true
  .rw[abb a] at h;simp at h
  .rw[aa9 a] at h
   rcases abw.1 hr with rfl | hr
   .exact a ⟨b,(hZ P _ _).2 hk⟩
   .exact B3 h c hr b hk
def aH (g:ak) (k:Nat):List bC:=iter (B1 g.rules) k (List.replicate g.av.length j5)
theorem Ih {α:Type} (f:α->α):∀(k:Nat) (x:α),iter f (k+1) x=f (iter f k x)
 | 0,x=>rfl
 | k+1,x=>by rw[iter,Ih f k,iter]
theorem qF (g:ak) (k:Nat):aH g (k+1)=B1 g.rules (aH g k):=Ih _ _ _
theorem fJ (g:ak):∀k,(aH g k).length=g.av.length
 | 0=>by simp[aH,iter]
 | k+1=>by rw[qF,B1,Io,fJ g k]
theorem y3 {P:List bC} {m:Nat} (h:P.length<=m):bB P m=j5:=by simp[bB,abL h]
theorem LS {P:List bC} {m:Nat} (h:bK P m):m<P.length:=by
 rcases abH m P.length with h1 | h1
 .exact h1
 .unfold bK at h;rw[y3 h1] at h;simp[j5] at h
theorem si (g:ak) (k m:Nat):bB (aH g (k+1)) m=if 0<=(bB (aH g k) m).aB then bB (aH g k) m else if m<g.av.length then (nN (aH g k) m 0 g.rules).getD (bB (aH g k) m) else bB (aH g k) m:=by
 by_cases hm:m<g.av.length
 .rw[qF,B1,Lj _ _ _ _ _ (by rw[fJ];exact hm),abb hm]
 .rw[aa9 hm,y3 (by rw[fJ];omega),y3 (by rw[fJ];omega)]
  simp
theorem GY {g:ak} {k m:Nat} (h:bK (aH g k) m):bB (aH g (k+1)) m=bB (aH g k) m:=by
 rw[si];unfold bK at h;rw[abb h]
theorem DU {g:ak} {k m:Nat} (h:bK (aH g k) m):∀d,bB (aH g (k+d)) m=bB (aH g k) m
 | 0=>rfl
 | d+1=>by
  have a:=DU h d
  have:bK (aH g (k+d)) m:=by unfold bK at h ⊢;rw[a];exact h
  rw[<-a,<-GY this];rfl
theorem iu {g:ak} {k m j:Nat} (h:bK (aH g k) m) (a:k<=j):bB (aH g j) m=bB (aH g k) m/\bK (aH g j) m:=by
 obtain⟨d,rfl⟩:∃d,j=k+d:=⟨j-k,by omega⟩
 have:=DU h d
 exact⟨this,by unfold bK at h ⊢;rw[this];exact h⟩
theorem wN {g:ak} {k m:Nat} (a:¬ bK (aH g k) m) (h:bK (aH g (k+1)) m):nN (aH g k) m 0 g.rules=some (bB (aH g (k+1)) m):=by
 unfold bK at h a
 rw[si,aa9 a] at h
 rw[si,aa9 a]
 split at h
 .rename_i hm
  rw[abb hm]
  cases b:nN (aH g k) m 0 g.rules with
  | none=>rw[b] at h;exact absurd h a
  | some p=>rfl
 .exact absurd h a
theorem ko {g:ak} {m:Nat}:∀ {k:Nat},¬ bK (aH g k) m->bB (aH g k) m=j5
 | 0,_=>by
  simp only[aH,iter,bB,aa7,ab0]
  split<;>rfl
 | k+1,h=>by
  have a:¬ bK (aH g k) m:=λe=>h (iu e (by omega)).2
  unfold bK at h a
  rw[si,aa9 a] at h ⊢
  split
  .rename_i hm
   rw[abb hm] at h
   cases b:nN (aH g k) m 0 g.rules with
   | none=>exact ko (k:=k) a
   | some p =>
    rw[b] at h
    obtain⟨j,r,_,_,_,rfl,_⟩:=jX b
    simp only[abp,gv] at h;omega
  .exact ko (k:=k) a
theorem fH (g:ak):∀k:Nat,∀m,bK (aH g k) m->1<=(bB (aH g k) m).bJ/\(bB (aH g k) m).bJ<=k/\∀j:Nat,j<=k->(bB (aH g k) m).bJ<=j->bK (aH g j) m
 | 0,m,h=>by
  unfold bK at h
  have:bB (aH g 0) m=j5:=by
   simp only[aH,iter,bB,aa7,ab0]
   split<;>rfl
  rw[this] at h;simp[j5] at h
 | k+1,m,h=>by
  have q:=fH g k
  by_cases f:bK (aH g k) m
  .obtain⟨a,b,c⟩:=q m f
   rw[(iu f (Nat.le_succ k)).1]
   refine⟨a,by push_cast;omega,λj u t=>?_⟩
   rcases abH k j with e | e
   .exact(iu f (by omega)).2
   .exact c j e t
  .have v:=wN f h
   obtain⟨i,r,hr,w,hk,hp,_⟩:=jX v
   have t:(bB (aH g (k+1)) m).bJ=(bS (aH g k) r.right bp).1.bJ+1:=by rw[hp];rfl
   have h1:=tx (aH g k) r.right bp
   have A:=(ji (aH g k) k r.right bp hk).2 ⟨by simp[bp],λx n o=>(q _ (hk x n o)).2.1⟩
   have B:¬ (bS (aH g k) r.right bp).1.bJ<=(k:Int)-1:=by
    intro hle
    have C:(0:Int)<=(bS (aH g k) r.right bp).1.bJ:=h1
    obtain⟨d,rfl⟩:∃d,k=d+1:=⟨k-1,by omega⟩
    have y:=((ji (aH g (d+1)) _ r.right bp hk).1 hle).2
    have z:iH (aH g d) r.right:=λx n o=>(q _ (hk x n o)).2.2 d (by omega) (by have:=y x n o;push_cast at this;omega)
    apply f
    by_cases s:bK (aH g d) m
    .exact(iu s (by omega)).2
    .unfold bK at s ⊢
     have hm:=LS h
     rw[fJ] at hm
     rw[si,aa9 s,abb hm]
     cases l:nN (aH g d) m 0 g.rules with
     | none=>exact absurd z (B3 l r (abi hr) w)
     | some p =>
      obtain⟨j,D,_,_,_,rfl,_⟩:=jX l
      simp only[abp,gv];omega
   refine⟨by omega,by push_cast;omega,λj u hle=>?_⟩
   have:j=k+1:=by omega
   subst this;exact h
theorem Aa {g:ak} {m:Nat}:∀ {k:Nat},bK (aH g k) m->∃j,j<k/\¬ bK (aH g j) m/\(bB (aH g k) m).bJ=j+1/\nN (aH g j) m 0 g.rules=some (bB (aH g k) m)
 | 0,h=>by
  have:=(fH g 0 m h)
  simp at this;omega
 | k+1,h=>by
  by_cases f:bK (aH g k) m
  .obtain⟨j,a,b,c,d⟩:=Aa f
   rw[(iu f (Nat.le_succ k)).1]
   exact⟨j,by omega,b,c,d⟩
  .refine⟨k,by omega,f,?_,wN f h⟩
   obtain⟨a,b,c⟩:=fH g (k+1) m h
   rcases Int.lt_or_le (k:Int) (bB (aH g (k+1)) m).bJ with e | e
   .push_cast at b;omega
   .exact absurd (c k (by omega) e) f
def wc (P:List bC):List Bool:=P.map λp=>decide (0<=p.aB)
theorem Gp (P:List bC) (m:Nat):(wc P).getD m false=true↔bK P m:=by
 simp only[wc,bK,bB,aa7,aba]
 cases P[m]? with
 | none=>simp[j5]
 | some p=>simp
theorem YS (g:ak) (k:Nat):iM (wc (aH g k)) (wc (aH g (k+1))):=
 ⟨by simp[wc,fJ],λi h=>(Gp _ _).2 (iu ((Gp _ _).1 h) (by omega)).2⟩
theorem Y0 {g:ak} {k:Nat} (h:wc (aH g k)=wc (aH g (k+1))):aH g (k+1)=aH g k:=by
 have hp:∀m,bB (aH g (k+1)) m=bB (aH g k) m:=λm=>by
  by_cases a:bK (aH g k) m
  .exact GY a
  .have h1:¬ bK (aH g (k+1)) m:=λe=>a ((Gp _ _).1 (by rw[h];exact(Gp _ _).2 e))
   rw[ko a,ko h1]
 apply ab2 (by rw[fJ,fJ])
 intro m h1 b
 have:=hp m
 simpa [bB,aa7,h1,b] using this
theorem QW {g:ak} {k:Nat} (hk:k<=dp (wc (aH g k))):aH g (k+1)=aH g k∨k+1<=dp (wc (aH g (k+1))):=by
 have:=(YS g k).dp
 by_cases e:dp (wc (aH g k))=dp (wc (aH g (k+1)))
 .exact .inl (Y0 (this.2 e))
 .exact .inr (by omega)
theorem MX (g:ak) (k:Nat):dp (wc (aH g k))<=g.av.length:=by
 have:=vG (wc (aH g k))
 simpa [wc,fJ] using this
theorem E9 {g:ak} {k:Nat} (h:aH g (k+1)=aH g k):∀d,aH g (k+d)=aH g k
 | 0=>rfl
 | d+1=>by
  have a:=E9 h d
  rw[<-abP,qF,a,<-qF,h]
def aA (g:ak):List bC:=aH g g.av.length
theorem gP (g:ak):(aA g).length=g.av.length:=fJ _ _
theorem U9 {g:ak} {k:Nat} (hk:k<=g.av.length) (h:aH g (k+1)=aH g k):aH g k=aA g:=by
 obtain⟨d,a⟩:∃d,g.av.length=k+d:=⟨g.av.length-k,by omega⟩
 rw[aA,a,E9 h d]
theorem lQ {g:ak} {m:Nat} (h:bK (aA g) m):1<=(bB (aA g) m).bJ/\(bB (aA g) m).bJ<=g.av.length:=⟨(fH g _ m h).1,(fH g _ m h).2.1⟩
theorem zR {g:ak} {m:Nat} (h:¬ bK (aA g) m):bB (aA g) m=j5:=ko h
theorem oc {g:ak} {m:Nat} (h:bK (aA g) m):∃(i:Nat) (r:bf),g.rules[i]?=some r/\r.left.toNat=m/\iH (aA g) r.right/\bB (aA g) m=gv (aA g) i r /\
  ∀(j:Nat) (a:bf),j<i->g.rules[j]?=some a->a.left.toNat=m->iH (aA g) a.right->(bS (aA g) a.right bp).1.bJ+1≠(bB (aA g) m).bJ:=by
 obtain⟨k,hk,b,p,q⟩:=Aa h
 obtain⟨i,r,hr,s,o,hp,e⟩:=jX q
 have c:∀x∈r.right,x<0->bB (aH g k) (cr x)=bB (aA g) (cr x):=λx d b=>((iu (o x d b) (by omega)).1).symm
 have t:bS (aH g k) r.right bp=bS (aA g) r.right bp:=GQ _ _ c
 refine⟨i,r,hr,s,λx d b=>(iu (o x d b) (by omega)).2,?_,λj a u l n f he=>?_⟩
 .show bB (aH g g.av.length) m=_
  rw[hp];unfold gv;rw[t,abX]
 .have h1:(bB (aA g) m).bJ=k+1:=p
  refine e j a u l n λx d b=>?_
  have v:=((ji (aA g) k a.right bp f).1 (by omega)).2 x d b
  exact(fH g _ _ (f x d b)).2.2 k (by omega) v
def gC (h:List Int) (m:Nat):Int:=h.getD m 0
def gx (h:List Int):List Int->Int->Int
 | [],top=>top+1
 | x::l,top=>if 0<=x then gx h l top else if gC h (cr x)=0 then 0 else gx h l (max top (gC h (cr x)))
def lD (old:List Int) (k:Int) (out:List Int) (r:bf):List Int:=if gC out r.left.toNat=0/\gx old r.right 0=k then out.set r.left.toNat k else out
abbrev fX (P:List bC):List Int:=P.map bC.bJ
theorem ni (P:List bC) (m:Nat):gC (fX P) m=(bB P m).bJ:=by
 simp only[gC,bB,aa7,aba]
 cases P[m]? <;> rfl
def CS (P:List bC):Prop:=∀m,(bK P m->1<=(bB P m).bJ)/\(¬ bK P m->bB P m=j5)
theorem FP (g:ak) (k:Nat):CS (aH g k):=λm=>⟨λh=>(fH g k m h).1,ko⟩
theorem CS.zero {P:List bC} (h:CS P) (m:Nat):gC (fX P) m=0↔¬ bK P m:=by
 rw[ni]
 constructor
 .intro e k;have:=(h m).1 k;omega
 .intro k;rw[(h m).2 k];rfl
theorem Bt {P:List bC} {x:Int} {l:List Int} {s:bC} (h:0<=x):bS P (x::l) s=bS P l ⟨s.aB,s.bJ,s.rules,min 1048576 (s.ax+1)⟩:=by rw[bS,abb h]
theorem Eg {P:List bC} {x:Int} {l:List Int} {s:bC} (h:¬ 0<=x) (hk:¬ (bB P (cr x)).aB<0):bS P (x::l) s=bS P l ⟨s.aB,max s.bJ (bB P (cr x)).bJ,min 1048576 (s.rules+(bB P (cr x)).rules),min 1048576 (s.ax+(bB P (cr x)).ax)⟩:=by rw[bS,aa9 h,aa9 hk]
theorem JE {P:List bC} {x:Int} {l:List Int} {s:bC} (h:¬ 0<=x) (hk:(bB P (cr x)).aB<0):bS P (x::l) s=(s,false):=by rw[bS,aa9 h,abb hk]
theorem CB {P:List bC} (b:CS P):∀(l:List Int) (s:bC),gx (fX P) l s.bJ=if (bS P l s).2=true then (bS P l s).1.bJ+1 else 0
 | [],s=>by simp[gx,bS]
 | x::l,s=>by
  simp only[gx]
  by_cases a:0<=x
  .rw[abb a,Bt a,<-CB b l]
  .rw[aa9 a]
   by_cases h1:bK P (cr x)
   .have c:=h1
    unfold bK at c
    rw[aa9 (λe=>((b.zero _).1 e) h1),Eg a (by omega),<-CB b l,ni]
   .have c:=h1
    unfold bK at c
    rw[abb ((b.zero _).2 h1),JE a (by omega)]
    rfl
theorem td {P:List bC} (a:CS P) (l:List Int):(gx (fX P) l 0=0↔¬ iH P l)/\(iH P l->gx (fX P) l 0=(bS P l bp).1.bJ+1):=by
 have h:=CB a l bp
 have h1:=tx P l bp
 have c:(0:Int)<=(bS P l bp).1.bJ:=h1
 have b:gx (fX P) l 0=_:=h
 rw[b]
 by_cases hk:iH P l
 .have:=(hZ P l bp).2 hk
  grind
 .have:=λe=>hk ((hZ P l bp).1 e)
  grind
theorem Yq {out:List Int} {i m:Nat} {v:Int} (hm:m<out.length):gC (out.set i v) m=if i=m then v else gC out m:=by
 simp only[gC,aa7,ab1]
 grind
theorem Ff (old:List Int) (k:Int) (out:List Int) (r:bf):(lD old k out r).length=out.length:=by
 unfold lD;split<;>simp
theorem F3 (old:List Int) (k:Int):∀(l:List bf) (out:List Int),(l.foldl (lD old k) out).length=out.length
 | [],_=>rfl
 | r::l,out=>by rw[abY,F3 old k l,Ff]
theorem Jd (old:List Int) (k:Int) (m:Nat) (hk:k≠0):∀(l:List bf) (out:List Int),m<out.length ->
  (gC out m≠0->gC (l.foldl (lD old k) out) m=gC out m) /\
  (gC out m=0->(∃r∈l,r.left.toNat=m/\gx old r.right 0=k)->gC (l.foldl (lD old k) out) m=k) /\
  (gC out m=0->(¬ ∃r∈l,r.left.toNat=m/\gx old r.right 0=k)->gC (l.foldl (lD old k) out) m=0)
 | [],out,hm=>⟨λ_=>rfl,λ_ ⟨r,hr,_⟩=>by simp at hr,λh _=>h⟩
 | r::l,out,hm=>by
  obtain⟨i1,i2,i3⟩:=Jd old k m hk l (lD old k out r) (by rw[Ff];exact hm)
  rw[abY]
  unfold lD at i1 i2 i3 ⊢
  by_cases a:gC out r.left.toNat=0/\gx old r.right 0=k
  .rw[abb a] at i1 i2 i3 ⊢
   rw[Yq hm] at i1 i2 i3
   grind
  .grind
theorem XS (g:ak) (k:Nat):g.rules.foldl (lD (fX (aH g k)) ((k:Int)+1)) (fX (aH g k))=fX (aH g (k+1)):=by
 apply ab2 (by rw[F3];simp[fJ])
 intro m h1 t
 have hm:m<g.av.length:=by simpa [fJ] using t
 have u:∀ {l:List Int} (h:m<l.length),l[m]=gC l m:=λh=>by simp[gC,h]
 rw[u h1,u t,ni]
 obtain⟨i1,i2,i3⟩:=Jd (fX (aH g k)) ((k:Int)+1) m (by omega) g.rules (fX (aH g k)) (by simp[fJ,hm])
 have n:=FP g k
 by_cases f:bK (aH g k) m
 .rw[i1 (λe=>(n.zero m).1 e f),ni,(iu f (Nat.le_succ k)).1]
 .have v:=(n.zero m).2 f
  by_cases d:bK (aH g (k+1)) m
  .obtain⟨i,r,hr,o,q,hp,_⟩:=jX (wN f d)
   obtain⟨a,b,c⟩:=fH g (k+1) m d
   have he:(bB (aH g (k+1)) m).bJ=k+1:=by
    grind
   rw[he]
   refine i2 v ⟨r,abi hr,o,?_⟩
   rw[(td n r.right).2 q,<-he,hp];rfl
  .rw[ko d]
   refine i3 v λ⟨r,hr,o,he⟩=>?_
   have q:iH (aH g k) r.right:=by
    rcases Classical.em (iH (aH g k) r.right) with h | h
    .exact h
    .have:=(td n r.right).1.2 h;omega
   unfold bK at f d
   rw[si,aa9 f,abb hm] at d
   cases s:nN (aH g k) m 0 g.rules with
   | none=>exact B3 s r hr o q
   | some p =>
    rw[s] at d
    obtain⟨j,w,_,_,_,rfl,_⟩:=jX s
    simp only[abp,gv] at d;omega
def lU (h:List Int) (m:Nat):List bf->Int->Int
 | [],_=>(-1)
 | r::l,i=>if r.left=(m:Int)/\0<gC h m/\gx h r.right 0=gC h m then i else lU h m l (i+1)
theorem F0 {h:List Int} {m:Nat}:∀ {l:List bf} {i:Int},(∀r∈l,¬ (r.left=(m:Int)/\0<gC h m/\gx h r.right 0=gC h m))->lU h m l i=(-1)
 | [],_,_=>rfl
 | r::l,i,a=>by rw[lU,aa9 (a r (by simp)),F0 λr hr=>a r (by simp[hr])]
theorem FN {h:List Int} {m:Nat}:∀ {l:List bf} {i:Int} {j:Nat} {r:bf},l[j]?=some r->(r.left=(m:Int)/\0<gC h m/\gx h r.right 0=gC h m) ->
  (∀(b:Nat) (a:bf),b<j->l[b]?=some a->¬ (a.left=(m:Int)/\0<gC h m/\gx h a.right 0=gC h m))->lU h m l i=i+j
 | [],_,_,_,hr,_,_=>by simp at hr
 | e::l,i,0,r,hr,c,_=>by
  simp at hr;subst hr
  rw[lU,abb c];simp
 | e::l,i,j+1,r,hr,c,f=>by
  rw[lU,aa9 (f 0 e (by omega) rfl),FN (l:=l) (i:=i+1) (by simpa using hr) c λb a g d=>f (b+1) a (by omega) (by simpa using d)]
  grind
theorem Q6 {g:ak} (l:∀r∈g.rules,0<=r.left) (m:Nat):lU (fX (aA g)) m g.rules 0=(bB (aA g) m).aB:=by
 have b:CS (aA g):=FP g _
 by_cases h:bK (aA g) m
 .obtain⟨i,r,hr,q,n,hp,f⟩:=oc h
  have s:=l r (abi hr)
  have o:gx (fX (aA g)) r.right 0=gC (fX (aA g)) m:=by
   rw[(td b _).2 n,ni,hp];rfl
  have a:0<gC (fX (aA g)) m:=by rw[ni];have:=(lQ h).1;omega
  have:=FN (h:=fX (aA g)) (m:=m) (i:=0) hr ⟨by omega,a,o⟩ λj c t p k=>by
   have d:iH (aA g) c.right:=by
    rcases Classical.em (iH (aA g) c.right) with h | h
    .exact h
    .have:=(td b c.right).1.2 h;omega
   have e:=k.2.2
   rw[(td b _).2 d,ni] at e
   grind
  rw[this,hp];simp[gv]
 .rw[zR h]
  refine F0 λr hr k=>?_
  have:=(b.zero m).2 h
  omega
def qL (a b:Int × Int):Int × Int:=(min 1000 (a.1+b.1),min 1000 (a.2+b.2))
def lC (S:List (Int × Int)) (m:Nat):Int × Int:=S.getD m (0,0)
def oG (S:List (Int × Int)):List Int->Int × Int->Int × Int
 | [],s=>s
 | x::l,s=>oG S l (qL s (if 0<=x then (0,1) else lC S (cr x)))
def lT (p:bC):Int × Int:=(min 1000 p.rules,min 1000 p.ax)
def eX (p:bC):Prop:=(0<=p.rules/\p.rules<=1048576)/\(0<=p.ax/\p.ax<=1048576)
theorem oY {P:List bC} (a:∀m,eX (bB P m)):∀(l:List Int) (s:bC),eX s->eX (bS P l s).1
 | [],s,h=>h
 | x::l,s,h=>by
  have b:=a (cr x)
  unfold eX at h b
  simp only[bS]
  split
  .exact oY a l _ (by unfold eX;simp only;omega)
  .split
   .exact h
   .exact oY a l _ (by unfold eX;simp only;omega)
theorem ie:eX bp:=by unfold eX;simp[bp]
theorem T4:eX j5:=by unfold eX;simp[j5]
theorem j7 (g:ak):∀k m,eX (bB (aH g k) m)
 | 0,m=>by
  have:bB (aH g 0) m=j5:=by
   simp only[aH,iter,bB,aa7,ab0]
   grind
  rw[this];exact T4
 | k+1,m=>by
  by_cases h:bK (aH g (k+1)) m
  .by_cases a:bK (aH g k) m
   .rw[(iu a (Nat.le_succ k)).1];exact j7 g k m
   .obtain⟨i,r,_,_,_,hp,_⟩:=jX (wN a h)
    rw[hp]
    have:=oY (j7 g k) r.right bp ie
    unfold eX at this ⊢
    simp only[gv];omega
  .rw[ko h];exact T4
theorem zF {P:List bC} {S:List (Int × Int)} (e:∀m,eX (bB P m)):∀(l:List Int) (s:bC) (t:Int × Int),eX s->iH P l->(∀x∈l,x<0->lC S (cr x)=lT (bB P (cr x)))->t=lT s->oG S l t=lT (bS P l s).1
 | [],s,t,_,_,_,c=>c
 | x::l,s,t,i,g,h,c=>by
  have j:=e (cr x)
  unfold eX at i j
  have a:iH P l:=λy f=>g y (by simp[f])
  have b:=λy (f:y∈l)=>h y (by simp[f])
  simp only[oG,bS]
  by_cases d:0<=x
  .rw[abb d,abb d]
   refine zF e l _ _ (by unfold eX;simp only;omega) a b ?_
   subst c
   simp only[qL,lT,abz];omega
  .have hk:=g x (by simp) (by omega)
   unfold bK at hk
   rw[aa9 d,aa9 d,aa9 (by omega),h x (by simp) (by omega)]
   refine zF e l _ _ (by unfold eX;simp only;omega) a b ?_
   subst c
   simp only[qL,lT,abz];omega
theorem Us {g:ak} {S:List (Int × Int)} {m:Nat} (h:bK (aA g) m) {i:Nat} {r:bf} (hr:g.rules[i]?=some r) (hi:(bB (aA g) m).aB=i)
  (e:∀k,(bB (aA g) k).bJ<(bB (aA g) m).bJ->bK (aA g) k->lC S k=lT (bB (aA g) k)):qL (1,0) (oG S r.right (0,0))=lT (bB (aA g) m):=by
 obtain⟨f,l,a,n,b,hp,_⟩:=oc h
 have:f=i:=by rw[hp] at hi;simp only[gv] at hi;omega
 subst this
 rw[hr] at a;simp at a;subst a
 have o:(bB (aA g) m).bJ=(bS (aA g) r.right bp).1.bJ+1:=by rw[hp];rfl
 have h1:=((ji (aA g) ((bB (aA g) m).bJ-1) r.right bp b).1 (by omega)).2
 rw[zF (P:=aA g) (λm=>j7 g _ m) r.right bp (0,0) ie b (λx c d=>e _ (by have:=h1 x c d;omega) (b x c d)) rfl]
 have:=oY (j7 g g.av.length) r.right bp ie
 have j:eX (bS (aA g) r.right bp).1:=this
 unfold eX at j
 rw[hp]
 simp only[qL,lT,gv,abz];omega
def E4 (g:ak) (i:Int):List Int:=(g.rules.getD i.toNat ⟨0,[],0⟩).right
def dV (g:ak) (P:List bC):Nat->List Int->List Int
 | 0,l=>l.flatMap λx=>if 0<=x then [x] else []
 | f+1,l=>l.flatMap λx=>if 0<=x then [x] else dV g P f (E4 g (bB P (cr x)).aB)
def fw (g:ak) (P:List bC):Nat->List Int->List Int
 | 0,_=>[]
 | f+1,l=>l.flatMap λx=>if 0<=x then [] else (bB P (cr x)).aB::fw g P f (E4 g (bB P (cr x)).aB)
def DR (P:List bC) (f:Nat) (l:List Int):Prop:=∀x∈l,x<0->bK P (cr x)/\(bB P (cr x)).bJ<=f
theorem pA (g:ak) (P:List bC) (f:Nat):dV g P f []=[]:=by cases f<;>rfl
theorem wU (g:ak) (P:List bC) (f:Nat):fw g P f []=[]:=by cases f<;>rfl
theorem gn (g:ak) (P:List bC) (f:Nat) (a b:List Int):dV g P f (a++b)=dV g P f a++dV g P f b:=by cases f<;>simp[dV]
theorem jO (g:ak) (P:List bC) (f:Nat) (a b:List Int):fw g P f (a++b)=fw g P f a++fw g P f b:=by cases f<;>simp[fw]
theorem kd {g:ak} {P:List bC} {f:Nat} {x:Int} (h:0<=x):dV g P f [x]=[x]:=by cases f<;>simp[dV,h]
theorem pT {g:ak} {P:List bC} {f:Nat} {x:Int} (h:0<=x):fw g P f [x]=[]:=by cases f<;>simp[fw,h]
theorem kZ {g:ak} {P:List bC} {f:Nat} {x:Int} (h:x<0):dV g P (f+1) [x]=dV g P f (E4 g (bB P (cr x)).aB):=by
 simp[dV,show ¬ 0<=x by omega]
theorem pQ {g:ak} {P:List bC} {f:Nat} {x:Int} (h:x<0):fw g P (f+1) [x]=(bB P (cr x)).aB::fw g P f (E4 g (bB P (cr x)).aB):=by
 simp[fw,show ¬ 0<=x by omega]
theorem CV {g:ak} {l:List Int} (h:DR (aA g) 0 l):∀x∈l,0<=x:=λx c=>by
 rcases Int.lt_or_le x 0 with h1 | h1
 .obtain⟨a,b⟩:=h x c h1
  have:=(lQ a).1
  grind
 .exact h1
theorem vw {g:ak} {f:Nat} {m:Nat} (h:bK (aA g) m) (d:(bB (aA g) m).bJ<=(f:Int)+1):∃(i:Nat) (r:bf),(bB (aA g) m).aB=i/\g.rules[i]?=some r/\E4 g (bB (aA g) m).aB=r.right/\DR (aA g) f r.right/\bB (aA g) m=gv (aA g) i r:=by
 obtain⟨i,r,hr,e,a,hp,_⟩:=oc h
 have hi:(bB (aA g) m).aB=i:=by rw[hp];rfl
 have j:(bB (aA g) m).bJ=(bS (aA g) r.right bp).1.bJ+1:=by rw[hp];rfl
 have h1:=((ji (aA g) f r.right bp a).1 (by omega)).2
 refine⟨i,r,hi,hr,?_,λx b c=>⟨a x b c,h1 x b c⟩,hp⟩
 rw[hi];simp[E4,hr]
theorem mU {g:ak} {f:Nat} (c:∀x,x<0->bK (aA g) (cr x)->(bB (aA g) (cr x)).bJ<=f->(bB (aA g) (cr x)).rules=min 1048576 ((fw g (aA g) f [x]).length:Int)/\(bB (aA g) (cr x)).ax=min 1048576 ((dV g (aA g) f [x]).length:Int)):
  ∀(l:List Int) (s:bC),DR (aA g) f l->eX s->(bS (aA g) l s).1.rules=min 1048576 (s.rules+(fw g (aA g) f l).length)/\(bS (aA g) l s).1.ax=min 1048576 (s.ax+(dV g (aA g) f l).length)
 | [],s,_,d=>by
  unfold eX at d
  rw[pA,wU]
  simp only[bS,abG];omega
 | x::l,s,hu,d=>by
  have a:DR (aA g) f l:=λy i=>hu y (by simp[i])
  have e:=gn g (aA g) f [x] l
  have h:=jO g (aA g) f [x] l
  rw[List.singleton_append] at e h
  rw[e,h,abv,abv]
  have j:eX (bB (aA g) (cr x)):=j7 g g.av.length (cr x)
  unfold eX at d j
  by_cases b:0<=x
  .obtain⟨i1,i2⟩:=mU c l ⟨s.aB,s.bJ,s.rules,min 1048576 (s.ax+1)⟩ a (by unfold eX;simp only;omega)
   rw[Bt b,i1,i2,kd b,pT b]
   grind
  .obtain⟨hk,k⟩:=hu x (by simp) (by omega)
   obtain⟨m,k2⟩:=c x (by omega) hk k
   obtain⟨i1,i2⟩:=mU c l ⟨s.aB,max s.bJ (bB (aA g) (cr x)).bJ,min 1048576 (s.rules+(bB (aA g) (cr x)).rules),min 1048576 (s.ax+(bB (aA g) (cr x)).ax)⟩ a (by unfold eX;simp only;omega)
   unfold bK at hk
   rw[Eg b (by omega),i1,i2,m,k2]
   grind
theorem px (g:ak):∀(f:Nat) (l:List Int) (s:bC),DR (aA g) f l->eX s ->
  (bS (aA g) l s).1.rules=min 1048576 (s.rules+(fw g (aA g) f l).length)/\(bS (aA g) l s).1.ax=min 1048576 (s.ax+(dV g (aA g) f l).length)
 | 0,l,s,hu,b=>mU (λx c hk a=>by have:=(lQ hk).1;simp only[Int.natCast_zero] at a;omega) l s hu b
 | f+1,l,s,hu,b=>mU (λx c hk a=>by
   obtain⟨i,r,hi,hr,d,e,hp⟩:=vw (f:=f) hk (by push_cast at a;exact a)
   obtain⟨h,j⟩:=px g f r.right bp e ie
   have k:(bB (aA g) (cr x)).rules=min 1048576 ((bS (aA g) r.right bp).1.rules+1):=by rw[hp];rfl
   have k2:(bB (aA g) (cr x)).ax=(bS (aA g) r.right bp).1.ax:=by rw[hp];rfl
   rw[kZ c,pQ c,d,k,k2,h,j]
   simp only[abl,bp]
   omega) l s hu b
theorem r6 {g:ak} {f:Nat} (d:∀x,x<0->(dV g (aA g) f [x]).length<=6*(fw g (aA g) f [x]).length):∀(l:List Int),(dV g (aA g) f l).length<=l.length+6*(fw g (aA g) f l).length
 | []=>by rw[pA];simp
 | x::l=>by
  have a:=gn g (aA g) f [x] l
  have b:=jO g (aA g) f [x] l
  rw[List.singleton_append] at a b
  rw[a,b,abv,abv]
  have e:=r6 d l
  by_cases c:0<=x
  .rw[kd c,pT c]
   grind
  .grind
theorem X0 {g:ak} (a:∀r∈g.rules,r.right.length<=6) (i:Int):(E4 g i).length<=6:=by
 simp only[E4,aa7]
 grind
theorem IU {g:ak} (b:∀r∈g.rules,r.right.length<=6):∀(f:Nat) (l:List Int),(dV g (aA g) f l).length<=l.length+6*(fw g (aA g) f l).length
 | 0,l=>r6 (λx a=>by simp[dV,show ¬ 0<=x by omega]) l
 | f+1,l=>r6 (λx a=>by
  have i2:=IU b f (E4 g (bB (aA g) (cr x)).aB)
  have:=X0 b (bB (aA g) (cr x)).aB
  rw[kZ a,pQ a]
  simp only[abl];omega) l
def dh (g:ak) (l:List Int):List Int × Int:=
 if (bu g&&l.all (dS g))=true then
  (if (bS (aA g) l bp).2=false then ([],9) else if 300<(bS (aA g) l bp).1.rules∨60<(bS (aA g) l bp).1.ax then ([],13) else (dV g (aA g) g.av.length l,0))
 else ([],1)
inductive FV (g:ak):List Int->List Int->List Int->Prop
 | nil:FV g [] [] []
 | term (s:Int) (l t w:List Int):0<=s->FV g l t w->FV g (s::l) t (s::w)
 | eN (s:Int) (l:List Int) (k:Nat) (R:bf) (t1 w1 t w:List Int):s<0->g.rules[k]?=some R->R.left = -1-s->FV g R.right t1 w1->FV g l t w->FV g (s::l) (((k:Int)::t1)++t) (w1++w)
theorem YI {g:ak} {l t w:List Int} (h:FV g l t w):∀(a b:List Int),Sp g (a++w++b) l a.length (a.length+w.length):=by
 induction h with
 | nil=>exact λa b=>.nil _
 | term s l t w c _ m =>
  intro a b
  refine .term s l a.length _ c ⟨s,by simp,.inl rfl⟩ ?_
  have:=m (a++[s]) b
  simp only[abv,abl,abG,abX,ace,abN,ab3] at this ⊢
  rw[show a.length+(w.length+1)=a.length+1+w.length by omega]
  exact this
 | eN s l k R t1 f t w c n o _ _ d e =>
  intro a b
  have i:=d a (w++b)
  have j:=e (a++f) b
  simp only[abv,ace] at i j ⊢
  rw[<-abP]
  exact .eN s l R a.length (a.length+f.length) _ c (abi n) o i j
theorem Sg {g:ak} (a:∀r∈g.rules,0<=r.left):∀(f:Nat) (l:List Int),DR (aA g) f l->FV g l (fw g (aA g) f l) (dV g (aA g) f l):=by
 intro f
 induction f with
 | zero =>
  intro l
  induction l with
  | nil=>intro _;rw[wU,pA];exact .nil
  | cons s l j =>
   intro h
   have b:=CV h s (by simp)
   have d:=jO g (aA g) 0 [s] l
   have e:=gn g (aA g) 0 [s] l
   rw[List.singleton_append] at d e
   rw[d,e,pT b,kd b]
   exact .term s l _ _ b (j λx k=>h x (by simp[k]))
 | succ f m =>
  intro l
  induction l with
  | nil=>intro _;rw[wU,pA];exact .nil
  | cons s l j =>
   intro h
   have v:=j λx k=>h x (by simp[k])
   have d:=jO g (aA g) (f+1) [s] l
   have e:=gn g (aA g) (f+1) [s] l
   rw[List.singleton_append] at d e
   rw[d,e]
   by_cases b:0<=s
   .rw[pT b,kd b]
    exact .term s l _ _ b v
   .obtain⟨hk,w⟩:=h s (by simp) (by omega)
    obtain⟨i,R,hi,n,o,p,z⟩:=vw (f:=f) hk (by push_cast at w;exact w)
    rw[pQ (by omega),kZ (by omega),o,hi]
    have q:R.left = -1-s:=by
     obtain⟨y,A,c,t,_,u,_⟩:=oc hk
     have:(y:Int)=i:=by rw[<-hi,u];rfl
     have:y=i:=by omega
     subst this
     rw[n] at c
     simp at c;subst c
     have:=a R (abi n)
     unfold cr at t
     omega
    exact .eN s l i R _ _ _ _ (by omega) n q (m R.right p) v
theorem UG {g:ak} (d:∀r∈g.rules,∀s∈r.right,dS g s=true) {l t w:List Int} (h:FV g l t w):(∀s∈l,dS g s=true)->∀x∈w,0<=x/\x<g.ax.length:=by
 induction h with
 | nil=>simp
 | term s l t w e _ m =>
  intro c x a
  rcases abw.1 a with rfl | a
  .have:=c x (by simp)
   unfold dS at this
   rw[abb e] at this
   exact⟨e,by simpa using this⟩
  .exact m (λs d=>c s (by simp[d])) x a
 | eN s l k R t1 o t w e n c _ _ f i =>
  intro c x a
  rcases abq.1 a with a | a
  .exact f (λj b=>d R (abi n) j b) x a
  .exact i (λj b=>c j (by simp[b])) x a
theorem YK:vR.Ok:=by
 refine⟨by unfold aG;decide,by unfold aG;decide,by unfold aG;decide,by unfold bm;decide,?_,?_⟩
 .intro t a;simp[vR] at a
 .intro r hr;simp[vR] at hr
section
variable {g r:ak} {p q:List Bool} {o:List Int}
end
theorem bytes_beq (a b:ByteArray):(a==b)=decide (a=b):=by
 cases a with | mk a=>cases b with | mk b =>
 rw[abW]
 show (ByteArray.beq ⟨a⟩ ⟨b⟩=true)↔_
 simp only[ByteArray.beq]
 simp
theorem IX (a b:ByteArray):jM a b=decide (a=b):=by
 cases a with | mk a=>cases b with | mk b =>
 rw[abW]
 simp[jM]
theorem sf {α:Type} {a b:List α} {i:Nat} {x y:α} (c:a[i]?=some x) (d:b[i]?=some y) (h:a.take i=b.take i) (e:x=y):a.take (i+1)=b.take (i+1):=by
 rw[abr,abr,h,c,d,e]
theorem vW {α:Type} {a b:List α} {i:Nat} (c:a.length<=i) (d:b.length<=i) (h:a.take i=b.take i):a=b:=by
 rwa [abo c,abo d] at h
theorem Af {α:Type} {a b:List α} {i:Nat} {x y:α} (d:a[i]?=some x) (c:b[i]?=some y) (e:x≠y):a≠b:=by
 rintro rfl;rw[d] at c;exact e (by simpa using c)
theorem vM {α:Type} {a b:List α} (h:¬ a.length=b.length):a≠b:=λe=>h (by rw[e])
theorem Dw (x y:Term):ic aa 9998 #[.string x.name,.int .i64 x.level,.int .i64 x.assoc] #[.string y.name,.int .i64 y.level,.int .i64 y.assoc]
  [{ name:= "Name",type:=9,offset:=0,embedded:=false,tag:= "",pkgPath:= "",byteOffset:=0 },{ name:= "Level",type:=3,offset:=1,embedded:=false,tag:= "",pkgPath:= "",byteOffset:=16 },
   { name:= "Assoc",type:=3,offset:=2,embedded:=false,tag:= "",pkgPath:= "",byteOffset:=24 }] (x.name==y.name&&(x.level==y.level&&(x.assoc==y.assoc&&true))):=
 .str _ _ _ _ _ (by decide) Tryz.underlying9 rfl rfl (.int _ _ _ _ _ _ (by decide) Tryz.underlying3 rfl rfl (.int _ _ _ _ _ _ (by decide) Tryz.underlying3 rfl rfl .nil))
theorem OQ (x y:Term):(x.name==y.name&&(x.level==y.level&&(x.assoc==y.assoc&&true)))=decide (x=y):=by
 rw[bytes_beq,abW]
 cases x;cases y
 simp
theorem XH (a b:Int):(a==b)=decide (a=b):=by rw[abW];simp
theorem VL (x y:bf):decide (x=y)=(decide (x.left=y.left)&&(decide (x.prec=y.prec)&&decide (x.right=y.right))):=by
 cases x;cases y
 rw[abW]
 simp[and_comm]
theorem KF (x y:ak):decide (x=y)=(decide (x.ax=y.ax)&&(decide (x.av=y.av)&&(decide (x.rules=y.rules)&&decide (x.start=y.start)))):=by
 cases x;cases y
 rw[abW]
 simp
theorem Jt (g k:ak):∀v∈[V.agg (aj g),V.agg (aj k)],Tree v:=by
 intro v a;simp at a
 rcases a with rfl | rfl<;>exact bW _ (cy _)
def qk:SC:=
 ai [ai [ag [af 42 5,aw 43 0 2,au 44 43,aM 45 44,aS 46 .lss 42 45],bO 46 (.exit 0)],.block 1 (ai [ag [aw 49 0 2,au 50 49,af 51 5,aL 52 3 50 51,aV 53 3 52,aw 54 0 3,au 55 54,af 56 5,aL 57 3 55 56,aV 58 3 57,((some 59),.op (.old (.binOp .neq 130 (.tmp 53) (.tmp 58) 130) 4))],aX 59 (ai [ag [bb 4 false],.ret])]),ag [af 47 5,aI 48 .add 47 1,af 5 48]]
def qI:SC:=
 ai [ai [ag [af 60 6,aw 61 1 2,au 62 61,aM 63 62,aS 64 .lss 60 63],bO 64 (.exit 2)],.block 3 (ai [ag [aw 67 1 2,au 68 67,af 69 6,aL 70 1 68 69,au 71 70,aw 72 1 3,au 73 72,af 74 6,aL 75 1 73 74,au 76 75,((some 77),.op (.AO .neq (.tmp 71) (.tmp 76)))],aX 77 (ai [ag [bb 4 false],.ret])]),ag [af 65 6,aI 66 .add 65 1,af 6 66]]
def qP:SC:=
 ai [ai [ag [af 78 7,aw 79 2 2,au 80 79,aM 81 80,aS 82 .lss 78 81],bO 82 (.exit 4)],.block 5 (ai [ag [aw 85 2 2,au 86 85,af 87 7,aL 88 3 86 87,aV 89 3 88,aw 90 2 3,au 91 90,af 92 7,aL 93 3 91 92,aV 94 3 93,((some 8),.op (.alloc [(.val (.int .i64 0)),(.emp 1),(.val (.int .i64 0))])),((some 9),.op (.alloc [(.val (.int .i64 0)),(.emp 1),(.val (.int .i64 0))])),cz 3 8 89,cz 3 9 94],.region false [⟨none,[aw 95 0 8,au 96 95,aw 97 0 9,au 98 97,aS 99 .neq 96 98,af 100 99]⟩,⟨(some (100,false)),[aw 101 2 8,au 102 101,aw 103 2 9,au 104 103,aS 105 .neq 102 104]⟩,⟨none,[cJ 106 100 105,af 107 106]⟩,⟨(some (107,false)),[aw 108 1 8,au 109 108,aw 110 1 9,au 111 110,aU 112 26 [109,111],cO 113 112]⟩,⟨none,[cJ 114 107 113]⟩],aX 114 (ai [ag [bb 4 false],.ret])]),ag [af 83 7,aI 84 .add 83 1,af 7 84]]
def sW:SF:=⟨ai [ag [bZ 2 0,bZ 3 1,bb 4 false],ai [.region false [⟨none,[aw 10 0 2,au 11 10,aM 12 11,aw 13 0 3,au 14 13,aM 15 14,aS 16 .neq 12 15,af 17 16]⟩,⟨(some (17,false)),[aw 18 1 2,au 19 18,aM 20 19,aw 21 1 3,au 22 21,aM 23 22,aS 24 .neq 20 23]⟩,⟨none,[cJ 25 17 24,af 26 25]⟩,⟨(some (26,false)),[aw 27 2 2,au 28 27,aM 29 28,aw 30 2 3,au 31 30,aM 32 31,aS 33 .neq 29 32]⟩,⟨none,[cJ 34 26 33,af 35 34]⟩,⟨(some (35,false)),[aw 36 3 2,au 37 36,aw 38 3 3,au 39 38,aS 40 .neq 37 39]⟩,⟨none,[cJ 41 35 40]⟩],aX 41 (ai [ag [bb 4 false],.ret])],ai [ag [aT 5 0],bR 0 qk],ai [ag [aT 6 0],bR 2 qI],ai [ag [aT 7 0],bR 4 qP],ag [bb 4 true],.ret],
 [.tmp 4],115⟩
theorem yS:aJ aa 31 [2,3]=some sW:=by kernel_rfl
theorem Tu (g k:ak) (o:g.Ok):aC aa 31 [.agg (aj g),.agg (aj k)] (gb (decide (g=k))):=by
 refine aC.val (Jt g k) λH=>?_
 rw[KF]
 refine az.of mixed yS ?_
 have h1:=o.ax
 have v:=o.av
 have w:=o.rules
 unfold aG at h1 v w
 simp(disch:=omega)only[↓wr,seval,wq,sW,aj,encS]
 repeat' (first | ((first|apply ao.dec|apply ao.eq|apply ao.ne|apply ao.split)<;>intro)|(simp(disch:=omega)only[↓wr,seval,wq]))
 .rename_i e;rw[decide_eq_false (vM (by omega))];rfl
 .rename_i e;rw[decide_eq_false (p:=g.av=k.av) (vM (by omega))];simp
 .rename_i e;rw[decide_eq_false (p:=g.rules=k.rules) (vM (by omega))];simp
 .rename_i e;rw[decide_eq_false e];simp
 rename_i A B C z
 refine aW.up g.ax.length (λi T _=>g.ax.take i=k.ax.take i/\T 2=.aR (aj g) 0/\T 3=.aR (aj k) 0/\T 5=gi i) ⟨by simp,rfl,rfl,rfl⟩ ?_
 rintro i m T H hm ⟨hi,t2,t3,t5⟩
 simp(disch:=omega)only[↓wr,seval,wq,qk,t2,t5,aj,encS]
 apply ao.dec<;>intro d
 .have a:=aa8 (l:=g.ax) (i:=i) (by omega)
  have b:=aa8 (l:=k.ax) (i:=i) (by omega)
  generalize g.ax[i]'(by omega)=x at a
  generalize k.ax[i]'(by omega)=y at b
  simp(disch:=omega)only[↓wr,seval,wq,t2,t3,t5,aba,a,b,df,aj,encS]
  refine kn (xs:=#[.string x.name,.int .i64 x.level,.int .i64 x.assoc]) (ys:=#[.string y.name,.int .i64 y.level,.int .i64 y.assoc]) Tryz.underlying130 (by kernel_rfl) (by kernel_rfl) ?_ ?_ (Dw x y) (.inr ⟨rfl,rfl⟩) ?_
  .rfl
  .rfl
  rw[OQ]
  simp(disch:=omega)only[↓wr,seval,wq]
  apply ao.split<;>intro e
  .simp(disch:=omega)only[↓wr,seval,wq,t5]
   exact aF hm (by omega) ⟨sf a b hi (by simpa using e),t2,t3,rfl⟩
  .simp(disch:=omega)only[↓wr,seval,wq,t5]
   rw[decide_eq_false (Af a b (by simpa using e))];rfl
 have s:g.ax=k.ax:=vW (by omega) (by omega) hi
 simp(disch:=omega)only[↓wr,seval,wq]
 clear hi d hm
 refine aW.up g.av.length (λi T _=>g.av.take i=k.av.take i/\T 2=.aR (aj g) 0/\T 3=.aR (aj k) 0/\T 6=gi i) ⟨by simp,t2,t3,rfl⟩ ?_
 clear t2 t3 t5 T H i m
 rintro i m T H hm ⟨hi,t2,t3,t5⟩
 simp(disch:=omega)only[↓wr,seval,wq,qI,t2,t5,aj,encS]
 apply ao.dec<;>intro d
 .have a:=aa8 (l:=g.av) (i:=i) (by omega)
  have b:=aa8 (l:=k.av) (i:=i) (by omega)
  generalize g.av[i]'(by omega)=x at a
  generalize k.av[i]'(by omega)=y at b
  simp(disch:=omega)only[↓wr,seval,wq,t2,t3,t5,aba,a,b,aj,encS,IX]
  apply ao.split<;>intro e
  .simp(disch:=omega)only[↓wr,seval,wq,t5]
   exact aF hm (by omega) ⟨sf a b hi (by simpa using e),t2,t3,rfl⟩
  .simp(disch:=omega)only[↓wr,seval,wq,t5]
   rw[decide_eq_false (p:=g.av=k.av) (Af a b (by simpa using e))];simp
 have t:g.av=k.av:=vW (by omega) (by omega) hi
 simp(disch:=omega)only[↓wr,seval,wq]
 clear hi d hm
 refine aW.up g.rules.length (λi T _=>g.rules.take i=k.rules.take i/\T 2=.aR (aj g) 0/\T 3=.aR (aj k) 0/\T 7=gi i) ⟨by simp,t2,t3,rfl⟩ ?_
 clear t2 t3 t5 T H i m
 rintro i m T H hm ⟨hi,t2,t3,t5⟩
 simp(disch:=omega)only[↓wr,seval,wq,qP,t2,t5,aj,encS]
 apply ao.dec<;>intro d
 .have a:=aa8 (l:=g.rules) (i:=i) (by omega)
  have b:=aa8 (l:=k.rules) (i:=i) (by omega)
  have j:g.rules[i]'(by omega)∈g.rules:=abe _
  generalize g.rules[i]'(by omega)=x at a j
  generalize k.rules[i]'(by omega)=y at b
  have q:=(o.aB x j).2.2.1
  simp(disch:=omega)only[↓wr,seval,wq,t2,t3,t5,aba,a,b,aQ,encI,aj,encS]
  intro n D
  try simp(disch:=omega)only[↓wr,seval,wq,t2,t3,t5,aQ,encI]
  intro E r
  have c:=(cp r cw).1
  try simp(disch:=omega)only[↓wr,seval,wq,c,c.symm]
  have f:x≠y->V.val (Value.bool false)=V.val (Value.bool (decide (g.ax=k.ax)&&(decide (g.av=k.av)&&(decide (g.rules=k.rules)&&decide (g.start=k.start))))):=λe=>by
   rw[decide_eq_false (p:=g.rules=k.rules) (Af a b e)];simp
  repeat' (first | ((first|apply ao.dec|apply ao.eq|apply ao.ne|apply ao.split)<;>intro)|(refine ay.pure (Pf x.right y.right q) ?_)|(simp(disch:=omega)only[↓wr,seval,wq,t5,c.symm]))
  .rename_i e;exact f λh=>e (by rw[h])
  .rename_i e;exact f λh=>e (by rw[h])
  .rename_i u t s
   refine aF hm (by omega) ⟨sf a b hi ?_,t2,t3,rfl⟩
   cases x;cases y
   simp_all
  .rename_i e;exact f λh=>by rw[h] at e;simp at e
 .have u:g.rules=k.rules:=vW (by omega) (by omega) hi
  simp(disch:=omega)only[↓wr,seval,wq]
  simp[s,t,u,z]
def ik:SC:=
 ai [ag [aS 14 .lss 13 12],bO 14 (.exit 0),.block 1 (ai [ag [af 15 13,af 5 15],ag [af 16 0,af 17 5,aL 18 3 16 17,aV 19 3 18,af 20 1,af 21 5,aL 22 3 20 21,aV 23 3 22,((some 24),.op (.old (.binOp .neq 130 (.tmp 19) (.tmp 23) 130) 4))],aX 24 (ai [ag [bb 4 false],.ret])]),ag [aI 25 .add 13 1,af 13 25]]
def iL:SF:=⟨ai [ag [bb 4 false],ai [ag [af 6 0,aM 7 6,af 8 1,aM 9 8,aS 10 .neq 7 9],aX 10 (ai [ag [bb 4 false],.ret])],ai [ag [af 11 0,aM 12 11,aT 13 0],bR 0 ik],ag [bb 4 true],.ret],
 [.tmp 4],26⟩
theorem lR:aJ aa 203 []=some iL:=by kernel_rfl
def jm:SC:=
 ai [ag [aS 14 .lss 13 12],bO 14 (.exit 0),.block 1 (ai [ag [af 15 13,af 5 15],ag [af 16 0,af 17 5,aL 18 1 16 17,au 19 18,af 20 1,af 21 5,aL 22 1 20 21,au 23 22,((some 24),.op (.AO .neq (.tmp 19) (.tmp 23)))],aX 24 (ai [ag [bb 4 false],.ret])]),ag [aI 25 .add 13 1,af 13 25]]
def jD:SF:=⟨ai [ag [bb 4 false],ai [ag [af 6 0,aM 7 6,af 8 1,aM 9 8,aS 10 .neq 7 9],aX 10 (ai [ag [bb 4 false],.ret])],ai [ag [af 11 0,aM 12 11,aT 13 0],bR 0 jm],ag [bb 4 true],.ret],
 [.tmp 4],26⟩
theorem nP:aJ aa 204 []=some jD:=by kernel_rfl
def kW:SC:=
 ai [ag [aS 14 .lss 13 12],bO 14 (.exit 0),.block 1 (ai [ag [af 15 13,af 5 15],ag [af 16 0,af 17 5,aL 18 1 16 17,au 19 18,af 20 1,af 21 5,aL 22 1 20 21,au 23 22,aS 24 .neq 19 23],aX 24 (ai [ag [bb 4 false],.ret])]),ag [aI 25 .add 13 1,af 13 25]]
def l0:SF:=⟨ai [ag [bb 4 false],ai [ag [af 6 0,aM 7 6,af 8 1,aM 9 8,aS 10 .neq 7 9],aX 10 (ai [ag [bb 4 false],.ret])],ai [ag [af 11 0,aM 12 11,aT 13 0],bR 0 kW],ag [bb 4 true],.ret],
 [.tmp 4],26⟩
theorem rX:aJ aa 254 []=some l0:=by kernel_rfl
def DI:SF:=⟨ai [ag [bZ 2 0,bZ 3 1,bb 4 false],.region false [⟨none,[aw 5 0 2,au 6 5,aw 7 0 3,au 8 7,aS 9 .eql 6 8,af 10 9]⟩,⟨(some (10,true)),[aw 11 2 2,au 12 11,aw 13 2 3,au 14 13,aS 15 .eql 12 14]⟩,⟨none,[dA 16 10 15,af 17 16]⟩,⟨(some (17,true)),[aw 18 1 2,au 19 18,aw 20 1 3,au 21 20,aU 22 254 [19,21]]⟩,⟨none,[dA 23 17 22,af 4 23]⟩],.ret],
 [.tmp 4],24⟩
theorem HB:aJ aa 206 [2,3]=some DI:=by kernel_rfl
def dU:SC:=
 ai [ag [aS 18 .lss 17 16],bO 18 (.exit 0),.block 1 (ai [ag [af 19 17,aL 20 3 15 17,aV 21 3 20,((some 8),.op (.alloc [(.val (.int .i64 0)),(.emp 1),(.val (.int .i64 0))])),af 7 19,cz 3 8 21],ag [af 22 1,af 23 7,aL 24 3 22 23,aV 25 3 24,((some 9),.op (.alloc [(.val (.int .i64 0)),(.emp 1),(.val (.int .i64 0))])),cz 3 9 25],ag [af 26 2,aV 27 3 8,aV 28 3 9,((some 29),.call (.tmp 26) [(.tmp 27),(.tmp 28)]),cO 30 29],aX 30 (ai [ag [bb 6 false],.ret])]),ag [aI 31 .add 17 1,af 17 31]]
def dZ:SF:=⟨ai [ag [bb 6 false],ai [ag [af 10 0,aM 11 10,af 12 1,aM 13 12,aS 14 .neq 11 13],aX 14 (ai [ag [bb 6 false],.ret])],ai [ag [af 15 0,aM 16 15,aT 17 0],bR 0 dU],ag [bb 6 true],.ret],
 [.tmp 6],32⟩
theorem gA:aJ aa 205 []=some dZ:=by kernel_rfl
def Fp:SF:=⟨ai [ag [bZ 2 0,bZ 3 1,bb 4 false],.region false [⟨none,[aw 5 0 2,au 6 5,aw 7 0 3,au 8 7,aU 9 203 [6,8],af 10 9]⟩,⟨(some (10,true)),[aw 11 1 2,au 12 11,aw 13 1 3,au 14 13,aU 15 204 [12,14]]⟩,⟨none,[dA 16 10 15,af 17 16]⟩,⟨(some (17,true)),[aw 18 2 2,au 19 18,aw 20 2 3,au 21 20,lG 22 205 [(.tmp 19),(.tmp 21),(.val (.fn 206 [] []))]]⟩,⟨none,[dA 23 17 22,af 24 23]⟩,⟨(some (24,true)),[aw 25 3 2,au 26 25,aw 27 3 3,au 28 27,aS 29 .eql 26 28]⟩,⟨none,[dA 30 24 29,af 4 30]⟩],.ret],
 [.tmp 4],31⟩
theorem JM:aJ aa 143 [2,3]=some Fp:=by kernel_rfl
theorem RT {α:Type} {f g:α->List V} {a b:List α} (d:∀x,∀v∈f x,Tree v) (e:∀x,∀v∈g x,Tree v):∀v∈[V.aY (a.map f),V.aY (b.map g)],Tree v:=by
 intro v c;simp at c
 rcases c with rfl | rfl
 .exact eA _ _ λx _=>d x
 .exact eA _ _ λx _=>e x
theorem SU (a b:List Term) (l:aG a) (H:View):az aa 203 [.aY (a.map df),.aY (b.map df)] H λr _=>r=gb (decide (a=b)):=by
 refine az.of mixed lR ?_
 unfold aG at l
 simp(disch:=omega)only[↓wr,seval,wq,iL]
 apply ao.ne<;>intro h
 .simp(disch:=omega)only[↓wr,seval,wq]
  rw[decide_eq_false (vM (by omega))]
 .simp(disch:=omega)only[↓wr,seval,wq]
  refine aW.up a.length (λi T _=>a.take i=b.take i/\T 0=.aY (a.map df)/\T 1=.aY (b.map df)/\T 12=gi a.length/\T 13=gi i) ⟨by simp,rfl,rfl,rfl,rfl⟩ ?_
  rintro i k T H hk ⟨hi,c,h1,d,f⟩
  simp(disch:=omega)only[↓wr,seval,wq,ik,d,f]
  apply ao.dec<;>intro m
  .have g:a[i]?=some (a[i]'(by omega)):=aa8 (by omega)
   have j:b[i]?=some (b[i]'(by omega)):=aa8 (by omega)
   generalize a[i]'(by omega)=x at g
   generalize b[i]'(by omega)=y at j
   simp(disch:=omega)only[↓wr,seval,wq,c,h1,f,aba,g,j,df]
   refine kn (xs:=#[.string x.name,.int .i64 x.level,.int .i64 x.assoc]) (ys:=#[.string y.name,.int .i64 y.level,.int .i64 y.assoc]) Tryz.underlying130 (by kernel_rfl) (by kernel_rfl) ?_ ?_ (Dw x y) (.inr ⟨rfl,rfl⟩) ?_
   .rfl
   .rfl
   rw[OQ]
   simp(disch:=omega)only[↓wr,seval,wq]
   apply ao.split<;>intro e
   .simp(disch:=omega)only[↓wr,seval,wq,f]
    exact aF hk (by omega) ⟨sf g j hi (by simpa using e),c,h1,d,rfl⟩
   .simp(disch:=omega)only[↓wr,seval,wq,f]
    rw[decide_eq_false (Af g j (by simpa using e))]
  .simp(disch:=omega)only[↓wr,seval,wq]
   rw[abJ (vW (by omega) (by omega) hi)]
theorem TY (a b:List ByteArray) (l:aG a) (H:View):az aa 204 [encS a,encS b] H λr _=>r=gb (decide (a=b)):=by
 refine az.of mixed nP ?_
 unfold aG at l
 simp(disch:=omega)only[↓wr,seval,wq,jD,encS]
 apply ao.ne<;>intro h
 .simp(disch:=omega)only[↓wr,seval,wq]
  rw[decide_eq_false (vM (by omega))]
 .simp(disch:=omega)only[↓wr,seval,wq]
  refine aW.up a.length (λi T _=>a.take i=b.take i/\T 0=encS a/\T 1=encS b/\T 12=gi a.length/\T 13=gi i) ⟨by simp,rfl,rfl,rfl,rfl⟩ ?_
  rintro i k T H hk ⟨hi,c,h1,d,f⟩
  simp(disch:=omega)only[↓wr,seval,wq,jm,d,f,encS]
  apply ao.dec<;>intro m
  .have g:a[i]?=some (a[i]'(by omega)):=aa8 (by omega)
   have j:b[i]?=some (b[i]'(by omega)):=aa8 (by omega)
   generalize a[i]'(by omega)=x at g
   generalize b[i]'(by omega)=y at j
   simp(disch:=omega)only[↓wr,seval,wq,c,h1,f,encS,aba,g,j,IX]
   apply ao.split<;>intro e
   .simp(disch:=omega)only[↓wr,seval,wq,f]
    exact aF hk (by omega) ⟨sf g j hi (by simpa using e),c,h1,d,rfl⟩
   .simp(disch:=omega)only[↓wr,seval,wq,f]
    rw[decide_eq_false (Af g j (by simpa using e))]
  .simp(disch:=omega)only[↓wr,seval,wq]
   rw[abJ (vW (by omega) (by omega) hi)]
theorem Sk (a b:List Int) (l:aG a) (H:View):az aa 254 [encI a,encI b] H λr _=>r=gb (decide (a=b)):=by
 refine az.of mixed rX ?_
 unfold aG at l
 simp(disch:=omega)only[↓wr,seval,wq,l0,encI]
 apply ao.ne<;>intro h
 .simp(disch:=omega)only[↓wr,seval,wq]
  rw[decide_eq_false (vM (by omega))]
 .simp(disch:=omega)only[↓wr,seval,wq]
  refine aW.up a.length (λi T _=>a.take i=b.take i/\T 0=encI a/\T 1=encI b/\T 12=gi a.length/\T 13=gi i) ⟨by simp,rfl,rfl,rfl,rfl⟩ ?_
  rintro i k T H hk ⟨hi,c,h1,d,f⟩
  simp(disch:=omega)only[↓wr,seval,wq,kW,d,f,encI]
  apply ao.dec<;>intro m
  .have g:a[i]?=some (a[i]'(by omega)):=aa8 (by omega)
   have j:b[i]?=some (b[i]'(by omega)):=aa8 (by omega)
   generalize a[i]'(by omega)=x at g
   generalize b[i]'(by omega)=y at j
   simp(disch:=omega)only[↓wr,seval,wq,c,h1,f,encI,aba,g,j]
   apply ao.ne<;>intro e
   .simp(disch:=omega)only[↓wr,seval,wq,f]
    rw[decide_eq_false (Af g j e)]
   .simp(disch:=omega)only[↓wr,seval,wq,f]
    exact aF hk (by omega) ⟨sf g j hi e,c,h1,d,rfl⟩
  .simp(disch:=omega)only[↓wr,seval,wq]
   rw[abJ (vW (by omega) (by omega) hi)]
theorem UF (a b:List Term) (c:aG a):aC aa 203 [.aY (a.map df),.aY (b.map df)] (gb (decide (a=b))):=aC.val (RT wT wT) (SU a b c)
theorem Sh (a b:List ByteArray) (d:aG a):aC aa 204 [encS a,encS b] (gb (decide (a=b))):=aC.val (by
 intro v c;simp at c
 rcases c with rfl | rfl<;>exact CL _) (TY a b d)
theorem UA (a b:List Int) (d:aG a):aC aa 254 [encI a,encI b] (gb (decide (a=b))):=aC.val (by
 intro v c;simp at c
 rcases c with rfl | rfl<;>exact bg _) (Sk a b d)
theorem Ws (x y:bf) (b:aG x.right):aC aa 206 [.agg (aQ x),.agg (aQ y)] (gb (decide (x=y))):=by
 refine aC.val (by
  intro v a;simp at a
  rcases a with rfl | rfl<;>exact bW _ (gh _)) λH=>?_
 rw[VL]
 refine az.of mixed HB ?_
 simp(disch:=omega)only[↓wr,seval,wq,DI,aQ,encI]
 repeat' (first | ((first|apply ao.dec|apply ao.eq|apply ao.ne|apply ao.split)<;>intro)|(refine ay.pure (UA x.right y.right b) ?_)|(simp(disch:=omega)only[↓wr,seval,wq]))
 all_goals simp[*]
theorem Lc (a b:List bf) (s:aG a) (hr:∀r∈a,aG r.right) (H:View):az aa 205 [.aY (a.map aQ),.aY (b.map aQ),.fn 206 [] []] H λr _=>r=gb (decide (a=b)):=by
 refine az.of mixed gA ?_
 unfold aG at s
 simp(disch:=omega)only[↓wr,seval,wq,dZ]
 apply ao.ne<;>intro h
 .simp(disch:=omega)only[↓wr,seval,wq]
  rw[decide_eq_false (vM (by omega))]
 .simp(disch:=omega)only[↓wr,seval,wq]
  refine aW.up a.length (λi T _=>a.take i=b.take i/\T 15=.aY (a.map aQ)/\T 1=.aY (b.map aQ)/\T 2=.fn 206 [] []/\T 16=gi a.length/\T 17=gi i) ⟨by simp,rfl,rfl,rfl,rfl,rfl⟩ ?_
  rintro i k T H hk ⟨hi,c,h1,d,f,g⟩
  simp(disch:=omega)only[↓wr,seval,wq,dU,f,g]
  apply ao.dec<;>intro t
  .have j:a[i]?=some (a[i]'(by omega)):=aa8 (by omega)
   have l:b[i]?=some (b[i]'(by omega)):=aa8 (by omega)
   have hm:a[i]'(by omega)∈a:=abe _
   generalize a[i]'(by omega)=x at j hm
   generalize b[i]'(by omega)=y at l
   have p:=hr x hm
   simp(disch:=omega)only[↓wr,seval,wq,c,h1,d,g,aba,j,l,aQ,encI]
   intro n u
   try simp(disch:=omega)only[↓wr,seval,wq,c,h1,d,f,g,aba,j,l,aQ,encI]
   intro m q
   have o:=(cp q cw).1
   try simp(disch:=omega)only[↓wr,seval,wq,o.symm]
   refine ay.pure (Ws x y p) ?_
   simp(disch:=omega)only[↓wr,seval,wq]
   apply ao.split<;>intro e
   .simp(disch:=omega)only[↓wr,seval,wq,g]
    exact aF hk (by omega) ⟨sf j l hi (by simpa using e),c,h1,d,f,rfl⟩
   .simp(disch:=omega)only[↓wr,seval,wq,g]
    rw[decide_eq_false (Af j l (by simpa using e))]
  .simp(disch:=omega)only[↓wr,seval,wq]
   rw[abJ (vW (by omega) (by omega) hi)]
theorem MN (a b:List bf) (d:aG a) (hr:∀r∈a,aG r.right):aC aa 205 [.aY (a.map aQ),.aY (b.map aQ),.fn 206 [] []] (gb (decide (a=b))):=aC.val (by
 intro v c;simp at c
 rcases c with rfl | rfl | rfl
 .exact eA _ _ λx _=>gh x
 .exact eA _ _ λx _=>gh x
 .exact Hb (by simp) (by simp)) (Lc a b d hr)
theorem WD (g k:ak) (a:g.Ok):aC aa 143 [.agg (aj g),.agg (aj k)] (gb (decide (g=k))):=by
 refine aC.val (Jt g k) λH=>?_
 rw[KF]
 refine az.of mixed JM ?_
 simp(disch:=omega)only[↓wr,seval,wq,Fp,aj,encS]
 repeat' (first | ((first|apply ao.dec|apply ao.eq|apply ao.ne|apply ao.split)<;>intro)|(refine ay.pure (UF g.ax k.ax a.ax) ?_)|(refine ay.pure (Sh g.av k.av a.av) ?_)|(refine ay.pure (MN g.rules k.rules a.rules (λr hr=>(a.aB r hr).2.2.1)) ?_)|(simp(disch:=omega)only[↓wr,seval,wq]))
 all_goals simp_all [XH]
def IV:SF:=⟨ai [ag [bZ 1 0,bb 2 false],ag [aV 7 4 1,aU 8 92 [7],af 6 8,c7 9 0 6,c7 10 1 6,c7 11 2 6,((some 3),.op (.alloc [(.emp 1),(.emp 1),(.emp 1),(.val (.int .i64 0))])),cz 4 3 9,af 4 10,af 5 11],.region false [⟨none,[af 12 5,aI 13 .eql 12 0,af 14 13]⟩,⟨(some (14,true)),[aV 15 4 1,aV 16 4 3,aU 17 143 [15,16]]⟩,⟨none,[dA 18 14 17,af 2 18]⟩],.ret],
 [.tmp 2],19⟩
theorem L4:aJ aa 82 [1]=some IV:=by kernel_rfl
def wh:SF:=⟨ai [ag [bZ 1 0,bb 2 false],ag [aV 7 4 1,aU 8 47 [7],af 6 8,c7 9 0 6,c7 10 1 6,c7 11 2 6,((some 3),.op (.alloc [(.emp 1),(.emp 1),(.emp 1),(.val (.int .i64 0))])),cz 4 3 9,af 4 10,af 5 11],.region false [⟨none,[af 12 5,aI 13 .eql 12 0,af 14 13]⟩,⟨(some (14,true)),[aV 15 4 1,aV 16 4 3,aU 17 31 [15,16]]⟩,⟨none,[dA 18 14 17,af 2 18]⟩],.ret],
 [.tmp 2],19⟩
theorem Bb:aJ aa 15 [1]=some wh:=by kernel_rfl
theorem Uk (g:ak) (a:g.Ok) (b:g.Small):aC aa 82 [.agg (aj g)] (gb (isRed g)):=by
 refine aC.val (dy g) λH=>?_
 refine az.of mixed L4 ?_
 simp(disch:=omega)only[↓wr,seval,wq,IV,aj,encS]
 refine ay.pure (PW g a b).pure ?_
 unfold isRed
 generalize iS g=x
 obtain⟨k,il,e⟩:=x
 simp(disch:=omega)only[↓wr,seval,wq,Ax,aj,encS]
 intro n c
 apply ao.eq<;>intro h
 .simp(disch:=omega)only[↓wr,seval,wq]
  refine ay.pure (WD g k a) ?_
  simp(disch:=omega)only[↓wr,seval,wq]
  simp[h]
 .simp(disch:=omega)only[↓wr,seval,wq]
  simp[h]
theorem K8 (g:ak) (a:g.Ok):aC aa 15 [.agg (aj g)] (gb (isRed g)):=by
 refine aC.val (dy g) λH=>?_
 refine az.of mixed Bb ?_
 simp(disch:=omega)only[↓wr,seval,wq,wh,aj,encS]
 refine ay.pure (MY g a).pure ?_
 unfold isRed
 generalize iS g=x
 obtain⟨k,il,e⟩:=x
 simp(disch:=omega)only[↓wr,seval,wq,Ax,aj,encS]
 intro n b
 apply ao.eq<;>intro h
 .simp(disch:=omega)only[↓wr,seval,wq]
  refine ay.pure (Tu g k a) ?_
  simp(disch:=omega)only[↓wr,seval,wq]
  simp[h]
 .simp(disch:=omega)only[↓wr,seval,wq]
  simp[h]
def ZI:ak:=⟨[⟨⟨#[39,97,39]⟩,0,0⟩,⟨⟨#[39,98,39]⟩,0,0⟩,⟨⟨#[39,99,39]⟩,0,0⟩,⟨⟨#[39,100,39]⟩,0,0⟩],[⟨#[115]⟩,⟨#[117]⟩,⟨#[118]⟩],[⟨0,[0,(-2)],0⟩,⟨0,[1],1⟩,⟨0,[],(-1)⟩,⟨1,[(-2),2],2⟩,⟨2,[3,(-1)],3⟩],0⟩
def Zl:ak:=⟨ZI.ax,[⟨#[115]⟩],[⟨0,[1],1⟩,⟨0,[],(-1)⟩],0⟩
theorem rv:isRed Zl=true:=by kernel_rfl
def tL:SF:=⟨ai [ag [bL 2 1],ag [bL 3 2,af 4 0,eZ 5 1 8 3 4,af 2 5],.ret],
 [.tmp 2],6⟩
theorem yO:aJ aa 37 []=some tL:=by kernel_rfl
theorem UB (l:List Int) (d:l.length<=100000) (H:View):az aa 37 [encI l] H λr H'=>aN H' r 1 (aO l)/\cn H H' r:=by
 refine az.of mixed yO ?_
 simp(disch:=omega)only[↓wr,seval,wq,tL,encI]
 refine dw (H:=H) .nil (by simp[aK]) (by unfold aE;simp;omega) (by unfold aE;simp;omega) ?_
 intro u' H' c a
 simp(disch:=omega)only[↓wr,seval,wq]
 exact⟨c,λid b=>a id b (by simp[owner])⟩
theorem dF.fr {h:Heap} {v t:V} (f:dF h v t):Fr h v t:=by
 induction f with
 | val v=>exact .tree _ (.val _)
 | emp k=>exact .emp k
 | sl id off len esz z es es' h1 c d e _ b=>exact .sl id off len esz z es es' h1 c d e b
 | agg cs a h1 _ b=>exact .agg cs a h1 b
 | bc cs a h1 _ b=>exact .bc cs a h1 b
noncomputable def UW:List (FuncId × DF):=C3 aa [(251,[]),(180,[]),(236,[]),(237,[])]
theorem UJ:sG aa UW:=vO _ _
def cx (p:bC):List V:=[gi p.aB,gi p.bJ,gi p.rules,gi p.ax]
abbrev jR (P:List bC):V:=.aY (P.map cx)
theorem vd (P:List bC):Tree (jR P):=eA _ _ λx _ v a=>by
 simp[cx] at a
 rcases a with rfl | rfl | rfl | rfl<;>exact .val _
theorem YY {n:Nat} (h:vl aa UW (λ_ _ _=>none) 251 [jR [j5],gi n]=some (jR (List.replicate n j5))):bX aa 251 [jR [j5],gi n] (jR (List.replicate n j5)):=
 qT mixed UJ (PZ _) (by
  intro v a;simp at a
  rcases a with rfl | rfl
  .exact vd [j5]
  .exact .val _) h
theorem UC {n:Nat} (h1:1<=n) (a:n<=16):bX aa 251 [jR [j5],gi n] (jR (List.replicate n j5)):=by
 have:n=1∨n=2∨n=3∨n=4∨n=5∨n=6∨n=7∨n=8∨n=9∨n=10∨n=11∨n=12∨n=13∨n=14∨n=15∨n=16:=by omega
 rcases this with rfl | rfl | rfl | rfl | rfl | rfl | rfl | rfl | rfl | rfl | rfl | rfl | rfl | rfl | rfl | rfl<;>exact YY (by kernel_rfl)
theorem Fl (p:bC):∀v∈cx p,Tree v:=by
 intro v a;simp[cx] at a
 rcases a with rfl | rfl | rfl | rfl<;>exact .val _
theorem YH (h:Heap) (p:bC):dF h (.agg (cx p)) (.agg (cx p)):=.agg _ _ rfl λi hi=>by
 match i,hi with
 | 0,_=>exact .val _
 | 1,_=>exact .val _
 | 2,_=>exact .val _
 | 3,_=>exact .val _
 | n+4,h=>exact absurd h (by simp[cx])
def DL (p:bC):Prop:=eX p/\(-1<=p.aB/\p.aB<=1000000)/\0<=p.bJ/\p.bJ<=1000000
theorem VC:DL bp:=by unfold DL eX bp;decide
theorem ME {x:Int} : (if x<1048576 then x else 1048576)=min 1048576 x:=by omega
theorem Si {x y:Int} : (if y>x then y else x)=max x y:=by omega
def AU:SC:=
 ai [ag [aS 12 .lss 11 10],bO 12 (.exit 0),.block 1 (ai [ag [aL 13 1 9 11,au 14 13,af 7 14],ai [ag [af 15 7,aI 16 .geq 15 0],aX 16 (ai [ag [aw 17 3 4,au 18 17,aI 19 .add 18 1,((some 20),.op (.mm false (.val (.val (.int .i64 1048576))) (.tmp 19))),aw 21 3 4,cz 1 21 20],.exit 1])],ag [af 22 1,af 23 7,((some 24),.op (.arith .sub (.val (.val (.int .i64 (-1)))) (.tmp 23))),aL 25 4 22 24,aV 26 4 25,((some 8),.op (.alloc [(.val (.int .i64 0)),(.val (.int .i64 0)),(.val (.int .i64 0)),(.val (.int .i64 0))])),cz 4 8 26],ai [ag [aw 27 0 8,au 28 27,aI 29 .lss 28 0],aX 29 (ai [ag [aV 30 4 4,cz 4 4 30,bb 5 false],.ret])],ag [aw 31 1 4,au 32 31,aw 33 1 8,au 34 33,((some 35),.op (.mm true (.tmp 32) (.tmp 34))),aw 36 1 4,cz 1 36 35],.vq [(45,49)] [⟨none,[aw 37 2 4,au 38 37,aw 39 2 8,au 40 39,aS 41 .add 38 40,((some 42),.op (.mm false (.val (.val (.int .i64 1048576))) (.tmp 41))),aw 43 3 4,au 44 43,aw 45 3 8,au 46 45,aS 47 .add 44 46,((some 48),.op (.mm false (.val (.val (.int .i64 1048576))) (.tmp 47))),aw 49 2 4,cz 1 49 42,aw 50 3 4,cz 1 50 48]⟩]]),ag [aI 51 .add 11 1,af 11 51]]
def DY:SF:=⟨ai [ag [((some 4),.op (.alloc [(.val (.int .i64 0)),(.val (.int .i64 0)),(.val (.int .i64 0)),(.val (.int .i64 0))])),bb 5 false],ai [ag [af 9 0,aM 10 9,aT 11 0],bR 0 AU],ag [aV 52 4 4,cz 4 4 52,bb 5 true],.ret],
 [.cell 4 (some 4),.tmp 5],53⟩
theorem HH:aJ aa 196 []=some DY:=by kernel_rfl
theorem BI {P:List bC} {m:Nat} (h:m<P.length):(P.map cx)[m]?=some (cx (bB P m)):=by
 simp[bB,h]
theorem TN (P:List bC) (o:∀m,DL (bB P m)) (l:List Int) (p:aG l) (t:∀x∈l,bm x/\(x<0->-1-x<P.length)):
  bX aa 196 [encI l,jR P] (.bc [.agg (cx (bS P l bp).1),gb (bS P l bp).2]):=by
 have key:∀H,az aa 196 [encI l,jR P] H λr _=>r=.bc [.agg (cx (bS P l bp).1),gb (bS P l bp).2]:=?_
 .refine bX.of (by
   intro v g;simp at g
   rcases g with rfl | rfl
   .exact bg l
   .exact vd P) ((key _).mono λr H' e A _=>?_)
  rw[e];exact K7 (YH _ _) (.val _)
 intro H
 refine az.of mixed HH ?_
 unfold aG at p
 simp(disch:=omega)only[↓wr,seval,wq,DY,encI]
 intro m hm
 try simp(disch:=omega)only[↓wr,seval,wq,encI]
 refine aW.up l.length (λi T H'=>∃s:bC,DL s/\s.aB=0/\bS P (l.drop i) s=bS P l bp/\H' m=.arr 4 [cx s]/\T 1=jR P/\T 4=.ptr m 0 0/\T 9=encI l/\T 10=gi l.length/\T 11=gi i) ?_ ?_
 .exact⟨bp,VC,rfl,rfl,by simp[View.set,cx,bp],rfl,rfl,rfl,rfl,rfl⟩
 rintro i k T H hk ⟨s,u,d,a,hH,t1,t4,t9,t10,t11⟩
 unfold DL eX at u
 simp(disch:=omega)only[↓wr,seval,wq,AU,t10,t11,encI]
 apply ao.dec<;>intro w
 .have h:l[i]?=some (l[i]'(by omega)):=aa8 (by omega)
  have c:l[i]'(by omega)∈l:=abe _
  rw[eO (show i<l.length by omega)] at a
  generalize l[i]'(by omega)=x at h c a
  obtain⟨⟨y,z⟩,f⟩:=t x c
  simp(disch:=omega)only[↓wr,seval,wq,t9,t11,encI,aba,h]
  apply ao.dec<;>intro j
  .simp(disch:=omega)only[↓wr,seval,wq,t4,t11,hH,cx,ME]
   rw[Bt (show 0<=x from j)] at a
   refine aF hk (by omega) ⟨_,?_,?_,a,?_,t1,t4,t9,t10,rfl⟩
   .unfold DL eX;simp only;omega
   .exact d
   .simp[View.set]
  .have hm:(cr x)<P.length:=by have:=f (by omega);unfold cr;omega
   have hp:=o (cr x)
   unfold DL eX at hp
   simp(disch:=omega)only[↓wr,seval,wq,t1,BI hm]
   simp(disch:=omega)only[↓wr,seval,wq,cx]
   intro q n
   have b:m≠q:=by rintro rfl;rw[hH] at n;simp at n
   try simp(disch:=omega)only[↓wr,seval,wq,t1,t4,t9,t10,t11,encI,hH,b,b.symm,cx]
   apply ao.dec<;>intro he
   .simp(disch:=omega)only[↓wr,seval,wq,t4,t11,hH,b,cx]
    rw[JE (by omega) he] at a
    rw[<-a]
   .simp(disch:=omega)only[↓wr,seval,wq,t4,t11,hH,b,b.symm,cx,ME,Si]
    rw[Eg (by omega) he] at a
    refine aF hk (by omega) ⟨_,?_,?_,a,?_,t1,t4,t9,t10,rfl⟩
    .unfold DL eX;simp only;omega
    .exact d
    .simp[View.set]
 .simp(disch:=omega)only[↓wr,seval,wq,t4,hH,cx]
  rw[aby (by omega)] at a
  rw[<-a];try rfl
def fe:SF:=⟨ai [ag [bL 2 1],ai [ag [af 3 0,((some 4),.op (.nil true 0 (.tmp 3) (.val (.emp 1))))],aX 4 (ai [ag [bL 2 1],.ret])],ag [bL 5 2,af 6 0,eZ 7 4 32 5 6,af 2 7],.ret],
 [.tmp 2],8⟩
theorem kR:aJ aa 252 []=some fe:=by kernel_rfl
theorem PH (P:List bC) (c:P.length<=100000) (h1:1<=P.length) (u:V) (H:View) (hu:u=jR P∨aN H u 4 (P.map cx)):
  az aa 252 [u] H λr H'=>aN H' r 4 (P.map cx)/\cn H H' r:=by
 have a:((P.map cx).all λe=>e.length==4&&e.all aK)=true:=by simp[cx,aK]
 refine az.of mixed kR ?_
 cases P with
 | nil=>simp at h1
 | cons p r =>
  simp only[abl] at c
  rcases hu with rfl | hu
  .simp(disch:=omega)only[↓wr,seval,wq,fe,jR]
   refine⟨by simpa using a,by unfold aE;simp;omega,λm hm=>?_⟩
   simp(disch:=omega)only[↓wr,seval,wq]
   have:=aN.new (H:=H) (n:=m) (sz:=4) (es:=(p::r).map cx)
   simp only[abc,abl] at this
   exact⟨by simpa using this,.new hm⟩
  .obtain⟨n,rfl,b⟩:=hu.sl (by simp)
   simp only[abc,abl] at b ⊢
   have he:bQ H (.sl n 0 (r.length+1) 4)=some ((p::r).map cx,[n]):=by
    rw[j6 _ n 0 r.length 4 4 _ b (by simp),ab8,abo (by simp)]
   simp(disch:=omega)only[↓wr,seval,wq,fe,he]
   refine⟨by simpa using a,by unfold aE;simp;omega,λm hm=>?_⟩
   simp(disch:=omega)only[↓wr,seval,wq]
   have:=aN.new (H:=H) (n:=m) (sz:=4) (es:=(p::r).map cx)
   simp only[abc,abl] at this
   exact⟨by simpa using this,.new hm⟩
theorem L7 {g:ak} (hr:g.rules.length<=40) {k:Nat} (hk:k<=16) (m:Nat):DL (bB (aH g k) m):=by
 refine⟨j7 g k m,?_⟩
 by_cases h:bK (aH g k) m
 .obtain⟨a,b,_⟩:=fH g k m h
  obtain⟨j,f,d,l,e⟩:=Aa h
  obtain⟨i,r,c,_,_,hp,_⟩:=jX e
  have hi:i<g.rules.length:=(abf.1 c).1
  have:(bB (aH g k) m).aB=i:=by rw[hp];simp[gv]
  omega
 .rw[ko h];unfold j5;decide
def yh (H:View) (u:V) (P:List bC):Prop:=u=jR P∨aN H u 4 (P.map cx)
theorem yh.kI {H:View} {u:V} {P:List bC} (h:yh H u P):cm H u (jR P):=by
 rcases h with rfl | h
 .exact cm.tree (vd P)
 .exact cm.own h λe he v a=>by
   obtain⟨p,_,rfl⟩:=abt.1 he
   exact Fl p v a
theorem yh.keep {H H':View} {u:V} {P:List bC} (h:yh H u P) (hk:∀id,owner u=some id->H' id=H id):yh H' u P:=h.imp id λh=>h.keep hk
theorem yh.live {H:View} {u:V} {P:List bC} (h:yh H u P) {id:Nat} (a:owner u=some id):H id≠.dead:=by
 rcases h with rfl | h
 .simp[owner] at a
 .rw[(h.live a).1];simp
theorem Ub {N:List bC} {i m:Nat} {p:bC} (hp:0<=p.aB) (h:bK N m):bK (N.set i p) m:=by
 have hm:=LS h
 unfold bK at h ⊢
 rw[CZ hm];split
 .exact hp
 .exact h
def xo:SC:=
 ai [ag [aS 24 .lss 23 22],bO 24 (.exit 2),.block 3 (ai [ag [af 25 23,aL 26 3 21 23,aV 27 3 26,((some 7),.op (.alloc [(.val (.int .i64 0)),(.emp 1),(.val (.int .i64 0))])),af 6 25,cz 3 7 27],ai [ag [af 28 5,aw 29 0 7,au 30 29,aL 31 4 28 30,aw 32 0 31,au 33 32,aI 34 .geq 33 0],aX 34 (.exit 3)],ag [aw 36 1 7,au 37 36,af 38 3,aU 39 196 [37,38],af 35 39,c7 40 0 35,c7 41 1 35,((some 8),.op (.alloc [(.val (.int .i64 0)),(.val (.int .i64 0)),(.val (.int .i64 0)),(.val (.int .i64 0))])),cz 4 8 40,af 9 41],ag [af 42 9],aX 42 (ai [ag [af 43 5,aw 44 0 7,au 45 44,af 46 6,aw 47 1 8,au 48 47,aI 49 .add 48 1,aw 50 2 8,au 51 50,aI 52 .add 51 1,((some 53),.op (.mm false (.val (.val (.int .i64 1048576))) (.tmp 52))),aw 54 3 8,au 55 54,((some 56),.op (.build [(.val (.int .i64 0)),(.val (.int .i64 0)),(.val (.int .i64 0)),(.val (.int .i64 0))] [(0,1,(.tmp 46)),(1,1,(.tmp 49)),(2,1,(.tmp 53)),(3,1,(.tmp 55))])),aL 57 4 43 45,cz 4 57 56],ag [bb 4 false]])]),ag [aI 58 .add 23 1,af 23 58]]
def qp:SC:=
 ai [ai [ag [af 16 4,cO 17 16],bO 17 (.exit 0)],.block 1 (ai [ag [bb 4 true],ag [af 18 3,aU 19 252 [18],af 5 19],ai [ag [aw 20 2 1,au 21 20,aM 22 21,aT 23 0],bR 2 xo],ag [af 59 5,af 3 59]])]
def AJ:SF:=⟨ai [ag [bZ 1 0,bL 2 1],ag [((some 10),.op (.build [(.val (.int .i64 0)),(.val (.int .i64 0)),(.val (.int .i64 0)),(.val (.int .i64 0))] [(0,1,(.val (.val (.int .i64 (-1)))))])),((some 11),.op (.bH 1 4 [(.val (.int .i64 0)),(.val (.int .i64 0)),(.val (.int .i64 0)),(.val (.int .i64 0))] [(0,(.tmp 10))])),aw 12 1 1,au 13 12,aM 14 13,aU 15 251 [11,14],af 3 15],ai [ag [bb 4 false],bR 0 qp],ag [af 60 3,af 2 60],.ret],
 [.tmp 2],61⟩
theorem Ex:aJ aa 195 [1]=some AJ:=by kernel_rfl
def ZK (g:ak) (H0:View) (P:List bC) (d i:Nat) (T:Env) (H:View):Prop:=
 ∃(N:List bC) (u:V),N.length=g.av.length/\oK P i N (g.rules.drop i)=B1 g.rules P/\(∀m,bK P m->bK N m)/\yh H u P/\owner u≠some d/\H d=.arr 4 (N.map cx) /\
  (∀id,H0 id≠.dead->H id=H0 id/\id≠d)/\((T 4=gb true/\N=P)∨(T 4=gb false/\∃m,¬ bK P m/\bK N m)) /\
  T 1=.aR (aj g) 0/\T 3=u/\T 5=.sl d 0 g.av.length 4/\T 21=.aY (g.rules.map aQ)/\T 22=gi g.rules.length/\T 23=gi i
theorem WL (g:ak) (hg:g.Ok) (M:g.c5) (H:View):az aa 195 [.agg (aj g)] H λr H'=>aN H' r 4 ((aA g).map cx)/\cn H H' r:=by
 refine az.of mixed Ex ?_
 have z1:=M.ly
 have z2:=M.av
 have z3:=M.rules
 simp(disch:=omega)only[↓wr,seval,wq,AJ,aj,encS]
 intro n1 O
 try simp(disch:=omega)only[↓wr,seval,wq]
 refine ay.gV (UC z1 z2) (by kernel_rfl) ⟨cm.sl (off:=0) (len:=1) (esz:=4) (z:=4) (es:=[cx j5]) (by simp[View.set,cx,j5]) (by simp) (λe he v hv=>by simp at he;subst he;exact Fl _ v hv),cm.tree (.val _),trivial⟩ ?_
 simp(disch:=omega)only[↓wr,seval,wq]
 refine aW.intro (λk T H'=>∃(j:Nat) (u:V),j<=g.av.length/\j<=dp (wc (aH g j))/\yh H' u (aH g j)/\cn H H' u/\T 1=.aR (aj g) 0/\T 3=u /\
   ((T 4=gb false/\j+k=g.av.length+1)∨(T 4=gb true/\aH g j=aA g/\aN H' u 4 ((aA g).map cx)))) (g.av.length+1) ?_ ?_
 .refine⟨0,_,by omega,by omega,.inl rfl,λid a=>⟨?_,by simp[owner]⟩,rfl,rfl,.inl ⟨rfl,by omega⟩⟩
  have e:id≠n1:=by rintro rfl;exact a O
  simp[View.set,e]
 clear O
 rintro k T H1 ⟨j,u,hj,P,hu,f,t1,t3,E⟩
 rcases E with ⟨t4,a8⟩ | ⟨t4,A,s⟩
 .have hlen:=fJ g j
  simp(disch:=omega)only[↓wr,seval,wq,qp,t3,t4,aj,encS]
  refine ay.cF ((PH (aH g j) (by omega) (by omega) u H1 hu).mono ?_)
  rintro v H2 ⟨hv,F⟩
  obtain⟨d,rfl,p⟩:=hv.sl (by simp;omega)
  simp only[abc,hlen]
  simp(disch:=omega)only[↓wr,seval,wq,t1,aj,encS]
  refine aW.up g.rules.length (ZK g H (aH g j) d) ?_ ?_
  .refine⟨aH g j,u,hlen,rfl,λ_ h=>h,hu.keep λid a=>(F id (hu.live a)).1,λe=>?_,p,λid a=>?_,.inl ⟨rfl,rfl⟩,t1,t3,rfl,rfl,rfl,rfl⟩
   .exact(F d (hu.live e)).2 rfl
   .have h1:=f id a
    have h2:=F id (by rw[h1.1];exact a)
    exact⟨by rw[h2.1,h1.1],λe=>h2.2 (by rw[e];rfl)⟩
  clear t1 t3 t4 hu f F p hv
  rintro i q T H3 hq ⟨N,u,hN,b,hle,hu,G,p,f,E,t1,t3,t5,t21,t22,t23⟩
  simp(disch:=omega)only[↓wr,seval,wq,xo,t22,t23]
  apply ao.dec<;>intro hc
  .have Q:g.rules[i]?=some (g.rules[i]'(by omega)):=aa8 (by omega)
   have y:g.rules[i]'(by omega)∈g.rules:=abe _
   rw[eO (show i<g.rules.length by omega)] at b
   generalize g.rules[i]'(by omega)=r at Q y b
   have hl:=M.left r y
   have R:=hg.aB r y
   have S:r.left.toNat<N.length:=by omega
   have U:(N.map cx).getD r.left.toNat []=cx (bB N r.left.toNat):=by simp[bB,S]
   have hP:=λm=>L7 (g:=g) z3 (show j<=16 by omega) m
   simp(disch:=omega)only[↓wr,seval,wq,t5,t21,t23,aba,Q,aQ,encI]
   intro n t
   have c:d≠n:=by rintro rfl;rw[p] at t;simp at t
   have W:∀o,yh (H3.set n o) u (aH g j):=λo=>hu.keep λid a=>by
    have:id≠n:=by rintro rfl;exact hu.live a t
    simp[View.set,this]
   have X:∀o,∀id,H id≠.dead->(H3.set n o) id=H id/\id≠d:=λo id a=>by
    have h1:=f id a
    have:id≠n:=by rintro rfl;rw[h1.1] at t;exact a t
    exact⟨by simp[View.set,this,h1.1],h1.2⟩
   try simp(disch:=omega)only[↓wr,seval,wq,p,c]
   refine⟨by omega,by omega,?_⟩
   try simp(disch:=omega)only[↓wr,seval,wq,U,cx]
   have Y:=tx (aH g j) r.right bp
   apply ao.dec<;>intro hk
   .simp(disch:=omega)only[↓wr,seval,wq,t1,t3,t5,t23]
    have A:sA (aH g j) i N r=N:=by unfold sA;rw[abb hk]
    rw[oK,A] at b
    rw[set_set]
    exact aF hq (by omega) ⟨N,u,hN,b,hle,W _,G,by simp[View.set,c,p],X _,E,t1,t3,t5,t21,t22,rfl⟩
   .simp(disch:=omega)only[↓wr,seval,wq,t3]
    refine ay.gV (TN (aH g j) hP r.right R.2.2.1 λx hx=>⟨R.2.2.2 x hx,λt=>by rw[hlen];exact M.neg y hx t⟩) (by kernel_rfl) ⟨cm.tree (bg r.right),by rw[set_set];exact(W _).kI,trivial⟩ ?_
    have Z:=oY (λm=>j7 g j m) r.right bp ie
    have a1:(0:Int)<=(bS (aH g j) r.right bp).1.bJ:=Y
    have ab:iH (aH g j) r.right->(bS (aH g j) r.right bp).1.bJ<=16:=λha=>(ji (aH g j) 16 r.right bp ha).2 ⟨by simp[bp],λx hx t=>by have:=(fH g j _ (ha x hx t)).2.1;omega⟩
    have ae:=hZ (aH g j) r.right bp
    generalize I:bS (aH g j) r.right bp=sp at Z a1 ab ae
    unfold eX at Z
    simp(disch:=omega)only[↓wr,seval,wq,cx]
    intro q2 al
    have B:=(cp al cw).1
    have l:=(cp (cp al cw).2 cw).2
    have w:d≠q2:=by rintro rfl;rw[p] at l;simp at l
    try simp(disch:=omega)only[↓wr,seval,wq,t1,t3,t5,t21,t22,t23,p,c,c.symm,B,B.symm,w,w.symm,cx]
    apply ao.split<;>intro hb
    .have bd:=ab (ae.1 hb)
     simp(disch:=omega)only[↓wr,seval,wq,t1,t3,t5,t23,p,c,B.symm,w]
     refine⟨by omega,by omega,?_⟩
     have A:sA (aH g j) i N r=N.set r.left.toNat (gv (aH g j) i r):=by unfold sA;rw[aa9 hk,I,abb hb]
     rw[oK,A] at b
     have C:(gv (aH g j) i r)=⟨i,sp.1.bJ+1,min 1048576 (sp.1.rules+1),sp.1.ax⟩:=by rw[gv,I]
     have an:0<=(gv (aH g j) i r).aB:=by rw[C];simp only;omega
     have aq:¬ bK N r.left.toNat:=hk
     refine aF hq (by omega) ⟨_,u,by simp[hN],b,λm hm=>Ub an (hle m hm),?_,G,?_,?_,.inr ⟨rfl,r.left.toNat,λa6=>aq (hle _ a6),?_⟩,t1,t3,t5,t21,t22,rfl⟩
     .refine hu.keep λid a=>?_
      have J:id≠n:=by rintro rfl;exact hu.live a t
      have K:id≠q2:=by rintro rfl;exact hu.live a l
      have e3:id≠d:=by rintro rfl;exact G a
      simp[View.set,J,K,e3]
     .simp only[View.set,if_true]
      rw[acR,C,U];simp only[cx,adh,List.drop_nil,ME]
     .intro id a
      have h1:=f id a
      have J:id≠n:=by rintro rfl;rw[h1.1] at t;exact a t
      have K:id≠q2:=by rintro rfl;rw[h1.1] at l;exact a l
      exact⟨by simp[View.set,J,K,h1.2,h1.1],h1.2⟩
     .unfold bK;rw[CZ S,abb rfl];exact an
    .simp(disch:=omega)only[↓wr,seval,wq,t1,t3,t5,t23]
     have A:sA (aH g j) i N r=N:=by unfold sA;rw[aa9 hk,I,aa9 (by rw[hb];simp)]
     rw[oK,A] at b
     refine aF hq (by omega) ⟨N,u,hN,b,hle,?_,G,by simp[View.set,c,w,p],?_,E,t1,t3,t5,t21,t22,rfl⟩
     .refine hu.keep λid a=>?_
      have J:id≠n:=by rintro rfl;exact hu.live a t
      have K:id≠q2:=by rintro rfl;exact hu.live a l
      simp[View.set,J,K]
     .intro id a
      have h1:=f id a
      have J:id≠n:=by rintro rfl;rw[h1.1] at t;exact a t
      have K:id≠q2:=by rintro rfl;rw[h1.1] at l;exact a l
      exact⟨by simp[View.set,J,K,h1.1],h1.2⟩
  .simp(disch:=omega)only[↓wr,seval,wq,t1,t3,t5]
   rw[aby (by omega),oK,<-qF] at b
   have s:aN H3 (.sl d 0 g.av.length 4) 4 (N.map cx):=.inr ⟨d,by simp[hN],p⟩
   have ar:cn H H3 (.sl d 0 g.av.length 4):=λid a=>⟨(f id a).1,λe=>(f id a).2 (by simp[owner] at e;exact e.symm)⟩
   rw[b] at s
   rcases E with ⟨E,he⟩ | ⟨E,m,a7,L⟩
   .have D:aH g (j+1)=aH g j:=by rw[<-b,he]
    have C:=U9 hj D
    rw[D] at s
    exact⟨0,by omega,j,_,hj,P,.inr s,ar,rfl,rfl,.inr ⟨E,C,by rw[<-C];exact s⟩⟩
   .rw[b] at L
    rcases QW P with e | e
    .rw[e] at L;exact absurd L a7
    .have:=MX g (j+1)
     exact⟨k-1,by omega,j+1,_,by omega,e,.inr s,ar,rfl,rfl,.inl ⟨E,by omega⟩⟩
 .simp(disch:=omega)only[↓wr,seval,wq,qp,t3,t4]
  exact⟨s,f⟩
theorem RS {h:Heap} {u:V} {P:List bC} (b:aN h.view u 4 (P.map cx)):dF h u (jR P):=by
 refine dF.own b rfl (λi _=>rfl) (λi j hi a=>?_)
 simp only[abc] at hi
 have e:(P.map cx).getD i []=cx P[i]:=by simp[hi]
 rw[e] at a ⊢
 match j,a with
 | 0,_=>exact .val _
 | 1,_=>exact .val _
 | 2,_=>exact .val _
 | 3,_=>exact .val _
 | n+4,h=>exact absurd h (by simp[cx])
theorem VB (g:ak) (a:g.Ok) (b:g.c5):bX aa 195 [.agg (aj g)] (jR (aA g)):=
 bX.of (dy g) ((WL g a b _).mono λr H' h d c=>RS (by rw[c];exact h.1))
def iV (g:ak):List Int:=(aA g).map bC.aB
end Gv
