/-
  Part 11 of the proof: what the machine does and what the functions answer.
  Conditions: those that each lemma names.
-/
import Derived.Test.YtiophifnkakjgaaGreatSGzC6J
set_option linter.unusedSimpArgs false
set_option linter.unusedVariables false
set_option maxRecDepth 100000
set_option maxHeartbeats 20000000
namespace Gv
open Go Go.Proofs
structure bB where
 aB:Int
 bH:Int
 rules:Int
 ax:Int
def ka:bB:=⟨(-1),0,0,0⟩
def bo:bB:=⟨0,0,0,0⟩
def bA (P:List bB) (m:Nat):bB:=P.getD m ka
abbrev cw (x:Int):Nat:=(-1-x).toNat
def bS (P:List bB):List Int->bB->bB × Bool
 | [],s=>(s,true)
 | x::l,s=>if 0<=x then bS P l ⟨s.aB,s.bH,s.rules,min 1048576 (s.ax+1)⟩
  else if (bA P (cw x)).aB<0 then (s,false)
  else bS P l ⟨s.aB,max s.bH (bA P (cw x)).bH,min 1048576 (s.rules+(bA P (cw x)).rules),min 1048576 (s.ax+(bA P (cw x)).ax)⟩
def bJ (P:List bB) (m:Nat):Prop:=0<=(bA P m).aB
def iE (P:List bB) (l:List Int):Prop:=∀x∈l,x<0->bJ P (cw x)
theorem ia (P:List bB):∀(l:List Int) (s:bB),(bS P l s).2=true↔iE P l
 | [],s=>by simp[bS,iE]
 | x::l,s=>by
  simp only[bS,iE,abd]
  by_cases h:0<=x
  .rw[aaT h,ia P l]
   refine⟨λk y a b=>?_,λk y a=>k y (.inr a)⟩
   rcases a with rfl | a
   .omega
   .exact k y a b
  .rw[aaR h]
   by_cases c:(bA P (cw x)).aB<0
   .rw[aaT c]
    simp only[abp,false_iff]
    intro k
    have:=k x (.inl rfl) (by omega)
    unfold bJ at this;omega
   .rw[aaR c,ia P l]
    refine⟨λk y a b=>?_,λk y a=>k y (.inr a)⟩
    rcases a with rfl | a
    .unfold bJ;omega
    .exact k y a b
theorem jm (P:List bB) (k:Int):∀(l:List Int) (s:bB),iE P l->((bS P l s).1.bH<=k↔s.bH<=k/\∀x∈l,x<0->(bA P (cw x)).bH<=k)
 | [],s,_=>by simp[bS]
 | x::l,s,h=>by
  have e:iE P l:=λy c=>h y (by simp[c])
  simp only[bS,abd]
  by_cases f:0<=x
  .rw[aaT f,jm P k l _ e]
   refine⟨λ⟨a,b⟩=>⟨a,λy c d=>?_⟩,λ⟨a,b⟩=>⟨a,λy c=>b y (.inr c)⟩⟩
   rcases c with rfl | c
   .omega
   .exact b y c d
  .have:=h x (by simp) (by omega)
   unfold bJ at this
   rw[aaR f,aaR (by omega),jm P k l _ e]
   refine⟨λ⟨a,b⟩=>⟨by simp only at a;omega,λy c d=>?_⟩,λ⟨a,b⟩=>⟨by have:=b x (.inl rfl) (by omega);simp only;omega,λy c=>b y (.inr c)⟩⟩
   rcases c with rfl | c
   .simp only at a;omega
   .exact b y c d
theorem FU {P P':List bB}:∀(l:List Int) (s:bB),(∀x∈l,x<0->bA P (cw x)=bA P' (cw x))->bS P l s=bS P' l s
 | [],s,_=>rfl
 | x::l,s,h=>by
  have b:=λs=>FU (P:=P) (P':=P') l s λy c=>h y (by simp[c])
  simp only[bS]
  by_cases a:0<=x
  .rw[aaT a,aaT a,b]
  .rw[aaR a,aaR a,h x (by simp) (by omega),b]
theorem tf (P:List bB):∀(l:List Int) (s:bB),s.bH<=(bS P l s).1.bH
 | [],s=>Int.le_refl _
 | x::l,s=>by
  simp only[bS]
  split
  .exact tf P l _
  .split
   .exact Int.le_refl _
   .have:=tf P l ⟨s.aB,max s.bH (bA P (cw x)).bH,min 1048576 (s.rules+(bA P (cw x)).rules),min 1048576 (s.ax+(bA P (cw x)).ax)⟩
    simp only at this ⊢;omega
def gp (P:List bB) (i:Nat) (r:bc):bB:=⟨i,(bS P r.right bo).1.bH+1,min 1048576 ((bS P r.right bo).1.rules+1),(bS P r.right bo).1.ax⟩
def sx (P:List bB) (i:Nat) (N:List bB) (r:bc):List bB:=
 if 0<=(bA N r.left.toNat).aB then N else if (bS P r.right bo).2=true then N.set r.left.toNat (gp P i r) else N
def oO (P:List bB):Nat->List bB->List bc->List bB
 | _,N,[]=>N
 | i,N,r::l=>oO P (i+1) (sx P i N r) l
def A6 (rules:List bc) (P:List bB):List bB:=oO P 0 P rules
def nM (P:List bB) (m:Nat):Nat->List bc->Option bB
 | _,[]=>none
 | i,r::l=>if r.left.toNat=m/\(bS P r.right bo).2=true then some (gp P i r) else nM P m (i+1) l
theorem C3 {N:List bB} {i m:Nat} {p:bB} (hm:m<N.length):bA (N.set i p) m=if i=m then p else bA N m:=by
 simp only[bA,aaP,abI]
 split
 .rename_i e;subst e;simp[hm]
 .rfl
theorem HT (P:List bB) (i:Nat) (N:List bB) (r:bc):(sx P i N r).length=N.length:=by
 unfold sx;split; · rfl
 split<;>simp
theorem Jf (P:List bB):∀(l:List bc) (i:Nat) (N:List bB),(oO P i N l).length=N.length
 | [],_,_=>rfl
 | r::l,i,N=>by rw[oO,Jf P l,HT]
theorem Kw (P:List bB) (m:Nat):∀(l:List bc) (i:Nat) (N:List bB),m<N.length->bA (oO P i N l) m=if 0<=(bA N m).aB then bA N m else (nM P m i l).getD (bA N m)
 | [],i,N,hm=>by simp[oO,nM]
 | r::l,i,N,hm=>by
  rw[oO,Kw P m l (i+1) _ (by rw[HT];exact hm),nM]
  unfold sx
  by_cases h1:0<=(bA N r.left.toNat).aB
  .rw[aaT h1]
   by_cases a:r.left.toNat=m
   .subst a
    rw[aaT h1,aaT h1]
   .rw[aaR (c:=r.left.toNat=m/\_) (λe=>a e.1)]
  .rw[aaR h1]
   by_cases b:(bS P r.right bo).2=true
   .rw[aaT b]
    by_cases a:r.left.toNat=m
    .subst a
     rw[C3 hm,aaT rfl,aaR h1,aaT (show (0:Int)<=(gp P i r).aB by simp only[gp];omega),aaT (c:=r.left.toNat=r.left.toNat/\_) (And.intro rfl b)]
     rfl
    .rw[C3 hm,aaR a,aaR (c:=r.left.toNat=m/\_) (λe=>a e.1)]
   .rw[aaR b,aaR (c:=r.left.toNat=m/\_) (λe=>b e.2)]
theorem j5 {P:List bB} {m:Nat}:∀ {l:List bc} {i:Nat} {p:bB},nM P m i l=some p->∃(j:Nat) (r:bc),l[j]?=some r/\r.left.toNat=m/\iE P r.right/\p=gp P (i+j) r/\∀(f:Nat) (g:bc),f<j->l[f]?=some g->g.left.toNat=m->¬ iE P g.right
 | [],i,p,h=>by simp[nM] at h
 | r::l,i,p,h=>by
  rw[nM] at h
  by_cases k:r.left.toNat=m/\(bS P r.right bo).2=true
  .rw[aaT k] at h
   exact⟨0,r,rfl,k.1,(ia P _ _).1 k.2,by simpa using h.symm,λf g o=>by omega⟩
  .rw[aaR k] at h
   obtain⟨j,q,a,b,c,d,e⟩:=j5 h
   refine⟨j+1,q,by simpa using a,b,c,by rw[d];congr 1;omega,λf g o hr n hk=>?_⟩
   cases f with
   | zero =>
    simp at hr;subst hr
    exact k ⟨n,(ia P _ _).2 hk⟩
   | succ f=>exact e f g (by omega) (by simpa using hr) n hk
theorem Bg {P:List bB} {m:Nat}:∀ {l:List bc} {i:Nat},nM P m i l=none->∀r∈l,r.left.toNat=m->¬ iE P r.right
 | [],i,h,r,hr,_,_=>by simp at hr
 | r::l,i,h,c,hr,b,hk=>by
  rw[nM] at h
  by_cases a:r.left.toNat=m/\(bS P r.right bo).2=true
  .rw[aaT a] at h;simp at h
  .rw[aaR a] at h
   rcases abd.1 hr with rfl | hr
   .exact a ⟨b,(ia P _ _).2 hk⟩
   .exact Bg h c hr b hk
def aG (g:aj) (k:Nat):List bB:=iter (A6 g.rules) k (List.replicate g.av.length ka)
theorem I4 {α:Type} (f:α->α):∀(k:Nat) (x:α),iter f (k+1) x=f (iter f k x)
 | 0,x=>rfl
 | k+1,x=>by rw[iter,I4 f k,iter]
theorem qJ (g:aj) (k:Nat):aG g (k+1)=A6 g.rules (aG g k):=I4 _ _ _
theorem fH (g:aj):∀k,(aG g k).length=g.av.length
 | 0=>by simp[aG,iter]
 | k+1=>by rw[qJ,A6,Jf,fH g k]
theorem y4 {P:List bB} {m:Nat} (h:P.length<=m):bA P m=ka:=by simp[bA,aaP,abr h]
theorem Lo {P:List bB} {m:Nat} (h:bJ P m):m<P.length:=by
 rcases abo m P.length with h1 | h1
 .exact h1
 .unfold bJ at h;rw[y4 h1] at h;simp[ka] at h
theorem se (g:aj) (k m:Nat):bA (aG g (k+1)) m=if 0<=(bA (aG g k) m).aB then bA (aG g k) m else if m<g.av.length then (nM (aG g k) m 0 g.rules).getD (bA (aG g k) m) else bA (aG g k) m:=by
 by_cases hm:m<g.av.length
 .rw[qJ,A6,Kw _ _ _ _ _ (by rw[fH];exact hm),aaT hm]
 .rw[aaR hm,y4 (by rw[fH];omega),y4 (by rw[fH];omega)]
  simp
theorem FG {g:aj} {k m:Nat} (h:bJ (aG g k) m):bA (aG g (k+1)) m=bA (aG g k) m:=by
 rw[se];unfold bJ at h;rw[aaT h]
theorem Dc {g:aj} {k m:Nat} (h:bJ (aG g k) m):∀d,bA (aG g (k+d)) m=bA (aG g k) m
 | 0=>rfl
 | d+1=>by
  have a:=Dc h d
  have:bJ (aG g (k+d)) m:=by unfold bJ at h ⊢;rw[a];exact h
  rw[<-a,<-FG this];rfl
theorem ir {g:aj} {k m j:Nat} (h:bJ (aG g k) m) (a:k<=j):bA (aG g j) m=bA (aG g k) m/\bJ (aG g j) m:=by
 obtain⟨d,rfl⟩:∃d,j=k+d:=⟨j-k,by omega⟩
 have:=Dc h d
 exact⟨this,by unfold bJ at h ⊢;rw[this];exact h⟩
theorem wK {g:aj} {k m:Nat} (a:¬ bJ (aG g k) m) (h:bJ (aG g (k+1)) m):nM (aG g k) m 0 g.rules=some (bA (aG g (k+1)) m):=by
 unfold bJ at h a
 rw[se,aaR a] at h
 rw[se,aaR a]
 split at h
 .rename_i hm
  rw[aaT hm]
  cases b:nM (aG g k) m 0 g.rules with
  | none=>rw[b] at h;exact absurd h a
  | some p=>rfl
 .exact absurd h a
theorem kg {g:aj} {m:Nat}:∀ {k:Nat},¬ bJ (aG g k) m->bA (aG g k) m=ka
 | 0,_=>by
  simp only[aG,iter,bA,aaP,abH]
  split<;>rfl
 | k+1,h=>by
  have a:¬ bJ (aG g k) m:=λe=>h (ir e (by omega)).2
  unfold bJ at h a
  rw[se,aaR a] at h ⊢
  split
  .rename_i hm
   rw[aaT hm] at h
   cases b:nM (aG g k) m 0 g.rules with
   | none=>exact kg (k:=k) a
   | some p =>
    rw[b] at h
    obtain⟨j,r,_,_,_,rfl,_⟩:=j5 b
    simp only[aa8,gp] at h;omega
  .exact kg (k:=k) a
theorem fI (g:aj):∀k:Nat,∀m,bJ (aG g k) m->1<=(bA (aG g k) m).bH/\(bA (aG g k) m).bH<=k/\∀j:Nat,j<=k->(bA (aG g k) m).bH<=j->bJ (aG g j) m
 | 0,m,h=>by
  unfold bJ at h
  have:bA (aG g 0) m=ka:=by
   simp only[aG,iter,bA,aaP,abH]
   split<;>rfl
  rw[this] at h;simp[ka] at h
 | k+1,m,h=>by
  have q:=fI g k
  by_cases f:bJ (aG g k) m
  .obtain⟨a,b,c⟩:=q m f
   rw[(ir f (Nat.le_succ k)).1]
   refine⟨a,by push_cast;omega,λj u t=>?_⟩
   rcases abo k j with e | e
   .exact(ir f (by omega)).2
   .exact c j e t
  .have v:=wK f h
   obtain⟨i,r,hr,w,hk,hp,_⟩:=j5 v
   have t:(bA (aG g (k+1)) m).bH=(bS (aG g k) r.right bo).1.bH+1:=by rw[hp];rfl
   have h1:=tf (aG g k) r.right bo
   have A:=(jm (aG g k) k r.right bo hk).2 ⟨by simp[bo],λx n o=>(q _ (hk x n o)).2.1⟩
   have B:¬ (bS (aG g k) r.right bo).1.bH<=(k:Int)-1:=by
    intro hle
    have C:(0:Int)<=(bS (aG g k) r.right bo).1.bH:=h1
    obtain⟨d,rfl⟩:∃d,k=d+1:=⟨k-1,by omega⟩
    have y:=((jm (aG g (d+1)) _ r.right bo hk).1 hle).2
    have z:iE (aG g d) r.right:=λx n o=>(q _ (hk x n o)).2.2 d (by omega) (by have:=y x n o;push_cast at this;omega)
    apply f
    by_cases s:bJ (aG g d) m
    .exact(ir s (by omega)).2
    .unfold bJ at s ⊢
     have hm:=Lo h
     rw[fH] at hm
     rw[se,aaR s,aaT hm]
     cases l:nM (aG g d) m 0 g.rules with
     | none=>exact absurd z (Bg l r (aa1 hr) w)
     | some p =>
      obtain⟨j,D,_,_,_,rfl,_⟩:=j5 l
      simp only[aa8,gp];omega
   refine⟨by omega,by push_cast;omega,λj u hle=>?_⟩
   have:j=k+1:=by omega
   subst this;exact h
theorem zn {g:aj} {m:Nat}:∀ {k:Nat},bJ (aG g k) m->∃j,j<k/\¬ bJ (aG g j) m/\(bA (aG g k) m).bH=j+1/\nM (aG g j) m 0 g.rules=some (bA (aG g k) m)
 | 0,h=>by
  have:=(fI g 0 m h)
  simp at this;omega
 | k+1,h=>by
  by_cases f:bJ (aG g k) m
  .obtain⟨j,a,b,c,d⟩:=zn f
   rw[(ir f (Nat.le_succ k)).1]
   exact⟨j,by omega,b,c,d⟩
  .refine⟨k,by omega,f,?_,wK f h⟩
   obtain⟨a,b,c⟩:=fI g (k+1) m h
   rcases Int.lt_or_le (k:Int) (bA (aG g (k+1)) m).bH with e | e
   .push_cast at b;omega
   .exact absurd (c k (by omega) e) f
def u9 (P:List bB):List Bool:=P.map λp=>decide (0<=p.aB)
theorem FY (P:List bB) (m:Nat):(u9 P).getD m false=true↔bJ P m:=by
 simp only[u9,bJ,bA,aaP,aaS]
 cases P[m]? with
 | none=>simp[ka]
 | some p=>simp
theorem YV (g:aj) (k:Nat):iP (u9 (aG g k)) (u9 (aG g (k+1))):=
 ⟨by simp[u9,fH],λi h=>(FY _ _).2 (ir ((FY _ _).1 h) (by omega)).2⟩
theorem YQ {g:aj} {k:Nat} (h:u9 (aG g k)=u9 (aG g (k+1))):aG g (k+1)=aG g k:=by
 have hp:∀m,bA (aG g (k+1)) m=bA (aG g k) m:=λm=>by
  by_cases a:bJ (aG g k) m
  .exact FG a
  .have h1:¬ bJ (aG g (k+1)) m:=λe=>a ((FY _ _).1 (by rw[h];exact(FY _ _).2 e))
   rw[kg a,kg h1]
 apply abJ (by rw[fH,fH])
 intro m h1 b
 have:=hp m
 simpa [bA,aaP,h1,b] using this
theorem QM {g:aj} {k:Nat} (hk:k<=dh (u9 (aG g k))):aG g (k+1)=aG g k∨k+1<=dh (u9 (aG g (k+1))):=by
 have:=(YV g k).dh
 by_cases e:dh (u9 (aG g k))=dh (u9 (aG g (k+1)))
 .exact .inl (YQ (this.2 e))
 .exact .inr (by omega)
theorem MC (g:aj) (k:Nat):dh (u9 (aG g k))<=g.av.length:=by
 have:=vC (u9 (aG g k))
 simpa [u9,fH] using this
theorem GC {g:aj} {k:Nat} (h:aG g (k+1)=aG g k):∀d,aG g (k+d)=aG g k
 | 0=>rfl
 | d+1=>by
  have a:=GC h d
  rw[<-abx,qJ,a,<-qJ,h]
def aA (g:aj):List bB:=aG g g.av.length
theorem gS (g:aj):(aA g).length=g.av.length:=fH _ _
theorem UD {g:aj} {k:Nat} (hk:k<=g.av.length) (h:aG g (k+1)=aG g k):aG g k=aA g:=by
 obtain⟨d,a⟩:∃d,g.av.length=k+d:=⟨g.av.length-k,by omega⟩
 rw[aA,a,GC h d]
theorem lJ {g:aj} {m:Nat} (h:bJ (aA g) m):1<=(bA (aA g) m).bH/\(bA (aA g) m).bH<=g.av.length:=⟨(fI g _ m h).1,(fI g _ m h).2.1⟩
theorem ze {g:aj} {m:Nat} (h:¬ bJ (aA g) m):bA (aA g) m=ka:=kg h
theorem nS {g:aj} {m:Nat} (h:bJ (aA g) m):∃(i:Nat) (r:bc),g.rules[i]?=some r/\r.left.toNat=m/\iE (aA g) r.right/\bA (aA g) m=gp (aA g) i r /\
  ∀(j:Nat) (a:bc),j<i->g.rules[j]?=some a->a.left.toNat=m->iE (aA g) a.right->(bS (aA g) a.right bo).1.bH+1≠(bA (aA g) m).bH:=by
 obtain⟨k,hk,b,p,q⟩:=zn h
 obtain⟨i,r,hr,s,o,hp,e⟩:=j5 q
 have c:∀x∈r.right,x<0->bA (aG g k) (cw x)=bA (aA g) (cw x):=λx d b=>((ir (o x d b) (by omega)).1).symm
 have t:bS (aG g k) r.right bo=bS (aA g) r.right bo:=FU _ _ c
 refine⟨i,r,hr,s,λx d b=>(ir (o x d b) (by omega)).2,?_,λj a u l n f he=>?_⟩
 .show bA (aG g g.av.length) m=_
  rw[hp];unfold gp;rw[t,abE]
 .have h1:(bA (aA g) m).bH=k+1:=p
  refine e j a u l n λx d b=>?_
  have v:=((jm (aA g) k a.right bo f).1 (by omega)).2 x d b
  exact(fI g _ _ (f x d b)).2.2 k (by omega) v
def gE (h:List Int) (m:Nat):Int:=h.getD m 0
def gx (h:List Int):List Int->Int->Int
 | [],top=>top+1
 | x::l,top=>if 0<=x then gx h l top else if gE h (cw x)=0 then 0 else gx h l (max top (gE h (cw x)))
def lC (old:List Int) (k:Int) (out:List Int) (r:bc):List Int:=if gE out r.left.toNat=0/\gx old r.right 0=k then out.set r.left.toNat k else out
abbrev fZ (P:List bB):List Int:=P.map bB.bH
theorem nr (P:List bB) (m:Nat):gE (fZ P) m=(bA P m).bH:=by
 simp only[gE,bA,aaP,aaS]
 cases P[m]? <;> rfl
def CO (P:List bB):Prop:=∀m,(bJ P m->1<=(bA P m).bH)/\(¬ bJ P m->bA P m=ka)
theorem Gu (g:aj) (k:Nat):CO (aG g k):=λm=>⟨λh=>(fI g k m h).1,kg⟩
theorem CO.zero {P:List bB} (h:CO P) (m:Nat):gE (fZ P) m=0↔¬ bJ P m:=by
 rw[nr]
 constructor
 .intro e k;have:=(h m).1 k;omega
 .intro k;rw[(h m).2 k];rfl
theorem B8 {P:List bB} {x:Int} {l:List Int} {s:bB} (h:0<=x):bS P (x::l) s=bS P l ⟨s.aB,s.bH,s.rules,min 1048576 (s.ax+1)⟩:=by rw[bS,aaT h]
theorem D4 {P:List bB} {x:Int} {l:List Int} {s:bB} (h:¬ 0<=x) (hk:¬ (bA P (cw x)).aB<0):bS P (x::l) s=bS P l ⟨s.aB,max s.bH (bA P (cw x)).bH,min 1048576 (s.rules+(bA P (cw x)).rules),min 1048576 (s.ax+(bA P (cw x)).ax)⟩:=by rw[bS,aaR h,aaR hk]
theorem IN {P:List bB} {x:Int} {l:List Int} {s:bB} (h:¬ 0<=x) (hk:(bA P (cw x)).aB<0):bS P (x::l) s=(s,false):=by rw[bS,aaR h,aaT hk]
theorem Ci {P:List bB} (b:CO P):∀(l:List Int) (s:bB),gx (fZ P) l s.bH=if (bS P l s).2=true then (bS P l s).1.bH+1 else 0
 | [],s=>by simp[gx,bS]
 | x::l,s=>by
  simp only[gx]
  by_cases a:0<=x
  .rw[aaT a,B8 a,<-Ci b l]
  .rw[aaR a]
   by_cases h1:bJ P (cw x)
   .have c:=h1
    unfold bJ at c
    rw[aaR (λe=>((b.zero _).1 e) h1),D4 a (by omega),<-Ci b l,nr]
   .have c:=h1
    unfold bJ at c
    rw[aaT ((b.zero _).2 h1),IN a (by omega)]
    rfl
theorem te {P:List bB} (a:CO P) (l:List Int):(gx (fZ P) l 0=0↔¬ iE P l)/\(iE P l->gx (fZ P) l 0=(bS P l bo).1.bH+1):=by
 have h:=Ci a l bo
 have h1:=tf P l bo
 have c:(0:Int)<=(bS P l bo).1.bH:=h1
 have b:gx (fZ P) l 0=_:=h
 rw[b]
 by_cases hk:iE P l
 .have:=(ia P l bo).2 hk
  grind
 .have:=λe=>hk ((ia P l bo).1 e)
  grind
theorem XX {out:List Int} {i m:Nat} {v:Int} (hm:m<out.length):gE (out.set i v) m=if i=m then v else gE out m:=by
 simp only[gE,aaP,abI]
 grind
theorem GL (old:List Int) (k:Int) (out:List Int) (r:bc):(lC old k out r).length=out.length:=by
 unfold lC;split<;>simp
theorem EK (old:List Int) (k:Int):∀(l:List bc) (out:List Int),(l.foldl (lC old k) out).length=out.length
 | [],_=>rfl
 | r::l,out=>by rw[abF,EK old k l,GL]
theorem Jh (old:List Int) (k:Int) (m:Nat) (hk:k≠0):∀(l:List bc) (out:List Int),m<out.length ->
  (gE out m≠0->gE (l.foldl (lC old k) out) m=gE out m) /\
  (gE out m=0->(∃r∈l,r.left.toNat=m/\gx old r.right 0=k)->gE (l.foldl (lC old k) out) m=k) /\
  (gE out m=0->(¬ ∃r∈l,r.left.toNat=m/\gx old r.right 0=k)->gE (l.foldl (lC old k) out) m=0)
 | [],out,hm=>⟨λ_=>rfl,λ_ ⟨r,hr,_⟩=>by simp at hr,λh _=>h⟩
 | r::l,out,hm=>by
  obtain⟨i1,i2,i3⟩:=Jh old k m hk l (lC old k out r) (by rw[GL];exact hm)
  rw[abF]
  unfold lC at i1 i2 i3 ⊢
  by_cases a:gE out r.left.toNat=0/\gx old r.right 0=k
  .rw[aaT a] at i1 i2 i3 ⊢
   rw[XX hm] at i1 i2 i3
   grind
  .grind
theorem XW (g:aj) (k:Nat):g.rules.foldl (lC (fZ (aG g k)) ((k:Int)+1)) (fZ (aG g k))=fZ (aG g (k+1)):=by
 apply abJ (by rw[EK];simp[fH])
 intro m h1 t
 have hm:m<g.av.length:=by simpa [fH] using t
 have u:∀ {l:List Int} (h:m<l.length),l[m]=gE l m:=λh=>by simp[gE,aaP,h]
 rw[u h1,u t,nr]
 obtain⟨i1,i2,i3⟩:=Jh (fZ (aG g k)) ((k:Int)+1) m (by omega) g.rules (fZ (aG g k)) (by simp[fH,hm])
 have n:=Gu g k
 by_cases f:bJ (aG g k) m
 .rw[i1 (λe=>(n.zero m).1 e f),nr,(ir f (Nat.le_succ k)).1]
 .have v:=(n.zero m).2 f
  by_cases d:bJ (aG g (k+1)) m
  .obtain⟨i,r,hr,o,q,hp,_⟩:=j5 (wK f d)
   obtain⟨a,b,c⟩:=fI g (k+1) m d
   have he:(bA (aG g (k+1)) m).bH=k+1:=by
    grind
   rw[he]
   refine i2 v ⟨r,aa1 hr,o,?_⟩
   rw[(te n r.right).2 q,<-he,hp];rfl
  .rw[kg d]
   refine i3 v λ⟨r,hr,o,he⟩=>?_
   have q:iE (aG g k) r.right:=by
    rcases Classical.em (iE (aG g k) r.right) with h | h
    .exact h
    .have:=(te n r.right).1.2 h;omega
   unfold bJ at f d
   rw[se,aaR f,aaT hm] at d
   cases s:nM (aG g k) m 0 g.rules with
   | none=>exact Bg s r hr o q
   | some p =>
    rw[s] at d
    obtain⟨j,w,_,_,_,rfl,_⟩:=j5 s
    simp only[aa8,gp] at d;omega
def lU (h:List Int) (m:Nat):List bc->Int->Int
 | [],_=>(-1)
 | r::l,i=>if r.left=(m:Int)/\0<gE h m/\gx h r.right 0=gE h m then i else lU h m l (i+1)
theorem F4 {h:List Int} {m:Nat}:∀ {l:List bc} {i:Int},(∀r∈l,¬ (r.left=(m:Int)/\0<gE h m/\gx h r.right 0=gE h m))->lU h m l i=(-1)
 | [],_,_=>rfl
 | r::l,i,a=>by rw[lU,aaR (a r (by simp)),F4 λr hr=>a r (by simp[hr])]
theorem F9 {h:List Int} {m:Nat}:∀ {l:List bc} {i:Int} {j:Nat} {r:bc},l[j]?=some r->(r.left=(m:Int)/\0<gE h m/\gx h r.right 0=gE h m) ->
  (∀(b:Nat) (a:bc),b<j->l[b]?=some a->¬ (a.left=(m:Int)/\0<gE h m/\gx h a.right 0=gE h m))->lU h m l i=i+j
 | [],_,_,_,hr,_,_=>by simp at hr
 | e::l,i,0,r,hr,c,_=>by
  simp at hr;subst hr
  rw[lU,aaT c];simp
 | e::l,i,j+1,r,hr,c,f=>by
  rw[lU,aaR (f 0 e (by omega) rfl),F9 (l:=l) (i:=i+1) (by simpa using hr) c λb a g d=>f (b+1) a (by omega) (by simpa using d)]
  grind
theorem PB {g:aj} (l:∀r∈g.rules,0<=r.left) (m:Nat):lU (fZ (aA g)) m g.rules 0=(bA (aA g) m).aB:=by
 have b:CO (aA g):=Gu g _
 by_cases h:bJ (aA g) m
 .obtain⟨i,r,hr,q,n,hp,f⟩:=nS h
  have s:=l r (aa1 hr)
  have o:gx (fZ (aA g)) r.right 0=gE (fZ (aA g)) m:=by
   rw[(te b _).2 n,nr,hp];rfl
  have a:0<gE (fZ (aA g)) m:=by rw[nr];have:=(lJ h).1;omega
  have:=F9 (h:=fZ (aA g)) (m:=m) (i:=0) hr ⟨by omega,a,o⟩ λj c t p k=>by
   have d:iE (aA g) c.right:=by
    rcases Classical.em (iE (aA g) c.right) with h | h
    .exact h
    .have:=(te b c.right).1.2 h;omega
   have e:=k.2.2
   rw[(te b _).2 d,nr] at e
   grind
  rw[this,hp];simp[gp]
 .rw[ze h]
  refine F4 λr hr k=>?_
  have:=(b.zero m).2 h
  omega
def pW (a b:Int × Int):Int × Int:=(min 1000 (a.1+b.1),min 1000 (a.2+b.2))
def lD (S:List (Int × Int)) (m:Nat):Int × Int:=S.getD m (0,0)
def oR (S:List (Int × Int)):List Int->Int × Int->Int × Int
 | [],s=>s
 | x::l,s=>oR S l (pW s (if 0<=x then (0,1) else lD S (cw x)))
def lP (p:bB):Int × Int:=(min 1000 p.rules,min 1000 p.ax)
def eY (p:bB):Prop:=(0<=p.rules/\p.rules<=1048576)/\(0<=p.ax/\p.ax<=1048576)
theorem pa {P:List bB} (a:∀m,eY (bA P m)):∀(l:List Int) (s:bB),eY s->eY (bS P l s).1
 | [],s,h=>h
 | x::l,s,h=>by
  have b:=a (cw x)
  unfold eY at h b
  simp only[bS]
  split
  .exact pa a l _ (by unfold eY;simp only;omega)
  .split
   .exact h
   .exact pa a l _ (by unfold eY;simp only;omega)
theorem ib:eY bo:=by unfold eY;simp[bo]
theorem Ue:eY ka:=by unfold eY;simp[ka]
theorem j4 (g:aj):∀k m,eY (bA (aG g k) m)
 | 0,m=>by
  have:bA (aG g 0) m=ka:=by
   simp only[aG,iter,bA,aaP,abH]
   grind
  rw[this];exact Ue
 | k+1,m=>by
  by_cases h:bJ (aG g (k+1)) m
  .by_cases a:bJ (aG g k) m
   .rw[(ir a (Nat.le_succ k)).1];exact j4 g k m
   .obtain⟨i,r,_,_,_,hp,_⟩:=j5 (wK a h)
    rw[hp]
    have:=pa (j4 g k) r.right bo ib
    unfold eY at this ⊢
    simp only[gp];omega
  .rw[kg h];exact Ue
theorem zN {P:List bB} {S:List (Int × Int)} (e:∀m,eY (bA P m)):∀(l:List Int) (s:bB) (t:Int × Int),eY s->iE P l->(∀x∈l,x<0->lD S (cw x)=lP (bA P (cw x)))->t=lP s->oR S l t=lP (bS P l s).1
 | [],s,t,_,_,_,c=>c
 | x::l,s,t,i,g,h,c=>by
  have j:=e (cw x)
  unfold eY at i j
  have a:iE P l:=λy f=>g y (by simp[f])
  have b:=λy (f:y∈l)=>h y (by simp[f])
  simp only[oR,bS]
  by_cases d:0<=x
  .rw[aaT d,aaT d]
   refine zN e l _ _ (by unfold eY;simp only;omega) a b ?_
   subst c
   simp only[pW,lP,abf];omega
  .have hk:=g x (by simp) (by omega)
   unfold bJ at hk
   rw[aaR d,aaR d,aaR (by omega),h x (by simp) (by omega)]
   refine zN e l _ _ (by unfold eY;simp only;omega) a b ?_
   subst c
   simp only[pW,lP,abf];omega
theorem QT {g:aj} {S:List (Int × Int)} {m:Nat} (h:bJ (aA g) m) {i:Nat} {r:bc} (hr:g.rules[i]?=some r) (hi:(bA (aA g) m).aB=i)
  (e:∀k,(bA (aA g) k).bH<(bA (aA g) m).bH->bJ (aA g) k->lD S k=lP (bA (aA g) k)):pW (1,0) (oR S r.right (0,0))=lP (bA (aA g) m):=by
 obtain⟨f,l,a,n,b,hp,_⟩:=nS h
 have:f=i:=by rw[hp] at hi;simp only[gp] at hi;omega
 subst this
 rw[hr] at a;simp at a;subst a
 have o:(bA (aA g) m).bH=(bS (aA g) r.right bo).1.bH+1:=by rw[hp];rfl
 have h1:=((jm (aA g) ((bA (aA g) m).bH-1) r.right bo b).1 (by omega)).2
 rw[zN (P:=aA g) (λm=>j4 g _ m) r.right bo (0,0) ib b (λx c d=>e _ (by have:=h1 x c d;omega) (b x c d)) rfl]
 have:=pa (j4 g g.av.length) r.right bo ib
 have j:eY (bS (aA g) r.right bo).1:=this
 unfold eY at j
 rw[hp]
 simp only[pW,lP,gp,abf];omega
def GD (g:aj) (i:Int):List Int:=(g.rules.getD i.toNat ⟨0,[],0⟩).right
def dV (g:aj) (P:List bB):Nat->List Int->List Int
 | 0,l=>l.flatMap λx=>if 0<=x then [x] else []
 | f+1,l=>l.flatMap λx=>if 0<=x then [x] else dV g P f (GD g (bA P (cw x)).aB)
def fp (g:aj) (P:List bB):Nat->List Int->List Int
 | 0,_=>[]
 | f+1,l=>l.flatMap λx=>if 0<=x then [] else (bA P (cw x)).aB::fp g P f (GD g (bA P (cw x)).aB)
def De (P:List bB) (f:Nat) (l:List Int):Prop:=∀x∈l,x<0->bJ P (cw x)/\(bA P (cw x)).bH<=f
theorem py (g:aj) (P:List bB) (f:Nat):dV g P f []=[]:=by cases f<;>rfl
theorem wA (g:aj) (P:List bB) (f:Nat):fp g P f []=[]:=by cases f<;>rfl
theorem gu (g:aj) (P:List bB) (f:Nat) (a b:List Int):dV g P f (a++b)=dV g P f a++dV g P f b:=by cases f<;>simp[dV]
theorem j0 (g:aj) (P:List bB) (f:Nat) (a b:List Int):fp g P f (a++b)=fp g P f a++fp g P f b:=by cases f<;>simp[fp]
theorem kc {g:aj} {P:List bB} {f:Nat} {x:Int} (h:0<=x):dV g P f [x]=[x]:=by cases f<;>simp[dV,h]
theorem qw {g:aj} {P:List bB} {f:Nat} {x:Int} (h:0<=x):fp g P f [x]=[]:=by cases f<;>simp[fp,h]
theorem k6 {g:aj} {P:List bB} {f:Nat} {x:Int} (h:x<0):dV g P (f+1) [x]=dV g P f (GD g (bA P (cw x)).aB):=by
 simp[dV,show ¬ 0<=x by omega]
theorem pO {g:aj} {P:List bB} {f:Nat} {x:Int} (h:x<0):fp g P (f+1) [x]=(bA P (cw x)).aB::fp g P f (GD g (bA P (cw x)).aB):=by
 simp[fp,show ¬ 0<=x by omega]
theorem CU {g:aj} {l:List Int} (h:De (aA g) 0 l):∀x∈l,0<=x:=λx c=>by
 rcases Int.lt_or_le x 0 with h1 | h1
 .obtain⟨a,b⟩:=h x c h1
  have:=(lJ a).1
  grind
 .exact h1
theorem vq {g:aj} {f:Nat} {m:Nat} (h:bJ (aA g) m) (d:(bA (aA g) m).bH<=(f:Int)+1):∃(i:Nat) (r:bc),(bA (aA g) m).aB=i/\g.rules[i]?=some r/\GD g (bA (aA g) m).aB=r.right/\De (aA g) f r.right/\bA (aA g) m=gp (aA g) i r:=by
 obtain⟨i,r,hr,e,a,hp,_⟩:=nS h
 have hi:(bA (aA g) m).aB=i:=by rw[hp];rfl
 have j:(bA (aA g) m).bH=(bS (aA g) r.right bo).1.bH+1:=by rw[hp];rfl
 have h1:=((jm (aA g) f r.right bo a).1 (by omega)).2
 refine⟨i,r,hi,hr,?_,λx b c=>⟨a x b c,h1 x b c⟩,hp⟩
 rw[hi];simp[GD,aaP,hr]
theorem nh {g:aj} {f:Nat} (c:∀x,x<0->bJ (aA g) (cw x)->(bA (aA g) (cw x)).bH<=f->(bA (aA g) (cw x)).rules=min 1048576 ((fp g (aA g) f [x]).length:Int)/\(bA (aA g) (cw x)).ax=min 1048576 ((dV g (aA g) f [x]).length:Int)):
  ∀(l:List Int) (s:bB),De (aA g) f l->eY s->(bS (aA g) l s).1.rules=min 1048576 (s.rules+(fp g (aA g) f l).length)/\(bS (aA g) l s).1.ax=min 1048576 (s.ax+(dV g (aA g) f l).length)
 | [],s,_,d=>by
  unfold eY at d
  rw[py,wA]
  simp only[bS,abn];omega
 | x::l,s,hu,d=>by
  have a:De (aA g) f l:=λy i=>hu y (by simp[i])
  have e:=gu g (aA g) f [x] l
  have h:=j0 g (aA g) f [x] l
  rw[List.singleton_append] at e h
  rw[e,h,abc,abc]
  have j:eY (bA (aA g) (cw x)):=j4 g g.av.length (cw x)
  unfold eY at d j
  by_cases b:0<=x
  .obtain⟨i1,i2⟩:=nh c l ⟨s.aB,s.bH,s.rules,min 1048576 (s.ax+1)⟩ a (by unfold eY;simp only;omega)
   rw[B8 b,i1,i2,kc b,qw b]
   grind
  .obtain⟨hk,k⟩:=hu x (by simp) (by omega)
   obtain⟨m,k2⟩:=c x (by omega) hk k
   obtain⟨i1,i2⟩:=nh c l ⟨s.aB,max s.bH (bA (aA g) (cw x)).bH,min 1048576 (s.rules+(bA (aA g) (cw x)).rules),min 1048576 (s.ax+(bA (aA g) (cw x)).ax)⟩ a (by unfold eY;simp only;omega)
   unfold bJ at hk
   rw[D4 b (by omega),i1,i2,m,k2]
   grind
theorem ph (g:aj):∀(f:Nat) (l:List Int) (s:bB),De (aA g) f l->eY s ->
  (bS (aA g) l s).1.rules=min 1048576 (s.rules+(fp g (aA g) f l).length)/\(bS (aA g) l s).1.ax=min 1048576 (s.ax+(dV g (aA g) f l).length)
 | 0,l,s,hu,b=>nh (λx c hk a=>by have:=(lJ hk).1;simp only[Int.natCast_zero] at a;omega) l s hu b
 | f+1,l,s,hu,b=>nh (λx c hk a=>by
   obtain⟨i,r,hi,hr,d,e,hp⟩:=vq (f:=f) hk (by push_cast at a;exact a)
   obtain⟨h,j⟩:=ph g f r.right bo e ib
   have k:(bA (aA g) (cw x)).rules=min 1048576 ((bS (aA g) r.right bo).1.rules+1):=by rw[hp];rfl
   have k2:(bA (aA g) (cw x)).ax=(bS (aA g) r.right bo).1.ax:=by rw[hp];rfl
   rw[k6 c,pO c,d,k,k2,h,j]
   simp only[aa3,bo]
   omega) l s hu b
theorem rX {g:aj} {f:Nat} (d:∀x,x<0->(dV g (aA g) f [x]).length<=6*(fp g (aA g) f [x]).length):∀(l:List Int),(dV g (aA g) f l).length<=l.length+6*(fp g (aA g) f l).length
 | []=>by rw[py];simp
 | x::l=>by
  have a:=gu g (aA g) f [x] l
  have b:=j0 g (aA g) f [x] l
  rw[List.singleton_append] at a b
  rw[a,b,abc,abc]
  have e:=rX d l
  by_cases c:0<=x
  .rw[kc c,qw c]
   grind
  .grind
theorem Xj {g:aj} (a:∀r∈g.rules,r.right.length<=6) (i:Int):(GD g i).length<=6:=by
 simp only[GD,aaP]
 grind
theorem H8 {g:aj} (b:∀r∈g.rules,r.right.length<=6):∀(f:Nat) (l:List Int),(dV g (aA g) f l).length<=l.length+6*(fp g (aA g) f l).length
 | 0,l=>rX (λx a=>by simp[dV,show ¬ 0<=x by omega]) l
 | f+1,l=>rX (λx a=>by
  have i2:=H8 b f (GD g (bA (aA g) (cw x)).aB)
  have:=Xj b (bA (aA g) (cw x)).aB
  rw[k6 a,pO a]
  simp only[aa3];omega) l
def dp (g:aj) (l:List Int):List Int × Int:=
 if (bt g&&l.all (dP g))=true then
  (if (bS (aA g) l bo).2=false then ([],9) else if 300<(bS (aA g) l bo).1.rules∨60<(bS (aA g) l bo).1.ax then ([],13) else (dV g (aA g) g.av.length l,0))
 else ([],1)
inductive Gb (g:aj):List Int->List Int->List Int->Prop
 | nil:Gb g [] [] []
 | term (s:Int) (l t w:List Int):0<=s->Gb g l t w->Gb g (s::l) t (s::w)
 | eJ (s:Int) (l:List Int) (k:Nat) (R:bc) (t1 w1 t w:List Int):s<0->g.rules[k]?=some R->R.left = -1-s->Gb g R.right t1 w1->Gb g l t w->Gb g (s::l) (((k:Int)::t1)++t) (w1++w)
theorem Yz {g:aj} {l t w:List Int} (h:Gb g l t w):∀(a b:List Int),Sp g (a++w++b) l a.length (a.length+w.length):=by
 induction h with
 | nil=>exact λa b=>.nil _
 | term s l t w c _ m =>
  intro a b
  refine .term s l a.length _ c ⟨s,by simp,.inl rfl⟩ ?_
  have:=m (a++[s]) b
  simp only[abc,aa3,abn,abE,abU,abv,abK] at this ⊢
  rw[show a.length+(w.length+1)=a.length+1+w.length by omega]
  exact this
 | eJ s l k R t1 f t w c n o _ _ d e =>
  intro a b
  have i:=d a (w++b)
  have j:=e (a++f) b
  simp only[abc,abU] at i j ⊢
  rw[<-abx]
  exact .eJ s l R a.length (a.length+f.length) _ c (aa1 n) o i j
theorem QX {g:aj} (a:∀r∈g.rules,0<=r.left):∀(f:Nat) (l:List Int),De (aA g) f l->Gb g l (fp g (aA g) f l) (dV g (aA g) f l):=by
 intro f
 induction f with
 | zero =>
  intro l
  induction l with
  | nil=>intro _;rw[wA,py];exact .nil
  | cons s l j =>
   intro h
   have b:=CU h s (by simp)
   have d:=j0 g (aA g) 0 [s] l
   have e:=gu g (aA g) 0 [s] l
   rw[List.singleton_append] at d e
   rw[d,e,qw b,kc b]
   exact .term s l _ _ b (j λx k=>h x (by simp[k]))
 | succ f m =>
  intro l
  induction l with
  | nil=>intro _;rw[wA,py];exact .nil
  | cons s l j =>
   intro h
   have v:=j λx k=>h x (by simp[k])
   have d:=j0 g (aA g) (f+1) [s] l
   have e:=gu g (aA g) (f+1) [s] l
   rw[List.singleton_append] at d e
   rw[d,e]
   by_cases b:0<=s
   .rw[qw b,kc b]
    exact .term s l _ _ b v
   .obtain⟨hk,w⟩:=h s (by simp) (by omega)
    obtain⟨i,R,hi,n,o,p,z⟩:=vq (f:=f) hk (by push_cast at w;exact w)
    rw[pO (by omega),k6 (by omega),o,hi]
    have q:R.left = -1-s:=by
     obtain⟨y,A,c,t,_,u,_⟩:=nS hk
     have:(y:Int)=i:=by rw[<-hi,u];rfl
     have:y=i:=by omega
     subst this
     rw[n] at c
     simp at c;subst c
     have:=a R (aa1 n)
     unfold cw at t
     omega
    exact .eJ s l i R _ _ _ _ (by omega) n q (m R.right p) v
theorem Tq {g:aj} (d:∀r∈g.rules,∀s∈r.right,dP g s=true) {l t w:List Int} (h:Gb g l t w):(∀s∈l,dP g s=true)->∀x∈w,0<=x/\x<g.ax.length:=by
 induction h with
 | nil=>simp
 | term s l t w e _ m =>
  intro c x a
  rcases abd.1 a with rfl | a
  .have:=c x (by simp)
   unfold dP at this
   rw[aaT e] at this
   exact⟨e,by simpa using this⟩
  .exact m (λs d=>c s (by simp[d])) x a
 | eJ s l k R t1 o t w e n c _ _ f i =>
  intro c x a
  rcases aa7.1 a with a | a
  .exact f (λj b=>d R (aa1 n) j b) x a
  .exact i (λj b=>c j (by simp[b])) x a
theorem YR:vh.Ok:=by
 refine⟨by unfold aI;decide,by unfold aI;decide,by unfold aI;decide,by unfold bm;decide,?_,?_⟩
 .intro t a;simp[vh] at a
 .intro r hr;simp[vh] at hr
section
variable {g r:aj} {p q:List Bool} {o:List Int}
end
theorem bytes_beq (a b:ByteArray):(a==b)=decide (a=b):=by
 cases a with | mk a=>cases b with | mk b =>
 rw[abD]
 show (ByteArray.beq ⟨a⟩ ⟨b⟩=true)↔_
 simp only[ByteArray.beq]
 simp
theorem Je (a b:ByteArray):jX a b=decide (a=b):=by
 cases a with | mk a=>cases b with | mk b =>
 rw[abD]
 simp[jX]
theorem sm {α:Type} {a b:List α} {i:Nat} {x y:α} (c:a[i]?=some x) (d:b[i]?=some y) (h:a.take i=b.take i) (e:x=y):a.take (i+1)=b.take (i+1):=by
 rw[aa9,aa9,h,c,d,e]
theorem vB {α:Type} {a b:List α} {i:Nat} (c:a.length<=i) (d:b.length<=i) (h:a.take i=b.take i):a=b:=by
 rwa [aa6 c,aa6 d] at h
theorem z8 {α:Type} {a b:List α} {i:Nat} {x y:α} (d:a[i]?=some x) (c:b[i]?=some y) (e:x≠y):a≠b:=by
 rintro rfl;rw[d] at c;exact e (by simpa using c)
theorem vN {α:Type} {a b:List α} (h:¬ a.length=b.length):a≠b:=λe=>h (by rw[e])
theorem Dl (x y:Term):ig aa 9998 #[.string x.name,.int .i64 x.level,.int .i64 x.assoc] #[.string y.name,.int .i64 y.level,.int .i64 y.assoc]
  [{ name:= "Name",type:=9,offset:=0,embedded:=false,tag:= "",pkgPath:= "",byteOffset:=0 },{ name:= "Level",type:=3,offset:=1,embedded:=false,tag:= "",pkgPath:= "",byteOffset:=16 },
   { name:= "Assoc",type:=3,offset:=2,embedded:=false,tag:= "",pkgPath:= "",byteOffset:=24 }] (x.name==y.name&&(x.level==y.level&&(x.assoc==y.assoc&&true))):=
 .str _ _ _ _ _ (by decide) Tryz.underlying9 rfl rfl (.int _ _ _ _ _ _ (by decide) Tryz.underlying3 rfl rfl (.int _ _ _ _ _ _ (by decide) Tryz.underlying3 rfl rfl .nil))
theorem OT (x y:Term):(x.name==y.name&&(x.level==y.level&&(x.assoc==y.assoc&&true)))=decide (x=y):=by
 rw[bytes_beq,abD]
 cases x;cases y
 simp
theorem Xf (a b:Int):(a==b)=decide (a=b):=by rw[abD];simp
theorem Wl (x y:bc):decide (x=y)=(decide (x.left=y.left)&&(decide (x.prec=y.prec)&&decide (x.right=y.right))):=by
 cases x;cases y
 rw[abD]
 simp[and_comm]
theorem JT (x y:aj):decide (x=y)=(decide (x.ax=y.ax)&&(decide (x.av=y.av)&&(decide (x.rules=y.rules)&&decide (x.start=y.start)))):=by
 cases x;cases y
 rw[abD]
 simp
theorem I9 (g k:aj):∀v∈[V.agg (ak g),V.agg (ak k)],Tree v:=by
 intro v a;simp at a
 rcases a with rfl | rfl<;>exact bW _ (cx _)
def qB:SC:=
 ai [ai [ag [af 42 5,aw 43 0 2,au 44 43,aN 45 44,aS 46 .lss 42 45],bP 46 (.exit 0)],.block 1 (ai [ag [aw 49 0 2,au 50 49,af 51 5,aL 52 3 50 51,aU 53 3 52,aw 54 0 3,au 55 54,af 56 5,aL 57 3 55 56,aU 58 3 57,((some 59),.op (.old (.binOp .neq 130 (.tmp 53) (.tmp 58) 130) 4))],aX 59 (ai [ag [bh 4 false],.ret])]),ag [af 47 5,aH 48 .add 47 1,af 5 48]]
def qU:SC:=
 ai [ai [ag [af 60 6,aw 61 1 2,au 62 61,aN 63 62,aS 64 .lss 60 63],bP 64 (.exit 2)],.block 3 (ai [ag [aw 67 1 2,au 68 67,af 69 6,aL 70 1 68 69,au 71 70,aw 72 1 3,au 73 72,af 74 6,aL 75 1 73 74,au 76 75,((some 77),.op (.Ay .neq (.tmp 71) (.tmp 76)))],aX 77 (ai [ag [bh 4 false],.ret])]),ag [af 65 6,aH 66 .add 65 1,af 6 66]]
def qh:SC:=
 ai [ai [ag [af 78 7,aw 79 2 2,au 80 79,aN 81 80,aS 82 .lss 78 81],bP 82 (.exit 4)],.block 5 (ai [ag [aw 85 2 2,au 86 85,af 87 7,aL 88 3 86 87,aU 89 3 88,aw 90 2 3,au 91 90,af 92 7,aL 93 3 91 92,aU 94 3 93,((some 8),.op (.alloc [(.val (.int .i64 0)),(.emp 1),(.val (.int .i64 0))])),((some 9),.op (.alloc [(.val (.int .i64 0)),(.emp 1),(.val (.int .i64 0))])),cz 3 8 89,cz 3 9 94],.region false [⟨none,[aw 95 0 8,au 96 95,aw 97 0 9,au 98 97,aS 99 .neq 96 98,af 100 99]⟩,⟨(some (100,false)),[aw 101 2 8,au 102 101,aw 103 2 9,au 104 103,aS 105 .neq 102 104]⟩,⟨none,[cE 106 100 105,af 107 106]⟩,⟨(some (107,false)),[aw 108 1 8,au 109 108,aw 110 1 9,au 111 110,aV 112 26 [109,111],cR 113 112]⟩,⟨none,[cE 114 107 113]⟩],aX 114 (ai [ag [bh 4 false],.ret])]),ag [af 83 7,aH 84 .add 83 1,af 7 84]]
def sP:SF:=⟨ai [ag [cm 2 0,cm 3 1,bh 4 false],ai [.region false [⟨none,[aw 10 0 2,au 11 10,aN 12 11,aw 13 0 3,au 14 13,aN 15 14,aS 16 .neq 12 15,af 17 16]⟩,⟨(some (17,false)),[aw 18 1 2,au 19 18,aN 20 19,aw 21 1 3,au 22 21,aN 23 22,aS 24 .neq 20 23]⟩,⟨none,[cE 25 17 24,af 26 25]⟩,⟨(some (26,false)),[aw 27 2 2,au 28 27,aN 29 28,aw 30 2 3,au 31 30,aN 32 31,aS 33 .neq 29 32]⟩,⟨none,[cE 34 26 33,af 35 34]⟩,⟨(some (35,false)),[aw 36 3 2,au 37 36,aw 38 3 3,au 39 38,aS 40 .neq 37 39]⟩,⟨none,[cE 41 35 40]⟩],aX 41 (ai [ag [bh 4 false],.ret])],ai [ag [aT 5 0],bQ 0 qB],ai [ag [aT 6 0],bQ 2 qU],ai [ag [aT 7 0],bQ 4 qh],ag [bh 4 true],.ret],
 [.tmp 4],115⟩
theorem y5:aJ aa 31 [2,3]=some sP:=by kernel_rfl
theorem Uu (g k:aj) (o:g.Ok):aC aa 31 [.agg (ak g),.agg (ak k)] (gb (decide (g=k))):=by
 refine aC.val (I9 g k) λH=>?_
 rw[JT]
 refine ay.of mixed y5 ?_
 have h1:=o.ax
 have v:=o.av
 have w:=o.rules
 unfold aI at h1 v w
 simp(disch:=omega)only[↓wr,seval,wq,sP,ak,encS]
 repeat' (first | ((first|apply ao.dec|apply ao.eq|apply ao.ne|apply ao.split)<;>intro)|(simp(disch:=omega)only[↓wr,seval,wq,ak,encS]))
 .rename_i e;rw[decide_eq_false (vN (by omega))];rfl
 .rename_i e;rw[decide_eq_false (p:=g.av=k.av) (vN (by omega))];simp
 .rename_i e;rw[decide_eq_false (p:=g.rules=k.rules) (vN (by omega))];simp
 .rename_i e;rw[decide_eq_false e];simp
 rename_i A B C z
 refine aW.up g.ax.length (λi T _=>g.ax.take i=k.ax.take i/\T 2=.aR (ak g) 0/\T 3=.aR (ak k) 0/\T 5=gi i) ⟨by simp,rfl,rfl,rfl⟩ ?_
 rintro i m T H hm ⟨hi,t2,t3,t5⟩
 simp(disch:=omega)only[↓wr,seval,wq,qB,t2,t3,t5,ak,encS]
 apply ao.dec<;>intro d
 .have a:=aaQ (l:=g.ax) (i:=i) (by omega)
  have b:=aaQ (l:=k.ax) (i:=i) (by omega)
  generalize g.ax[i]'(by omega)=x at a
  generalize k.ax[i]'(by omega)=y at b
  simp(disch:=omega)only[↓wr,seval,wq,t2,t3,t5,aaS,a,b,dg,ak,encS]
  refine km (xs:=#[.string x.name,.int .i64 x.level,.int .i64 x.assoc]) (ys:=#[.string y.name,.int .i64 y.level,.int .i64 y.assoc]) Tryz.underlying130 (by kernel_rfl) (by kernel_rfl) ?_ ?_ (Dl x y) (.inr ⟨rfl,rfl⟩) ?_
  .rfl
  .rfl
  rw[OT]
  simp(disch:=omega)only[↓wr,seval,wq,t2,t3,t5]
  apply ao.split<;>intro e
  .simp(disch:=omega)only[↓wr,seval,wq,t2,t3,t5]
   exact aE hm (by omega) ⟨sm a b hi (by simpa using e),t2,t3,rfl⟩
  .simp(disch:=omega)only[↓wr,seval,wq,t2,t3,t5]
   rw[decide_eq_false (z8 a b (by simpa using e))];rfl
 have s:g.ax=k.ax:=vB (by omega) (by omega) hi
 simp(disch:=omega)only[↓wr,seval,wq,t2,t3,t5]
 clear hi d hm
 refine aW.up g.av.length (λi T _=>g.av.take i=k.av.take i/\T 2=.aR (ak g) 0/\T 3=.aR (ak k) 0/\T 6=gi i) ⟨by simp,t2,t3,rfl⟩ ?_
 clear t2 t3 t5 T H i m
 rintro i m T H hm ⟨hi,t2,t3,t5⟩
 simp(disch:=omega)only[↓wr,seval,wq,qU,t2,t3,t5,ak,encS]
 apply ao.dec<;>intro d
 .have a:=aaQ (l:=g.av) (i:=i) (by omega)
  have b:=aaQ (l:=k.av) (i:=i) (by omega)
  generalize g.av[i]'(by omega)=x at a
  generalize k.av[i]'(by omega)=y at b
  simp(disch:=omega)only[↓wr,seval,wq,t2,t3,t5,aaS,a,b,dg,ak,encS,Je]
  apply ao.split<;>intro e
  .simp(disch:=omega)only[↓wr,seval,wq,t2,t3,t5]
   exact aE hm (by omega) ⟨sm a b hi (by simpa using e),t2,t3,rfl⟩
  .simp(disch:=omega)only[↓wr,seval,wq,t2,t3,t5]
   rw[decide_eq_false (p:=g.av=k.av) (z8 a b (by simpa using e))];simp
 have t:g.av=k.av:=vB (by omega) (by omega) hi
 simp(disch:=omega)only[↓wr,seval,wq,t2,t3,t5]
 clear hi d hm
 refine aW.up g.rules.length (λi T _=>g.rules.take i=k.rules.take i/\T 2=.aR (ak g) 0/\T 3=.aR (ak k) 0/\T 7=gi i) ⟨by simp,t2,t3,rfl⟩ ?_
 clear t2 t3 t5 T H i m
 rintro i m T H hm ⟨hi,t2,t3,t5⟩
 simp(disch:=omega)only[↓wr,seval,wq,qh,t2,t3,t5,ak,encS]
 apply ao.dec<;>intro d
 .have a:=aaQ (l:=g.rules) (i:=i) (by omega)
  have b:=aaQ (l:=k.rules) (i:=i) (by omega)
  have j:g.rules[i]'(by omega)∈g.rules:=aaW _
  generalize g.rules[i]'(by omega)=x at a j
  generalize k.rules[i]'(by omega)=y at b
  have q:=(o.aB x j).2.2.1
  simp(disch:=omega)only[↓wr,seval,wq,t2,t3,t5,aaS,a,b,aQ,encI,ak,encS]
  intro n D
  try simp(disch:=omega)only[↓wr,seval,wq,t2,t3,t5,aQ,encI]
  intro E r
  have c:=(cp r cy).1
  try simp(disch:=omega)only[↓wr,seval,wq,t2,t3,t5,aQ,encI,c,c.symm]
  have f:x≠y->V.val (Value.bool false)=V.val (Value.bool (decide (g.ax=k.ax)&&(decide (g.av=k.av)&&(decide (g.rules=k.rules)&&decide (g.start=k.start))))):=λe=>by
   rw[decide_eq_false (p:=g.rules=k.rules) (z8 a b e)];simp
  repeat' (first | ((first|apply ao.dec|apply ao.eq|apply ao.ne|apply ao.split)<;>intro)|(refine az.pure (O7 x.right y.right q) ?_)|(simp(disch:=omega)only[↓wr,seval,wq,t2,t3,t5,aQ,encI,c,c.symm]))
  .rename_i e;exact f λh=>e (by rw[h])
  .rename_i e;exact f λh=>e (by rw[h])
  .rename_i u t s
   refine aE hm (by omega) ⟨sm a b hi ?_,t2,t3,rfl⟩
   cases x;cases y
   simp_all
  .rename_i e;exact f λh=>by rw[h] at e;simp at e
 .have u:g.rules=k.rules:=vB (by omega) (by omega) hi
  simp(disch:=omega)only[↓wr,seval,wq,t2,t3,t5]
  simp[s,t,u,z]
def iq:SC:=
 ai [ag [aS 14 .lss 13 12],bP 14 (.exit 0),.block 1 (ai [ag [af 15 13,af 5 15],ag [af 16 0,af 17 5,aL 18 3 16 17,aU 19 3 18,af 20 1,af 21 5,aL 22 3 20 21,aU 23 3 22,((some 24),.op (.old (.binOp .neq 130 (.tmp 19) (.tmp 23) 130) 4))],aX 24 (ai [ag [bh 4 false],.ret])]),ag [aH 25 .add 13 1,af 13 25]]
def iL:SF:=⟨ai [ag [bh 4 false],ai [ag [af 6 0,aN 7 6,af 8 1,aN 9 8,aS 10 .neq 7 9],aX 10 (ai [ag [bh 4 false],.ret])],ai [ag [af 11 0,aN 12 11,aT 13 0],bQ 0 iq],ag [bh 4 true],.ret],
 [.tmp 4],26⟩
theorem lQ:aJ aa 203 []=some iL:=by kernel_rfl
def ji:SC:=
 ai [ag [aS 14 .lss 13 12],bP 14 (.exit 0),.block 1 (ai [ag [af 15 13,af 5 15],ag [af 16 0,af 17 5,aL 18 1 16 17,au 19 18,af 20 1,af 21 5,aL 22 1 20 21,au 23 22,((some 24),.op (.Ay .neq (.tmp 19) (.tmp 23)))],aX 24 (ai [ag [bh 4 false],.ret])]),ag [aH 25 .add 13 1,af 13 25]]
def jD:SF:=⟨ai [ag [bh 4 false],ai [ag [af 6 0,aN 7 6,af 8 1,aN 9 8,aS 10 .neq 7 9],aX 10 (ai [ag [bh 4 false],.ret])],ai [ag [af 11 0,aN 12 11,aT 13 0],bQ 0 ji],ag [bh 4 true],.ret],
 [.tmp 4],26⟩
theorem nO:aJ aa 204 []=some jD:=by kernel_rfl
def kX:SC:=
 ai [ag [aS 14 .lss 13 12],bP 14 (.exit 0),.block 1 (ai [ag [af 15 13,af 5 15],ag [af 16 0,af 17 5,aL 18 1 16 17,au 19 18,af 20 1,af 21 5,aL 22 1 20 21,au 23 22,aS 24 .neq 19 23],aX 24 (ai [ag [bh 4 false],.ret])]),ag [aH 25 .add 13 1,af 13 25]]
def l8:SF:=⟨ai [ag [bh 4 false],ai [ag [af 6 0,aN 7 6,af 8 1,aN 9 8,aS 10 .neq 7 9],aX 10 (ai [ag [bh 4 false],.ret])],ai [ag [af 11 0,aN 12 11,aT 13 0],bQ 0 kX],ag [bh 4 true],.ret],
 [.tmp 4],26⟩
theorem r5:aJ aa 254 []=some l8:=by kernel_rfl
def DG:SF:=⟨ai [ag [cm 2 0,cm 3 1,bh 4 false],.region false [⟨none,[aw 5 0 2,au 6 5,aw 7 0 3,au 8 7,aS 9 .eql 6 8,af 10 9]⟩,⟨(some (10,true)),[aw 11 2 2,au 12 11,aw 13 2 3,au 14 13,aS 15 .eql 12 14]⟩,⟨none,[dO 16 10 15,af 17 16]⟩,⟨(some (17,true)),[aw 18 1 2,au 19 18,aw 20 1 3,au 21 20,aV 22 254 [19,21]]⟩,⟨none,[dO 23 17 22,af 4 23]⟩],.ret],
 [.tmp 4],24⟩
theorem HG:aJ aa 206 [2,3]=some DG:=by kernel_rfl
def dR:SC:=
 ai [ag [aS 18 .lss 17 16],bP 18 (.exit 0),.block 1 (ai [ag [af 19 17,aL 20 3 15 17,aU 21 3 20,((some 8),.op (.alloc [(.val (.int .i64 0)),(.emp 1),(.val (.int .i64 0))])),af 7 19,cz 3 8 21],ag [af 22 1,af 23 7,aL 24 3 22 23,aU 25 3 24,((some 9),.op (.alloc [(.val (.int .i64 0)),(.emp 1),(.val (.int .i64 0))])),cz 3 9 25],ag [af 26 2,aU 27 3 8,aU 28 3 9,((some 29),.call (.tmp 26) [(.tmp 27),(.tmp 28)]),cR 30 29],aX 30 (ai [ag [bh 6 false],.ret])]),ag [aH 31 .add 17 1,af 17 31]]
def dX:SF:=⟨ai [ag [bh 6 false],ai [ag [af 10 0,aN 11 10,af 12 1,aN 13 12,aS 14 .neq 11 13],aX 14 (ai [ag [bh 6 false],.ret])],ai [ag [af 15 0,aN 16 15,aT 17 0],bQ 0 dR],ag [bh 6 true],.ret],
 [.tmp 6],32⟩
theorem gB:aJ aa 205 []=some dX:=by kernel_rfl
def FZ:SF:=⟨ai [ag [cm 2 0,cm 3 1,bh 4 false],.region false [⟨none,[aw 5 0 2,au 6 5,aw 7 0 3,au 8 7,aV 9 203 [6,8],af 10 9]⟩,⟨(some (10,true)),[aw 11 1 2,au 12 11,aw 13 1 3,au 14 13,aV 15 204 [12,14]]⟩,⟨none,[dO 16 10 15,af 17 16]⟩,⟨(some (17,true)),[aw 18 2 2,au 19 18,aw 20 2 3,au 21 20,oz 22 205 [(.tmp 19),(.tmp 21),(.val (.fn 206 [] []))]]⟩,⟨none,[dO 23 17 22,af 24 23]⟩,⟨(some (24,true)),[aw 25 3 2,au 26 25,aw 27 3 3,au 28 27,aS 29 .eql 26 28]⟩,⟨none,[dO 30 24 29,af 4 30]⟩],.ret],
 [.tmp 4],31⟩
theorem Jx:aJ aa 143 [2,3]=some FZ:=by kernel_rfl
theorem SN {α:Type} {f g:α->List V} {a b:List α} (d:∀x,∀v∈f x,Tree v) (e:∀x,∀v∈g x,Tree v):∀v∈[V.aZ (a.map f),V.aZ (b.map g)],Tree v:=by
 intro v c;simp at c
 rcases c with rfl | rfl
 .exact fi _ _ λx _=>d x
 .exact fi _ _ λx _=>e x
theorem RL (a b:List Term) (l:aI a) (H:View):ay aa 203 [.aZ (a.map dg),.aZ (b.map dg)] H λr _=>r=gb (decide (a=b)):=by
 refine ay.of mixed lQ ?_
 unfold aI at l
 simp(disch:=omega)only[↓wr,seval,wq,iL]
 apply ao.ne<;>intro h
 .simp(disch:=omega)only[↓wr,seval,wq]
  rw[decide_eq_false (vN (by omega))]
 .simp(disch:=omega)only[↓wr,seval,wq]
  refine aW.up a.length (λi T _=>a.take i=b.take i/\T 0=.aZ (a.map dg)/\T 1=.aZ (b.map dg)/\T 12=gi a.length/\T 13=gi i) ⟨by simp,rfl,rfl,rfl,rfl⟩ ?_
  rintro i k T H hk ⟨hi,c,h1,d,f⟩
  simp(disch:=omega)only[↓wr,seval,wq,iq,c,h1,d,f]
  apply ao.dec<;>intro m
  .have g:a[i]?=some (a[i]'(by omega)):=aaQ (by omega)
   have j:b[i]?=some (b[i]'(by omega)):=aaQ (by omega)
   generalize a[i]'(by omega)=x at g
   generalize b[i]'(by omega)=y at j
   simp(disch:=omega)only[↓wr,seval,wq,c,h1,d,f,aaS,g,j,dg]
   refine km (xs:=#[.string x.name,.int .i64 x.level,.int .i64 x.assoc]) (ys:=#[.string y.name,.int .i64 y.level,.int .i64 y.assoc]) Tryz.underlying130 (by kernel_rfl) (by kernel_rfl) ?_ ?_ (Dl x y) (.inr ⟨rfl,rfl⟩) ?_
   .rfl
   .rfl
   rw[OT]
   simp(disch:=omega)only[↓wr,seval,wq,c,h1,d,f]
   apply ao.split<;>intro e
   .simp(disch:=omega)only[↓wr,seval,wq,c,h1,d,f]
    exact aE hk (by omega) ⟨sm g j hi (by simpa using e),c,h1,d,rfl⟩
   .simp(disch:=omega)only[↓wr,seval,wq,c,h1,d,f]
    rw[decide_eq_false (z8 g j (by simpa using e))]
  .simp(disch:=omega)only[↓wr,seval,wq,c,h1,d,f]
   rw[abt (vB (by omega) (by omega) hi)]
theorem Q8 (a b:List ByteArray) (l:aI a) (H:View):ay aa 204 [encS a,encS b] H λr _=>r=gb (decide (a=b)):=by
 refine ay.of mixed nO ?_
 unfold aI at l
 simp(disch:=omega)only[↓wr,seval,wq,jD,encS]
 apply ao.ne<;>intro h
 .simp(disch:=omega)only[↓wr,seval,wq]
  rw[decide_eq_false (vN (by omega))]
 .simp(disch:=omega)only[↓wr,seval,wq]
  refine aW.up a.length (λi T _=>a.take i=b.take i/\T 0=encS a/\T 1=encS b/\T 12=gi a.length/\T 13=gi i) ⟨by simp,rfl,rfl,rfl,rfl⟩ ?_
  rintro i k T H hk ⟨hi,c,h1,d,f⟩
  simp(disch:=omega)only[↓wr,seval,wq,ji,c,h1,d,f,encS]
  apply ao.dec<;>intro m
  .have g:a[i]?=some (a[i]'(by omega)):=aaQ (by omega)
   have j:b[i]?=some (b[i]'(by omega)):=aaQ (by omega)
   generalize a[i]'(by omega)=x at g
   generalize b[i]'(by omega)=y at j
   simp(disch:=omega)only[↓wr,seval,wq,c,h1,d,f,encS,aaS,g,j,Je]
   apply ao.split<;>intro e
   .simp(disch:=omega)only[↓wr,seval,wq,c,h1,d,f]
    exact aE hk (by omega) ⟨sm g j hi (by simpa using e),c,h1,d,rfl⟩
   .simp(disch:=omega)only[↓wr,seval,wq,c,h1,d,f]
    rw[decide_eq_false (z8 g j (by simpa using e))]
  .simp(disch:=omega)only[↓wr,seval,wq,c,h1,d,f]
   rw[abt (vB (by omega) (by omega) hi)]
theorem Tu (a b:List Int) (l:aI a) (H:View):ay aa 254 [encI a,encI b] H λr _=>r=gb (decide (a=b)):=by
 refine ay.of mixed r5 ?_
 unfold aI at l
 simp(disch:=omega)only[↓wr,seval,wq,l8,encI]
 apply ao.ne<;>intro h
 .simp(disch:=omega)only[↓wr,seval,wq]
  rw[decide_eq_false (vN (by omega))]
 .simp(disch:=omega)only[↓wr,seval,wq]
  refine aW.up a.length (λi T _=>a.take i=b.take i/\T 0=encI a/\T 1=encI b/\T 12=gi a.length/\T 13=gi i) ⟨by simp,rfl,rfl,rfl,rfl⟩ ?_
  rintro i k T H hk ⟨hi,c,h1,d,f⟩
  simp(disch:=omega)only[↓wr,seval,wq,kX,c,h1,d,f,encI]
  apply ao.dec<;>intro m
  .have g:a[i]?=some (a[i]'(by omega)):=aaQ (by omega)
   have j:b[i]?=some (b[i]'(by omega)):=aaQ (by omega)
   generalize a[i]'(by omega)=x at g
   generalize b[i]'(by omega)=y at j
   simp(disch:=omega)only[↓wr,seval,wq,c,h1,d,f,encI,aaS,g,j]
   apply ao.ne<;>intro e
   .simp(disch:=omega)only[↓wr,seval,wq,c,h1,d,f]
    rw[decide_eq_false (z8 g j e)]
   .simp(disch:=omega)only[↓wr,seval,wq,c,h1,d,f]
    exact aE hk (by omega) ⟨sm g j hi e,c,h1,d,rfl⟩
  .simp(disch:=omega)only[↓wr,seval,wq,c,h1,d,f]
   rw[abt (vB (by omega) (by omega) hi)]
theorem Ub (a b:List Term) (c:aI a):aC aa 203 [.aZ (a.map dg),.aZ (b.map dg)] (gb (decide (a=b))):=aC.val (SN wD wD) (RL a b c)
theorem RP (a b:List ByteArray) (d:aI a):aC aa 204 [encS a,encS b] (gb (decide (a=b))):=aC.val (by
 intro v c;simp at c
 rcases c with rfl | rfl<;>exact By _) (Q8 a b d)
theorem Rb (a b:List Int) (d:aI a):aC aa 254 [encI a,encI b] (gb (decide (a=b))):=aC.val (by
 intro v c;simp at c
 rcases c with rfl | rfl<;>exact bC _) (Tu a b d)
theorem VT (x y:bc) (b:aI x.right):aC aa 206 [.agg (aQ x),.agg (aQ y)] (gb (decide (x=y))):=by
 refine aC.val (by
  intro v a;simp at a
  rcases a with rfl | rfl<;>exact bW _ (gn _)) λH=>?_
 rw[Wl]
 refine ay.of mixed HG ?_
 simp(disch:=omega)only[↓wr,seval,wq,DG,aQ,encI]
 repeat' (first | ((first|apply ao.dec|apply ao.eq|apply ao.ne|apply ao.split)<;>intro)|(refine az.pure (Rb x.right y.right b) ?_)|(simp(disch:=omega)only[↓wr,seval,wq,aQ]))
 all_goals simp[*]
theorem LD (a b:List bc) (s:aI a) (hr:∀r∈a,aI r.right) (H:View):ay aa 205 [.aZ (a.map aQ),.aZ (b.map aQ),.fn 206 [] []] H λr _=>r=gb (decide (a=b)):=by
 refine ay.of mixed gB ?_
 unfold aI at s
 simp(disch:=omega)only[↓wr,seval,wq,dX]
 apply ao.ne<;>intro h
 .simp(disch:=omega)only[↓wr,seval,wq]
  rw[decide_eq_false (vN (by omega))]
 .simp(disch:=omega)only[↓wr,seval,wq]
  refine aW.up a.length (λi T _=>a.take i=b.take i/\T 15=.aZ (a.map aQ)/\T 1=.aZ (b.map aQ)/\T 2=.fn 206 [] []/\T 16=gi a.length/\T 17=gi i) ⟨by simp,rfl,rfl,rfl,rfl,rfl⟩ ?_
  rintro i k T H hk ⟨hi,c,h1,d,f,g⟩
  simp(disch:=omega)only[↓wr,seval,wq,dR,c,h1,d,f,g]
  apply ao.dec<;>intro t
  .have j:a[i]?=some (a[i]'(by omega)):=aaQ (by omega)
   have l:b[i]?=some (b[i]'(by omega)):=aaQ (by omega)
   have hm:a[i]'(by omega)∈a:=aaW _
   generalize a[i]'(by omega)=x at j hm
   generalize b[i]'(by omega)=y at l
   have p:=hr x hm
   simp(disch:=omega)only[↓wr,seval,wq,c,h1,d,f,g,aaS,j,l,aQ,encI]
   intro n u
   try simp(disch:=omega)only[↓wr,seval,wq,c,h1,d,f,g,aaS,j,l,aQ,encI]
   intro m q
   have o:=(cp q cy).1
   try simp(disch:=omega)only[↓wr,seval,wq,c,h1,d,f,g,aaS,j,l,aQ,encI,o,o.symm]
   refine az.pure (VT x y p) ?_
   simp(disch:=omega)only[↓wr,seval,wq,c,h1,d,f,g]
   apply ao.split<;>intro e
   .simp(disch:=omega)only[↓wr,seval,wq,c,h1,d,f,g]
    exact aE hk (by omega) ⟨sm j l hi (by simpa using e),c,h1,d,f,rfl⟩
   .simp(disch:=omega)only[↓wr,seval,wq,c,h1,d,f,g]
    rw[decide_eq_false (z8 j l (by simpa using e))]
  .simp(disch:=omega)only[↓wr,seval,wq,c,h1,d,f,g]
   rw[abt (vB (by omega) (by omega) hi)]
theorem Ku (a b:List bc) (d:aI a) (hr:∀r∈a,aI r.right):aC aa 205 [.aZ (a.map aQ),.aZ (b.map aQ),.fn 206 [] []] (gb (decide (a=b))):=aC.val (by
 intro v c;simp at c
 rcases c with rfl | rfl | rfl
 .exact fi _ _ λx _=>gn x
 .exact fi _ _ λx _=>gn x
 .exact Hd (by simp) (by simp)) (LD a b d hr)
theorem UQ (g k:aj) (a:g.Ok):aC aa 143 [.agg (ak g),.agg (ak k)] (gb (decide (g=k))):=by
 refine aC.val (I9 g k) λH=>?_
 rw[JT]
 refine ay.of mixed Jx ?_
 simp(disch:=omega)only[↓wr,seval,wq,FZ,ak,encS]
 repeat' (first | ((first|apply ao.dec|apply ao.eq|apply ao.ne|apply ao.split)<;>intro)|(refine az.pure (Ub g.ax k.ax a.ax) ?_)|(refine az.pure (RP g.av k.av a.av) ?_)|(refine az.pure (Ku g.rules k.rules a.rules (λr hr=>(a.aB r hr).2.2.1)) ?_)|(simp(disch:=omega)only[↓wr,seval,wq,ak,encS]))
 all_goals simp_all [Xf]
def IG:SF:=⟨ai [ag [cm 1 0,bh 2 false],ag [aU 7 4 1,aV 8 92 [7],af 6 8,c7 9 0 6,c7 10 1 6,c7 11 2 6,((some 3),.op (.alloc [(.emp 1),(.emp 1),(.emp 1),(.val (.int .i64 0))])),cz 4 3 9,af 4 10,af 5 11],.region false [⟨none,[af 12 5,aH 13 .eql 12 0,af 14 13]⟩,⟨(some (14,true)),[aU 15 4 1,aU 16 4 3,aV 17 143 [15,16]]⟩,⟨none,[dO 18 14 17,af 2 18]⟩],.ret],
 [.tmp 2],19⟩
theorem Mj:aJ aa 82 [1]=some IG:=by kernel_rfl
def vJ:SF:=⟨ai [ag [cm 1 0,bh 2 false],ag [aU 7 4 1,aV 8 47 [7],af 6 8,c7 9 0 6,c7 10 1 6,c7 11 2 6,((some 3),.op (.alloc [(.emp 1),(.emp 1),(.emp 1),(.val (.int .i64 0))])),cz 4 3 9,af 4 10,af 5 11],.region false [⟨none,[af 12 5,aH 13 .eql 12 0,af 14 13]⟩,⟨(some (14,true)),[aU 15 4 1,aU 16 4 3,aV 17 31 [15,16]]⟩,⟨none,[dO 18 14 17,af 2 18]⟩],.ret],
 [.tmp 2],19⟩
theorem AU:aJ aa 15 [1]=some vJ:=by kernel_rfl
theorem Sx (g:aj) (a:g.Ok) (b:g.Small):aC aa 82 [.agg (ak g)] (gb (isRed g)):=by
 refine aC.val (dS g) λH=>?_
 refine ay.of mixed Mj ?_
 simp(disch:=omega)only[↓wr,seval,wq,IG,ak,encS]
 refine az.pure (QF g a b).pure ?_
 unfold isRed
 generalize iR g=x
 obtain⟨k,il,e⟩:=x
 simp(disch:=omega)only[↓wr,seval,wq,Ac,ak,encS]
 intro n c
 apply ao.eq<;>intro h
 .simp(disch:=omega)only[↓wr,seval,wq,Ac,ak,encS]
  refine az.pure (UQ g k a) ?_
  simp(disch:=omega)only[↓wr,seval,wq]
  simp[h]
 .simp(disch:=omega)only[↓wr,seval,wq]
  simp[h]
theorem LP (g:aj) (a:g.Ok):aC aa 15 [.agg (ak g)] (gb (isRed g)):=by
 refine aC.val (dS g) λH=>?_
 refine ay.of mixed AU ?_
 simp(disch:=omega)only[↓wr,seval,wq,vJ,ak,encS]
 refine az.pure (My g a).pure ?_
 unfold isRed
 generalize iR g=x
 obtain⟨k,il,e⟩:=x
 simp(disch:=omega)only[↓wr,seval,wq,Ac,ak,encS]
 intro n b
 apply ao.eq<;>intro h
 .simp(disch:=omega)only[↓wr,seval,wq,Ac,ak,encS]
  refine az.pure (Uu g k a) ?_
  simp(disch:=omega)only[↓wr,seval,wq]
  simp[h]
 .simp(disch:=omega)only[↓wr,seval,wq]
  simp[h]
def Y7:aj:=⟨[⟨⟨#[39,97,39]⟩,0,0⟩,⟨⟨#[39,98,39]⟩,0,0⟩,⟨⟨#[39,99,39]⟩,0,0⟩,⟨⟨#[39,100,39]⟩,0,0⟩],[⟨#[115]⟩,⟨#[117]⟩,⟨#[118]⟩],[⟨0,[0,(-2)],0⟩,⟨0,[1],1⟩,⟨0,[],(-1)⟩,⟨1,[(-2),2],2⟩,⟨2,[3,(-1)],3⟩],0⟩
def YS:aj:=⟨Y7.ax,[⟨#[115]⟩],[⟨0,[1],1⟩,⟨0,[],(-1)⟩],0⟩
theorem rD:isRed YS=true:=by kernel_rfl
def tj:SF:=⟨ai [ag [bT 2 1],ag [bT 3 2,af 4 0,fL 5 1 8 3 4,af 2 5],.ret],
 [.tmp 2],6⟩
theorem yZ:aJ aa 37 []=some tj:=by kernel_rfl
theorem Se (l:List Int) (d:l.length<=100000) (H:View):ay aa 37 [encI l] H λr H'=>aP H' r 1 (aM l)/\cn H H' r:=by
 refine ay.of mixed yZ ?_
 simp(disch:=omega)only[↓wr,seval,wq,tj,encI]
 refine eL (H:=H) .nil (by simp[aK]) (by unfold aF;simp;omega) (by unfold aF;simp;omega) ?_
 intro u' H' c a
 simp(disch:=omega)only[↓wr,seval,wq]
 exact⟨c,λid b=>a id b (by simp[owner])⟩
theorem dD.fr {h:Heap} {v t:V} (f:dD h v t):Fr h v t:=by
 induction f with
 | val v=>exact .tree _ (.val _)
 | emp k=>exact .emp k
 | sl id off len esz z es es' h1 c d e _ b=>exact .sl id off len esz z es es' h1 c d e b
 | agg cs a h1 _ b=>exact .agg cs a h1 b
 | bb cs a h1 _ b=>exact .bb cs a h1 b
noncomputable def Sq:List (FuncId × DF):=CG aa [(251,[]),(180,[]),(236,[]),(237,[])]
theorem Ry:sE aa Sq:=vL _ _
def cB (p:bB):List V:=[gi p.aB,gi p.bH,gi p.rules,gi p.ax]
abbrev kb (P:List bB):V:=.aZ (P.map cB)
theorem uL (P:List bB):Tree (kb P):=fi _ _ λx _ v a=>by
 simp[cB] at a
 rcases a with rfl | rfl | rfl | rfl<;>exact .val _
theorem Y5 {n:Nat} (h:uY aa Sq (λ_ _ _=>none) 251 [kb [ka],gi n]=some (kb (List.replicate n ka))):cg aa 251 [kb [ka],gi n] (kb (List.replicate n ka)):=
 qM mixed Ry (QO _) (by
  intro v a;simp at a
  rcases a with rfl | rfl
  .exact uL [ka]
  .exact .val _) h
theorem Tm {n:Nat} (h1:1<=n) (a:n<=16):cg aa 251 [kb [ka],gi n] (kb (List.replicate n ka)):=by
 have:n=1∨n=2∨n=3∨n=4∨n=5∨n=6∨n=7∨n=8∨n=9∨n=10∨n=11∨n=12∨n=13∨n=14∨n=15∨n=16:=by omega
 rcases this with rfl | rfl | rfl | rfl | rfl | rfl | rfl | rfl | rfl | rfl | rfl | rfl | rfl | rfl | rfl | rfl<;>exact Y5 (by kernel_rfl)
theorem FW (p:bB):∀v∈cB p,Tree v:=by
 intro v a;simp[cB] at a
 rcases a with rfl | rfl | rfl | rfl<;>exact .val _
theorem Yn (h:Heap) (p:bB):dD h (.agg (cB p)) (.agg (cB p)):=.agg _ _ rfl λi hi=>by
 match i,hi with
 | 0,_=>exact .val _
 | 1,_=>exact .val _
 | 2,_=>exact .val _
 | 3,_=>exact .val _
 | n+4,h=>exact absurd h (by simp[cB])
def Dz (p:bB):Prop:=eY p/\(-1<=p.aB/\p.aB<=1000000)/\0<=p.bH/\p.bH<=1000000
theorem Wf:Dz bo:=by unfold Dz eY bo;decide
theorem K6 {x:Int} : (if x<1048576 then x else 1048576)=min 1048576 x:=by omega
theorem Ul {x y:Int} : (if y>x then y else x)=max x y:=by omega
def AQ:SC:=
 ai [ag [aS 12 .lss 11 10],bP 12 (.exit 0),.block 1 (ai [ag [aL 13 1 9 11,au 14 13,af 7 14],ai [ag [af 15 7,aH 16 .geq 15 0],aX 16 (ai [ag [aw 17 3 4,au 18 17,aH 19 .add 18 1,((some 20),.op (.mm false (.val (.val (.int .i64 1048576))) (.tmp 19))),aw 21 3 4,cz 1 21 20],.exit 1])],ag [af 22 1,af 23 7,((some 24),.op (.arith .sub (.val (.val (.int .i64 (-1)))) (.tmp 23))),aL 25 4 22 24,aU 26 4 25,((some 8),.op (.alloc [(.val (.int .i64 0)),(.val (.int .i64 0)),(.val (.int .i64 0)),(.val (.int .i64 0))])),cz 4 8 26],ai [ag [aw 27 0 8,au 28 27,aH 29 .lss 28 0],aX 29 (ai [ag [aU 30 4 4,cz 4 4 30,bh 5 false],.ret])],ag [aw 31 1 4,au 32 31,aw 33 1 8,au 34 33,((some 35),.op (.mm true (.tmp 32) (.tmp 34))),aw 36 1 4,cz 1 36 35],.sn [(45,49)] [⟨none,[aw 37 2 4,au 38 37,aw 39 2 8,au 40 39,aS 41 .add 38 40,((some 42),.op (.mm false (.val (.val (.int .i64 1048576))) (.tmp 41))),aw 43 3 4,au 44 43,aw 45 3 8,au 46 45,aS 47 .add 44 46,((some 48),.op (.mm false (.val (.val (.int .i64 1048576))) (.tmp 47))),aw 49 2 4,cz 1 49 42,aw 50 3 4,cz 1 50 48]⟩]]),ag [aH 51 .add 11 1,af 11 51]]
def DB:SF:=⟨ai [ag [((some 4),.op (.alloc [(.val (.int .i64 0)),(.val (.int .i64 0)),(.val (.int .i64 0)),(.val (.int .i64 0))])),bh 5 false],ai [ag [af 9 0,aN 10 9,aT 11 0],bQ 0 AQ],ag [aU 52 4 4,cz 4 4 52,bh 5 true],.ret],
 [.cell 4 (some 4),.tmp 5],53⟩
theorem GZ:aJ aa 196 []=some DB:=by kernel_rfl
theorem Bm {P:List bB} {m:Nat} (h:m<P.length):(P.map cB)[m]?=some (cB (bA P m)):=by
 simp[bA,aaP,h]
theorem Sj (P:List bB) (o:∀m,Dz (bA P m)) (l:List Int) (p:aI l) (t:∀x∈l,bm x/\(x<0->-1-x<P.length)):
  cg aa 196 [encI l,kb P] (.bb [.agg (cB (bS P l bo).1),gb (bS P l bo).2]):=by
 have key:∀H,ay aa 196 [encI l,kb P] H λr _=>r=.bb [.agg (cB (bS P l bo).1),gb (bS P l bo).2]:=?_
 .refine cg.of (by
   intro v g;simp at g
   rcases g with rfl | rfl
   .exact bC l
   .exact uL P) ((key _).mono λr H' e A _=>?_)
  rw[e];exact KQ (Yn _ _) (.val _)
 intro H
 refine ay.of mixed GZ ?_
 unfold aI at p
 simp(disch:=omega)only[↓wr,seval,wq,DB,encI]
 intro m hm
 try simp(disch:=omega)only[↓wr,seval,wq,encI]
 refine aW.up l.length (λi T H'=>∃s:bB,Dz s/\s.aB=0/\bS P (l.drop i) s=bS P l bo/\H' m=.arr 4 [cB s]/\T 1=kb P/\T 4=.ptr m 0 0/\T 9=encI l/\T 10=gi l.length/\T 11=gi i) ?_ ?_
 .exact⟨bo,Wf,rfl,rfl,by simp[View.set,cB,bo],rfl,rfl,rfl,rfl,rfl⟩
 rintro i k T H hk ⟨s,u,d,a,hH,t1,t4,t9,t10,t11⟩
 unfold Dz eY at u
 simp(disch:=omega)only[↓wr,seval,wq,AQ,t1,t4,t9,t10,t11,encI]
 apply ao.dec<;>intro w
 .have h:l[i]?=some (l[i]'(by omega)):=aaQ (by omega)
  have c:l[i]'(by omega)∈l:=aaW _
  rw[eM (show i<l.length by omega)] at a
  generalize l[i]'(by omega)=x at h c a
  obtain⟨⟨y,z⟩,f⟩:=t x c
  simp(disch:=omega)only[↓wr,seval,wq,t1,t4,t9,t10,t11,encI,aaS,h]
  apply ao.dec<;>intro j
  .simp(disch:=omega)only[↓wr,seval,wq,t1,t4,t9,t10,t11,encI,hH,cB,K6]
   rw[B8 (show 0<=x from j)] at a
   refine aE hk (by omega) ⟨_,?_,?_,a,?_,t1,t4,t9,t10,rfl⟩
   .unfold Dz eY;simp only;omega
   .exact d
   .simp[View.set]
  .have hm:(cw x)<P.length:=by have:=f (by omega);unfold cw;omega
   have hp:=o (cw x)
   unfold Dz eY at hp
   simp(disch:=omega)only[↓wr,seval,wq,t1,t4,t9,t10,t11,encI,hH,Bm hm]
   simp(disch:=omega)only[↓wr,seval,wq,t1,t4,t9,t10,t11,encI,hH,cB]
   intro q n
   have b:m≠q:=by rintro rfl;rw[hH] at n;simp at n
   try simp(disch:=omega)only[↓wr,seval,wq,t1,t4,t9,t10,t11,encI,hH,b,b.symm,cB]
   apply ao.dec<;>intro he
   .simp(disch:=omega)only[↓wr,seval,wq,t1,t4,t9,t10,t11,encI,hH,b,b.symm,cB]
    rw[IN (by omega) he] at a
    rw[<-a]
   .simp(disch:=omega)only[↓wr,seval,wq,t1,t4,t9,t10,t11,encI,hH,b,b.symm,cB,K6,Ul]
    rw[D4 (by omega) he] at a
    refine aE hk (by omega) ⟨_,?_,?_,a,?_,t1,t4,t9,t10,rfl⟩
    .unfold Dz eY;simp only;omega
    .exact d
    .simp[View.set,b]
 .simp(disch:=omega)only[↓wr,seval,wq,t1,t4,t9,t10,t11,hH,cB]
  rw[abg (by omega)] at a
  rw[<-a];try rfl
def eW:SF:=⟨ai [ag [bT 2 1],ai [ag [af 3 0,((some 4),.op (.nil true 0 (.tmp 3) (.val (.emp 1))))],aX 4 (ai [ag [bT 2 1],.ret])],ag [bT 5 2,af 6 0,fL 7 4 32 5 6,af 2 7],.ret],
 [.tmp 2],8⟩
theorem kU:aJ aa 252 []=some eW:=by kernel_rfl
theorem PJ (P:List bB) (c:P.length<=100000) (h1:1<=P.length) (u:V) (H:View) (hu:u=kb P∨aP H u 4 (P.map cB)):
  ay aa 252 [u] H λr H'=>aP H' r 4 (P.map cB)/\cn H H' r:=by
 have a:((P.map cB).all λe=>e.length==4&&e.all aK)=true:=by simp[ab9,cB,aK]
 refine ay.of mixed kU ?_
 cases P with
 | nil=>simp at h1
 | cons p r =>
  simp only[aa3] at c
  rcases hu with rfl | hu
  .simp(disch:=omega)only[↓wr,seval,wq,eW,kb]
   refine⟨by simpa using a,by unfold aF;simp;omega,λm hm=>?_⟩
   simp(disch:=omega)only[↓wr,seval,wq]
   have:=aP.new (H:=H) (n:=m) (sz:=4) (es:=(p::r).map cB)
   simp only[aaU,aa3] at this
   exact⟨by simpa using this,.new hm⟩
  .obtain⟨n,rfl,b⟩:=hu.sl (by simp)
   simp only[aaU,aa3] at b ⊢
   have he:bM H (.sl n 0 (r.length+1) 4)=some ((p::r).map cB,[n]):=by
    rw[j6 _ n 0 r.length 4 4 _ b (by simp),abP,aa6 (by simp)]
   simp(disch:=omega)only[↓wr,seval,wq,eW,he]
   refine⟨by simpa using a,by unfold aF;simp;omega,λm hm=>?_⟩
   simp(disch:=omega)only[↓wr,seval,wq]
   have:=aP.new (H:=H) (n:=m) (sz:=4) (es:=(p::r).map cB)
   simp only[aaU,aa3] at this
   exact⟨by simpa using this,.new hm⟩
theorem Le {g:aj} (hr:g.rules.length<=40) {k:Nat} (hk:k<=16) (m:Nat):Dz (bA (aG g k) m):=by
 refine⟨j4 g k m,?_⟩
 by_cases h:bJ (aG g k) m
 .obtain⟨a,b,_⟩:=fI g k m h
  obtain⟨j,f,d,l,e⟩:=zn h
  obtain⟨i,r,c,_,_,hp,_⟩:=j5 e
  have hi:i<g.rules.length:=(aaX.1 c).1
  have:(bA (aG g k) m).aB=i:=by rw[hp];simp[gp]
  omega
 .rw[kg h];unfold ka;decide
def xz (H:View) (u:V) (P:List bB):Prop:=u=kb P∨aP H u 4 (P.map cB)
theorem xz.kL {H:View} {u:V} {P:List bB} (h:xz H u P):ct H u (kb P):=by
 rcases h with rfl | h
 .exact ct.tree (uL P)
 .exact ct.own h λe he v a=>by
   obtain⟨p,_,rfl⟩:=aba.1 he
   exact FW p v a
theorem xz.keep {H H':View} {u:V} {P:List bB} (h:xz H u P) (hk:∀id,owner u=some id->H' id=H id):xz H' u P:=h.imp id λh=>h.keep hk
theorem xz.live {H:View} {u:V} {P:List bB} (h:xz H u P) {id:Nat} (a:owner u=some id):H id≠.dead:=by
 rcases h with rfl | h
 .simp[owner] at a
 .rw[(h.live a).1];simp
theorem RG {N:List bB} {i m:Nat} {p:bB} (hp:0<=p.aB) (h:bJ N m):bJ (N.set i p) m:=by
 have hm:=Lo h
 unfold bJ at h ⊢
 rw[C3 hm];split
 .exact hp
 .exact h
def wi:SC:=
 ai [ag [aS 24 .lss 23 22],bP 24 (.exit 2),.block 3 (ai [ag [af 25 23,aL 26 3 21 23,aU 27 3 26,((some 7),.op (.alloc [(.val (.int .i64 0)),(.emp 1),(.val (.int .i64 0))])),af 6 25,cz 3 7 27],ai [ag [af 28 5,aw 29 0 7,au 30 29,aL 31 4 28 30,aw 32 0 31,au 33 32,aH 34 .geq 33 0],aX 34 (.exit 3)],ag [aw 36 1 7,au 37 36,af 38 3,aV 39 196 [37,38],af 35 39,c7 40 0 35,c7 41 1 35,((some 8),.op (.alloc [(.val (.int .i64 0)),(.val (.int .i64 0)),(.val (.int .i64 0)),(.val (.int .i64 0))])),cz 4 8 40,af 9 41],ag [af 42 9],aX 42 (ai [ag [af 43 5,aw 44 0 7,au 45 44,af 46 6,aw 47 1 8,au 48 47,aH 49 .add 48 1,aw 50 2 8,au 51 50,aH 52 .add 51 1,((some 53),.op (.mm false (.val (.val (.int .i64 1048576))) (.tmp 52))),aw 54 3 8,au 55 54,((some 56),.op (.build [(.val (.int .i64 0)),(.val (.int .i64 0)),(.val (.int .i64 0)),(.val (.int .i64 0))] [(0,1,(.tmp 46)),(1,1,(.tmp 49)),(2,1,(.tmp 53)),(3,1,(.tmp 55))])),aL 57 4 43 45,cz 4 57 56],ag [bh 4 false]])]),ag [aH 58 .add 23 1,af 23 58]]
def qt:SC:=
 ai [ai [ag [af 16 4,cR 17 16],bP 17 (.exit 0)],.block 1 (ai [ag [bh 4 true],ag [af 18 3,aV 19 252 [18],af 5 19],ai [ag [aw 20 2 1,au 21 20,aN 22 21,aT 23 0],bQ 2 wi],ag [af 59 5,af 3 59]])]
def Az:SF:=⟨ai [ag [cm 1 0,bT 2 1],ag [((some 10),.op (.build [(.val (.int .i64 0)),(.val (.int .i64 0)),(.val (.int .i64 0)),(.val (.int .i64 0))] [(0,1,(.val (.val (.int .i64 (-1)))))])),((some 11),.op (.bN 1 4 [(.val (.int .i64 0)),(.val (.int .i64 0)),(.val (.int .i64 0)),(.val (.int .i64 0))] [(0,(.tmp 10))])),aw 12 1 1,au 13 12,aN 14 13,aV 15 251 [11,14],af 3 15],ai [ag [bh 4 false],bQ 0 qt],ag [af 60 3,af 2 60],.ret],
 [.tmp 2],61⟩
theorem DW:aJ aa 195 [1]=some Az:=by kernel_rfl
def Ze (g:aj) (H0:View) (P:List bB) (d i:Nat) (T:Env) (H:View):Prop:=
 ∃(N:List bB) (u:V),N.length=g.av.length/\oO P i N (g.rules.drop i)=A6 g.rules P/\(∀m,bJ P m->bJ N m)/\xz H u P/\owner u≠some d/\H d=.arr 4 (N.map cB) /\
  (∀id,H0 id≠.dead->H id=H0 id/\id≠d)/\((T 4=gb true/\N=P)∨(T 4=gb false/\∃m,¬ bJ P m/\bJ N m)) /\
  T 1=.aR (ak g) 0/\T 3=u/\T 5=.sl d 0 g.av.length 4/\T 21=.aZ (g.rules.map aQ)/\T 22=gi g.rules.length/\T 23=gi i
theorem U9 (g:aj) (hg:g.Ok) (M:g.c6) (H:View):ay aa 195 [.agg (ak g)] H λr H'=>aP H' r 4 ((aA g).map cB)/\cn H H' r:=by
 refine ay.of mixed DW ?_
 have z1:=M.lp
 have z2:=M.av
 have z3:=M.rules
 simp(disch:=omega)only[↓wr,seval,wq,Az,ak,encS]
 intro n1 O
 try simp(disch:=omega)only[↓wr,seval,wq]
 refine az.kC (Tm z1 z2) (by kernel_rfl) ⟨ct.sl (off:=0) (len:=1) (esz:=4) (z:=4) (es:=[cB ka]) (by simp[View.set,cB,ka]) (by simp) (λe he v hv=>by simp at he;subst he;exact FW _ v hv),ct.tree (.val _),trivial⟩ ?_
 simp(disch:=omega)only[↓wr,seval,wq]
 refine aW.intro (λk T H'=>∃(j:Nat) (u:V),j<=g.av.length/\j<=dh (u9 (aG g j))/\xz H' u (aG g j)/\cn H H' u/\T 1=.aR (ak g) 0/\T 3=u /\
   ((T 4=gb false/\j+k=g.av.length+1)∨(T 4=gb true/\aG g j=aA g/\aP H' u 4 ((aA g).map cB)))) (g.av.length+1) ?_ ?_
 .refine⟨0,_,by omega,by omega,.inl rfl,λid a=>⟨?_,by simp[owner]⟩,rfl,rfl,.inl ⟨rfl,by omega⟩⟩
  have e:id≠n1:=by rintro rfl;exact a O
  simp[View.set,e]
 clear O
 rintro k T H1 ⟨j,u,hj,P,hu,f,t1,t3,E⟩
 rcases E with ⟨t4,a8⟩ | ⟨t4,A,s⟩
 .have hlen:=fH g j
  simp(disch:=omega)only[↓wr,seval,wq,qt,t1,t3,t4,ak,encS]
  refine az.cG ((PJ (aG g j) (by omega) (by omega) u H1 hu).mono ?_)
  rintro v H2 ⟨hv,F⟩
  obtain⟨d,rfl,p⟩:=hv.sl (by simp;omega)
  simp only[aaU,hlen]
  simp(disch:=omega)only[↓wr,seval,wq,t1,t3,t4,ak,encS]
  refine aW.up g.rules.length (Ze g H (aG g j) d) ?_ ?_
  .refine⟨aG g j,u,hlen,rfl,λ_ h=>h,hu.keep λid a=>(F id (hu.live a)).1,λe=>?_,p,λid a=>?_,.inl ⟨rfl,rfl⟩,t1,t3,rfl,rfl,rfl,rfl⟩
   .exact(F d (hu.live e)).2 rfl
   .have h1:=f id a
    have h2:=F id (by rw[h1.1];exact a)
    exact⟨by rw[h2.1,h1.1],λe=>h2.2 (by rw[e];rfl)⟩
  clear t1 t3 t4 hu f F p hv
  rintro i q T H3 hq ⟨N,u,hN,b,hle,hu,G,p,f,E,t1,t3,t5,t21,t22,t23⟩
  simp(disch:=omega)only[↓wr,seval,wq,wi,t1,t3,t5,t21,t22,t23]
  apply ao.dec<;>intro hc
  .have Q:g.rules[i]?=some (g.rules[i]'(by omega)):=aaQ (by omega)
   have y:g.rules[i]'(by omega)∈g.rules:=aaW _
   rw[eM (show i<g.rules.length by omega)] at b
   generalize g.rules[i]'(by omega)=r at Q y b
   have hl:=M.left r y
   have R:=hg.aB r y
   have S:r.left.toNat<N.length:=by omega
   have U:(N.map cB).getD r.left.toNat []=cB (bA N r.left.toNat):=by simp[bA,aaP,S]
   have hP:=λm=>Le (g:=g) z3 (show j<=16 by omega) m
   simp(disch:=omega)only[↓wr,seval,wq,t1,t3,t5,t21,t22,t23,aaS,Q,aQ,encI]
   intro n t
   have c:d≠n:=by rintro rfl;rw[p] at t;simp at t
   have W:∀o,xz (H3.set n o) u (aG g j):=λo=>hu.keep λid a=>by
    have:id≠n:=by rintro rfl;exact hu.live a t
    simp[View.set,this]
   have X:∀o,∀id,H id≠.dead->(H3.set n o) id=H id/\id≠d:=λo id a=>by
    have h1:=f id a
    have:id≠n:=by rintro rfl;rw[h1.1] at t;exact a t
    exact⟨by simp[View.set,this,h1.1],h1.2⟩
   try simp(disch:=omega)only[↓wr,seval,wq,t1,t3,t5,t21,t22,t23,p,c,c.symm]
   refine⟨by omega,by omega,?_⟩
   try simp(disch:=omega)only[↓wr,seval,wq,t1,t3,t5,t21,t22,t23,p,c,c.symm,U,cB]
   have Y:=tf (aG g j) r.right bo
   apply ao.dec<;>intro hk
   .simp(disch:=omega)only[↓wr,seval,wq,t1,t3,t5,t21,t22,t23,p,c,c.symm]
    have A:sx (aG g j) i N r=N:=by unfold sx;rw[aaT hk]
    rw[oO,A] at b
    rw[set_set]
    exact aE hq (by omega) ⟨N,u,hN,b,hle,W _,G,by simp[View.set,c,p],X _,E,t1,t3,t5,t21,t22,rfl⟩
   .simp(disch:=omega)only[↓wr,seval,wq,t1,t3,t5,t21,t22,t23,p,c,c.symm]
    refine az.kC (Sj (aG g j) hP r.right R.2.2.1 λx hx=>⟨R.2.2.2 x hx,λt=>by rw[hlen];exact M.neg y hx t⟩) (by kernel_rfl) ⟨ct.tree (bC r.right),by rw[set_set];exact(W _).kL,trivial⟩ ?_
    have Z:=pa (λm=>j4 g j m) r.right bo ib
    have a1:(0:Int)<=(bS (aG g j) r.right bo).1.bH:=Y
    have ab:iE (aG g j) r.right->(bS (aG g j) r.right bo).1.bH<=16:=λha=>(jm (aG g j) 16 r.right bo ha).2 ⟨by simp[bo],λx hx t=>by have:=(fI g j _ (ha x hx t)).2.1;omega⟩
    have ae:=ia (aG g j) r.right bo
    generalize I:bS (aG g j) r.right bo=sp at Z a1 ab ae
    unfold eY at Z
    simp(disch:=omega)only[↓wr,seval,wq,t1,t3,t5,t21,t22,t23,p,c,c.symm,cB]
    intro q2 al
    have B:=(cp al cy).1
    have l:=(cp (cp al cy).2 cy).2
    have w:d≠q2:=by rintro rfl;rw[p] at l;simp at l
    try simp(disch:=omega)only[↓wr,seval,wq,t1,t3,t5,t21,t22,t23,p,c,c.symm,B,B.symm,w,w.symm,cB]
    apply ao.split<;>intro hb
    .have bd:=ab (ae.1 hb)
     simp(disch:=omega)only[↓wr,seval,wq,t1,t3,t5,t21,t22,t23,p,c,c.symm,B,B.symm,w,w.symm,cB]
     refine⟨by omega,by omega,?_⟩
     have A:sx (aG g j) i N r=N.set r.left.toNat (gp (aG g j) i r):=by unfold sx;rw[aaR hk,I,aaT hb]
     rw[oO,A] at b
     have C:(gp (aG g j) i r)=⟨i,sp.1.bH+1,min 1048576 (sp.1.rules+1),sp.1.ax⟩:=by rw[gp,I]
     have an:0<=(gp (aG g j) i r).aB:=by rw[C];simp only;omega
     have aq:¬ bJ N r.left.toNat:=hk
     refine aE hq (by omega) ⟨_,u,by simp[hN],b,λm hm=>RG an (hle m hm),?_,G,?_,?_,.inr ⟨rfl,r.left.toNat,λa6=>aq (hle _ a6),?_⟩,t1,t3,t5,t21,t22,rfl⟩
     .refine hu.keep λid a=>?_
      have J:id≠n:=by rintro rfl;exact hu.live a t
      have K:id≠q2:=by rintro rfl;exact hu.live a l
      have e3:id≠d:=by rintro rfl;exact G a
      simp[View.set,J,K,e3]
     .simp only[View.set,if_true]
      rw[acB,C,U];simp only[cB,acX,List.drop_nil,abP,K6]
     .intro id a
      have h1:=f id a
      have J:id≠n:=by rintro rfl;rw[h1.1] at t;exact a t
      have K:id≠q2:=by rintro rfl;rw[h1.1] at l;exact a l
      exact⟨by simp[View.set,J,K,h1.2,h1.1],h1.2⟩
     .unfold bJ;rw[C3 S,aaT rfl];exact an
    .simp(disch:=omega)only[↓wr,seval,wq,t1,t3,t5,t21,t22,t23,p,c,c.symm,B,B.symm,w,w.symm,cB]
     have A:sx (aG g j) i N r=N:=by unfold sx;rw[aaR hk,I,aaR (by rw[hb];simp)]
     rw[oO,A] at b
     refine aE hq (by omega) ⟨N,u,hN,b,hle,?_,G,by simp[View.set,c,w,p],?_,E,t1,t3,t5,t21,t22,rfl⟩
     .refine hu.keep λid a=>?_
      have J:id≠n:=by rintro rfl;exact hu.live a t
      have K:id≠q2:=by rintro rfl;exact hu.live a l
      simp[View.set,J,K]
     .intro id a
      have h1:=f id a
      have J:id≠n:=by rintro rfl;rw[h1.1] at t;exact a t
      have K:id≠q2:=by rintro rfl;rw[h1.1] at l;exact a l
      exact⟨by simp[View.set,J,K,h1.1],h1.2⟩
  .simp(disch:=omega)only[↓wr,seval,wq,t1,t3,t5,t21,t22,t23]
   rw[abg (by omega),oO,<-qJ] at b
   have s:aP H3 (.sl d 0 g.av.length 4) 4 (N.map cB):=.inr ⟨d,by simp[hN],p⟩
   have ar:cn H H3 (.sl d 0 g.av.length 4):=λid a=>⟨(f id a).1,λe=>(f id a).2 (by simp[owner] at e;exact e.symm)⟩
   rw[b] at s
   rcases E with ⟨E,he⟩ | ⟨E,m,a7,L⟩
   .have D:aG g (j+1)=aG g j:=by rw[<-b,he]
    have C:=UD hj D
    rw[D] at s
    exact⟨0,by omega,j,_,hj,P,.inr s,ar,rfl,rfl,.inr ⟨E,C,by rw[<-C];exact s⟩⟩
   .rw[b] at L
    rcases QM P with e | e
    .rw[e] at L;exact absurd L a7
    .have:=MC g (j+1)
     exact⟨k-1,by omega,j+1,_,by omega,e,.inr s,ar,rfl,rfl,.inl ⟨E,by omega⟩⟩
 .simp(disch:=omega)only[↓wr,seval,wq,qt,t1,t3,t4]
  exact⟨s,f⟩
theorem TW {h:Heap} {u:V} {P:List bB} (b:aP h.view u 4 (P.map cB)):dD h u (kb P):=by
 refine dD.own b rfl (λi _=>rfl) (λi j hi a=>?_)
 simp only[aaU] at hi
 have e:(P.map cB).getD i []=cB P[i]:=by simp[aaP,hi]
 rw[e] at a ⊢
 match j,a with
 | 0,_=>exact .val _
 | 1,_=>exact .val _
 | 2,_=>exact .val _
 | 3,_=>exact .val _
 | n+4,h=>exact absurd h (by simp[cB])
theorem Vj (g:aj) (a:g.Ok) (b:g.c6):cg aa 195 [.agg (ak g)] (kb (aA g)):=
 cg.of (dS g) ((U9 g a b _).mono λr H' h d c=>TW (by rw[c];exact h.1))
def iV (g:aj):List Int:=(aA g).map bB.aB
end Gv
