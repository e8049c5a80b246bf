/-
  Part 18 of the proof: what the machine does and what the functions answer.
  Conditions: those that each lemma names.
-/
import Derived.Test.YtihmlbdfcmfbdaaGreatSGzB3Q
set_option linter.unusedSimpArgs false
set_option linter.unusedVariables false
set_option maxRecDepth 100000
set_option maxHeartbeats 20000000
namespace Gv
open Go Go.Proofs
section
variable {g:aj} {a:List aM}
theorem Gm (n:cL g a) {k y:Nat} (hk:k < g.rules.length):∀ (l:List Int) (d q:Nat),q < a.length->(⟨k,d⟩:aB)∈kp g a q->(ay g k).right.drop d=l ->
  (y∈pE g a q l↔∃ (j c:Nat) (C:Int),l[j]?=some (-1 - C)/\0<=C/\jB a q (l.take j) c/\c7 (l.drop (j+1)) (av g false) false=true/\(bk a)[y]?=some ((c:Int),C))
 | [],d,q,hq,p,hl=>by simp[pE]
 | s :: l,d,q,hq,p,hl=>by
  have f:aW g (k:Int)=(ay g k).right:=by rw[aW,Zk (by omega)]
  obtain⟨u,t,A⟩:=uu (g:=g) (r:=k) (d:=d) (s:=s) (l:=l) (by rw[f,hl])
  obtain⟨s1,s2,v,w⟩:=n.step hq p u
  have x:=Gm n hk (y:=y) l (d+1) (eK a q s) w (by push_cast;exact v) (by rw[f] at t;exact t)
  rw[pE,ZN,x]
  constructor
  .rintro (h | ⟨j,c,C,h1,o,b,i,m⟩)
   .split at h
    .rename_i z
     rw[aaj] at h
     subst h
     have e : -1 - (-1 - s)=s:=by omega
     exact⟨0,q,-1 - s,by simp[e],by omega,.nil,by simpa using z.2,ky (dB.2 ⟨by omega,by rw[e];exact s1⟩)⟩
    .simp at h
   .exact⟨j+1,c,C,by simpa using h1,o,.cons s1 b,by simpa using i,m⟩
  .rintro⟨j,c,C,h1,o,b,i,m⟩
   cases j with
   | zero =>
    left
    simp only[List.take_zero] at b
    cases b
    have hs:s = -1 - C:=by simpa using h1
    rw[Zn ⟨by omega,by simpa using i⟩,aaj]
    rw[hs,show -1 - (-1 - C)=C by omega]
    exact(KN (BC n) m).symm
   | succ j =>
    right
    rw[aa7] at b
    cases b with
    | cons _ b=>exact⟨j,c,C,by simpa using h1,o,b,by simpa using i,m⟩
def rY (g:aj) (a:List aM) (x:Nat) (f:Nat->List Nat) (k:Nat):Nat->List Nat:=if (ay g k).left=(dC a x).2 then kL f x (pE g a (dC a x).1.toNat (ay g k).right) else f
def N3 (g:aj) (a:List aM) (f:Nat->List Nat) (x:Nat):Nat->List Nat:=(List.range g.rules.length).foldl (rY g a x) f
def kD (g:aj) (a:List aM) (n:Nat):Nat->List Nat:=(List.range n).foldl (N3 g a) λ_=>[]
theorem Iu {x y z:Nat} : ∀ (n:Nat) (f:Nat->List Nat),z∈(List.range n).foldl (rY g a x) f y↔z∈f y∨(z=x/\∃ k,k < n/\(ay g k).left=(dC a x).2/\y∈pE g a (dC a x).1.toNat (ay g k).right)
 | 0,f=>by simp
 | n+1,f=>by
  have d:=Iu (x:=x) (y:=y) (z:=z) n f
  rw[Z8,Z7,ZS,aaC,rY]
  have key:∀ k,(k < n+1/\(ay g k).left=(dC a x).2/\y∈pE g a (dC a x).1.toNat (ay g k).right)↔(k < n/\(ay g k).left=(dC a x).2/\y∈pE g a (dC a x).1.toNat (ay g k).right)∨(k=n/\(ay g k).left=(dC a x).2/\y∈pE g a (dC a x).1.toNat (ay g k).right):=λk=>by
   constructor
   .rintro⟨h1,b⟩
    rcases ZI k n with q | q
    .exact .inl ⟨q,b⟩
    .exact .inr ⟨by omega,b⟩
   .rintro (⟨h1,b⟩ | ⟨h1,b⟩)
    .exact⟨by omega,b⟩
    .exact⟨by omega,b⟩
  split
  .rename_i c
   rw[Hy,d]
   constructor
   .rintro ((h | ⟨h,k,h1⟩) | ⟨h,h1⟩)
    .exact .inl h
    .exact .inr ⟨h,k,(key k).2 (.inl h1)⟩
    .exact .inr ⟨h,n,by omega,c,h1⟩
   .rintro (h | ⟨h,k,h1⟩)
    .exact .inl (.inl h)
    .rcases (key k).1 h1 with h1 | ⟨rfl,_,h1⟩
     .exact .inl (.inr ⟨h,k,h1⟩)
     .exact .inr ⟨h,h1⟩
  .rename_i c
   rw[d]
   constructor
   .rintro (h | ⟨h,k,h1⟩)
    .exact .inl h
    .exact .inr ⟨h,k,(key k).2 (.inl h1)⟩
   .rintro (h | ⟨h,k,h1⟩)
    .exact .inl h
    .rcases (key k).1 h1 with h1 | ⟨rfl,b,_⟩
     .exact .inr ⟨h,k,h1⟩
     .exact absurd b c
theorem C1 {y z:Nat} : ∀ n:Nat,z∈kD g a n y↔z < n/\∃ k,k < g.rules.length/\(ay g k).left=(dC a z).2/\y∈pE g a (dC a z).1.toNat (ay g k).right
 | 0=>by simp[kD]
 | n+1=>by
  have c:=C1 (y:=y) (z:=z) n
  unfold kD at c ⊢
  rw[Z8,Z7,ZS,aaC,N3,Iu,c]
  constructor
  .rintro (⟨h1,b⟩ | ⟨rfl,b⟩)
   .exact⟨by omega,b⟩
   .exact⟨by omega,b⟩
  .rintro⟨h1,b⟩
   by_cases e:z=n
   .subst e;exact .inr ⟨rfl,b⟩
   .exact .inl ⟨by omega,b⟩
theorem xT {x:Nat} {y:Int × Int} (h:(bk a)[x]?=some y):dC a x=y:=by
 rw[dC,Zi,h];rfl
theorem Ns (m:cL g a) {x z p:Nat} {B:Int} (n:(bk a)[x]?=some ((p:Int),B)):z∈kD g a (bk a).length x↔∃ (e k d:Nat),k < g.rules.length/\(bk a)[z]?=some ((e:Int),(ay g k).left)/\(ay g k).right[d]?=some (-1 - B)/\jB a e ((ay g k).right.take d) p/\c7 ((ay g k).right.drop (d+1)) (av g false) false=true:=by
 rw[C1]
 constructor
 .rintro⟨h,k,hk,hl,hm⟩
  have c:(bk a)[z]?=some (dC a z):=getD_some h
  obtain⟨e,i⟩:=vq (Zp c)
  have l:=Zp c
  rw[i] at l c
  obtain⟨f,hE⟩:=dB.1 l
  have b:=ib hE
  rw[i] at hm
  simp only[ZK] at hm
  obtain⟨j,v,C,h1,s,o,t,q⟩:=(Gm m hk _ 0 e b (oP m b f hk hl hE) (by rw[aaE])).1 hm
  rw[n] at q
  simp only[Zl,Zo,Int.natCast_inj] at q
  obtain⟨rfl,rfl⟩:=q
  exact⟨e,k,j,hk,by rw[hl];exact c,h1,o,t⟩
 .rintro⟨e,k,d,hk,h,h1,s,o⟩
  have r:=(Zy.1 h).1
  obtain⟨f,hE⟩:=dB.1 (Zp h)
  have b:=ib hE
  have u:=(dB.1 (Zp n)).1
  refine⟨r,k,hk,by rw[xT h],?_⟩
  rw[xT h]
  simp only[ZK]
  exact(Gm m hk _ 0 e b (oP m b f hk rfl hE) (by rw[aaE])).2 ⟨d,p,B,h1,u,s,o,n⟩
theorem Vg (c:cL g a) {S1:Nat->BV} (f:∀ (x p t:Nat) (B:Int),(bk a)[x]?=some ((p:Int),B)->((S1 x).getLsbD t=true↔qx g a p B t)) {x p t:Nat} {B:Int} (b:(bk a)[x]?=some ((p:Int),B)) :
  mF (kD g a (bk a).length) S1 x t↔zE g a p B t:=by
 constructor
 .rintro⟨w,hr,hw⟩
  induction hr generalizing p B with
  | refl=>exact .read ((f _ _ _ _ b).1 hw)
  | @step x y w n hr e =>
   obtain⟨i,k,d,h1,j,o,q,r⟩:=(Ns c b).1 n
   have hE:=(dB.1 (Zp j)).2
   have l:=(dB.1 (Zp b)).1
   exact .Ot (e j hw) h1 hE l o q r
 .intro h
  induction h generalizing x with
  | read h=>exact⟨x,.refl,(f _ _ _ _ b).2 h⟩
  | @Ot p i k d B t z hk hE l hd hw s e =>
   have u:g.rules[k]?=some (ay g k):=by unfold ay;exact getD_some hk
   have m:=ky (dB.2 ⟨(c.dq.left _ (Zp u)).1,hE⟩)
   obtain⟨w,v,k2⟩:=e m
   exact⟨w,.step ((Ns c b).2 ⟨i,k,d,hk,m,hd,hw,s⟩) v,k2⟩
end
section
variable {g:aj} {a:List aM}
theorem KS {q:Nat} : ∀ {l:List Int} {b:Nat},jB a q l b->lq a q l=b:=λ{l b} h=>by
 induction h with
 | nil=>rfl
 | cons _ _ c=>rw[lq];exact c
def jx (g:aj) (a:List aM) (n k i:Nat):List Nat:=(List.range n).filter λx=>decide ((ay g k).left=(dC a x).2/\lq a (dC a x).1.toNat (ay g k).right=i)
theorem vD (h:cL g a) {k i x:Nat} (hk:k < g.rules.length):x∈jx g a (bk a).length k i↔∃ p:Nat,(bk a)[x]?=some ((p:Int),(ay g k).left)/\jB a p (ay g k).right i:=by
 unfold jx
 simp only[aag,aap,ZA]
 have e:aW g (k:Int)=(ay g k).right:=by rw[aW,Zk (by omega)]
 constructor
 .rintro⟨l,h1,b⟩
  have d:(bk a)[x]?=some (dC a x):=getD_some l
  have hm:=Zp d
  obtain⟨p,hp⟩:=vq hm
  rw[hp] at d hm
  rw[<-h1] at d hm
  obtain⟨f,hE⟩:=dB.1 hm
  have c:=ib hE
  obtain⟨q,m,j,n⟩:=h.fwd k (ay g k).right 0 p c (oP h c f hk rfl hE) ⟨[],by rw[e];simp⟩
  rw[hp] at b
  simp only[ZK] at b
  rw[KS j] at b
  subst b
  exact⟨p,d,j⟩
 .rintro⟨p,h1,b⟩
  refine⟨(Zy.1 h1).1,by rw[xT h1],?_⟩
  rw[xT h1]
  simp only[ZK]
  exact KS b
def nE (S:Nat->BV) (l:List Nat):BV:=l.foldl (λb x=>b ||| S x) 0
theorem Md {S:Nat->BV} {t:Nat} : ∀ (l:List Nat) (b:BV),(l.foldl (λb x=>b ||| S x) b).getLsbD t=true↔b.getLsbD t=true∨∃ x∈l,(S x).getLsbD t=true
 | [],b=>by simp
 | x :: l,b=>by
  rw[ZS,Md l,Z5,aam]
  simp only[Zz,exists_eq_or_imp]
  exact or_assoc
def jL (g:aj) (a:List aM) (S:Nat->BV) (i k:Nat):Option cz:=if jx g a (bk a).length k i=[] then none else some ⟨k,nE S (jx g a (bk a).length k i)⟩
def Ct (g:aj) (a:List aM) (S:Nat->BV) (i:Nat):List cz:=(List.range g.rules.length).filterMap (jL g a S i)
theorem GZ:∀ {l m:List cz},l.Pairwise (λx y=>x.aw < y.aw)->m.Pairwise (λx y=>x.aw < y.aw)->(∀ x,x∈l↔x∈m)->l=m
 | [],[],_,_,_=>rfl
 | [],y :: m,_,_,h=>by have:=(h y).2 (by simp);simp at this
 | x :: l,[],_,_,h=>by have:=(h x).1 (by simp);simp at this
 | x :: l,y :: m,h1,c,h=>by
  rw[aaL] at h1 c
  have e:x=y:=by
   rcases Zz.1 ((h x).1 (by simp)) with e | d
   .exact e
   .rcases Zz.1 ((h y).2 (by simp)) with e | f
    .exact e.symm
    .have:=h1.1 y f
     have:=c.1 x d
     omega
  subst e
  rw[GZ h1.2 c.2 λz=>?_]
  constructor
  .intro b
   rcases Zz.1 ((h z).1 (by simp[b])) with e | a
   .have:=h1.1 z b;rw[e] at this;omega
   .exact a
  .intro b
   rcases Zz.1 ((h z).2 (by simp[b])) with e | a
   .have:=c.1 z b;rw[e] at this;omega
   .exact a
theorem UY {x:aB} (d:cB g x) (a:(bA g x).2=false) (e:0<=x.aw):∃ k:Nat,k < g.rules.length/\x=⟨k,((ay g k).right.length:Nat)⟩:=by
 obtain⟨k,hk⟩:∃ k:Nat,x.aw=k:=⟨x.aw.toNat,by omega⟩
 have b:k < g.rules.length:=by have:=d.1;omega
 refine⟨k,b,?_⟩
 have c:aW g (k:Int)=(ay g k).right:=by rw[aW,Zk (by omega)]
 unfold bA at a
 rw[hk,c] at a
 split at a
 .rename_i h
  cases x
  simp only at hk h
  rw[hk,h]
 .simp at a
theorem UP (f:cL g a) (hr:isRed g=true) {S:Nat->BV} (w:∀ (x p t:Nat) (B:Int),(bk a)[x]?=some ((p:Int),B)->((S x).getLsbD t=true↔zE g a p B t)) {i:Nat} (hi:i < a.length):Ct g a S i=gP g a i:=by
 have r:∀ k:Nat,aW g (k:Int)=(ay g k).right:=λk=>by rw[aW,Zk (by omega)]
 have s:∀ k:Nat,bA g ⟨k,((ay g k).right.length:Nat)⟩=(0,false):=λk=>by
  unfold bA;simp only[r,if_true]
 have n:(aY g a).getD i []=kp g a i:=by
  unfold aY kp
  simp[Zi,Zj hi]
 have o:∀ k:Nat,k < g.rules.length->(jx g a (bk a).length k i≠[]↔(⟨k,((ay g k).right.length:Nat)⟩:aB)∈kp g a i):=λk hk=>by
  have u:g.rules[k]?=some (ay g k):=by unfold ay;exact getD_some hk
  rw[Xq f hi hk]
  constructor
  .intro h
   obtain⟨x,v⟩:=List.exists_mem_of_ne_nil _ h
   obtain⟨p,h1,m⟩:=(vD f hk).1 v
   exact⟨p,m,(dB.1 (Zp h1)).2⟩
  .rintro⟨p,h1,m⟩
   have j:=ky (dB.2 ⟨(f.dq.left _ (Zp u)).1,m⟩)
   exact List.ne_nil_of_mem ((vD f hk).2 ⟨p,j,h1⟩)
 have l:∀ k:Nat,k < g.rules.length->nE S (jx g a (bk a).length k i)=tb g a i ⟨k,((ay g k).right.length:Nat)⟩:=λk hk=>by
  have u:g.rules[k]?=some (ay g k):=by unfold ay;exact getD_some hk
  refine xy λt D=>?_
  rw[aan,nE,Md,tb,DM _ 32 t (Zt _)]
  simp only[ZA]
  rw[WU f hr hk]
  constructor
  .rintro (h | ⟨x,v,d⟩)
   .simp at h
   .obtain⟨p,h1,m⟩:=(vD f hk).1 v
    exact⟨D,p,m,(dB.1 (Zp h1)).2,(w x p t _ h1).1 d⟩
  .rintro⟨_,p,E,F,G⟩
   have j:=ky (dB.2 ⟨(f.dq.left _ (Zp u)).1,F⟩)
   exact .inr ⟨_,(vD f hk).2 ⟨p,j,E⟩,(w _ _ _ _ j).2 G⟩
 refine GZ ?_ ?_ λx=>?_
 .rw[Ct,List.pairwise_filterMap]
  refine List.pairwise_lt_range.imp λ{k K} H b d I c=>?_
  unfold jL at d c
  split at d
  .simp at d
  .split at c
   .simp at c
   .simp only[Zl] at d c
    rw[<-d,<-c]
    simp only
    omega
 .rw[gP,n,List.pairwise_filterMap]
  refine(kz g _).imp λ{x y} q b d I c=>?_
  split at d
  .rename_i h1
   split at c
   .rename_i m
    simp only[Zl] at d c
    rw[<-d,<-c]
    simp only
    rw[fY] at q
    rcases q with h | ⟨h,L⟩
    .exact h
    .exfalso
     have e:∀ z:aB,(bA g z).2=false->z.dot=(aW g z.aw).length:=λz j=>by
      unfold bA at j
      split at j
      .assumption
      .simp at j
     have J:=e x h1.1
     have M:=e y m.1
     rw[h] at J
     omega
   .simp at c
  .simp at d
 .rw[Ct,gP,n,aaD,aaD]
  constructor
  .rintro⟨k,hk,h⟩
   have hk:=aap.1 hk
   unfold jL at h
   split at h
   .simp at h
   .rename_i d
    refine⟨_,(o k hk).1 d,?_⟩
    rw[Zn ⟨by rw[s],by simp only;omega⟩,<-l k hk]
    exact h
  .rintro⟨y,A,h⟩
   split at h
   .rename_i C
    obtain⟨k,hk,rfl⟩:=UY (f.has hi A) C.1 C.2
    refine⟨k,aap.2 hk,?_⟩
    unfold jL
    rw[Zk ((o k hk).2 A),l k hk]
    exact h
   .simp at h
end
theorem zI {A:bW (Int × Int)} {k:Int × Int} {v:V} (h:getM A k=some v):∃ a d b,A=a ++ (k,v,b) :: d/\∀ v' c,bN k v' c A=a ++ (k,v',b) :: d:=by
 induction A with
 | nil=>simp[getM] at h
 | cons x A f =>
  unfold getM at h f
  rw[aa5] at h
  by_cases e:k=x.1
  .simp only[e,aaF,Zq,Zl] at h
   refine⟨[],A,x.2.2,by rw[e,<-h];rfl,λv' c=>?_⟩
   rw[bN,e,aaF,Zn rfl];rfl
  .rw[beq_eq_false_iff_ne.2 e] at h
   obtain⟨a,d,b,rfl,g⟩:=f h
   refine⟨x :: a,d,b,rfl,λv' c=>?_⟩
   rw[bN,beq_eq_false_iff_ne.2 e,g];rfl
theorem vx {A:bW (Int × Int)} {k:Int × Int} (h:getM A k=none) (v:V) (c:Nat):bN k v c A=A ++ [(k,v,c)]:=by
 induction A with
 | nil=>rfl
 | cons x A a =>
  unfold getM at h a
  rw[aa5] at h
  by_cases e:k=x.1
  .simp[e] at h
  .rw[beq_eq_false_iff_ne.2 e] at h
   rw[bN,beq_eq_false_iff_ne.2 e,a h];rfl
theorem vO {A:bW (Int × Int)} {k:Int × Int} : getM A k=none↔k ∉ A.map (·.1):=by
 induction A with
 | nil=>simp[getM]
 | cons x A a =>
  unfold getM at a ⊢
  rw[aa5]
  by_cases h:k=x.1
  .simp[h]
  .simp only[beq_eq_false_iff_ne.2 h,ZJ,Zz,not_or]
   rw[a]
   simp[h]
def jA (fB:Int × Int->List Nat) (A:bW (Int × Int)):List ct:=A.map λx=>(x.2.1,1,ga (fB x.1))
structure r5 (A:bW (Int × Int)) (fB:Int × Int->List Nat):Prop where
 nd:(A.map (·.1)).Nodup
 all:∀ k,fB k≠[]->getM A k≠none
def N0 (fB:Int × Int->List Nat) (k:Int × Int) (l:List Nat):Int × Int->List Nat:=λz=>if z=k then l else fB z
theorem Sd {a:Int × Int->List Nat} {A:bW (Int × Int)} {k:Int × Int} {l:List Nat} (h:k ∉ A.map (·.1)):jA (N0 a k l) A=jA a A:=by
 unfold jA
 refine abm λx b=>?_
 have:x.1≠k:=λe=>h (e ▸ List.mem_map_of_mem b)
 simp[N0,this]
theorem r5.entry {A:bW (Int × Int)} {a:Int × Int->List Nat} (h:r5 A a) {H:View} {Z:List ct} (t:aX H (Z ++ jA a A)) (k:Int × Int) (c:Nat) :
  ∃ P Q b,bN k ((getM A k).getD (.emp 1)) c A=P ++ (k,(getM A k).getD (.emp 1),b) :: Q/\(∀ v m,bN k v m (bN k ((getM A k).getD (.emp 1)) c A)=P ++ (k,v,b) :: Q)/\aX H (Z ++ (jA a P ++ ((getM A k).getD (.emp 1),1,ga (a k)) :: jA a Q))/\k ∉ P.map (·.1)/\k ∉ Q.map (·.1)/\r5 (P ++ (k,(getM A k).getD (.emp 1),b) :: Q) a:=by
 cases f:getM A k with
 | some v =>
  obtain⟨P,Q,b,rfl,hp⟩:=zI f
  have g:=h.nd
  rw[ZD,ZJ,aak] at g
  have h1:k ∉ Q.map (·.1):=(aah.1 g.2.1).1
  have u:k ∉ P.map (·.1):=λhm=>g.2.2 k hm k (by simp) rfl
  rw[ZC]
  refine⟨P,Q,b,hp v c,λv' m=>?_,?_,u,h1,h⟩
  .rw[hp v c]
   have d:getM (P ++ (k,v,b) :: Q) k=some v:=f
   obtain⟨w,z,C,e,i⟩:=zI d
   rw[hp]
  .have:=t
   rw[jA,ZD,ZJ] at this
   exact this
 | none =>
  have n:=vO.1 f
  have D:a k=[]:=aay λp=>h.all k p f
  rw[Option.getD_none,vx f]
  refine⟨A,[],c,rfl,λv' m=>?_,?_,n,by simp,?_,λE q=>?_⟩
  .have d:getM (A ++ [(k,V.emp 1,c)]) k=some (.emp 1):=by
    rw[<-vx f,rz,aaF,Zn rfl]
   obtain⟨w,z,C,e,i⟩:=zI d
   rw[<-vx f (.emp 1) c]
   clear i e d
   induction A with
   | nil=>simp[bN]
   | cons x A I =>
    have o:k≠x.1:=λe=>n (by simp[e])
    have j:getM A k=none:=vO.2 λhm=>n (by simp[hm])
    rw[bN,beq_eq_false_iff_ne.2 o]
    simp only[ZM,if_false]
    rw[bN,beq_eq_false_iff_ne.2 o]
    simp only[ZM,if_false,Z4,abr,true_and]
    rw[vx j]
    have:∀ B:bW (Int × Int),getM B k=none->bN k v' m (B ++ [(k,V.emp 1,c)])=B ++ [(k,v',c)]:=by
     intro B
     induction B with
     | nil=>intro _;simp[bN]
     | cons y B r =>
      intro F
      have l:=vO.1 F
      have s:k≠y.1:=λe=>l (by simp[e])
      rw[Z4,bN,beq_eq_false_iff_ne.2 s]
      simp only[ZM,if_false,Z4,abr,true_and]
      exact r (vO.2 λhm=>l (by simp[hm]))
    exact this A j
  .rw[D]
   have G:=t.emp (k:=1) (sz:=1)
   have e:Z ++ (jA a A ++ (V.emp 1,1,ga []) :: jA a [])=(Z ++ jA a A) ++ [(V.emp 1,1,[])]:=by simp[jA]
   rw[e]
   exact G.perm (List.perm_append_comm (l₁:=[_]))
  .rw[ZD,aak]
   refine⟨h.nd,by simp,λx o y l e=>?_⟩
   simp at l
   exact n (by rw[<-l,<-e];exact o)
  .rw[<-vx f,rz]
   split
   .simp
   .exact h.all E q
def w8:SC :=
 ae [ab [aS 57 .lss 56 55],bT 57 (.exit 2),.block 3 (ae [ab [aa 58 56,aH 59 3 54 56,aT 60 3 59,((some 11),.op (.alloc [(.val (.int .i64 0)),(.emp 1),(.val (.int .i64 0))])),aa 10 58,bK 3 11 60],ab [ao 61 0 11,ai 62 61,ao 63 1 9,ai 64 63,aS 65 .eql 62 64],bc 65 (ae [ab [aa 66 6,aT 67 2 9,aT 68 3 11,bh 69 74 [66,67,68],aa 70 10,((some 71),.op (.build [(.val (.int .i64 0)),(.val (.int .i64 0))] [(0,1,(.tmp 69)),(1,1,(.tmp 70))])),((some 12),.op (.alloc [(.val (.int .i64 0)),(.val (.int .i64 0))])),bK 2 12 71],ab [aa 72 7,aT 73 2 12,aa 75 8,((some 76),.op (.bO 1 1 [(.val (.int .i64 0))] [(0,(.tmp 75))])),((some 77),.op (.old (.mapEntry 114 (.tmp 72) (.tmp 73)) 0)),dW 74 0 77,eE 78 1 8 74 76,dW 79 1 77,(none,.op (.old (.entryStore 114 (.tmp 72) (.tmp 79) (.tmp 78)) 0))]])]),ab [aG 80 .add 56 1,aa 56 80]]
def wH:SC :=
 ae [ab [aS 49 .lss 48 47],bT 49 (.exit 0),.block 1 (ae [ab [aa 50 48,aH 51 2 46 48,aT 52 2 51,((some 9),.op (.alloc [(.val (.int .i64 0)),(.val (.int .i64 0))])),aa 8 50,bK 2 9 52],ab [ao 53 2 1,ai 54 53,aP 55 54,aQ 56 0],bU 2 w8]),ab [aG 81 .add 48 1,aa 48 81]]
def wL:SC :=
 ae [ab [aS 111 .lss 110 109],bT 111 (.exit 8),.block 9 (ae [ab [aH 112 1 108 110,ai 113 112,aa 19 113],ab [ao 114 1 17,ai 115 114,aa 116 6,cQ 117 116,ao 118 8 117,ai 119 118,aa 120 19,aH 121 1 119 120,ai 122 121,aS 123 .or 115 122,ao 124 1 17,bK 1 124 123]]),ab [aG 125 .add 110 1,aa 110 125]]
def w6:SC :=
 ae [ab [aS 96 .lss 95 94],bT 96 (.exit 6),.block 7 (ae [ab [aa 97 95,aa 15 97],ab [aa 98 7,aa 99 14,aa 100 15,((some 101),.op (.build [(.val (.int .i64 0)),(.val (.int .i64 0))] [(0,1,(.tmp 99)),(1,1,(.tmp 100))])),((some 102),.op (.old (.lookup 114 (.tmp 98) (.tmp 101) false) 43)),aa 16 102],ae [ab [aa 103 16,aP 104 103,aG 105 .eql 104 0],bc 105 (.exit 7)],ab [aa 106 15,((some 107),.op (.build [(.val (.int .i64 0)),(.val (.int .u32 0))] [(0,1,(.tmp 106))])),((some 17),.op (.alloc [(.val (.int .i64 0)),(.val (.int .u32 0))])),bK 2 17 107],ae [ab [aa 108 16,aP 109 108,aQ 110 0],bU 8 wL],ab [aa 126 13,aa 127 14,aa 128 13,aa 129 14,aH 130 1 128 129,ai 131 130,aT 132 2 17,((some 133),.op (.bO 1 2 [(.val (.int .i64 0)),(.val (.int .u32 0))] [(0,(.tmp 132))])),eE 134 2 16 131 133,aH 135 1 126 127,bK 1 135 134]]),ab [aG 136 .add 95 1,aa 95 136]]
def CO:SC :=
 ae [ab [aS 90 .lss 89 88],bT 90 (.exit 4),.block 5 (ae [ab [aa 91 89,aa 14 91],ab [ao 92 2 1,ai 93 92,aP 94 93,aQ 95 0],bU 6 w6]),ab [aG 137 .add 89 1,aa 89 137]]
def Hk:SF:=⟨ae [ab [cw 1 0,cq 2 1,aQ 3 0],ab [aT 21 4 1,bh 22 24 [21],aa 20 22,dW 23 0 20,dW 24 1 20,aa 4 23,aa 5 24],ae [ab [aa 25 5,aG 26 .neq 25 0],bc 26 (ae [ab [aa 27 5,cq 2 1,aa 3 27],.ret])],ab [aT 28 4 1,aa 29 4,bh 30 72 [28,29],aa 6 30],ab [aa 31 6,bh 32 73 [31]],ab [aa 33 6,aa 34 6,cQ 35 34,ao 36 7 35,ai 37 36,aP 38 37,((some 39),.op (.make 1 24 [(.emp 1)] (.tmp 38) (.tmp 38))),cQ 40 33,ao 41 9 40,bK 1 41 39],ab [((some 42),.op (.pA)),aa 7 42],ae [ab [aa 43 6,cQ 44 43,ao 45 7 44,ai 46 45,aP 47 46,aQ 48 0],bU 0 wH],ab [aa 82 6,bh 83 75 [82]],ab [aa 84 4,aP 85 84,((some 86),.op (.make 1 24 [(.emp 1)] (.tmp 85) (.tmp 85))),aa 13 86],ae [ab [aa 87 4,aP 88 87,aQ 89 0],bU 4 CO],ab [aa 138 13,aa 2 138,aQ 3 0],.ret],
 [.tmp 2,.tmp 3],139⟩
theorem KU:aN Tryz.prog 33 [1]=some Hk:=by kernel_rfl
theorem MS:TT Tryz.prog 119 :=
 ⟨⟨⟨ "state",3,0,false,"","gerund/look",0⟩,⟨ "rule",3,1,false,"","gerund/look",8⟩,by kernel_rfl,by decide,by decide,Tryz.underlying3,Tryz.underlying3,rfl,rfl⟩,by kernel_rfl⟩
def bB (g:aj) (a:List aM) (x i:Nat) (key:Int × Int):List Nat :=
 if 0<=key.1/\0<=key.2/\key.2 < g.rules.length then jx g a x key.2.toNat key.1.toNat ++ (if key.2 < i/\(ay g key.2).left=(dC a x).2/\lq a (dC a x).1.toNat (ay g key.2).right=key.1.toNat then [x] else []) else []
theorem We (g:aj) (a:List aM):bB g a 0 0=λ_=>[]:=by
 funext key
 unfold bB
 split
 .rename_i h
  rw[Zk (λb=>by omega)]
  simp[jx]
 .rfl
theorem MH (g:aj) (a:List aM) (x:Nat):bB g a x g.rules.length=bB g a (x+1) 0:=by
 funext key
 unfold bB
 split
 .rename_i h
  obtain⟨k,hk⟩:∃ k:Nat,key.2=k:=⟨key.2.toNat,by omega⟩
  have d:¬ key.2 < ((0:Nat):Int):=by omega
  simp only[d,false_and,if_false,aav]
  unfold jx
  rw[Z8,aaS]
  congr 1
  rw[hk,ZK]
  by_cases b:(ay g (k:Int)).left=(dC a x).2/\lq a (dC a x).1.toNat (ay g (k:Int)).right=key.1.toNat
  .rw[Zn ⟨by omega,b.1,b.2⟩]
   rw[List.filter_cons_of_pos (by simp only[ZA];exact b)]
   rfl
  .rw[Zk (λc=>b ⟨c.2.1,c.2.2⟩)]
   symm
   rw[List.filter_cons_of_neg (by simpa using λh1 c=>b ⟨h1,c⟩)]
   rfl
 .rfl
theorem Mx (g:aj) (a:List aM) (x i:Nat) (h:¬ (ay g i).left=(dC a x).2):bB g a x (i+1)=bB g a x i:=by
 funext key
 unfold bB
 split
 .rename_i hk
  congr 1
  by_cases e:key.2=i
  .rw[Zk (λb=>h (by rw[<-e];exact b.2.1)),Zk (λb=>by omega)]
  .by_cases c:key.2 < i/\(ay g key.2).left=(dC a x).2/\lq a (dC a x).1.toNat (ay g key.2).right=key.1.toNat
   .rw[Zn c,Zn ⟨by push_cast;omega,c.2⟩]
   .rw[Zk c,Zk (λb=>c ⟨by have:=b.1;push_cast at this;omega,b.2⟩)]
 .rfl
theorem Xx (g:aj) (a:List aM) (x i:Nat) (hi:i < g.rules.length) (h:(ay g i).left=(dC a x).2):bB g a x (i+1)=N0 (bB g a x i) ((lq a (dC a x).1.toNat (ay g i).right:Int),(i:Int)) (bB g a x i ((lq a (dC a x).1.toNat (ay g i).right:Int),(i:Int)) ++ [x]):=by
 funext key
 unfold N0
 by_cases e:key=((lq a (dC a x).1.toNat (ay g i).right:Int),(i:Int))
 .rw[Zn e,e]
  unfold bB
  simp only
  rw[Zn ⟨by omega,by omega,by omega⟩,Zn ⟨by push_cast;omega,h,by simp⟩,Zn ⟨by omega,by omega,by omega⟩,Zk (λc=>by omega),aav]
 .rw[Zk e]
  unfold bB
  split
  .rename_i hk
   congr 1
   by_cases b:key.2 < i/\(ay g key.2).left=(dC a x).2/\lq a (dC a x).1.toNat (ay g key.2).right=key.1.toNat
   .rw[Zn b,Zn ⟨by push_cast;omega,b.2⟩]
   .rw[Zk b,Zk]
    rintro⟨h1,c,d⟩
    push_cast at h1
    by_cases f:key.2=i
    .apply e
     rw[f] at d
     exact Prod.ext (by simp only;omega) (by simp only;exact f)
    .exact b ⟨by omega,c,d⟩
  .rfl
theorem AX {g:aj} {a:List aM} {x c:Nat} (hr:∀ k:Nat,k < g.rules.length->(ay g k).right.length<=6):∀ (n:Nat) {f:Nat->List Nat},n<=g.rules.length->(∀ z,(f z).length<=c)->∀ z,((List.range n).foldl (rY g a x) f z).length<=c+6 * n
 | 0,f,_,h,z=>by simpa using h z
 | n+1,f,d,h,z=>by
  have b:=AX (a:=a) (x:=x) hr n (f:=f) (by omega) h
  rw[Z8,Z7,ZS,aaC,rY]
  split
  .have h1:=AR (x:=x) (ys:=pE g a (dC a x).1.toNat (ay g n).right) b z
   have e:=M8 g a (ay g n).right (dC a x).1.toNat
   have:=hr n (by omega)
   omega
  .have:=b z;omega
theorem TU {g:aj} {a:List aM} (hA:cL g a) (cr:bI g=true) (ha:a.length<=300) {W qn cM n D:Nat} {M:bW (Int × Int)} {uw:V} {s e:Nat} {Sl:List BV} {x p:Nat} {B:Int} (hx:(bk a)[x]?=some ((p:Int),B)) {f0:Nat->List Nat} {c0:Nat} (cu:∀ z,(f0 z).length<=c0) (dj:c0<=50000000) (b1:qn≠n)
  {T:Env} {H:View} {Q:Exit->Env->View->Prop} {v:cO (T,H,Q)}
  (hJ:∃ (A:List (V × List Nat)) (c2:Nat) (M2:bW (Int × Int)),dd g a H W qn cM M uw s e (bk a) Sl A ((.sl D 0 1 2,2,[[gi p,gi B]]) :: jA (bB g a x 0) M2)/\(∀ z,z < (bk a).length->(A.getD z (.any,[])).2=f0 z)/\H n=.map (bQ fu M2) c2/\im M2 c2/\r5 M2 (bB g a x 0))
  (ht:T 1=.aI (ag g) 0/\T 4=ba a/\T 6=.ptr W 0 0/\T 7=.mp n/\T 8=gi x/\T 9=.ptr D 0 0/\T 46=uw/\T 47=gi (bk a).length/\T 48=gi x/\T 54=.aD (g.rules.map aO)/\T 55=gi g.rules.length/\T 56=gi 0)
  (hQ:∀ (T':Env) (H':View),(∃ (A:List (V × List Nat)) (c2:Nat) (M2:bW (Int × Int)),dd g a H' W qn cM M uw s e (bk a) Sl A ((.sl D 0 1 2,2,[[gi p,gi B]]) :: jA (bB g a x g.rules.length) M2)/\(∀ z,z < (bk a).length->(A.getD z (.any,[])).2=(List.range g.rules.length).foldl (rY g a x) f0 z)/\H' n=.map (bQ fu M2) c2/\im M2 c2/\r5 M2 (bB g a x g.rules.length)) ->
   T' 1=.aI (ag g) 0->T' 4=ba a->T' 6=.ptr W 0 0->T' 7=.mp n->T' 46=uw->T' 47=gi (bk a).length->T' 48=gi x->Q (.exit 2) T' H'):aR Tryz.prog w8 T H Q v:=by
 have dm:=rn hA
 have ds:(bk a).length<=40 * a.length:=mP hA.ok.aK a.length
 have dv:=(Zy.1 hx).1
 have cv:=xT hx
 obtain⟨ea,hE⟩:=dB.1 (Zp hx)
 have eb:=hA.dq.rules
 have cA:∀ k:Nat,k < g.rules.length->(ay g k).right.length<=6:=λk hk=>hA.dq.right _ (Zp (show g.rules[k]?=some (ay g k) by unfold ay;exact getD_some hk))
 obtain⟨t1,t4,t6,t7,t8,t9,t46,t47,t48,t54,t55,t56⟩:=ht
 refine aR.up g.rules.length (λi T H'=>(∃ (A:List (V × List Nat)) (c2:Nat) (M2:bW (Int × Int)),dd g a H' W qn cM M uw s e (bk a) Sl A ((.sl D 0 1 2,2,[[gi p,gi B]]) :: jA (bB g a x i) M2)/\(∀ z,z < (bk a).length->(A.getD z (.any,[])).2=(List.range i).foldl (rY g a x) f0 z)/\H' n=.map (bQ fu M2) c2/\im M2 c2/\r5 M2 (bB g a x i)) /\
  T 1=.aI (ag g) 0/\T 4=ba a/\T 6=.ptr W 0 0/\T 7=.mp n/\T 8=gi x/\T 9=.ptr D 0 0/\T 46=uw/\T 47=gi (bk a).length/\T 48=gi x/\T 54=.aD (g.rules.map aO)/\T 55=gi g.rules.length/\T 56=gi i) ⟨hJ,t1,t4,t6,t7,t8,t9,t46,t47,t48,t54,t55,t56⟩ ?_
 clear hJ t1 t4 t6 t7 t8 t9 t46 t47 t48 t54 t55 t56
 rintro i k T H1 hk ⟨⟨A,c2,M2,hI,a6,S,a7,a8⟩,t1,t4,t6,t7,t8,t9,t46,t47,t48,t54,t55,t56⟩
 simp(disch:=omega)only[↓wr,seval,wq,w8,t54,t55,t56]
 apply ah.dec<;>intro hc
 rotate_left
 .have hi:i=g.rules.length:=by omega
  subst hi
  simp(disch:=omega)only[↓wr,seval,wq]
  exact hQ _ _ ⟨A,c2,M2,hI,a6,S,a7,a8⟩ t1 t4 t6 t7 t46 t47 t48
 have bd:i < g.rules.length:=by omega
 have hR:g.rules[i]?=some (ay g i):=by unfold ay;exact getD_some bd
 have U:H1 D=.arr 2 [[gi (p:Int),gi B]]:=by
  have:=hI.own.1 (.sl D 0 1 2,2,[[gi (p:Int),gi B]]) (by simp)
  rcases this with ⟨h,_⟩ | ⟨m,h1,h2⟩
  .simp at h
  .simp only[V.sl.injEq] at h1
   rw[h1.1];exact h2
 simp(disch:=omega)only[↓wr,seval,wq,t1,t6,t7,t8,t9,t54,t55,t56,Zm,hR,Zq,aO]
 intro q2 C
 have bl:=hI.fresh C (o:=.arr 3 [[gi (ay g i).left,encI (ay g i).right,gi (ay g i).prec]])
 have E:(H1.set q2 (.arr 3 [[gi (ay g i).left,encI (ay g i).right,gi (ay g i).prec]])) n=.map (bQ fu M2) c2:=by
  simp only[View.set];rw[Zk (λe=>by rw[<-e,S] at C;simp at C)];exact S
 have aq:D≠q2:=λe=>by rw[<-e,U] at C;simp at C
 have j:(dC a x).2=B/\(dC a x).1.toNat=p:=by rw[cv];simp
 simp(disch:=omega)only[↓wr,seval,wq,t9,aq,U,encI]
 apply ah.eq<;>intro F
 rotate_left
 .simp(disch:=omega)only[↓wr,seval,wq,t1,t4,t6,t7,t8,t9,t46,t47,t48,t54,t55,t56]
  rw[set_set]
  have q:¬ (ay g i).left=(dC a x).2:=by rw[j.1];exact F
  refine aE hk (by omega) ⟨⟨A,c2,M2,by rw[Mx g a x i q];exact bl,λz hz=>?_,E,a7,by rw[Mx g a x i q];exact a8⟩,t1,t4,t6,t7,t8,t9,t46,t47,t48,t54,t55,by first | rfl | (congr 2)⟩
  rw[Z8,Z7,ZS,aaC,rY,Zk q]
  exact a6 z hz
 have G:(H1.set q2 (.arr 3 [[gi (ay g i).left,encI (ay g i).right,gi (ay g i).prec]])) D=.arr 2 [[gi (p:Int),gi B]]:=by
  simp only[View.set];rw[Zk aq];exact U
 rw[set_set]
 have ar:(H1.set q2 (.arr 3 [[gi (ay g i).left,encI (ay g i).right,gi (ay g i).prec]])) q2=.arr 3 [[gi (ay g i).left,encI (ay g i).right,gi (ay g i).prec]]:=by simp[View.set]
 have e3:(H1.set q2 (.arr 3 [[gi (ay g i).left,.aD ((ay g i).right.map λx=>[gi x]),gi (ay g i).prec]]))=H1.set q2 (.arr 3 [[gi (ay g i).left,encI (ay g i).right,gi (ay g i).prec]]):=rfl
 try rw[e3]
 generalize H1.set q2 (.arr 3 [[gi (ay g i).left,encI (ay g i).right,gi (ay g i).prec]])=H2 at bl E G ar ⊢
 clear hI S U C
 simp(disch:=omega)only[↓wr,seval,wq,t6,t9,G,ar]
 have bn:=AX (a:=a) (x:=x) cA i (f:=f0) (by omega) cu
 have a1:=T7 hA cr ha bl (fA:=(List.range i).foldl (rY g a x) f0) (c:=c0+6 * i) a6 bn (by omega) hx bd F
 simp only[aO] at a1
 refine ax.dJ (a1.mono ?_)
 rintro r H5 ⟨rfl,⟨A',b2,b3⟩,br⟩
 have I:=br _ _ _ E
 generalize cC:lq a p (ay g i).right=d
 simp(disch:=omega)only[↓wr,seval,wq,t6,t7,t8,t9]
 intro q3 an q4 J
 obtain⟨n43,J⟩:=jo J
 rw[Zk n43] at J
 rw[set_set]
 have b4:=b2.fresh an (o:=.arr 2 [[gi (d:Int),gi (i:Int)]])
 have L:(H5.set q3 (.arr 2 [[gi (d:Int),gi (i:Int)]])) n=.map (bQ fu M2) c2:=by
  simp only[View.set];rw[Zk (λe=>by rw[<-e,I] at an;simp at an)];exact I
 have w:(H5.set q3 (.arr 2 [[gi (d:Int),gi (i:Int)]])) q4=.dead:=by simp only[View.set];rw[Zk n43];exact J
 have t:=b4.fresh w (o:=.arr 1 [[gi (x:Int)]])
 have l:((H5.set q3 (.arr 2 [[gi (d:Int),gi (i:Int)]])).set q4 (.arr 1 [[gi (x:Int)]])) n=.map (bQ fu M2) c2:=by
  simp only[View.set]
  rw[Zk (λe=>by rw[<-e,L] at w;simp at w)]
  exact L
 have N:((H5.set q3 (.arr 2 [[gi (d:Int),gi (i:Int)]])).set q4 (.arr 1 [[gi (x:Int)]])) q4=.arr 1 [[gi (x:Int)]]:=by simp[View.set]
 generalize ((H5.set q3 (.arr 2 [[gi (d:Int),gi (i:Int)]])).set q4 (.arr 1 [[gi (x:Int)]]))=H7 at t l N ⊢
 clear b2 b4 I L J w an
 have cN:dK Tryz.prog 114=some (119,43):=by kernel_rfl
 have hz:zeroV Tryz.prog 43=some (.emp 1):=by kernel_rfl
 refine WI (kv:=fu) (kt:=119) (et:=43) (z:=.emp 1) cN hz (Cl MS) (id:=n) (c:=c2) (m:=M2) (k:=((d:Int),(i:Int))) (by first | rfl | simp(disch:=omega)only[↓wr,seval,wq]) (by first | rfl | (simp(disch:=omega)only[↓wr,seval,wq];rfl)) l a7 λb c' b5 b7=>?_
 have b8:=t.own
 have bs:aX H7 (((.sl W 0 1 10,10,[[.aD (g.af.map bS),.aD (g.ak.map λs=>[gs s]),.aD (g.rules.map aO),gi g.start,ba a,bP (av g false),.mp qn,uw,.sl s 0 (bk a).length 1,.sl e 0 (bk a).length 1]]) :: (uw,2,nY (bk a)) :: (.sl s 0 (bk a).length 1,1,bV Sl) :: (.sl e 0 (bk a).length 1,1,aZ A') :: (jy A' ++ [(.sl D 0 1 2,2,[[gi (p:Int),gi B]])])) ++ jA (bB g a x i) M2):=by
  have e:∀ (X1 X2 X3 X4 y:ct) (R K:List ct),(X1 :: X2 :: X3 :: X4 :: (R ++ [y])) ++ K=X1 :: X2 :: X3 :: X4 :: (R ++ (y :: K)):=λX1 X2 X3 X4 y R K=>by simp
  rw[e];exact b8
 obtain⟨P,Qm,bb,cS,b9,hO,cV,c3,ca⟩:=a8.entry bs ((d:Int),(i:Int)) c2
 have ee:(bB g a x i ((d:Int),(i:Int))).length<=20000:=by
  unfold bB
  split
  .rw[Zk (λh=>by have:=h.1;simp only at this;omega),aav]
   unfold jx
   have:=aac (λy=>decide ((ay g ((((d:Int),(i:Int)).2.toNat:Nat):Int)).left=(dC a y).2/\lq a (dC a y).1.toNat (ay g ((((d:Int),(i:Int)).2.toNat:Nat):Int)).right=((d:Int),(i:Int)).1.toNat)) (List.range x)
   rw[abw] at this
   omega
  .simp
 generalize hu:(getM M2 ((d:Int),(i:Int))).getD (.emp 1)=u at *
 generalize bN ((d:Int),(i:Int)) u c2 M2=M3 at *
 have cc:q4≠n:=λe=>by rw[<-e,N] at l;simp at l
 have bx:=Xx g a x i bd (by rw[j.1];exact F)
 rw[j.2,cC] at bx
 generalize eg:bB g a x i ((d:Int),(i:Int))=lk at *
 generalize hZ:(((.sl W 0 1 10,10,[[.aD (g.af.map bS),.aD (g.ak.map λs=>[gs s]),.aD (g.rules.map aO),gi g.start,ba a,bP (av g false),.mp qn,uw,.sl s 0 (bk a).length 1,.sl e 0 (bk a).length 1]]) :: (uw,2,nY (bk a)) :: (.sl s 0 (bk a).length 1,1,bV Sl) :: (.sl e 0 (bk a).length 1,1,aZ A') :: (jy A' ++ [(.sl D 0 1 2,2,[[gi (p:Int),gi B]])])):List ct)=Z at hO
 have pm:∀ (r:ct) (X Y:List ct),(Z ++ (X ++ r :: Y)).Perm (r :: (Z ++ (X ++ Y))):=λr X Y=>by
  rw[<-Z2,<-Z2];exact ZY
 have b0:=(hO.perm (pm _ _ _)).xw l (o:=.map (bQ fu M3) c')
 have c5:bR (H7.set n (.map (bQ fu M3) c')) (.sl q4 0 1 1)=some ([[gi (x:Int)]],[q4]):=by simp[bR,View.set,cc,N]
 simp(disch:=omega)only[↓wr,seval,wq,c5]
 refine bL b0 (by simp[aL]) (by unfold aA;simp;omega) (by unfold aA;simp;omega) ?_
 intro O H9 o9 l9
 have cf:=l9.map b0.head (b:=n) (c:=c') (es:=bQ fu M3) (by simp[View.set])
 have cg:=l9.map b0.head (b:=qn) (c:=cM) (es:=bQ fu M) (by simp only[View.set];rw[Zk b1];exact t.mp)
 try simp(disch:=omega)only[↓wr,seval,wq]
 refine Xi (kv:=fu) (id:=n) (c:=c') (b:=b) (m:=M3) (k:=((d:Int),(i:Int))) (v:=O) (by first | rfl | simp(disch:=omega)only[↓wr,seval,wq]) (by first | rfl | simp(disch:=omega)only[↓wr,seval,wq]) (by first | rfl | simp(disch:=omega)only[↓wr,seval,wq]) cf b5 b7 λc0=>?_
 have ch:=b5.TZ b7 O c0
 have cj:=λk'=>rz ((d:Int),(i:Int)) k' O c0 M3
 rw[b9 O c0] at ch ⊢
 simp only[b9 O c0] at cj
 simp(disch:=omega)only[↓wr,seval,wq,t1,t4,t6,t7,t8,t9,t46,t47,t48,t54,t55,t56]
 refine aE hk (by omega) ⟨⟨A',c',P ++ (((d:Int),(i:Int)),O,bb) :: Qm,⟨?_,?_,t.bo,t.num,t.sl,t.al⟩,λz hz=>?_,by simp[View.set],ch,?_⟩,t1,t4,t6,t7,t8,t9,t46,t47,t48,t54,t55,by first | rfl | (congr 2)⟩
 .have c9:jA (bB g a x (i+1)) (P ++ (((d:Int),(i:Int)),O,bb) :: Qm)=jA (bB g a x i) P ++ (O,1,ga lk ++ [[gi (x:Int)]]) :: jA (bB g a x i) Qm:=by
   rw[bx,show ∀ f:Int × Int->List Nat,jA f (P ++ (((d:Int),(i:Int)),O,bb) :: Qm)=jA f P ++ (O,1,ga (f ((d:Int),(i:Int)))) :: jA f Qm from λf=>by simp[jA],Sd cV,Sd c3]
   simp[N0]
  have ck:=(o9.xw cf (o:=.map (bQ fu (P ++ (((d:Int),(i:Int)),O,bb) :: Qm)) c')).perm (pm _ _ _).symm
  rw[c9]
  have e:∀ (X1 X2 X3 X4 y:ct) (R K:List ct),(X1 :: X2 :: X3 :: X4 :: (R ++ [y])) ++ K=X1 :: X2 :: X3 :: X4 :: (R ++ (y :: K)):=λX1 X2 X3 X4 y R K=>by simp
  rw[<-hZ,e] at ck
  exact ck
 .show (H9.set n _) qn=_
  simp only[View.set];rw[Zk b1];exact cg
 .rw[Z8,Z7,ZS,aaC,rY,Zn (by rw[j.1];exact F),j.2]
  exact b3 z hz
 .refine⟨by simpa using ca.nd,λk' da=>?_⟩
  rw[cj k']
  split
  .simp
  .rename_i db
   rw[cS]
   refine ca.all k' λh0=>da ?_
   rw[bx]
   unfold N0
   rw[Zk (λe=>db (by simp[e]))]
   exact h0
section
variable {g:aj} {a:List aM} {H:View} {W qn cM:Nat} {M:bW (Int × Int)} {uw:V} {s e:Nat} {ws:List (Int × Int)} {Sl:List BV} {A:List (V × List Nat)} {L:List ct}
theorem dd.WJ (h:dd g a H W qn cM M uw s e ws Sl A L) {q:Nat} (hq:H q=.dead) (sz:Nat) (es:List (List V)):dd g a (H.set q (.arr sz es)) W qn cM M uw s e ws Sl A ((.sl q 0 es.length sz,sz,es) :: L):=by
 have i:∀ (y a b c d:ct) (X L:List ct),(y :: a :: b :: c :: d :: (X ++ L)).Perm (a :: b :: c :: d :: (X ++ y :: L)):=λy a b c d X L=>(ZY (l₁:=a :: b :: c :: d :: X)).symm
 have f:=h.fresh hq (o:=.arr sz es)
 exact⟨(h.own.new hq sz es).perm (i _ _ _ _ _ _ _),f.mp,f.bo,f.num,f.sl,f.al⟩
theorem dd.XK {y:ct} (h:dd g a H W qn cM M uw s e ws Sl A (y :: L)):dd g a H W qn cM M uw s e ws Sl A L :=
 ⟨h.own.sub (.cons_cons _ (.cons_cons _ (.cons_cons _ (.cons_cons _ (List.Sublist.append (.refl _) (.cons _ (.refl _))))))),h.mp,h.bo,h.num,h.sl,h.al⟩
theorem Dg (b:g.dP):∀ (n z:Nat),(kD g a n z).length<=240 * n
 | 0,z=>by simp[kD]
 | n+1,z=>by
  have d:=Dg b n
  have c:∀ k:Nat,k < g.rules.length->(ay g k).right.length<=6:=λk hk=>b.right _ (Zp (show g.rules[k]?=some (ay g k) by unfold ay;exact getD_some hk))
  have e:=b.rules
  have h1:=AX (a:=a) (x:=n) c g.rules.length (f:=kD g a n) (Zt _) d z
  unfold kD at h1 ⊢
  rw[Z8,Z7,ZS,aaC,N3]
  omega
end
theorem of_walks {g:aj} {a:List aM} (r:cL g a) (u:bI g=true) (ha:a.length<=300) {W qn cM b:Nat} {M:bW (Int × Int)} {uw:V} {s e:Nat} {Sl:List BV} (C:qn≠b)
  {T:Env} {H:View} {Q:Exit->Env->View->Prop} {v:cO (T,H,Q)}
  (R:∃ (A:List (V × List Nat)) (c2:Nat) (M2:bW (Int × Int)),dd g a H W qn cM M uw s e (bk a) Sl A (jA (bB g a 0 0) M2)/\(∀ z,z < (bk a).length->(A.getD z (.any,[])).2=kD g a 0 z)/\H b=.map (bQ fu M2) c2/\im M2 c2/\r5 M2 (bB g a 0 0))
  (ht:T 1=.aI (ag g) 0/\T 4=ba a/\T 6=.ptr W 0 0/\T 7=.mp b/\T 46=uw/\T 47=gi (bk a).length/\T 48=gi 0)
  (hQ:∀ (h:Env) (H':View),(∃ (A:List (V × List Nat)) (c2:Nat) (M2:bW (Int × Int)),dd g a H' W qn cM M uw s e (bk a) Sl A (jA (bB g a (bk a).length 0) M2)/\(∀ z,z < (bk a).length->(A.getD z (.any,[])).2=kD g a (bk a).length z)/\H' b=.map (bQ fu M2) c2/\im M2 c2/\r5 M2 (bB g a (bk a).length 0)) ->
   h 1=.aI (ag g) 0->h 4=ba a->h 6=.ptr W 0 0->h 7=.mp b->Q (.exit 0) h H'):aR Tryz.prog wH T H Q v:=by
 have D:=rn r
 have an:(bk a).length<=40 * a.length:=mP r.ok.aK a.length
 obtain⟨t1,t4,t6,t7,t46,t47,t48⟩:=ht
 refine aR.up (bk a).length (λx T H'=>(∃ (A:List (V × List Nat)) (c2:Nat) (M2:bW (Int × Int)),dd g a H' W qn cM M uw s e (bk a) Sl A (jA (bB g a x 0) M2)/\(∀ z,z < (bk a).length->(A.getD z (.any,[])).2=kD g a x z)/\H' b=.map (bQ fu M2) c2/\im M2 c2/\r5 M2 (bB g a x 0)) /\
  T 1=.aI (ag g) 0/\T 4=ba a/\T 6=.ptr W 0 0/\T 7=.mp b/\T 46=uw/\T 47=gi (bk a).length/\T 48=gi x) ⟨R,t1,t4,t6,t7,t46,t47,t48⟩ ?_
 clear R t1 t4 t6 t7 t46 t47 t48
 rintro x k T H1 hk ⟨⟨A,c2,M2,E,i,d,j,l⟩,t1,t4,t6,t7,t46,t47,t48⟩
 simp(disch:=omega)only[↓wr,seval,wq,wH,t46,t47,t48]
 apply ah.dec<;>intro hc
 rotate_left
 .have hi:x=(bk a).length:=by omega
  subst hi
  simp(disch:=omega)only[↓wr,seval,wq]
  exact hQ _ _ ⟨A,c2,M2,E,i,d,j,l⟩ t1 t4 t6 t7
 have t:(bk a)[x]?=some (dC a x):=getD_some (by omega)
 obtain⟨p,hp⟩:=vq (Zp t)
 generalize aq:dC a x=y at t hp
 obtain⟨y1,B⟩:=y
 simp only at hp
 have F:y1=p:=by simpa using aau Prod.fst hp
 subst F
 clear hp
 have G:(nY (bk a)).getD x []=[gi (p:Int),gi B]:=by
  simp[Zi,t]
 obtain⟨hW,⟨w,m,hw⟩,hs,he,n1,n2,n3⟩:=E.at D
 have I:=Dg (a:=a) r.dq x
 simp(disch:=omega)only[↓wr,seval,wq,t1,t46,t47,t48,m,hw,G,ag,encS]
 refine⟨by omega,by omega,λS f=>?_⟩
 rw[set_set]
 have n:=E.WJ f 2 [[gi (p:Int),gi B]]
 have c:(H1.set S (.arr 2 [[gi (p:Int),gi B]])) b=.map (bQ fu M2) c2:=by
  simp only[View.set];rw[Zk (λe=>by rw[<-e,d] at f;simp at f)];exact d
 generalize H1.set S (.arr 2 [[gi (p:Int),gi B]])=H2 at n c ⊢
 refine TU r u ha t (f0:=kD g a x) (c0:=240 * x) I (by omega) C ⟨A,c2,M2,n,i,c,j,l⟩ ⟨t1,t4,t6,t7,rfl,rfl,by first | exact t46 | (rw[<-m];exact t46),t47,t48,rfl,rfl,rfl⟩ (λh H' hF U X Y Z o q J=>?_)
 obtain⟨A9,c9,M9,K,L,N,O,P⟩:=hF
 simp(disch:=omega)only[↓wr,seval,wq,U,X,Y,Z,o,q,J]
 refine aE hk (by omega) ⟨⟨A9,c9,M9,by rw[<-MH];exact K.XK,λz hz=>?_,N,O,by rw[<-MH];exact P⟩,U,X,Y,Z,o,q,by first | rfl | (congr 2)⟩
 show _=kD g a (x+1) z
 unfold kD
 rw[Z8,Z7]
 exact L z hz
theorem X6 {H0:View} {W s q k n:Nat} {f0 f1 f2 f3 f4 f5 f6 f7 f9 u:V} {Sl:List BV} {l:List Nat} (hW:H0 W=.arr 10 [[f0,f1,f2,f3,f4,f5,f6,f7,.sl s 0 n 1,f9]]) (hs:H0 s=.arr 1 (bV Sl)) (r:Sl.length=n) (hu:aV H0 u 1 (ga l)) (hl:∀ x∈l,x < n) (t:l.length<=100000) (hq:H0 q=.dead)
  {T:Env} {Q:Exit->Env->View->Prop} {v:cO (T,H0.set q (.arr 2 [[gi k,gw 0]]),Q)}
  (b:T 6=.ptr W 0 0/\T 17=.ptr q 0 0/\T 108=u/\T 109=gi l.length/\T 110=gi 0)
  (w:∀ (a:Env),(∀ j,j < 19->a j=T j)->a 13=T 13->a 14=T 14->a 88=T 88->a 89=T 89->a 94=T 94->a 95=T 95->Q (.exit 8) a (H0.set q (.arr 2 [[gi k,gw (nE (sF Sl) l)]]))):aR Tryz.prog wL T (H0.set q (.arr 2 [[gi k,gw 0]])) Q v:=by
 obtain⟨t6,t17,t108,t109,t110⟩:=b
 have z:W≠q:=λe=>by rw[e,hq] at hW;simp at hW
 have A:s≠q:=λe=>by rw[e,hq] at hs;simp at hs
 refine aR.up l.length (λj a H'=>H0.set q (.arr 2 [[gi k,gw (nE (sF Sl) (l.take j))]])=H'/\(∀ j,j < 19->a j=T j)/\a 88=T 88/\a 89=T 89/\a 94=T 94/\a 95=T 95/\a 108=u/\a 109=gi l.length/\a 110=gi j) ⟨rfl,λ_ _=>rfl,rfl,rfl,rfl,rfl,t108,t109,t110⟩ ?_
 clear t108 t109 t110
 rintro j m p _ hm ⟨rfl,b,t88,t89,t94,t95,t108,t109,t110⟩
 have B:p 6=.ptr W 0 0:=by rw[b 6 (by omega)];exact t6
 have h:p 17=.ptr q 0 0:=by rw[b 17 (by omega)];exact t17
 simp(disch:=omega)only[↓wr,seval,wq,wL,t108,t109,t110]
 apply ah.dec<;>intro C
 rotate_left
 .simp(disch:=omega)only[↓wr,seval,wq]
  rw[Zx (by omega)]
  exact w _ (λj D=>by
   have:=b j D
   rw[<-this]
   simp only[rT,Env.put]
   rw[Zk (by omega),Zk (by omega)]) (b 13 (by omega)) (b 14 (by omega)) t88 t89 t94 t95
 have o:l[j]?=some (l[j]'(by omega)):=Zj (by omega)
 have f:=hl _ (Zs (show j < l.length by omega))
 have g:l.take (j+1)=l.take j ++ [l[j]'(by omega)]:=by rw[ZG,o];rfl
 generalize l[j]'(by omega)=y at o f g
 obtain⟨id,c,d⟩:=hu.sl (by simp;omega)
 rw[Zr] at c
 have E:id≠q:=λe=>by rw[e,hq] at d;simp at d
 simp(disch:=omega)only[↓wr,seval,wq,t108,t109,t110,B,h,c,d,DE o,z,A,E,hW,hs,pz (l:=Sl) (i:=y) (by omega),vi]
 refine⟨by omega,by omega,f,by omega,?_⟩
 rw[set_set]
 have F:nE (sF Sl) (l.take (j+1))=nE (sF Sl) (l.take j) ||| sF Sl y:=by
  rw[g];unfold nE;rw[Z7];rfl
 refine aE hm (by omega) ⟨by rw[F],λi hi=>?_,t88,t89,t94,t95,by first | exact t108 | (rw[<-c];exact t108),t109,by first | rfl | (congr 2)⟩
 rw[<-b i hi]
 simp only[rT,Env.put]
 repeat rw[Zk (by omega)]
theorem XB {g:aj} {a:List aM} {n k i:Nat} (hk:k < g.rules.length):bB g a n 0 ((i:Int),(k:Int))=jx g a n k i:=by
 unfold bB
 rw[Zn ⟨by simp only;omega,by simp only;omega,by simp only;omega⟩,Zk (λh=>by have:=h.1;simp only at this;omega),aav]
 simp
theorem UM {g:aj} {a:List aM} (hA:cL g a) (ha:a.length<=300) {W qn cM J al c5:Nat} {M F:bW (Int × Int)} {uw:V} {s e:Nat} {Sl:List BV} {A:List (V × List Nat)} {i:Nat} (hi:i < a.length) (dj:qn≠J) (ca:r5 F (bB g a (bk a).length 0)) {fR:Nat->List cz}
  {T:Env} {H:View} {Q:Exit->Env->View->Prop} {v:cO (T,H,Q)}
  (hJ:∃ R:K1,dd g a H W qn cM M uw s e (bk a) Sl A ((.sl al 0 a.length 1,1,aZ R) :: (lZ R ++ jA (bB g a (bk a).length 0) F))/\R.length=a.length/\(∀ y,y < a.length->(R.getD y (.any,[])).2=if y=i then [] else fR y)/\H J=.map (bQ fu F) c5)
  (ht:T 1=.aI (ag g) 0/\T 6=.ptr W 0 0/\T 7=.mp J/\T 13=.sl al 0 a.length 1/\T 14=gi i/\T 88=gi a.length/\T 89=gi i/\T 94=gi g.rules.length/\T 95=gi 0)
  (hQ:∀ (p:Env) (H':View),(∃ R:K1,dd g a H' W qn cM M uw s e (bk a) Sl A ((.sl al 0 a.length 1,1,aZ R) :: (lZ R ++ jA (bB g a (bk a).length 0) F))/\R.length=a.length/\(∀ y,y < a.length->(R.getD y (.any,[])).2=if y=i then Ct g a (sF Sl) i else fR y)/\H' J=.map (bQ fu F) c5) ->
   p 1=.aI (ag g) 0->p 6=.ptr W 0 0->p 7=.mp J->p 13=.sl al 0 a.length 1->p 88=gi a.length->p 89=gi i->Q (.exit 6) p H'):aR Tryz.prog w6 T H Q v:=by
 have cc:=rn hA
 have dm:(bk a).length<=40 * a.length:=mP hA.ok.aK a.length
 have ds:=hA.dq.rules
 obtain⟨t1,t6,t7,t13,t14,t88,t89,t94,t95⟩:=ht
 refine aR.up g.rules.length (λk T H'=>(∃ R:K1,dd g a H' W qn cM M uw s e (bk a) Sl A ((.sl al 0 a.length 1,1,aZ R) :: (lZ R ++ jA (bB g a (bk a).length 0) F))/\R.length=a.length/\(∀ y,y < a.length->(R.getD y (.any,[])).2=if y=i then (List.range k).filterMap (jL g a (sF Sl) i) else fR y)/\H' J=.map (bQ fu F) c5) /\
  T 1=.aI (ag g) 0/\T 6=.ptr W 0 0/\T 7=.mp J/\T 13=.sl al 0 a.length 1/\T 14=gi i/\T 88=gi a.length/\T 89=gi i/\T 94=gi g.rules.length/\T 95=gi k) ⟨by simpa using hJ,t1,t6,t7,t13,t14,t88,t89,t94,t95⟩ ?_
 clear hJ t1 t6 t7 t13 t14 t88 t89 t94 t95
 rintro k m T H1 hm ⟨⟨R,Z,U,hR,G⟩,t1,t6,t7,t13,t14,t88,t89,t94,t95⟩
 simp(disch:=omega)only[↓wr,seval,wq,w6,t94,t95]
 apply ah.dec<;>intro hc
 rotate_left
 .have cf:k=g.rules.length:=by omega
  subst cf
  simp(disch:=omega)only[↓wr,seval,wq]
  exact hQ _ _ ⟨R,Z,U,hR,G⟩ t1 t6 t7 t13 t88 t89
 have cg:k < g.rules.length:=by omega
 have ar:=XB (g:=g) (a:=a) (n:=(bk a).length) (k:=k) (i:=i) cg
 have hu:aV H1 ((getM F ((i:Int),(k:Int))).getD (.emp 1)) 1 (ga (jx g a (bk a).length k i)):=by
  cases hg:getM F ((i:Int),(k:Int)) with
  | none =>
   have:bB g a (bk a).length 0 ((i:Int),(k:Int))=[]:=aay λch=>ca.all _ ch hg
   rw[ar] at this
   rw[this];exact .nil
  | some v =>
   obtain⟨P,Qm,b,rfl,_⟩:=zI hg
   have:=Z.own.1 (v,1,ga (bB g a (bk a).length 0 ((i:Int),(k:Int)))) (by simp[jA])
   rw[ar] at this
   exact this
 generalize cj:(getM F ((i:Int),(k:Int))).getD (.emp 1)=u at hu
 have a1:cT u=some (jx g a (bk a).length k i).length:=by rw[hu.len,Zr]
 have ck:(jx g a (bk a).length k i).length<=100000:=by
  unfold jx
  have:=aac (λx=>decide ((ay g k).left=(dC a x).2/\lq a (dC a x).1.toNat (ay g k).right=i)) (List.range (bk a).length)
  rw[abw] at this
  omega
 have cr:∀ x∈jx g a (bk a).length k i,x < (bk a).length:=λx hx=>by
  unfold jx at hx
  exact aap.1 (aag.1 hx).1
 have cu:dK Tryz.prog 114=some (119,43):=by kernel_rfl
 have hz:zeroV Tryz.prog 43=some (.emp 1):=by kernel_rfl
 simp(disch:=omega)only[↓wr,seval,wq,t7,t14,t95]
 refine IS (kv:=fu) (kt:=119) (et:=43) (z:=.emp 1) (id:=J) (c:=c5) (m:=F) (k:=((i:Int),(k:Int))) cu hz (Cl MS) (by first | rfl | simp(disch:=omega)only[↓wr,seval,wq]) (by first | rfl | (simp(disch:=omega)only[↓wr,seval,wq];rfl)) G ?_
 rw[cj]
 have a6:(List.range (k+1)).filterMap (jL g a (sF Sl) i)=(List.range k).filterMap (jL g a (sF Sl) i) ++ (jL g a (sF Sl) i k).toList:=by
  rw[Z8,List.filterMap_append]
  congr 1
 generalize a7:jx g a (bk a).length k i=E at *
 simp(disch:=omega)only[↓wr,seval,wq,a1]
 apply ah.eq<;>intro h0
 .simp(disch:=omega)only[↓wr,seval,wq,t1,t6,t7,t13,t14,t88,t89,t94,t95]
  have a8:E=[]:=aaJ.1 (by omega)
  have cv:jL g a (sF Sl) i k=none:=by unfold jL;rw[a7,Zn a8]
  refine aE hm (by omega) ⟨⟨R,Z,U,λy hy=>?_,G⟩,t1,t6,t7,t13,t14,t88,t89,t94,by first | rfl | (congr 2)⟩
  rw[a6,cv]
  simpa using hR y hy
 have cA:jL g a (sF Sl) i k=some ⟨k,nE (sF Sl) E⟩:=by unfold jL;rw[a7,Zk (λe=>h0 (by rw[e];rfl))]
 simp(disch:=omega)only[↓wr,seval,wq,t6,a1]
 intro q hq
 rw[set_set]
 obtain⟨hW,_,hs,he,n1,n2,n3⟩:=Z.at cc
 refine X6 hW hs Z.sl hu cr ck hq ⟨t6,rfl,rfl,rfl,rfl⟩ (λp N bb bd bn br bs bx=>?_)
 have v1:p 1=.aI (ag g) 0:=(N 1 (by omega)).trans t1
 have v6:p 6=.ptr W 0 0:=(N 6 (by omega)).trans t6
 have v7:p 7=.mp J:=(N 7 (by omega)).trans t7
 have an:p 13=.sl al 0 a.length 1:=bb.trans t13
 have aq:p 14=gi i:=bd.trans t14
 have v17:p 17=.ptr q 0 0:=(N 17 (by omega)).trans rfl
 have b0:p 88=gi a.length:=bn.trans t88
 have b1:p 89=gi i:=br.trans t89
 have b2:p 94=gi g.rules.length:=bs.trans t94
 have cC:p 95=gi k:=bx.trans t95
 clear N bb bd bn br bs bx t1 t6 t7 t13 t14 t88 t89 t94 t95 hW hs he n1 n2 n3
 have t:=Z.fresh hq (o:=.arr 2 [[gi (k:Int),gw (nE (sF Sl) E)]])
 have O:(H1.set q (.arr 2 [[gi (k:Int),gw (nE (sF Sl) E)]])) J=.map (bQ fu F) c5:=by
  simp only[View.set];rw[Zk (λe=>by rw[<-e,G] at hq;simp at hq)];exact G
 have b3:(H1.set q (.arr 2 [[gi (k:Int),gw (nE (sF Sl) E)]])) q=.arr 2 [[gi (k:Int),gw (nE (sF Sl) E)]]:=by simp[View.set]
 generalize H1.set q (.arr 2 [[gi (k:Int),gw (nE (sF Sl) E)]])=H2 at t O b3 ⊢
 clear Z G hq hu
 obtain⟨f,⟨L,li⟩,j,rfl,I,_⟩:=oA (l:=R) (i:=i) (by omega)
 have cN:lZ (f ++ (L,li) :: j)=lZ f ++ (L,2,gJ li) :: lZ j:=by simp[lZ]
 have S:=t.own
 rw[cN] at S
 have cS:(aZ (f ++ (L,li) :: j)).length=a.length:=by rw[aZ,Zr];exact U
 have cV:H2 al=.arr 1 (aZ (f ++ (L,li) :: j)):=by
  have:=t.own.1 (.sl al 0 a.length 1,1,aZ (f ++ (L,li) :: j)) (by simp)
  rcases this with ⟨_,kk,h⟩ | ⟨w,h1,h2⟩
  .simp at h
  .simp only[V.sl.injEq] at h1
   rw[h1.1];exact h2
 have b4:(aZ (f ++ (L,li) :: j)).getD i []=[L]:=by rw[<-I];simp[aZ]
 have b5:li=(List.range k).filterMap (jL g a (sF Sl) i):=by
  have:=hR i hi
  rw[Zn rfl] at this
  have e:((f ++ (L,li) :: j).getD i (V.any,([]:List cz))).2=li:=by rw[<-I];simp
  rw[e] at this
  exact this
 have db:li.length<=40:=by
  rw[b5]
  have:=List.length_filterMap_le (jL g a (sF Sl) i) (List.range k)
  rw[abw] at this
  omega
 simp(disch:=omega)only[↓wr,seval,wq,an,aq,v17,cV,b4,b3]
 refine⟨hi,by omega,λq9 C=>?_⟩
 have c3:bR (H2.set q9 (.arr 2 [[gi (k:Int),gw (nE (sF Sl) E)]])) (.sl q9 0 1 2)=some ([[gi (k:Int),gw (nE (sF Sl) E)]],[q9]):=by simp[bR,View.set]
 simp(disch:=omega)only[↓wr,seval,wq,c3]
 have lx:∀ (a b c d y r:ct) (X f j K:List ct),a :: b :: c :: d :: (X ++ y :: ((f ++ r :: j) ++ K))=(a :: b :: c :: d :: (X ++ y :: f)) ++ r :: (j ++ K):=λa b c d y r X f j K=>by simp
 have ly:∀ (a b c d y:ct) (X K:List ct),a :: b :: c :: d :: (X ++ y :: K)=(a :: b :: c :: d :: X) ++ y :: K:=λa b c d y X K=>by simp
 rw[lx] at S
 have D:=S.perm ZY
 refine bL (D.fresh C) (by simp[aL]) (by unfold aA;simp[gJ];omega) (by unfold aA;simp[gJ];omega) ?_
 intro u2 H9 o9 l9
 have B:H9 al=.arr 1 (aZ (f ++ (L,li) :: j)):=by
  have:=o9.1 (.sl al 0 a.length 1,1,aZ (f ++ (L,li) :: j)) (by simp)
  rcases this with ⟨_,kk,h⟩ | ⟨w,h1,h2⟩
  .simp at h
  .simp only[V.sl.injEq] at h1
   rw[h1.1];exact h2
 have b7:=l9.map (D.fresh C).head (b:=J) (c:=c5) (es:=bQ fu F) (by
  simp only[View.set];rw[Zk (λe=>by rw[<-e,O] at C;simp at C)];exact O)
 have Y:=l9.map (D.fresh C).head (b:=qn) (c:=cM) (es:=bQ fu M) (by
  have:=t.mp
  simp only[View.set];rw[Zk (λe=>by rw[<-e,this] at C;simp at C)];exact this)
 have c9:(aZ (f ++ (L,li) :: j)).set i [u2]=aZ (f ++ (u2,li ++ [⟨k,nE (sF Sl) E⟩]) :: j):=by rw[<-I];simp[aZ]
 have b8:=o9.perm ZY.symm
 rw[<-lx,ly] at b8
 have da:=(b8.perm ZY).put (es':=aZ (f ++ (u2,li ++ [(⟨k,nE (sF Sl) E⟩:cz)]) :: j)) (by simp[aZ]) (by rw[cS])
 have b9:=da.perm ZY.symm
 rw[<-ly] at b9
 simp(disch:=omega)only[↓wr,seval,wq,v1,v6,v7,an,aq,b0,b1,b2,cC,B,b4,o9.head.cells,o9.head.fj,c9]
 refine⟨hi,by omega,?_⟩
 refine aE hm (by omega) ⟨⟨f ++ (u2,li ++ [⟨k,nE (sF Sl) E⟩]) :: j,⟨?_,?_,t.bo,t.num,t.sl,t.al⟩,by simpa using U,λy hy=>?_,?_⟩,v1,v6,v7,an,aq,b0,b1,b2,by first | rfl | (congr 2)⟩
 .rw[show lZ (f ++ (u2,li ++ [(⟨k,nE (sF Sl) E⟩:cz)]) :: j)=lZ f ++ (u2,2,gJ li ++ [[gi (k:Int),gw (nE (sF Sl) E)]]) :: lZ j by simp[lZ,gJ,zK]]
  exact b9
 .show (H9.set al _) qn=_
  simp only[View.set];rw[Zk (λe=>by rw[<-e,Y] at B;simp at B)];exact Y
 .by_cases e:y=i
  .rw[Zn e,a6,cA,e,<-I]
   simp[b5,I]
  .rw[C2 (y:=(L,li)) (by rw[I];exact e),Zk e]
   have:=hR y hy
   rw[Zk e] at this
   exact this
 .show (H9.set al _) J=_
  simp only[View.set];rw[Zk (λe=>by rw[<-e,b7] at B;simp at B)];exact b7
theorem dd.Vo {g:aj} {a:List aM} {H:View} {W qn cM:Nat} {M:bW (Int × Int)} {uw:V} {s e:Nat} {ws:List (Int × Int)} {Sl:List BV} {A:List (V × List Nat)} {y:ct} {K:List ct} (h:dd g a H W qn cM M uw s e ws Sl A (y :: K)):∀ n:Nat,dd g a H W qn cM M uw s e ws Sl A (y :: (lZ (List.replicate n (.emp 1,[])) ++ K))
 | 0=>by simpa [lZ] using h
 | n+1=>by
  have f:=dd.Vo h n
  have l:∀ (a b c d y r:ct) (X K:List ct),a :: b :: c :: d :: (X ++ (y :: r :: K))=(a :: b :: c :: d :: (X ++ [y])) ++ r :: K:=λa b c d y r X K=>by simp
  have lw:∀ (a b c d y:ct) (X K:List ct),a :: b :: c :: d :: (X ++ (y :: K))=(a :: b :: c :: d :: (X ++ [y])) ++ K:=λa b c d y X K=>by simp
  have j:=f.own.emp (k:=1) (sz:=2)
  rw[lw] at j
  have i:=j.perm ZY.symm
  rw[<-l] at i
  refine⟨?_,f.mp,f.bo,f.num,f.sl,f.al⟩
  rw[show lZ (List.replicate (n+1) ((.emp 1,[]):V × List cz)) ++ K=(.emp 1,2,[]) :: (lZ (List.replicate n (.emp 1,[])) ++ K) by simp[lZ,gJ,List.replicate_succ]]
  exact i
theorem RC (g:aj) (hg:g.Ok) (P:g.Small):cE Tryz.prog 33 [.agg (ag g)] (.bt [qk (mJ g).1,gi (mJ g).2]):=by
 refine cE.of (dT g) ?_
 have hB:=(HY g hg P).pure
 refine au.of mixed KU ?_
 simp only[ag,encS] at hB
 simp(disch:=omega)only[↓wr,seval,wq,Hk,ag,encS]
 refine ax.pure hB ?_
 unfold mJ
 simp(disch:=omega)only[↓wr,seval,wq]
 apply ah.ne<;>intro h
 .simp(disch:=omega)only[↓wr,seval,wq]
  intro h' _
  rw[Zk h]
  exact kX (.emp _)
 rw[Zn h]
 have hr:isRed g=true:=by
  rcases Hm g with ⟨_,hr⟩ | ⟨h2,hr⟩ | ⟨h2,hr⟩
  .exact hr
  .exact hr
  .rw[h2] at h;simp at h
 have Q:=jX hr
 have S:=mL hr
 obtain⟨o1,o2,o3⟩:=Dc S h
 have C:cL g (bY g).1:=⟨S,o1,E3 S h,Eh S h,o2⟩
 generalize (bY g).1=a at *
 have d:=rn C
 have b8:(bk a).length<=40 * a.length:=mP C.ok.aK a.length
 have U:=Vf g hg P a o3 (λs hs=>⟨o1.aK s hs,o1.sym s hs⟩) (BC C) d
 simp only[ag,encS] at U
 simp(disch:=omega)only[↓wr,seval,wq,ag,encS]
 refine ax.dJ ((U _).mono ?_)
 rintro r H1 ⟨W,qn,cM,M,uw,s,e,rfl,hI⟩
 simp(disch:=omega)only[↓wr,seval,wq]
 refine ax.dJ ((V6 C Q o3 hI).mono ?_)
 rintro r H2 ⟨e2,Sl,A,D,bl⟩
 obtain⟨hW,⟨w,bn,hw⟩,hs,he,n1,n2,n3⟩:=D.at d
 have F:cT uw=some (bk a).length:=by rw[bn];rfl
 have X:∀ q,H2 q=.dead->W≠q:=λq hq e=>by rw[e,hq] at hW;simp at hW
 simp(disch:=omega)only[↓wr,seval,wq,hW,F]
 refine⟨⟨by omega,by unfold aA;omega,by unfold aA;omega⟩,λh0=>by omega,λ_ O G=>?_⟩
 have w1:=X O G
 simp(disch:=omega)only[↓wr,seval,wq,w1,F]
 intro j c
 obtain⟨b1,c⟩:=jo c
 obtain⟨b2,c⟩:=jo c
 simp(disch:=omega)only[↓wr,seval,wq,Ne.symm b1,F]
 have l:=D.Vx G
 have b:((H2.set O (.arr 1 (List.replicate (bk a).length [V.emp 1]))).set W (.arr 10 [[V.aD (g.af.map bS),.aD (g.ak.map λs=>[gs s]),.aD (g.rules.map aO),gi g.start,ba a,bP (av g false),.mp qn,uw,.sl s 0 (bk a).length 1,.sl O 0 (bk a).length 1]])) j=.dead:=by
  simp only[View.set];rw[Zk b1,Zk b2];exact c
 generalize ((H2.set O (.arr 1 (List.replicate (bk a).length [V.emp 1]))).set W (.arr 10 [[V.aD (g.af.map bS),.aD (g.ak.map λs=>[gs s]),.aD (g.rules.map aO),gi g.start,ba a,bP (av g false),.mp qn,uw,.sl s 0 (bk a).length 1,.sl O 0 (bk a).length 1]]))=H3 at l b ⊢
 have Y:qn≠j:=λe=>by have:=l.mp;rw[e,b] at this;simp at this
 have H:=l.fresh b (o:=.map [] 0)
 have f:(H3.set j (.map [] 0)) j=.map (bQ fu []) 0:=by simp[View.set,bQ]
 generalize H3.set j (.map [] 0)=H4 at H f ⊢
 clear hI D l b c G hW hw hs he n1 n2 n3 X w1 b1 b2
 refine of_walks C Q o3 Y ⟨_,0,[],H,λz hz=>by simp[Zi,hz,kD],f,⟨by simp,by simp⟩,⟨by simp,λk hk=>absurd (by rw[We]) hk⟩⟩ ⟨rfl,rfl,rfl,rfl,rfl,rfl,rfl⟩ (λT' H' hF u1 u4 u6 u7=>?_)
 obtain⟨A5,c5,M5,m,br,n,b9,bs⟩:=hF
 clear H f
 obtain⟨-,-,Z,-⟩:=m.at d
 have bx:∀ x,x < (bk a).length->(kD g a (bk a).length x).length<=1000000000/\∀ y∈kD g a (bk a).length x,y < (bk a).length:=λx hx=>⟨aai (Dg S _ _) (by omega),λy I=>((C1 _).1 I).1⟩
 have b0:=m.WX d (E:=kD g a (bk a).length) br bx
 simp(disch:=omega)only[↓wr,seval,wq,u6]
 refine ax.dJ ((Ik b0 d (by omega) Sl Z m.sl).mono ?_)
 rintro r H6 ⟨Sl',k1,k2,k3,k4⟩
 have an:=(m.Bl (Sl':=Sl') k1).stay (H':=H6) λid J=>by
  simp only[View.set] at J ⊢
  by_cases e:id=s
  .rw[Zn e,e];exact k2
  .rw[Zk e] at J ⊢
   exact k4 id J e
 have aq:H6 j=.map (bQ fu M5) c5:=by
  rw[k4 j (by rw[n];simp) (λe=>by rw[e,Z] at n;simp at n)];exact n
 have hS:∀ (x p t:Nat) (B:Int),(bk a)[x]?=some ((p:Int),B)->((sF Sl' x).getLsbD t=true↔zE g a p B t):=λx p t B hx =>
  (k3 x t (Zy.1 hx).1).trans (Vg C bl hx)
 simp(disch:=omega)only[↓wr,seval,wq,u4,ba]
 refine⟨⟨Zt _,by unfold aA;omega,by unfold aA;omega⟩,λh0=>by omega,λ_ al K=>?_⟩
 have L:=an.WJ K 1 (List.replicate a.length [V.emp 1])
 rw[aaq] at L
 have u:=L.Vo a.length
 rw[show List.replicate a.length [V.emp 1]=aZ (List.replicate a.length ((.emp 1,[]):V × List cz)) by simp[aZ]] at u
 have v:(H6.set al (.arr 1 (List.replicate a.length [V.emp 1]))) j=.map (bQ fu M5) c5:=by
  simp only[View.set];rw[Zk (λe=>by rw[<-e,aq] at K;simp at K)];exact aq
 rw[show List.replicate a.length [V.emp 1]=aZ (List.replicate a.length ((.emp 1,[]):V × List cz)) by simp[aZ]] at v
 rw[show List.replicate a.length [V.emp 1]=aZ (List.replicate a.length ((.emp 1,[]):V × List cz)) by simp[aZ]]
 generalize H6.set al (.arr 1 (aZ (List.replicate a.length ((.emp 1,[]):V × List cz))))=H8 at u v ⊢
 try simp(disch:=omega)only[↓wr,seval,wq]
 refine aR.up a.length (λi T H'=>(∃ R:K1,dd g a H' W qn cM M uw s O (bk a) Sl' A5 ((.sl al 0 a.length 1,1,aZ R) :: (lZ R ++ jA (bB g a (bk a).length 0) M5))/\R.length=a.length/\(∀ y,y < a.length->(R.getD y (.any,[])).2=if y < i then Ct g a (sF Sl') y else [])/\H' j=.map (bQ fu M5) c5) /\
  T 1=.aI (ag g) 0/\T 6=.ptr W 0 0/\T 7=.mp j/\T 13=.sl al 0 a.length 1/\T 88=gi a.length/\T 89=gi i) ⟨⟨_,u,by simp,λy I=>by simp[Zi,I],v⟩,u1,u6,u7,rfl,rfl,rfl⟩ ?_
 clear an L u v u1 u4 u6 u7
 rintro i k T H9 hk ⟨⟨R,N,ar,hR,b3⟩,t1,t6,t7,t13,t88,t89⟩
 simp(disch:=omega)only[↓wr,seval,wq,CO,t88,t89]
 apply ah.dec<;>intro hc
 rotate_left
 .simp(disch:=omega)only[↓wr,seval,wq,t13]
  rintro h' rfl
  have a1:=N.own.1 (.sl al 0 a.length 1,1,aZ R) (by simp)
  have b4:R.map (·.2)=iu g a:=by
   unfold iu
   refine List.ext_getElem (by simp[ar]) λy h1 h2=>?_
   rw[Zr] at h1
   have:=hR y (by omega)
   rw[Zn (by omega),UP C hr hS (by omega)] at this
   rw[List.getElem_map,List.getElem_map,List.getElem_range,<-this]
   simp[Zi,h1]
  rw[<-b4]
  exact kX (Mj a1 λx hx=>N.own.1 (x.1,2,gJ x.2) (by
   have:(x.1,2,gJ x.2)∈lZ R:=ZF.2 ⟨x,hx,rfl⟩
   simp only[Zz,ZN,this,true_or,or_true]))
 simp(disch:=omega)only[↓wr,seval,wq,t1,t88,t89,ag,encS]
 refine UM C o3 (i:=i) (by omega) Y bs (fR:=λy=>if y < i then Ct g a (sF Sl') y else []) ⟨R,N,ar,λy I=>?_,b3⟩ ⟨t1,t6,t7,t13,rfl,t88,t89,rfl,rfl⟩ (λT' H' hF v1 v6 v7 a6 a7 b5=>?_)
 .rw[hR y I]
  by_cases e:y=i
  .rw[Zn e,Zk (by omega)]
  .rw[Zk e]
 .obtain⟨R9,a8,bb,b7,bd⟩:=hF
  simp(disch:=omega)only[↓wr,seval,wq,v1,v6,v7,a6,a7,b5]
  refine aE hk (by omega) ⟨⟨R9,a8,bb,λy I=>?_,bd⟩,v1,v6,v7,a6,a7,by first | rfl | (congr 2)⟩
  rw[b7 y I]
  by_cases e:y=i
  .rw[Zn e,Zn (by omega),e]
  .rw[Zk e]
   by_cases e2:y < i
   .rw[Zn e2,Zn (by omega)]
   .rw[Zk e2,Zk (by omega)]
section
variable {g:aj} {a:List aM}
end
theorem Nx {g:aj} (h:(bY g).2=0):isRed g=true/\cL g (bY g).1/\(bY g).1.length<=300:=by
 have hr:isRed g=true:=by
  rcases Hm g with ⟨_,hr⟩ | ⟨b,hr⟩ | ⟨b,hr⟩
  .exact hr
  .exact hr
  .rw[b] at h;simp at h
 have a:=mL hr
 obtain⟨c,d,e⟩:=Dc a h
 exact⟨hr,⟨a,c,E3 a h,Eh a h,d⟩,e⟩
def wz:SC :=
 ae [ab [aS 35 .lss 34 33],bT 35 (.exit 0),.block 1 (ae [ab [aa 36 34,aH 37 2 32 34,aT 38 2 37,((some 10),.op (.alloc [(.emp 1),(.emp 1)])),aa 9 36,bK 2 10 38],ab [aa 39 8,aa 40 9,aT 41 2 10,aa 42 7,aa 43 9,aH 44 1 42 43,ai 45 44,bh 46 85 [39,40,41,45]]]),ab [aG 47 .add 34 1,aa 34 47]]
def Al:SF:=⟨ae [ab [cw 1 0,((some 2),.op (.alloc [(.emp 1),(.emp 1)])),cq 3 1,aQ 4 0],ab [aT 12 4 1,bh 13 24 [12],aa 11 13,dW 14 0 11,dW 15 1 11,aa 5 14,aa 6 15],ae [ab [aa 16 6,aG 17 .neq 16 0],bc 17 (ae [ab [((some 18),.op (.build [(.emp 1),(.emp 1)] [])),aa 19 6,bK 2 2 18,cq 3 1,aa 4 19],.ret])],ab [aT 21 4 1,bh 22 33 [21],aa 20 22,dW 23 0 20,dW 24 1 20,aa 7 23,aa 6 24],ae [ab [aa 25 6,aG 26 .neq 25 0],bc 26 (ae [ab [((some 27),.op (.build [(.emp 1),(.emp 1)] [])),aa 28 6,bK 2 2 27,cq 3 1,aa 4 28],.ret])],ab [aT 29 4 1,((some 30),.op (.build [(.emp 1),(.emp 1),(.emp 1),(.val (.int .i64 0)),(.emp 1),(.emp 1),(.emp 1)] [(0,4,(.tmp 29))])),((some 31),.op (.box (.tmp 30))),aa 8 31],ae [ab [aa 32 5,aP 33 32,aQ 34 0],bU 0 wz],.kU [(54,2)] [⟨none,[aa 48 8,cQ 49 48,ao 50 4 49,aT 51 2 50,aa 52 8,cQ 53 52,ao 54 6 53,ai 55 54,bK 2 2 51,aa 3 55,aQ 4 0]⟩],.ret],
 [.cell 2 (some 2),.tmp 3,.tmp 4],56⟩
theorem Dd:aN Tryz.prog 43 [1]=some Al:=by kernel_rfl
theorem WY {α:Type} {u b k:α} {L:List α} : (u :: b :: k :: L).Perm (k :: u :: b :: L):=ZY (l₁:=[u,b])
theorem CU {g:aj} {a:List aM} (b:cL g a) (i:Nat):(gP g a i).length<=287:=by
 unfold gP
 refine aai (List.length_filterMap_le _ _) ?_
 unfold aY
 rw[Zi,Zm]
 cases h:a[i]? with
 | none=>simp
 | some s =>
  have hk:=b.ok.bf s (Zp h)
  exact gC b.dq (kz _ _) λy c=>((df b.dq hk.2.2).1 c).has hk.2.2
theorem PW {g:aj} {a:List aM} (b:cL g a) {i:Nat} (hi:i < a.length):((a.getD i bg).aK.map cn.sym).Nodup/\∀ e∈(a.getD i bg).aK,fT g e.sym=true:=by
 have hm:a.getD i bg∈a:=Zp (getD_some hi)
 refine⟨by rw[b.x.all _ hm];exact w7 g _ _,λe he=>?_⟩
 obtain⟨x,c,d⟩:=(b.oC hi).1 ⟨e,he,rfl⟩
 exact om b.dq (b.has hi c) d
theorem QO (g:aj) (M:g.Ok) (j:g.Small):cE Tryz.prog 43 [.agg (ag g)] (.bt [.agg (gV (jr g).1),.aD (fM (jr g).2.1),gi (jr g).2.2]):=by
 refine cE.of (dT g) ?_
 have N:=(HY g M j).pure
 have hO:=(RC g M j).pure
 refine au.of mixed Dd ?_
 simp only[ag,encS] at N hO
 simp(disch:=omega)only[↓wr,seval,wq,Al,ag,encS]
 intro y
 refine ax.pure N ?_
 unfold jr
 simp(disch:=omega)only[↓wr,seval,wq]
 apply ah.ne<;>intro h
 .simp(disch:=omega)only[↓wr,seval,wq]
  intro h' _
  rw[Zk h]
  exact wx (.emp _) (.emp _) (.emp _)
 rw[Zn h]
 obtain⟨hr,J,Y⟩:=Nx h
 have d:mJ g=(iu g (bY g).1,0):=by unfold mJ;rw[Zn h]
 rw[d] at hO ⊢
 have an:(iu g (bY g).1).length=(bY g).1.length:=by simp[iu]
 have B:∀ i:Nat,i < (bY g).1.length->(iu g (bY g).1)[i]?=some (gP g (bY g).1 i):=λi hi=>by rw[iu,Zm,abl hi];rfl
 generalize (bY g).1=a at *
 have C:=CU J
 have O:∀ i:Nat,((iu g a).getD i []).length<=10000:=λi=>by
  rw[Zi]
  rcases ZI i a.length with hi | hi
  .rw[B i hi];have:=C i;simp only[ZC];omega
  .rw[ZT (by omega)];simp
 clear N h d
 have P:=mL hr
 have Q:=jX hr
 have hT:=P.af
 have hN:=P.ak
 generalize iu g a=L at *
 simp(disch:=omega)only[↓wr,seval,wq,ag,encS]
 refine ax.pure hO ?_
 simp(disch:=omega)only[↓wr,seval,wq,ba]
 intro m o
 have D:m≠y:=(cP o cI).1
 have Z:=(aX.nil.new (n:=y) (H:=λ_=>cU.dead) rfl 2 [[.emp 1,.emp 1]]).new (n:=m) (by simpa [View.set] using o) 7 [eD g (.emp 1) (.emp 1) (.emp 1)]
 have K:=((((Z.emp (k:=1) (sz:=1)).emp (k:=1) (sz:=1)).emp (k:=1) (sz:=5)).perm (.cons _ WY)).perm (.cons _ (.cons _ (.swap _ _ _)))
 clear Z o
 simp only[eD,ZB,ZW] at K
 generalize ((View.set (λ_=>cU.dead) y (.arr 2 [[.emp 1,.emp 1]])).set m (.arr 7 [[V.aD (g.af.map bS),.aD (g.ak.map λs=>[gs s]),.aD (g.rules.map aO),gi g.start,.emp 1,.emp 1,.emp 1]]))=H0 at K ⊢
 refine aR.up a.length (λi T H'=>∃ (p r z:V) (A:ET) (G:IN),A.map (·.2)=(jZ g a L i).fe/\G.map (·.2)=(jZ g a L i).gotos /\
  aX H' ((z,5,fM (qB g a L i)) :: (.sl m 0 1 7,7,[eD g p r z]) :: (p,1,aZ A) :: (r,1,aZ G) :: (rP A ++ rS G ++ [(.sl y 0 1 2,2,[[.emp 1,.emp 1]])]))/\T 2=.ptr y 0 0/\T 7=qk L/\T 8=.ptr m 0 0/\T 32=ba a/\T 33=gi a.length/\T 34=gi i)
  ⟨.emp 1,.emp 1,.emp 1,[],[],rfl,rfl,by simpa [qB,aZ,rP,rS,fM] using K,rfl,rfl,rfl,rfl,rfl,rfl⟩ ?_
 clear K
 rintro i k T H hk ⟨p,r,z,A,G,t,u,w,t2,t7,t8,t32,t33,t34⟩
 simp(disch:=omega)only[↓wr,seval,wq,wz,t2,t7,t8,t32,t33,t34]
 apply ah.dec<;>intro hc
 .have c:i < a.length:=by omega
  have hs:a[i]?=some (a.getD i bg):=getD_some c
  have hl:=B i c
  have E:L.getD i []=gP g a i:=by rw[Zi,hl];rfl
  have e:=AN g a L i
  have aq:=yK (g:=g) (a:=a) (l:=L) O hT i
  have b:(jZ g a L (i+1)).fe=(jZ g a L i).fe ++ [ed g (a.getD i bg) (gP g a i) i (g.af.length+1)]/\(jZ g a L (i+1)).gotos=(jZ g a L i).gotos ++ [qg g a i]:=by
   simp only[jZ,Z8,ZD,ZJ,aaK,E,and_self]
  rw[E] at e
  obtain⟨en,es⟩:=PW J c
  have lA:=aau List.length t
  have lG:=aau List.length u
  simp only[jZ,Zr,abw] at lA lG
  have F:=J.ok.bf _ (Zp hs)
  have I:=Qv g M j Q a J.ok i c en es (by unfold aJ;have:=gC P F.1 F.2.2;omega) (gP g a i) (by have:=C i;omega) p r z A G (qB g a L i) (by omega) (by omega) (by omega) m
  generalize gP g a i=lk at *
  generalize a.getD i bg=s at *
  simp only[dy] at I
  simp(disch:=omega)only[↓wr,seval,wq,t2,t7,t8,t32,t33,t34,ba,qk,Zm,hs,hl,Zq,dy]
  intro q hq
  rw[set_set]
  refine ax.dJ ((I _ _ (w.fresh hq)).mono ?_)
  rintro v H7 ⟨R,S,U,ur,uk,f⟩
  simp(disch:=omega)only[↓wr,seval,wq,t2,t7,t8,t32,t33,t34]
  refine aE hk (by omega) ⟨R,S,U,A ++ [(ur,ed g s lk i (g.af.length+1))],G ++ [(uk,qg g a i)],?_,?_,?_,t2,t7,t8,t32,t33,rfl⟩
  .rw[ZD,t,b.1];rfl
  .rw[ZD,u,b.2];rfl
  .rw[e];exact f
 .have W:i=a.length:=by omega
  subst W
  have h9:=w.is 1 rfl (by simp)
  have o4:=w.perm (aaQ (.sl y 0 1 2,2,[[.emp 1,.emp 1]]) ((z,5,fM (qB g a L a.length)) :: (.sl m 0 1 7,7,[eD g p r z]) :: (p,1,aZ A) :: (r,1,aZ G) :: (rP A ++ rS G)))
  have h2:=o4.is 0 rfl (by simp)
  have ca:=(w.own 2 rfl).cells
  have ka:=(w.own 2 rfl).fj
  have cg:=(w.own 3 rfl).cells
  have kg:=(w.own 3 rfl).fj
  simp(disch:=omega)only[↓wr,seval,wq,t2,t7,t8,h9,h2,ca,ka,cg,kg,eD]
  refine⟨D,λh' hv=>?_⟩
  have f:=o4.put (es':=[[p,r]]) rfl rfl
  rw[<-hv] at f
  unfold gV
  rw[<-t,<-u]
  refine wx (HS (f.own 3 rfl) λx X=>f.1 (x.1,2,x.2.map dU) ?_) (Pt.Yf ⟨G,rfl,f.own 4 rfl,λx X=>f.1 (x.1,1,bF x.2) ?_⟩) (FF (f.own 1 rfl))
  .simp only[Zz,ZN]
   exact .inr (.inr (.inr (.inr (.inr (.inl (ZF.2 ⟨x,X,rfl⟩))))))
  .simp only[Zz,ZN]
   exact .inr (.inr (.inr (.inr (.inr (.inr (ZF.2 ⟨x,X,rfl⟩))))))
def pF:SC :=
 ae [ae [ab [aa 42 6,ao 43 0 2,ai 44 43,aa 45 5,aH 46 1 44 45,ai 47 46,aP 48 47,aS 49 .lss 42 48],bT 49 (.exit 2)],.block 3 (ae [ab [ao 52 0 2,ai 53 52,aa 54 5,aH 55 1 53 54,ai 56 55,aa 57 6,aH 58 2 56 57,aT 59 2 58,ao 60 0 3,ai 61 60,aa 62 5,aH 63 1 61 62,ai 64 63,aa 65 6,aH 66 2 64 65,aT 67 2 66,((some 68),.op (.old (.binOp .neq 84 (.tmp 59) (.tmp 67) 84) 4))],bc 68 (ae [ab [bz 4 false],.ret])]),ab [aa 50 6,aG 51 .add 50 1,aa 6 51]]
def qw:SC :=
 ae [ae [ab [aa 22 5,ao 23 0 2,ai 24 23,aP 25 24,aS 26 .lss 22 25],bT 26 (.exit 0)],.block 1 (ae [ae [ab [ao 29 0 2,ai 30 29,aa 31 5,aH 32 1 30 31,ai 33 32,aP 34 33,ao 35 0 3,ai 36 35,aa 37 5,aH 38 1 36 37,ai 39 38,aP 40 39,aS 41 .neq 34 40],bc 41 (ae [ab [bz 4 false],.ret])],ab [aQ 6 0],bU 2 pF]),ab [aa 27 5,aG 28 .add 27 1,aa 5 28]]
def se:SF:=⟨ae [ab [cw 2 0,cw 3 1,bz 4 false],ae [.region false [⟨none,[ao 7 0 2,ai 8 7,aP 9 8,ao 10 0 3,ai 11 10,aP 12 11,aS 13 .neq 9 12,aa 14 13]⟩,⟨(some (14,false)),[ao 15 1 2,ai 16 15,ao 17 1 3,ai 18 17,bh 19 87 [16,18],c6 20 19]⟩,⟨none,[cD 21 14 20]⟩],bc 21 (ae [ab [bz 4 false],.ret])],ae [ab [aQ 5 0],bU 0 qw],ab [bz 4 true],.ret],
 [.tmp 4],69⟩
theorem ye:aN Tryz.prog 45 [2,3]=some se:=by kernel_rfl
def lD:SC :=
 ae [ae [ab [aa 11 5,aa 12 0,aP 13 12,aS 14 .lss 11 13],bT 14 (.exit 0)],.block 1 (ae [ab [aa 17 0,aa 18 5,aH 19 5 17 18,aT 20 5 19,aa 21 1,aa 22 5,aH 23 5 21 22,aT 24 5 23,((some 25),.op (.old (.binOp .neq 87 (.tmp 20) (.tmp 24) 87) 4))],bc 25 (ae [ab [bz 4 false],.ret])]),ab [aa 15 5,aG 16 .add 15 1,aa 5 16]]
def nb:SF:=⟨ae [ab [bz 4 false],ae [ab [aa 6 0,aP 7 6,aa 8 1,aP 9 8,aS 10 .neq 7 9],bc 10 (ae [ab [bz 4 false],.ret])],ae [ab [aQ 5 0],bU 0 lD],ab [bz 4 true],.ret],
 [.tmp 4],26⟩
theorem ta:aN Tryz.prog 46 []=some nb:=by kernel_rfl
def lC:SF:=⟨ae [ab [cw 1 0,bz 2 false],ae [ab [bh 10 42 [],c6 11 10],bc 11 (ae [ab [bz 2 false],.ret])],ae [ab [aT 12 4 1,bh 13 16 [12]],bc 13 (ae [ab [bz 2 true],.ret])],ab [aT 14 4 1,bh 15 32 [14],((some 3),.op (.alloc [(.emp 1),(.emp 1),(.emp 1),(.val (.int .i64 0))])),bK 4 3 15],ab [aT 17 4 3,bh 18 43 [17],aa 16 18,dW 19 0 16,dW 20 1 16,dW 21 2 16,((some 4),.op (.alloc [(.emp 1),(.emp 1)])),bK 2 4 19,aa 5 20,aa 6 21],ab [aT 23 4 1,bh 24 44 [23],aa 22 24,dW 25 0 22,dW 26 1 22,dW 27 2 22,((some 7),.op (.alloc [(.emp 1),(.emp 1)])),bK 2 7 25,aa 8 26,aa 9 27],.region false [⟨none,[aT 28 2 4,aT 29 2 7,bh 30 45 [28,29],aa 31 30]⟩,⟨(some (31,true)),[aa 32 5,aa 33 8,bh 34 46 [32,33]]⟩,⟨none,[eF 35 31 34,aa 36 35]⟩,⟨(some (36,true)),[aa 37 6,aa 38 9,aS 39 .eql 37 38]⟩,⟨none,[eF 40 36 39,aa 41 40]⟩,⟨(some (41,true)),[aT 42 4 3,aT 43 4 1,bh 44 36 [42,43]]⟩,⟨none,[eF 45 41 44,aa 2 45]⟩],.ret],
 [.tmp 2],46⟩
theorem rC:aN Tryz.prog 12 [1]=some lC:=by kernel_rfl
theorem QA (x y:iV):gg Tryz.prog 9998 #[.int .i64 x.state,.int .i64 x.term,.int .i64 x.kind,.int .i64 x.aw,.int .i64 x.other] #[.int .i64 y.state,.int .i64 y.term,.int .i64 y.kind,.int .i64 y.aw,.int .i64 y.other]
  [{ name:= "State",type:=3,offset:=0,embedded:=false,tag:= "",pkgPath:= "",byteOffset:=0 },{ name:= "Term",type:=3,offset:=1,embedded:=false,tag:= "",pkgPath:= "",byteOffset:=8 },{ name:= "Kind",type:=3,offset:=2,embedded:=false,tag:= "",pkgPath:= "",byteOffset:=16 },{ name:= "Rule",type:=3,offset:=3,embedded:=false,tag:= "",pkgPath:= "",byteOffset:=24 },{ name:= "Other",type:=3,offset:=4,embedded:=false,tag:= "",pkgPath:= "",byteOffset:=32 }]
  ((x.state == y.state) && ((x.term == y.term) && ((x.kind == y.kind) && ((x.aw == y.aw) && ((x.other == y.other) && true))))) :=
 .int _ _ _ .i64 _ _ (by decide) Tryz.underlying3 rfl rfl (.int _ _ _ .i64 _ _ (by decide) Tryz.underlying3 rfl rfl (.int _ _ _ .i64 _ _ (by decide) Tryz.underlying3 rfl rfl (.int _ _ _ .i64 _ _ (by decide) Tryz.underlying3 rfl rfl (.int _ _ _ .i64 _ _ (by decide) Tryz.underlying3 rfl rfl .nil))))
theorem OB (l:List iV) (hl:aJ l):az Tryz.prog 46 [.aD (fM l),.aD (fM l)] (gb true):=by
 unfold aJ at hl
 refine az.val (by
  intro v a;simp at a
  subst a;exact Wu l) λH=>?_
 refine au.of mixed ta ?_
 simp(disch:=omega)only[↓wr,seval,wq,nb,gY]
 refine ah.ne (λh=>absurd rfl h) (λ_=>?_)
 simp(disch:=omega)only[↓wr,seval,wq]
 refine aR.up l.length (λi T H'=>T 0=.aD (fM l)/\T 1=.aD (fM l)/\T 5=gi i) ⟨rfl,rfl,rfl⟩ ?_
 rintro i k T H' hk ⟨t0,t1,t5⟩
 simp(disch:=omega)only[↓wr,seval,wq,lD,t0,t1,t5,gY]
 apply ah.dec<;>intro c
 .have b:l[i]?=some (l[i]'(by omega)):=Zj (by omega)
  generalize l[i]'(by omega)=y at b
  simp(disch:=omega)only[↓wr,seval,wq,t0,t1,t5,fM,Zm,b,Zq,EN]
  refine fQ (xs:=#[.int .i64 y.state,.int .i64 y.term,.int .i64 y.kind,.int .i64 y.aw,.int .i64 y.other]) (ys:=#[.int .i64 y.state,.int .i64 y.term,.int .i64 y.kind,.int .i64 y.aw,.int .i64 y.other]) Tryz.underlying87 (by kernel_rfl) (by kernel_rfl) ?_ ?_ (QA y y) (.inr ⟨rfl,rfl⟩) ?_
  .rfl
  .rfl
  simp only[aaF,Bool.and_self,abd]
  simp(disch:=omega)only[↓wr,seval,wq,t0,t1,t5]
  exact aE hk (by omega) ⟨t0,t1,rfl⟩
 .simp(disch:=omega)only[↓wr,seval,wq]
theorem P7 (t:PV) (l:aJ t.fe) (hs:∀ r∈t.fe,aJ r) (o:aJ t.gotos) (b:∀ r∈t.gotos,aJ r):az Tryz.prog 45 [.agg (gV t),.agg (gV t)] (gb true):=by
 have e:=Vi t.gotos t.gotos o b
 rw[aaF] at e
 unfold aJ at l
 refine az.val (by
  intro v f;simp at f
  subst f;exact cb _ (Ls t)) λH=>?_
 refine au.of mixed ye ?_
 simp(disch:=omega)only[↓wr,seval,wq,se,gV]
 refine ah.ne (λh=>absurd rfl h) (λ_=>?_)
 simp(disch:=omega)only[↓wr,seval,wq]
 refine ax.pure e ?_
 simp(disch:=omega)only[↓wr,seval,wq]
 refine aR.up t.fe.length (λi T H'=>T 2=.aI (gV t) 0/\T 3=.aI (gV t) 0/\T 5=gi i) ⟨rfl,rfl,rfl⟩ ?_
 rintro i k T H' hk ⟨t2,t3,t5⟩
 simp(disch:=omega)only[↓wr,seval,wq,qw,t2,t3,t5,gV]
 apply ah.dec<;>intro p
 .have a:t.fe[i]?=some (t.fe[i]'(by omega)):=Zj (by omega)
  have k2:=hs _ (Zs (show i < t.fe.length by omega))
  generalize t.fe[i]'(by omega)=x at a k2
  unfold aJ at k2
  simp(disch:=omega)only[↓wr,seval,wq,t2,t3,t5,gV,Zm,a,Zq,kS]
  refine ah.ne (λh=>absurd rfl h) (λ_=>?_)
  simp(disch:=omega)only[↓wr,seval,wq,t2,t3,t5]
  refine aR.up x.length (λj T H'=>T 2=.aI (gV t) 0/\T 3=.aI (gV t) 0/\T 5=gi i/\T 6=gi j) ⟨t2,t3,t5,rfl⟩ ?_
  clear t2 t3 t5
  rintro j m T q c ⟨t2,t3,t5,t6⟩
  simp(disch:=omega)only[↓wr,seval,wq,pF,t2,t3,t5,t6,gV,Zm,a,Zq,kS]
  apply ah.dec<;>intro d
  .have g:x[j]?=some (x[j]'(by omega)):=Zj (by omega)
   generalize x[j]'(by omega)=y at g
   simp(disch:=omega)only[↓wr,seval,wq,t2,t3,t5,t6,gV,Zm,a,g,Zq,kS,dU]
   refine fQ (xs:=#[.int .i64 y.kind,.int .i64 y.n]) (ys:=#[.int .i64 y.kind,.int .i64 y.n]) Tryz.underlying84 (by kernel_rfl) (by kernel_rfl) ?_ ?_ (LQ y y) (.inr ⟨rfl,rfl⟩) ?_
   .rfl
   .rfl
   simp only[aaF,Bool.and_self,abd]
   simp(disch:=omega)only[↓wr,seval,wq,t2,t3,t5,t6]
   exact aE c (by omega) ⟨t2,t3,t5,rfl⟩
  .simp(disch:=omega)only[↓wr,seval,wq,t2,t3,t5]
   exact aE hk (by omega) ⟨t2,t3,rfl⟩
 .simp(disch:=omega)only[↓wr,seval,wq]
theorem KY (g:aj):((jr g).1.fe.length<=300/\(∀ r∈(jr g).1.fe,r.length<=25))/\((jr g).1.gotos.length<=300/\∀ r∈(jr g).1.gotos,r.length<=16)/\(jr g).2.1.length<=75000000:=by
 unfold jr
 split
 .rename_i h
  obtain⟨hr,e,c⟩:=Nx h
  have f:=e.dq
  have k:=f.af;have l:=f.ak
  refine⟨⟨by simpa [jZ] using c,λr b=>?_⟩,⟨by simpa [jZ] using c,λr b=>?_⟩,?_⟩
  .simp only[jZ,ZF] at b
   obtain⟨i,_,rfl⟩:=b
   simp[ed];omega
  .simp only[jZ,ZF] at b
   obtain⟨i,_,rfl⟩:=b
   simp[qg];omega
  .have d:∀ i:Nat,((mJ g).1.getD i []).length<=10000:=λi=>by
    unfold mJ
    rw[Zn h,Zi,iu,Zm]
    cases hq:(List.range (bY g).1.length)[i]? with
    | none=>simp
    | some j=>have:=CU e j;simp only[Zq,ZC];omega
   have:=yK (a:=(bY g).1) d k (bY g).1.length
   simp only
   omega
 .simp
theorem Gt (g:aj) (l:g.Ok):az Tryz.prog 12 [.agg (ag g)] (gb true):=by
 refine az.val (dT g) λH=>?_
 refine au.of mixed rC ?_
 simp(disch:=omega)only[↓wr,seval,wq,lC,ag,encS]
 refine ax.pure Ow ?_
 simp(disch:=omega)only[↓wr,seval,wq,ag,encS]
 refine ax.pure (TJ g) ?_
 simp(disch:=omega)only[↓wr,seval,wq]
 apply ah.split<;>intro e
 .simp(disch:=omega)only[↓wr,seval,wq]
 have p:=(Rg g (OV e)).pure
 have h1:=(QO g l (Lo e)).pure
 have j:=(PH g l).pure
 have m:=Hh g g l
 rw[abn rfl] at m
 obtain⟨⟨u,n⟩,⟨v,o⟩,w⟩:=KY g
 generalize jr g=r at h1 j u n v o w
 obtain⟨t,c,D⟩:=r
 simp only at h1 j u n v o w
 have x:=P7 t (by unfold aJ;omega) (λs hs=>by have:=n s hs;unfold aJ;omega) (by unfold aJ;omega) (λs hs=>by have:=o s hs;unfold aJ;omega)
 have z:=OB c (by unfold aJ;omega)
 simp only[ag,encS] at p h1 j m
 simp only[gV] at h1 j x
 simp(disch:=omega)only[↓wr,seval,wq,ag,encS]
 refine ax.pure p ?_
 simp(disch:=omega)only[↓wr,seval,wq,ag,encS]
 intro q hq
 rw[set_set]
 have d:(H.set q (.arr 4 [[.aD (g.af.map bS),.aD (g.ak.map λs=>[gs s]),.aD (g.rules.map aO),gi g.start]])) q=.arr 4 [[.aD (g.af.map bS),.aD (g.ak.map λs=>[gs s]),.aD (g.rules.map aO),gi g.start]]:=by simp[View.set]
 generalize H.set q (.arr 4 [[.aD (g.af.map bS),.aD (g.ak.map λs=>[gs s]),.aD (g.rules.map aO),gi g.start]])=H1 at d ⊢
 refine ax.pure h1 ?_
 simp(disch:=omega)only[↓wr,seval,wq,ag,encS]
 intro i k
 have A:¬ q=i:=by rintro rfl;rw[d] at k;simp at k
 rw[set_set]
 have f:(H1.set i (.arr 2 [[.aD (t.fe.map λr=>[kS r]),.aD (t.gotos.map λr=>[encI r])]])) i=(.arr 2 [[.aD (t.fe.map λr=>[kS r]),.aD (t.gotos.map λr=>[encI r])]]):=by simp[View.set]
 have a:(H1.set i (.arr 2 [[.aD (t.fe.map λr=>[kS r]),.aD (t.gotos.map λr=>[encI r])]])) q=H1 q:=by simp[View.set,A]
 rw[d] at a
 generalize H1.set i (.arr 2 [[.aD (t.fe.map λr=>[kS r]),.aD (t.gotos.map λr=>[encI r])]])=E at f a ⊢
 refine ax.pure j ?_
 simp(disch:=omega)only[↓wr,seval,wq]
 intro y b
 have B:¬ i=y:=by rintro rfl;rw[f] at b;simp at b
 have C:¬ q=y:=by rintro rfl;rw[a] at b;simp at b
 simp(disch:=omega)only[↓wr,seval,wq,B,f]
 refine ax.pure x ?_
 simp(disch:=omega)only[↓wr,seval,wq]
 refine ax.pure z ?_
 simp(disch:=omega)only[↓wr,seval,wq]
 refine ah.eq (λ_=>?_) (λh=>absurd rfl h)
 simp(disch:=omega)only[↓wr,seval,wq,C,a,ag,encS]
 refine ax.pure m ?_
 simp(disch:=omega)only[↓wr,seval,wq]
end Gv
