/-
  Part 14 of the proof: what the machine does and what the functions answer.
  Conditions: those that each lemma names.
-/
import Derived.Test.YtiophifnkakjgaaGreatSGzB8M
set_option linter.unusedSimpArgs false
set_option linter.unusedVariables false
set_option maxRecDepth 100000
set_option maxHeartbeats 20000000
namespace Gv
open Go Go.Proofs
def ia (a:List aP) (p:Nat) (s:Int):Nat:=(mh a p [s]).1.toNat
def q8 (a:List aP) (p:Nat) (s:Int):Prop:=∃ e∈(a.getD p bJ).b5,e.sym=s
noncomputable abbrev zJ (g:ag) (a:List aP) (p:Nat):List aE:=cK g (a.getD p bJ).bj
inductive AJ (a:List aP):Nat->List Int->Nat->Prop
 | nil {p:Nat} : AJ a p [] p
 | cons {p q:Nat} {s:Int} {X:List Int} : q8 a p s->AJ a (ia a p s) X q->AJ a p (s :: X) q
theorem AJ.snoc {a:List aP} {p q:Nat} {X:List Int} (h:AJ a p X q) {s:Int} (he:q8 a q s):AJ a p (X ++ [s]) (ia a q s):=by
 induction h with
 | nil=>exact .cons he .nil
 | cons h1 _ b=>exact .cons h1 (b he)
theorem JT {a:List aP} {p:Nat} {s:Int} (h:q8 a p s):p < a.length:=by
 obtain⟨e,he,_⟩:=h;exact(Kd he).1
theorem HO {l:List fe} {s:Int} (h:∃ e∈l,e.sym=s):∃ e∈l,e.sym=s/\gv l s=e.to:=by
 induction l with
 | nil=>obtain⟨e,he,_⟩:=h;simp at he
 | cons e l c =>
  rw[gv]
  by_cases a:e.sym=s
  .rw[Uz a];exact⟨e,by simp,a,rfl⟩
  .rw[Ux a]
   obtain⟨d,h1,b⟩:=h
   rcases UO.1 h1 with rfl | h1
   .exact absurd b a
   .obtain⟨f,g,k2⟩:=c ⟨d,h1,b⟩
    exact⟨f,by simp[g],k2⟩
theorem PG {g:ag} {i j:Nat} (h:aU g i=aU g j):i=j:=by
 have h1:=vI g i
 rw[h,vI] at h1
 omega
theorem Ig (g:ag) (l:List aE) (n:Nat):(kx g l n).Nodup:=by
 unfold kx
 unfold List.Nodup
 rw[List.pairwise_map]
 exact((List.nodup_range (n:=n)).filter _).imp λa e=>a (PG e)
theorem Pq {l:List fe} (h:(l.map fe.sym).Nodup) {e:fe} (he:e∈l):gv l e.sym=e.to:=by
 induction l with
 | nil=>simp at he
 | cons x l a =>
  simp only[U2,Vp] at h
  rw[gv]
  rcases UO.1 he with rfl | he
  .rw[Uz rfl]
  .rw[Ux (λb=>h.1 (by rw[b];exact List.mem_map_of_mem he))]
   exact a h.2 he
structure dT (g:ag) (a:List aP):Prop where
 gU:g.cX
 ok:E7 g a
 e:jW g a
 x:PI g a
 pos:1<=a.length
section
variable {g:ag} {a:List aP}
theorem dT.bj (h:dT g a) {p:Nat} (hp:p < a.length):∀ x∈(a.getD p bJ).bj,cq g x:=(h.ok.bj _ (UL (getD_some hp))).2.2
theorem dT.has (h:dT g a) {p:Nat} (hp:p < a.length) {x:aE} (b:x∈zJ g a p):cq g x:=((fM h.gU (h.bj hp)).1 b).has (h.bj hp)
theorem dT.xO (h:dT g a) {p:Nat} (hp:p < a.length) {s:Int} : q8 a p s↔∃ x∈zJ g a p,bw g x=(s,true):=by
 have k:=h.x.all _ (UL (getD_some (d:=bJ) hp))
 have e:q8 a p s↔s∈((a.getD p bJ).b5.map fe.sym):=by
  simp only[q8,U0]
 rw[e,k]
 simp only[kx,U0,Vu,VC,UN]
 constructor
 .rintro⟨i,⟨hi,f⟩,rfl⟩
  obtain⟨y,l⟩:=List.exists_mem_of_ne_nil _ f
  obtain⟨x,b,c,_⟩:=pQ.1 l
  exact⟨x,b,c⟩
 .rintro⟨x,b,c⟩
  obtain⟨m,n⟩:=IT (sg h.gU (h.has hp b) c)
  obtain⟨o,j⟩:=He m
  refine⟨(my g s).toNat,⟨by omega,?_⟩,j⟩
  rw[j]
  exact List.ne_nil_of_mem (pQ.2 ⟨x,b,c,rfl⟩)
theorem dT.ia (h:dT g a) {p:Nat} {s:Int} (he:q8 a p s):∃ e∈(a.getD p bJ).b5,e.sym=s/\e.to=ia a p s/\ia a p s < a.length/\mh a p [s]=((ia a p s:Int),true):=by
 have hp:=JT he
 have hm:=UL (getD_some (d:=bJ) hp)
 obtain⟨e,h1,c,f⟩:=HO he
 obtain⟨t1,t2⟩:=h.ok.to _ hm _ h1
 have hw:mh a p [s]=(e.to,true):=by
  unfold mh
  rw[Ux (by omega),iT,U8,f,Uz ⟨t1,t2⟩,iT]
 have b:((Gv.ia a p s:Nat):Int)=e.to:=by unfold Gv.ia;rw[hw];simp;omega
 exact⟨e,h1,c,b.symm,by omega,by rw[hw,b]⟩
theorem dT.TB (h:dT g a) {p:Nat} {s:Int} (he:q8 a p s):(a.getD (Gv.ia a p s) bJ).bj=bh g (zJ g a p) s:=by
 have hm:=UL (getD_some (d:=bJ) (JT he))
 obtain⟨e,h1,b,c,_⟩:=h.ia he
 have:=h.e.xO _ hm e h1
 rw[c,U8,b] at this
 exact this
theorem dT.step (h:dT g a) {p:Nat} (hp:p < a.length) {x:aE} (b:x∈zJ g a p) {s:Int} (c:bw g x=(s,true)):q8 a p s/\(⟨x.ax,x.dot+1⟩:aE)∈(a.getD (Gv.ia a p s) bJ).bj/\(⟨x.ax,x.dot+1⟩:aE)∈zJ g a (Gv.ia a p s)/\Gv.ia a p s < a.length:=by
 have he:=(h.xO hp).2 ⟨x,b,c⟩
 obtain⟨_,_,_,_,d,_⟩:=h.ia he
 have hk:(⟨x.ax,x.dot+1⟩:aE)∈(a.getD (Gv.ia a p s) bJ).bj:=by
  rw[h.TB he];exact pQ.2 ⟨x,b,c,rfl⟩
 exact⟨he,hk,(fM h.gU (h.bj d)).2 (.base hk),d⟩
theorem dT.prev (h:dT g a) {i:Nat} (hi:i < a.length) {x:aE} (c:x∈(a.getD i bJ).bj) (f:0 < i):∃ (p:Nat) (y:aE) (s:Int),p < i/\p < a.length/\y∈zJ g a p/\bw g y=(s,true)/\x=⟨y.ax,y.dot+1⟩/\q8 a p s/\Gv.ia a p s=i:=by
 obtain⟨p,e,hp,he,d⟩:=h.x.back i f hi
 obtain⟨b,hm⟩:=Kd he
 have hk:=h.e.xO _ hm e he
 rw[d,U8] at hk
 rw[hk] at c
 obtain⟨y,j,k,rfl⟩:=pQ.1 c
 have l:q8 a p e.sym:=⟨e,he,rfl⟩
 refine⟨p,y,e.sym,hp,b,j,k,rfl,l,?_⟩
 have h1:=Pq (by rw[h.x.all _ hm];exact Ig _ _ _) he
 have hw:mh a p [e.sym]=(e.to,true):=by
  have:=h.ok.to _ hm _ he
  unfold mh
  rw[Ux (by omega),iT,U8,h1,Uz this,iT]
 unfold Gv.ia
 rw[hw,d];rfl
theorem Ra {x:aE} {s:Int} (b:cq g x) (h:bw g x=(s,true)):∃ d:Nat,x.dot=d/\d < (bG g x.ax).length/\(bG g x.ax).drop d=s :: (bG g x.ax).drop (d+1):=by
 obtain⟨h1,a⟩:=ui h
 have:=b.2
 refine⟨x.dot.toNat,by omega,by omega,?_⟩
 rw[Vg (show x.dot.toNat < (bG g x.ax).length by omega)]
 rw[Uu,Uv (show x.dot.toNat < (bG g x.ax).length by omega)] at a
 simp at a
 rw[a]
end
section
variable {g:ag} {a:List aP}
theorem J7 {x:aE} {s:Int} (a:cq g x) (h:bw g x=(s,true)):∃ d:Nat,x.dot=d/\(bG g x.ax).drop d=s :: fX g x/\(bG g x.ax).drop (d+1)=fX g x:=by
 obtain⟨d,h1,b,f⟩:=Ra a h
 have e:(bG g x.ax).drop (d+1)=fX g x:=by
  unfold fX
  by_cases c:0<=x.ax
  .rw[Uz c,h1,bG,Ux (by omega)];rfl
  .rw[Ux c]
   have hr:x.ax = -1:=by have:=a.1;omega
   rw[hr] at b ⊢
   simp only[bG,if_true] at b ⊢
   exact US (by simp)
 exact⟨d,h1,by rw[f,e],e⟩
theorem Q7 (b:dT g a) {q:Nat} (c:q < a.length) {C:Int} {k:Nat} (h:0<=C) (hk:k < g.rules.length) (i:(bN g k).left=C) (he:q8 a q (-1 - C)):(⟨k,0⟩:aE)∈zJ g a q:=by
 obtain⟨x,d,e⟩:=(b.xO c).1 he
 have f:g.rules[k]?=some (bN g k):=by unfold bN;exact getD_some hk
 exact(fM b.gU (b.bj c)).2 (.step ((fM b.gU (b.bj c)).1 d) e (by omega) f (by omega))
end
section
variable {g:ag} {a:List aP}
end
section
variable {g:ag} {a:List aP}
end
section
variable {g:ag} {a:List aP}
end
theorem y9 {g:ag} (h:(bS g).2=0):isRed g=true/\dT g (bS g).1/\(bS g).1.length<=300:=by
 have hr:isRed g=true:=by
  rcases Mk g with ⟨_,hr⟩ | ⟨b,hr⟩ | ⟨b,hr⟩
  .exact hr
  .exact hr
  .rw[b] at h;simp at h
 have a:=rM hr
 obtain⟨c,d,e⟩:=OY a h
 exact⟨hr,⟨a,c,KO a h,Lg a h,d⟩,e⟩
section
variable {g:ag} {a:List aP} {L:List (List S0)}
end
section
variable {g:ag} {a:List aP} {w:List Int}
end
section
variable {g:ag} {a:List aP}
end
structure bB where
 st:Nat
 it:aE
 ah:List Int
 be:List Int
def Uk:bB:=⟨0,⟨0,0⟩,[],[]⟩
def iv (x y:bB):Bool:=decide (y.st=x.st) && decide (y.it=x.it)
def gY (l:List bB) (x:bB):List bB:=if l.any (iv x)=true then l else l ++ [x]
def jd (g:ag) (x:bB) (s:Int):Nat->List bB->List bB
 | 0,l=>l
 | k+1,l=>if (bN g k).left = -1 - s then gY (jd g x s k l) ⟨x.st,⟨k,0⟩,x.ah,fX g x.it ++ x.be⟩ else jd g x s k l
def fu (g:ag) (a:List aP) (l:List bB) (x:bB):List bB :=
 if (bw g x.it).2=true then jd g x (bw g x.it).1 g.rules.length (gY l ⟨ia a x.st (bw g x.it).1,⟨x.it.ax,x.it.dot+1⟩,x.ah ++ [(bw g x.it).1],x.be⟩) else l
def gS (g:ag) (a:List aP):Nat->Nat->List bB->List bB
 | 0,_,l=>l
 | f+1,i,l=>match l[i]? with
  | none=>l
  | some x=>gS g a f (i+1) (fu g a l x)
def kL:List bB:=[⟨0,⟨-1,0⟩,[],[]⟩]
def ct (g:ag) (a:List aP):List bB:=gS g a 90000 0 kL
def c9 (l:List bB) (i:Nat):bB:=(l.find? λx=>decide (x.st=i)).getD Uk
def dd (g:ag) (x:aE):List Int:=(bG g x.ax).drop x.dot.toNat
theorem nt {g:ag} {x:aE} {s:Int} (a:cq g x) (h:bw g x=(s,true)):dd g x=s :: fX g x/\dd g ⟨x.ax,x.dot+1⟩=fX g x:=by
 obtain⟨d,h1,b,c⟩:=J7 a h
 unfold dd
 rw[h1]
 exact⟨by rw[U8];exact b,by simp only;rw[show ((d:Int)+1).toNat=d+1 by omega];exact c⟩
section
variable {g:ag} {a:List aP}
structure Nd (g:ag) (a:List aP) (x:bB):Prop where
 lt:x.st < a.length
 it:x.it∈zJ g a x.st
 DD:AJ a 0 x.ah x.st
 Tg:∀ w,Sp g w (x.ah ++ (dd g x.it ++ x.be)) 0 w.length->Sp g w [-1 - g.start] 0 w.length
theorem Nd.start (b:dT g a):Nd g a ⟨0,⟨-1,0⟩,[],[]⟩:=by
 refine⟨b.pos,(fM b.gU (b.bj b.pos)).2 (.base (by rw[b.e.first];simp)),.nil,λw h=>?_⟩
 simpa [dd,bG] using h
theorem Nd.move (b:dT g a) {x:bB} (h:Nd g a x) {s:Int} (c:bw g x.it=(s,true)):Nd g a ⟨ia a x.st s,⟨x.it.ax,x.it.dot+1⟩,x.ah ++ [s],x.be⟩:=by
 obtain⟨s1,s2,d,e⟩:=b.step h.lt h.it c
 obtain⟨f1,f2⟩:=nt (b.has h.lt h.it) c
 refine⟨e,d,h.DD.snoc s1,λw hw=>h.Tg w ?_⟩
 simp only at hw
 rw[f2] at hw
 rw[f1]
 simpa using hw
theorem Nd.ax (b:dT g a) {x:bB} (h:Nd g a x) {s:Int} (c:bw g x.it=(s,true)) {k:Nat} (hk:k < g.rules.length) (d:(bN g k).left = -1 - s):Nd g a ⟨x.st,⟨k,0⟩,x.ah,fX g x.it ++ x.be⟩:=by
 obtain⟨s1,s2,o,p⟩:=b.step h.lt h.it c
 obtain⟨f1,f2⟩:=nt (b.has h.lt h.it) c
 have f:g.rules[k]?=some (bN g k):=by unfold bN;exact getD_some hk
 have l:=b.gU.left _ (UL f)
 refine⟨h.lt,Q7 b h.lt l.1 hk rfl (by rw[d];rw[show -1 - (-1 - s)=s by omega];exact s1),h.DD,λw hw=>h.Tg w ?_⟩
 have e:dd g ⟨k,0⟩=(bN g k).right:=by
  unfold dd bG
  rw[Ux (by simp only;omega)];rfl
 simp only at hw
 rw[e] at hw
 rw[f1]
 obtain⟨i,i1,i2⟩:=Sp.split hw
 obtain⟨j,m,n⟩:=Sp.split i2
 exact i1.app (.M0 _ _ _ _ _ _ (by omega) (UL f) d m n)
def GY (x:bB):Nat:=x.st * 287+((x.it.ax+1) * 7+x.it.dot).toNat
theorem Nd.small (b:dT g a) {x:bB} (h:Nd g a x):0<=x.it.ax+1/\(x.it.ax+1) * 7+x.it.dot < 287/\0<=x.it.dot/\x.it.dot<=6:=by
 have h1:=b.has h.lt h.it
 have:=dD b.gU h1.1
 have:=h1.1;have:=h1.2;have:=b.gU.rules
 omega
theorem key_inj (f:dT g a) {x y:bB} (i:Nd g a x) (j:Nd g a y) (h:GY x=GY y):y.st=x.st/\y.it=x.it:=by
 have h1:=i.small f;have l:=j.small f
 unfold GY at h
 have k:y.st=x.st:=by omega
 have b:y.it.ax=x.it.ax:=by omega
 have c:y.it.dot=x.it.dot:=by omega
 refine⟨k,?_⟩
 cases d:x.it;cases e:y.it
 rw[d,e] at b c
 simp only at b c
 rw[b,c]
structure iN (g:ag) (a:List aP) (l:List bB):Prop where
 nd:∀ x∈l,Nd g a x
 one:(l.map GY).Nodup
 len:∀ (j:Nat) (x:bB),l[j]?=some x->x.ah.length<=j/\x.be.length<=6 * j
theorem iN.short (b:dT g a) (e:a.length<=300) {l:List bB} (h:iN g a l):l.length<=86100:=by
 have:=tJ 86100 _ h.one λn c=>by
  obtain⟨x,d,rfl⟩:=U0.1 c
  have h1:=h.nd x d
  have:=h1.small b;have:=h1.lt
  unfold GY
  omega
 simpa using this
def r8 (l m:List bB):Prop:=∃ t,m=l ++ t
theorem r8.refl {l:List bB} : r8 l l:=⟨[],by simp⟩
theorem r8.trans {l m n:List bB} (h:r8 l m) (k:r8 m n):r8 l n:=by
 obtain⟨t,rfl⟩:=h;obtain⟨u,rfl⟩:=k;exact⟨t ++ u,by simp⟩
theorem r8.mem {l m:List bB} (h:r8 l m) {x:bB} (a:x∈l):x∈m:=by
 obtain⟨t,rfl⟩:=h;exact UR.2 (.inl a)
theorem r8.at {l m:List bB} (h:r8 l m) {i:Nat} (hi:i < l.length):m[i]?=l[i]?/\i < m.length:=by
 obtain⟨t,rfl⟩:=h;exact⟨U5 hi,by simp;omega⟩
def Cu (l:List bB) (st:Nat) (it:aE):Prop:=∃ y∈l,y.st=st/\y.it=it
theorem Cu.up {l m:List bB} (h:r8 l m) {st:Nat} {it:aE} (k:Cu l st it):Cu m st it:=by
 obtain⟨y,a,k⟩:=k;exact⟨y,h.mem a,k⟩
theorem BI (p:dT g a) {l:List bB} (h:iN g a l) {x:bB} (k:Nd g a x) (h1:x.ah.length<=l.length) (q:x.be.length<=6 * l.length):iN g a (gY l x)/\r8 l (gY l x)/\Cu (gY l x) x.st x.it:=by
 unfold gY
 split
 .rename_i d
  obtain⟨y,b,o⟩:=VV.1 d
  simp only[iv,UJ,UN] at o
  exact⟨h,.refl,y,b,o⟩
 .rename_i d
  refine⟨⟨λy b=>?_,?_,λj y c=>?_⟩,⟨[x],rfl⟩,x,by simp,rfl,rfl⟩
  .rcases UR.1 b with b | b
   .exact h.nd y b
   .simp at b;subst b;exact k
  .rw[UT,VK]
   refine⟨h.one,by simp,λn r m hm e=>?_⟩
   obtain⟨y,b,rfl⟩:=U0.1 r
   simp at hm
   subst hm
   have:=key_inj p k (h.nd y b) e.symm
   exact d (VV.2 ⟨y,b,by simp[iv,this]⟩)
  .by_cases f:j < l.length
   .rw[U5 f] at c;exact h.len j y c
   .have i:=(UI.1 c).1
    simp at i
    have e:j=l.length:=by omega
    subst e
    simp at c
    subst c
    exact⟨h1,q⟩
theorem Cy (c:dT g a) {x:bB} (d:Nd g a x) {s:Int} (f:bw g x.it=(s,true)):∀ (k:Nat) (l:List bB),k<=g.rules.length->iN g a l->x.ah.length<=l.length->x.be.length+6<=6 * l.length->iN g a (jd g x s k l)/\r8 l (jd g x s k l)/\∀ j:Nat,j < k->(bN g j).left = -1 - s->Cu (jd g x s k l) x.st ⟨j,0⟩
 | 0,l,_,h,_,_=>⟨h,.refl,λj i=>absurd i (by omega)⟩
 | k+1,l,hk,h,h1,n=>by
  obtain⟨i1,i2,i3⟩:=Cy c d f k l (by omega) h h1 n
  rw[jd]
  have hle:l.length<=(jd g x s k l).length:=by obtain⟨t,o⟩:=i2;rw[o];simp
  split
  .rename_i m
   obtain⟨f1,f2⟩:=nt (c.has d.lt d.it) f
   have hr:(fX g x.it).length<=6:=by
    have:=dD c.gU (c.has d.lt d.it).1
    have e:=congrArg List.length f1
    simp[dd] at e
    omega
   obtain⟨m1,m2,m3⟩:=BI c i1 (d.ax c f (by omega) m) (by simp only;omega) (by simp only[UY];omega)
   refine⟨m1,i2.trans m2,λj i b=>?_⟩
   by_cases e:j=k
   .subst e;exact m3
   .exact(i3 j (by omega) b).up m2
  .rename_i m
   refine⟨i1,i2,λj i b=>?_⟩
   have e:j≠k:=by rintro rfl;exact m b
   exact i3 j (by omega) b
def Fb (g:ag) (a:List aP) (l:List bB) (x:bB):Prop:=∀ s,bw g x.it=(s,true)->Cu l (ia a x.st s) ⟨x.it.ax,x.it.dot+1⟩/\∀ k:Nat,k < g.rules.length->(bN g k).left = -1 - s->Cu l x.st ⟨k,0⟩
theorem vS (c:dT g a) {l:List bB} (h:iN g a l) {i:Nat} {x:bB} (hi:l[i]?=some x):iN g a (fu g a l x)/\r8 l (fu g a l x)/\Fb g a (fu g a l x) x:=by
 have j:=h.nd x (UL hi)
 have m:=(UI.1 hi).1
 have q:=h.len i x hi
 unfold fu
 split
 .rename_i d
  generalize e:(bw g x.it).1=s
  have f:bw g x.it=(s,true):=by rw[<-e,<-d]
  obtain⟨m1,m2,m3⟩:=BI c h (j.move c f) (by simp only[UY,UE,UU];omega) (by simp only;omega)
  have hle:l.length<=(gY l ⟨ia a x.st s,⟨x.it.ax,x.it.dot+1⟩,x.ah ++ [s],x.be⟩).length:=by obtain⟨t,n⟩:=m2;rw[n];simp
  obtain⟨o,k,p⟩:=Cy c j f g.rules.length _ (UF _) m1 (by omega) (by omega)
  refine⟨o,m2.trans k,λr b=>?_⟩
  rw[f] at b
  simp only[UA,and_true] at b
  subst b
  exact⟨m3.up k,p⟩
 .rename_i d
  exact⟨h,.refl,λs e=>absurd (by rw[e]) d⟩
theorem AQ (d:dT g a) (p:a.length<=300):∀ (f i:Nat) (l:List bB),iN g a l->i<=l.length->86101<=f+i->(∀ (j:Nat) (x:bB),j < i->l[j]?=some x->Fb g a l x)->iN g a (gS g a f i l)/\r8 l (gS g a f i l)/\∀ x∈gS g a f i l,Fb g a (gS g a f i l) x
 | 0,i,l,h,hi,q,hw=>absurd (h.short d p) (by omega)
 | f+1,i,l,h,hi,q,hw=>by
  rw[gS]
  cases e:l[i]? with
  | none =>
   have:=List.getElem?_eq_none_iff.1 e
   simp only
   refine⟨h,.refl,λx r=>?_⟩
   obtain⟨j,m⟩:=List.getElem?_of_mem r
   have u:=(UI.1 m).1
   exact hw j x (by omega) m
  | some x =>
   simp only
   have n:=(UI.1 e).1
   obtain⟨v,b,w⟩:=vS d h e
   have hle:l.length<=(fu g a l x).length:=by obtain⟨t,z⟩:=b;rw[z];simp
   obtain⟨A,B,C⟩:=AQ d p f (i+1) _ v (by omega) (by omega) λj y m c=>by
    by_cases o:j=i
    .subst o
     rw[(b.at n).1,e] at c
     simp at c
     subst c
     exact w
    .rw[(b.at (i:=j) (by omega)).1] at c
     intro s D
     obtain⟨E,F⟩:=hw j y (by omega) c s D
     exact⟨E.up b,λk hk G=>(F k hk G).up b⟩
   exact⟨A,b.trans B,C⟩
theorem vW (d:dT g a):iN g a kL:=by
 refine⟨λx c=>?_,by simp[kL],λj x b=>?_⟩
 .simp[kL] at c;subst c;exact .start d
 .have:=(UI.1 b).1
  simp[kL] at this
  subst this
  simp[kL] at b
  subst b
  simp
theorem wX (b:dT g a) (c:a.length<=300):iN g a (ct g a)/\(∀ x∈ct g a,Fb g a (ct g a) x)/\Cu (ct g a) 0 ⟨-1,0⟩:=by
 obtain⟨d,e,f⟩:=AQ b c 90000 0 kL (vW b) (VG _) (by omega) λj x h=>absurd h (by omega)
 exact⟨d,f,⟨0,⟨-1,0⟩,[],[]⟩,e.mem (by simp[kL]),rfl,rfl⟩
theorem Rw (b:dT g a) (r:a.length<=300):∀ n p:Nat,p < n->p < a.length->∀ y∈zJ g a p,Cu (ct g a) p y:=by
 obtain⟨h1,m,t⟩:=wX b r
 intro n
 induction n with
 | zero=>intro p hp;omega
 | succ n v =>
  intro p hp c y w
  have A:=(fM b.gU (b.bj c)).1 w
  induction A with
  | base hk =>
   by_cases d:p=0
   .subst d
    rw[b.e.first] at hk
    simp at hk
    subst hk
    exact t
   .obtain⟨q,z,s,I,B,C,D,rfl,J,E⟩:=b.prev c hk (by omega)
    obtain⟨u,hu,f,h⟩:=v q (by omega) B z C
    subst h
    have:=(m u hu s D).1
    rw[f,E] at this
    exact this
  | @step x s k R F G K o H i =>
   have j:=(fM b.gU (b.bj c)).2 F
   obtain⟨u,hu,f,h⟩:=i j
   subst h
   have hk:=(UI.1 o).1
   have l:bN g k=R:=by unfold bN;rw[U8,Uu,o];rfl
   have:=(m u hu _ G).2 k hk (by rw[l];exact H)
   rw[f] at this
   exact this
theorem AH (b:dT g a) (f:a.length<=300) {i:Nat} (hi:i < a.length):c9 (ct g a) i∈ct g a/\(c9 (ct g a) i).st=i/\Nd g a (c9 (ct g a) i):=by
 obtain⟨h1,k,l⟩:=wX b f
 have c:∃ y,y∈zJ g a i:=by
  have hk:=(b.ok.bj (a.getD i bJ) (UL (getD_some hi))).2.1
  obtain⟨y,d⟩:=List.exists_mem_of_ne_nil _ hk
  exact⟨y,(fM b.gU (b.bj hi)).2 (.base d)⟩
 obtain⟨y,d⟩:=c
 obtain⟨u,hu,j,m⟩:=Rw b f _ i (Nat.lt_succ_self i) hi y d
 unfold c9
 cases e:(ct g a).find? λx=>decide (x.st=i) with
 | none =>
  have:=List.find?_eq_none.1 e u hu
  simp[j] at this
 | some z =>
  have h:=List.find?_some e
  have z2:=List.mem_of_find?_eq_some e
  simp at h
  exact⟨z2,h,h1.nd z z2⟩
end
theorem Ir {g:ag} (l:List Int):aL (dw g l).1/\(dw g l).1.length<=60:=by
 unfold dw
 split
 .split
  .unfold aL;simp
  .rename_i hk
   split
   .unfold aL;simp
   .rename_i b
    have a:=(gL (ao g) l aZ).1 (by simpa using hk)
    have:=EV a (by omega)
    unfold aL;simp only;omega
 .unfold aL;simp
theorem Bz {g:ag} {a l b:List Int} (h:(dw g (a ++ l ++ b)).2=0):dw g l=(dF g (ao g) g.aj.length l,0):=by
 unfold dw at h
 split at h
 .rename_i h1
  split at h
  .simp at h
  .rename_i e
   split at h
   .simp at h
   .rename_i f
    simp only[List.all_append,UJ] at h1
    have c:=(gL (ao g) (a ++ l ++ b) aZ).1 (by simpa using e)
    have d:gE (ao g) l:=λx i=>c x (by simp[i])
    have t1:=nD g g.aj.length (a ++ l ++ b) aZ (rZ c) fZ
    have t2:=nD g g.aj.length l aZ (rZ d) fZ
    simp only[kX,gA,UY,aZ] at t1 t2
    have j:(bF (ao g) l aZ).2=true:=(gL _ _ _).2 d
    simp only[aZ] at f
    unfold dw
    rw[Uz (by rw[UJ];exact⟨h1.1,h1.2.1.2⟩),Ux (by rw[j];simp),Ux]
    simp only[aZ]
    omega
 .simp at h
section
variable {g:ag} {a:List aP}
def Tz (g:ag) (l:List bB) (i:Nat):List Int × List Int:=((c9 l i).ah,dd g (c9 l i).it ++ (c9 l i).be)
def ey (g:ag) (a:List aP) (i:Nat):List Int × List Int:=Tz g (ct g a) i
structure rF where
 state:Int
 len:Int
 word:List Int
def AY (g:ag) (a:List aP) (i:Nat):rF:=⟨i,((dw g (ey g a i).1).1.length:Int),(dw g ((ey g a i).1 ++ (ey g a i).2)).1⟩
end
theorem Hg {g:ag} {u v:List Int} (h:(dw g (u ++ v)).2=0):(dw g u).2=0/\(dw g u).1.length<=(dw g (u ++ v)).1.length:=by
 have h1:=Bz (a:=[]) (l:=u) (b:=v) (by simpa using h)
 have c:=Bz (a:=[]) (l:=u ++ v) (b:=[]) (by simpa using h)
 rw[h1,c]
 refine⟨rfl,?_⟩
 simp only
 rw[gA,UY]
 omega
theorem yh {g:ag} {x:bB} {s:Int} (h:∀ k:Nat,k < g.rules.length->(bN g k).left≠-1 - s):∀ (k:Nat) (l:List bB),k<=g.rules.length->jd g x s k l=l
 | 0,_,_=>rfl
 | k+1,l,hk=>by
  rw[jd,Ux (h k (by omega)),yh h k l (by omega)]
def fU:List bB->Int->Nat->Int
 | [],_,_=>-1
 | x :: l,i,n=>if (x.st:Int)=i then n else fU l i (n+1)
theorem BL (i:Int):∀ (l:List bB) (n:Nat) (x:bB),fU (l ++ [x]) i n=if fU l i n < 0 then (if (x.st:Int)=i then ((n+l.length:Nat):Int) else -1) else fU l i n
 | [],n,x=>by simp[fU]
 | y :: l,n,x=>by
  rw[Va,fU,fU]
  split
  .rw[Ux (by omega)]
  .rw[BL i l (n+1) x]
   split
   .split
    .simp only[UE];congr 1;omega
    .rfl
   .rfl
theorem zI (i:Nat):∀ (l:List bB) (n:Nat),(∃ x∈l,x.st=i)->∃ k:Nat,fU l i n=((n+k:Nat):Int)/\k < l.length/\l[k]?=some (c9 l i)
 | [],_,h=>by obtain⟨x,a,_⟩:=h;simp at a
 | y :: l,n,h=>by
  rw[fU]
  by_cases e:y.st=i
  .rw[Uz (by omega)]
   exact⟨0,rfl,by simp,by simp[c9,e]⟩
  .rw[Ux (by omega)]
   obtain⟨x,a,hi⟩:=h
   have b:x∈l:=by
    rcases UO.1 a with rfl | a
    .exact absurd hi e
    .exact a
   obtain⟨k,h1,d,c⟩:=zI i l (n+1) ⟨x,b,hi⟩
   refine⟨k+1,by rw[h1];congr 1;omega,by simp only[UE];omega,?_⟩
   rw[Ve,c]
   simp[c9,e]
theorem OS (us:List (List Int)) (w:us.flatten.length<=1000000) (hu:us.length<=1000):b6 Tryz.prog 68 [.aQ (Qv us)] (encI us.flatten):=by
 have d:∀ i,(us.take i).flatten.length<=1000000:=λi=>by
  have:=List.take_append_drop i us
  have b:us.flatten=(us.take i).flatten ++ (us.drop i).flatten:=by rw[<-List.flatten_append,this]
  rw[b,UY] at w;omega
 refine b6.of (by intro v g;simp at g;subst g;exact eM _ _ λx _ v g=>by simp at g;subst g;exact bQ x) ?_
 refine av.of mixed oP ?_
 simp(disch:=omega)only[↓wr,seval,wq,j8]
 refine aV.up us.length (λi T H'=>H'=(λ_=>.dead)/\T 0=.aQ (Qv us)/\T 3=gi (us.take i).flatten.length/\T 9=.aQ (Qv us)/\T 10=gi us.length/\T 11=gi i) ⟨rfl,rfl,rfl,rfl,rfl,rfl⟩ ?_
 rintro i k T H1 hk ⟨rfl,t0,t3,t9,t10,t11⟩
 simp(disch:=omega)only[↓wr,seval,wq,jr,t0,t3,t9,t10,t11]
 apply ai.dec<;>intro hi
 .have b:us[i]?=some (us[i]'(by omega)):=Uv (by omega)
  have a:us.take (i+1)=us.take i ++ [us[i]'(by omega)]:=by rw[UW,b];rfl
  have c:=d (i+1)
  generalize us[i]'(by omega)=x at b a
  rw[a] at c
  simp only[List.flatten_append,List.flatten_cons,List.flatten_nil,V0,UY] at c
  simp(disch:=omega)only[↓wr,seval,wq,t0,t3,t9,t10,t11,Uy,b,UH,encI]
  refine ai.dec (λh=>absurd h (by omega)) (λ_=>?_)
  simp(disch:=omega)only[↓wr,seval,wq,t0,t3,t9,t10,t11]
  refine aD hk (by omega) ⟨rfl,t0,?_,t9,t10,rfl⟩
  rw[a,List.flatten_append,UY,List.flatten_cons,List.flatten_nil,V0]
  push_cast
  rfl
 .simp(disch:=omega)only[↓wr,seval,wq,t0,t3,t9,t10,t11]
  have e:us.take i=us:=UK (by omega)
  rw[e]
  refine aw.dL ((Lw _ w _).mono ?_)
  intro r y hr
  have j:Fm y r []:=by
   rcases hr with ⟨_,rfl,rfl⟩ | ⟨_,m,es,hm,rfl,rfl⟩
   .exact .inl .nil
   .exact .inr ⟨rfl,m,es,rfl,by simp[View.set]⟩
  have l:us.flatten.length=0->aK y r 1 (bt []):=λo=>by
   rcases hr with ⟨_,rfl,_⟩ | ⟨h1,_⟩
   .exact .nil
   .omega
  simp(disch:=omega)only[↓wr,seval,wq,t0,t3,t9,t10,t11]
  refine aV.up us.length (λi T H'=>∃ u,T 6=u/\Fm H' u (us.take i).flatten/\(us.flatten.length=0->aK H' u 1 (bt (us.take i).flatten))/\T 25=.aQ (Qv us)/\T 26=gi us.length/\T 27=gi i) ⟨r,rfl,j,l,rfl,rfl,rfl⟩ ?_
  rintro i k T A hk ⟨u,t6,p,q,t25,t26,t27⟩
  simp(disch:=omega)only[↓wr,seval,wq,jA,t6,t25,t26,t27]
  apply ai.dec<;>intro hi
  .have b:us[i]?=some (us[i]'(by omega)):=Uv (by omega)
   have a:us.take (i+1)=us.take i ++ [us[i]'(by omega)]:=by rw[UW,b];rfl
   have c:=d (i+1)
   generalize us[i]'(by omega)=x at b a
   rw[a,List.flatten_append,UY,List.flatten_cons,List.flatten_nil,V0] at c
   simp(disch:=omega)only[↓wr,seval,wq,t6,t25,t26,t27,Uy,b,UH,encI,mb]
   refine Lp p (by unfold aB;omega) (by unfold aB;omega) rfl ?_
   intro z B s t C
   simp(disch:=omega)only[↓wr,seval,wq,t6,t25,t26,t27]
   refine aD hk (by omega) ⟨z,rfl,?_,λo=>?_,t25,t26,rfl⟩
   .rw[a];simpa using s
   .rw[a];simpa using t (q o)
  .simp(disch:=omega)only[↓wr,seval,wq,t6,t25,t26,t27]
   have e:us.take i=us:=UK (by omega)
   rw[e] at p q
   intro D g
   refine dz.KS (sz:=1) (f:=λn=>.int .i64 n) ?_
   rw[g]
   rcases p with p | ⟨o,m,es,rfl,hm⟩
   .exact p
   .have:=q (by rw[o];rfl)
    rw[o] at this ⊢;exact this
def yH (v:V) (l:List Int):Prop:=v=encI l∨(l=[]/\v=.emp 1)
theorem yH.jR {v:V} {l:List Int} (h:yH v l) {H:View} : cm H v (encI l):=by
 rcases h with rfl | ⟨rfl,rfl⟩
 .exact .tree (bQ l)
 .exact λ_ _=>.emp 1
theorem yH.er {v:V} {l:List Int} (h:yH v l):aF v=true/\V.cells v=[v]/\Tree v:=by
 rcases h with rfl | ⟨rfl,rfl⟩
 .exact⟨rfl,rfl,bQ l⟩
 .exact⟨rfl,rfl,.emp 1⟩
structure dU where
 n:bB
 a:V
 b:V
structure dU.Ok (x:dU):Prop where
 a:yH x.a x.n.ah
 b:yH x.b x.n.be
def dc (x:dU):List V:=[gi x.n.st,gi x.n.it.ax,gi x.n.it.dot,x.a,x.b]
def AF (S:List dU) (x:dU):List dU:=if S.any (λy=>iv x.n y.n)=true then S else S ++ [x]
theorem OU (S:List dU) (x:dU):(AF S x).map dU.n=gY (S.map dU.n) x.n:=by
 unfold AF gY
 rw[List.any_map]
 have e:(iv x.n∘dU.n)=λy:dU=>iv x.n y.n:=rfl
 rw[e]
 split <;> simp
theorem Ix {S:List dU} {x:dU} (b:∀ y∈S,y.Ok) (c:x.Ok):∀ y∈AF S x,y.Ok:=by
 unfold AF
 split
 .exact b
 .intro y a
  rcases UR.1 a with a | a
  .exact b y a
  .simp at a;subst a;exact c
def qd:SF:=⟨ae [ab [bI 4 1],ab [bI 5 2,aa 6 0,fk 7 1 8 5 6,aa 8 1,fk 9 1 8 7 8,aa 4 9],.ret],
 [.tmp 4],10⟩
theorem vz:aH Tryz.prog 65 []=some qd:=by kernel_rfl
def oV:SF:=⟨ae [ab [cw 2 0,bI 4 1],ae [ab [aa 5 1,aG 6 .lss 5 0],ba 6 (ae [ab [al 7 3 2,ak 8 7,((some 9),.op (.arith .sub (.val (.val (.int .i64 (-1)))) (.tmp 8))),((some 10),.op (.bP 1 1 [(.val (.int .i64 0))] [(0,(.tmp 9))])),aa 4 10],.ret])],ab [al 11 2 2,ak 12 11,aa 13 1,aO 14 3 12 13,al 15 1 14,ak 16 15,aa 4 16],.ret],
 [.tmp 4],17⟩
theorem ub:aH Tryz.prog 66 [2]=some oV:=by kernel_rfl
def oR:SC :=
 ae [ae [ab [aa 6 5,aa 7 0,aM 8 7,aR 9 .lss 6 8],bX 9 (.exit 0)],.block 1 (ae [.region false [⟨none,[aa 12 0,aa 13 5,aO 14 5 12 13,al 15 0 14,ak 16 15,al 17 0 3,ak 18 17,aR 19 .eql 16 18,aa 20 19]⟩,⟨(some (20,true)),[aa 21 0,aa 22 5,aO 23 5 21 22,al 24 1 23,aS 25 2 24,al 26 1 3,aS 27 2 26,((some 28),.op (.old (.binOp .eql 120 (.tmp 25) (.tmp 27) 120) 4))]⟩,⟨none,[eu 29 20 28]⟩],ba 29 (ae [ab [aa 30 0,aa 4 30],.ret])]),ab [aa 10 5,aG 11 .add 10 1,aa 5 11]]
def rm:SF:=⟨ae [ab [cw 3 1,bI 4 1],ae [ab [aN 5 0],bY 0 oR],ab [aa 31 0,aS 32 5 3,((some 33),.op (.bP 1 5 [(.val (.int .i64 0)),(.val (.int .i64 0)),(.val (.int .i64 0)),(.emp 1),(.emp 1)] [(0,(.tmp 32))])),fk 34 5 72 31 33,aa 4 34],.ret],
 [.tmp 4],35⟩
theorem wO:aH Tryz.prog 128 [3]=some rm:=by kernel_rfl
theorem tC (a b:List Int) (e:a.length+b.length<=1000000):b6 Tryz.prog 65 [encI a,encI b] (encI (a ++ b)):=by
 refine b6.of (by
  intro v c;simp at c
  rcases c with rfl | rfl <;> exact bQ _) ?_
 refine av.of mixed vz ?_
 simp(disch:=omega)only[↓wr,seval,wq,qd,encI,mb]
 refine eo (es:=[]) .nil (by simp[VN,aF]) (by unfold aB;simp;omega) (by unfold aB;simp;omega) ?_
 intro u H o _
 simp(disch:=omega)only[↓wr,seval,wq,mb]
 refine eo o (by simp[VN,aF]) (by unfold aB;simp;omega) (by unfold aB;simp;omega) ?_
 intro g h d _
 simp(disch:=omega)only[↓wr,seval,wq]
 intro i c
 refine dz.KS (sz:=1) (f:=λn=>.int .i64 n) ?_
 rw[c]
 simpa using d
theorem Bg (g:ag) (c:bO (-1 - g.start)) (r:Int) (h : -1<=r/\r < g.rules.length):az Tryz.prog 66 [.agg (af g),gi r] (encI (bG g r)):=by
 refine az.of (by
  intro v a;simp at a
  rcases a with rfl | rfl
  .exact bZ _ (cz g)
  .exact .val _) ?_
 unfold bO at c
 refine av.of mixed ub ?_
 simp(disch:=omega)only[↓wr,seval,wq,oV,af,encS]
 unfold bG
 apply ai.dec<;>intro h1
 .rw[Uz (by omega)]
  simp(disch:=omega)only[↓wr,seval,wq,af,encS]
  intro n b a
  exact cm.own (sz:=1) (es:=bt [-1 - g.start]) (.inr ⟨n,rfl,by simp[View.set]⟩) (by intro e he v a;simp at he;subst he;simp at a;subst a;exact .val _) b a
 .rw[Ux (by omega)]
  have d:g.rules[r.toNat]?=some (bN g r):=by unfold bN;exact getD_some (by omega)
  simp(disch:=omega)only[↓wr,seval,wq,af,encS,aI,Uy,d,UH]
  intro b _
  exact .tree _ (bQ _)
theorem Mz {x:dU} (c:x.Ok):(([dc x]:List (List V)).all λe=>e.length == 5 && e.all aF)=true:=by
 simp only[dc,VL,List.all_nil,c.a.er.1,c.b.er.1];rfl
theorem HD (S:List dU) (x:dU) (t:x.Ok) (K:S.length<=90000) (u:V) (H:View) (s:aK H u 5 (S.map dc)):av Tryz.prog 128 [u,.agg (dc x)] H λr H'=>aK H' r 5 ((AF S x).map dc)/\Left H H' u r:=by
 refine av.of mixed wO ?_
 have hlen:cd u=some S.length:=by rw[s.len];simp
 have e:=Mz t
 obtain⟨⟨f,v,_⟩,⟨g,w,_⟩⟩:=And.intro t.a.er t.b.er
 simp only[dc] at e
 simp(disch:=omega)only[↓wr,seval,wq,rm,dc,f,v,g,w]
 refine aV.up S.length (λi T H'=>H'=H/\((S.take i).any λy=>iv x.n y.n)=false/\T 0=u/\T 3=.aJ (dc x) 0/\T 5=gi i) ⟨rfl,rfl,rfl,rfl,rfl⟩ ?_
 rintro i k T H' hk ⟨E,c,t0,t3,t5⟩
 subst E
 simp(disch:=omega)only[↓wr,seval,wq,oR,t0,t3,t5,hlen]
 apply ai.dec<;>intro F
 .have z:S[i]?=some (S[i]'(by omega)):=Uv (by omega)
  have h:S.take (i+1)=S.take i ++ [S[i]'(by omega)]:=by rw[UW,z];rfl
  have j:=UC (show i < S.length by omega)
  generalize S[i]'(by omega)=y at z h j
  obtain⟨id,hu,l⟩:=s.sl (by simp;omega)
  rw[UB] at hu
  have B:(S.map dc).getD i []=dc y:=by simp[Uu,z]
  simp(disch:=omega)only[↓wr,seval,wq,t0,t3,t5,hu,l,B,dc]
  refine⟨by omega,by first | omega | (simp;omega),?_⟩
  have m:((S.take (i+1)).any λy=>iv x.n y.n)=iv x.n y.n:=by
   rw[h,List.any_append,c];simp
  apply ai.eq<;>intro G
  .simp(disch:=omega)only[↓wr,seval,wq,t0,t3,t5,hu,l,B,dc]
   refine⟨by omega,by first | omega | (simp;omega),?_⟩
   refine jc (xs:=#[.int .i64 y.n.it.ax,.int .i64 y.n.it.dot]) (ys:=#[.int .i64 x.n.it.ax,.int .i64 x.n.it.dot]) Tryz.underlying120 (by kernel_rfl) (by kernel_rfl) ?_ ?_ (qm y.n.it x.n.it) (.inl ⟨rfl,rfl⟩) ?_
   .rfl
   .rfl
   rw[yp]
   have p:iv x.n y.n=decide (y.n.it=x.n.it):=by
    unfold iv
    rw[Wb (by omega:y.n.st=x.n.st),Vt]
   simp(disch:=omega)only[↓wr,seval,wq,t0,t3,t5]
   apply ai.dec<;>intro A
   .simp(disch:=omega)only[↓wr,seval,wq,t0]
    have d:AF S x=S:=Uz (VV.2 ⟨y,j,by rw[p];simpa using A⟩)
    rw[d]
    exact⟨s,.refl⟩
   .simp(disch:=omega)only[↓wr,seval,wq,t0,t3,t5]
    refine aD hk (by omega) ⟨rfl,?_,t0,t3,rfl⟩
    rw[m,p];simpa using A
  .simp(disch:=omega)only[↓wr,seval,wq,t0,t3,t5]
   refine aD hk (by omega) ⟨rfl,?_,t0,t3,rfl⟩
   rw[m]
   unfold iv
   rw[decide_eq_false (by omega:¬ y.n.st=x.n.st),VM]
 .rw[UK (by omega)] at c
  have d:AF S x=S ++ [x]:=Ux (by rw[c];simp)
  simp(disch:=omega)only[↓wr,seval,wq,t0,t3,dc,f,g]
  intro q C
  have D:=s.fresh (o:=.arr 5 [dc x]) C
  simp only[dc] at D
  simp(disch:=omega)only[↓wr,seval,wq,bH,t0,t3]
  refine tt D (by simp) e (by unfold aB;simp;omega) (by unfold aB;simp;omega) ?_
  intro r L I J
  simp(disch:=omega)only[↓wr,seval,wq]
  rw[d]
  refine⟨?_,J.behind C⟩
  rw[UT]
  exact I
section
variable {κ:Type} [BEq κ] [LawfulBEq κ] {kv:κ->V} {P:Program} {T:Env} {H:View} {kt et t ty:TypeId}
end
section
variable {H:View} {b:Nat} {g:ag} {a:List aP} {ul us:V} {vs:List V} {ls:List (List aE)} {ss:Sets} {more:Bool} {L:List dN}
end
section
variable {H:View} {b:Nat} {g:ag} {a:List aP} {ul us:V} {vs:List V} {ls:List (List aE)} {ss:Sets} {more:Bool} {L:List dN}
end
section
variable {H:View} {b:Nat} {g:ag} {a:List aP} {ul us:V} {vs:List V} {ls:List (List aE)} {ss:Sets} {more:Bool} {L:List dN}
end
inductive jD (P:Program) (d:Nat) (xs ys:Array Value):List Field->Bool->Prop
 | nil:jD P d xs ys [] true
 | any (f:Field) (l:List Field) (c e:Bool) (a b:Value):(f.name≠ "_")->bg P (part f.type xs f.offset)=some a->bg P (part f.type ys f.offset)=some b->bg P (Op.equalIn (d+1) f.type a b)=some e->jD P d xs ys l c->jD P d xs ys (f :: l) (e && c)
theorem jD.forIn {P:Program} {d e:Nat} {xs ys:Array Value} {l:List Field} {c:Bool} (h:jD P d xs ys l c) (g:e=d+1) :
  bg P (forIn l ((none:Option Bool),()) λf _ =>
   if f.name≠ "_" then do
    let a <-part f.type xs f.offset
    let b <-part f.type ys f.offset
    let e <-Op.equalIn e f.type a b
    if (!e)=true then pure (ForInStep.done (some false,())) else pure (ForInStep.yield (none,()))
   else pure (ForInStep.yield (none,())))=some (if c=true then (none,()) else (some false,())):=by
 subst g
 induction h with
 | nil=>rfl
 | any f l c e a b i j k he _ m =>
  rw[List.forIn_cons,aW,Uz i,aW,j,U7,aW,k,U7,aW,he,U7]
  cases e with
  | false=>rfl
  | true=>exact m
theorem uK {P:Program} {d:Nat} {t:TypeId} {b:Array Field} {xs ys:Array Value} {c:Bool} (hu:P.underlying t=some (.struct b)) (f:P.stoodInHeld t=false) (h:jD P d xs ys b.toList c) :
  bg P (Op.equalIn (d+1+1) t (.agg xs) (.agg ys))=some c:=by
 rw[Op.equalIn,aW,dK hu,U7]
 have a:(bg P program)=some P:=rfl
 rw[aW,a,U7,f]
 simp only[<-Array.forIn_toList,UX,if_false]
 rw[aW,h.forIn (e:=d+1) rfl,U7]
 cases c <;> rfl
theorem tU {P:Program} {d:Nat} {t:TypeId} {k:IntKind} (hu:P.underlying t=some (.int k)) (a b:Int):bg P (Op.equalIn (d+1) t (.int k a) (.int k b))=some (a == b):=by
 simp only[Op.equalIn,aW,dK hu,U7];rfl
theorem QS {κ:Type} [BEq κ] {P:Program} {kt:TypeId} {kv:κ->V} (val:κ->Value) {n:Array Field} (l:∀ k,c8 (kv k)=some (val k)) (hu:P.underlying kt=some (.struct n))
  (heq:∀ a b,bg P (Op.equal kt (val a) (val b))=some (a == b)) (c:∀ k e,bg P (Instr.checkKey e 10000 kt (val k))=some ()) (o:∀ k,sameKey (kv k) (kv k)=true):C7 P kt kv where
 same:=o
 find:=by
  have d:∀ m:cB κ,gX (cT kv m)=some (m.map λx=>{ key:=val x.1,val:=.nilFunc,born:=x.2.2 }):=by
   intro m
   induction m with
   | nil=>rfl
   | cons x r g =>
    simp only[cT] at g
    simp[cT,gX,l,g]
  have f:∀ (k:κ) (m:cB κ) (i:Nat),bg P (Instr.findAsking kt (val k) (m.map λx=>{ key:=val x.1,val:=.nilFunc,born:=x.2.2 }) i)=some ((gF k m).map λj=>(i+j,.nilFunc)):=by
   intro k m
   induction m with
   | nil=>intro i;rfl
   | cons x r g =>
    intro i
    simp only[U2,Instr.findAsking,aW,heq,U7,gF]
    cases hk:k == x.1 with
    | true=>simp[Hn]
    | false =>
     simp only[UX,if_false,g (i+1),Option.map_map]
     congr 2
     funext j
     simp only[Function.comp]
     congr 1
     omega
  intro k e m
  have h:bg P (underlying kt)=some _:=dK hu
  simp only[ml,l,d,aW,c,U7]
  have:bg P (Instr.findKey kt (val k) (m.map λx=>{ key:=val x.1,val:=.nilFunc,born:=x.2.2 }))=some ((gF k m).map λj=>(0+j,.nilFunc)):=by
   unfold Instr.findKey
   rw[aW,h,U7]
   cases m with
   | nil=>rfl
   | cons x r=>exact f k (x :: r) 0
  rw[this]
  cases gF k m with
  | none=>rfl
  | some j=>simp
abbrev vM:=Int × Int × Int
def sM (x:vM):V:=.agg [gi x.1,gi x.2.1,gi x.2.2]
def yT (x:vM):Value:=.agg #[.int .i64 x.1,.int .i64 x.2.1,.int .i64 x.2.2]
def ir (x:bB):vM:=((x.st:Int),x.it.ax,x.it.dot)
theorem EA (x y:bB):(ir x == ir y)=iv x y:=by
 obtain⟨s,⟨r,d⟩,a,b⟩:=x
 obtain⟨f,⟨g,h⟩,i,j⟩:=y
 rw[Vw]
 simp[ir,iv]
 constructor
 .rintro⟨h1,c,e⟩;exact⟨by omega,c.symm,e.symm⟩
 .rintro⟨h1,c,e⟩;exact⟨by omega,c.symm,e.symm⟩
theorem Q6 (a b c d:Int):jD Tryz.prog 9997 #[.int .i64 a,.int .i64 b] #[.int .i64 c,.int .i64 d]
  [{ name:= "Rule",type:=3,offset:=0,embedded:=false,tag:= "",pkgPath:= "",byteOffset:=0 },{ name:= "Dot",type:=3,offset:=1,embedded:=false,tag:= "",pkgPath:= "",byteOffset:=8 }] ((a == c) && ((b == d) && true)) :=
 .any _ _ _ _ _ _ (by decide) (fg Tryz.underlying3 (.inr ⟨_,rfl⟩) _ _ rfl) (fg Tryz.underlying3 (.inr ⟨_,rfl⟩) _ _ rfl) (tU Tryz.underlying3 _ _)
  (.any _ _ _ _ _ _ (by decide) (fg Tryz.underlying3 (.inr ⟨_,rfl⟩) _ _ rfl) (fg Tryz.underlying3 (.inr ⟨_,rfl⟩) _ _ rfl) (tU Tryz.underlying3 _ _) .nil)
theorem DI (a b c:Int):bg Tryz.prog (part 120 #[.int .i64 a,.int .i64 b,.int .i64 c] 1)=some (.agg #[.int .i64 b,.int .i64 c]):=by kernel_rfl
theorem LO (x y:vM):bg Tryz.prog (Op.equal 218 (yT x) (yT y))=some (x == y):=by
 rw[jI,yT,yT]
 have h:jD Tryz.prog 9998 #[.int .i64 x.1,.int .i64 x.2.1,.int .i64 x.2.2] #[.int .i64 y.1,.int .i64 y.2.1,.int .i64 y.2.2]
  [{ name:= "state",type:=3,offset:=0,embedded:=false,tag:= "",pkgPath:= "gerund/access",byteOffset:=0 },{ name:= "item",type:=120,offset:=1,embedded:=false,tag:= "",pkgPath:= "gerund/access",byteOffset:=8 }] ((x.1 == y.1) && (((x.2.1 == y.2.1) && ((x.2.2 == y.2.2) && true)) && true)) :=
  .any _ _ _ _ _ _ (by decide) (fg Tryz.underlying3 (.inr ⟨_,rfl⟩) _ _ rfl) (fg Tryz.underlying3 (.inr ⟨_,rfl⟩) _ _ rfl) (tU Tryz.underlying3 _ _)
  (.any _ _ _ _ _ _ (by decide) (DI _ _ _) (DI _ _ _) (uK Tryz.underlying120 (by kernel_rfl) (Q6 x.2.1 x.2.2 y.2.1 y.2.2)) .nil)
 rw[uK Tryz.underlying218 (by kernel_rfl) h]
 obtain⟨a,b,c⟩:=x
 obtain⟨d,e,f⟩:=y
 congr 1
 rw[Vw]
 simp
theorem KB (x:vM) (e:Bool):bg Tryz.prog (Instr.checkKey e 10000 218 (yT x))=some ():=by
 cases e <;> kernel_rfl
theorem PF:C7 Tryz.prog 218 sM :=
 QS yT (λ_=>rfl) Tryz.underlying218 LO KB λk=>by simp[sameKey,show c8 (sM k)=some (yT k) from rfl,yT,Instr.sameBits]
def fC:SC :=
 ae [ab [aR 9 .lss 8 7],bX 9 (.exit 0),.block 1 (ae [ab [aa 10 8,aa 5 10],ab [aa 11 1,aa 12 0,aa 13 5,aO 14 2 12 13,aS 15 2 14,((some 16),.call (.tmp 11) [(.tmp 15)])],ba 16 (ae [ab [aa 17 5,aa 4 17],.ret])]),ab [aG 18 .add 8 1,aa 8 18]]
def fR:SF:=⟨ae [ab [aN 4 0],ae [ab [aa 6 0,aM 7 6,aN 8 0],bY 0 fC],ab [aN 4 (-1)],.ret],
 [.tmp 4],19⟩
theorem ju:aH Tryz.prog 249 []=some fR:=by kernel_rfl
def xu:SF:=⟨ae [ab [cw 2 0,bq 3 false],ab [al 4 0 2,ak 5 4,ak 6 1,aR 7 .eql 5 6,aa 3 7],.ret],
 [.tmp 3],8⟩
theorem Ay:aH Tryz.prog 250 [2]=some xu:=by kernel_rfl
def xk:SC :=
 ae [ab [aR 24 .lss 23 22],bX 24 (.exit 0),.block 1 (ae [ab [aO 25 1 21 23,ak 26 25,((some 10),.op (.alloc [(.val (.int .i64 0))])),cg 1 10 26],ab [aa 27 0,aa 28 8,aO 29 2 27 28,al 30 1 29,ak 31 30,((some 32),.op (.uo 250 [] [(.tmp 10)])),aX 33 249 [31,32],aa 11 33],ae [ab [aa 34 11,aG 35 .lss 34 0],ba 35 (ae [ab [aN 6 0,bq 7 false],.ret])],ab [aa 36 0,aa 37 8,aO 38 2 36 37,al 39 1 38,ak 40 39,aa 41 11,aO 42 2 40 41,al 43 1 42,ak 44 43,aa 8 44],.region false [⟨none,[aa 45 8,aG 46 .lss 45 0,aa 47 46]⟩,⟨(some (47,false)),[aa 48 8,aa 49 0,aM 50 49,aR 51 .geq 48 50]⟩,⟨none,[cM 52 47 51]⟩],ba 52 (ae [ab [aN 6 0,bq 7 false],.ret])]),ab [aG 53 .add 23 1,aa 23 53]]
def zP:SF:=⟨ae [ab [aN 6 0,bq 7 false],ab [aa 12 1,aa 8 12],ae [.region false [⟨none,[aa 13 8,aG 14 .lss 13 0,aa 15 14]⟩,⟨(some (15,false)),[aa 16 8,aa 17 0,aM 18 17,aR 19 .geq 16 18]⟩,⟨none,[cM 20 15 19]⟩],ba 20 (ae [ab [aN 6 0,bq 7 false],.ret])],ae [ab [aa 21 2,aM 22 21,aN 23 0],bY 0 xk],ab [aa 54 8,aa 6 54,bq 7 true],.ret],
 [.tmp 6,.tmp 7],55⟩
theorem C4:aH Tryz.prog 193 []=some zP:=by kernel_rfl
theorem K5 (l:List fe) (g:aL l) (f:FuncId) (cap:List V) (p:fe->Bool) (H:View) (h:∀ x∈l,av Tryz.prog f (.agg (ki x) :: cap) H λr H'=>r=gb (p x)/\H'=H) :
  av Tryz.prog 249 [.aQ (jG l),.fn f [] cap] H λr H'=>r=gi (dy p l 0)/\H'=H:=by
 refine av.of mixed ju ?_
 unfold aL at g
 simp(disch:=omega)only[↓wr,seval,wq,fR,jG]
 refine aV.up l.length (λi T H'=>H=H'/\dy p (l.drop i) i=dy p l 0/\T 0=.aQ (l.map ki)/\T 1=.fn f [] cap/\T 7=gi l.length/\T 8=gi i) ⟨rfl,rfl,rfl,rfl,rfl,rfl⟩ ?_
 rintro i k T _ hk ⟨rfl,hi,b,h1,c,d⟩
 simp(disch:=omega)only[↓wr,seval,wq,fC,b,h1,c,d]
 apply ai.dec<;>intro j
 .have e:l[i]?=some (l[i]'(by omega)):=Uv (by omega)
  have hm:l[i]'(by omega)∈l:=UC _
  rw[dW (show i < l.length by omega)] at hi
  generalize l[i]'(by omega)=x at e hm hi
  simp(disch:=omega)only[↓wr,seval,wq,b,h1,c,d,Uy,e,UH,ki]
  have a:=h x hm
  simp only[ki] at a
  refine aw.dL (a.mono ?_)
  rintro r m ⟨rfl,rfl⟩
  simp only[dy] at hi
  simp(disch:=omega)only[↓wr,seval,wq]
  apply ai.split<;>intro hp
  .simp(disch:=omega)only[↓wr,seval,wq,b,h1,c,d]
   rw[<-hi,Uz hp]
  .simp(disch:=omega)only[↓wr,seval,wq,b,h1,c,d]
   refine aD hk (by omega) ⟨rfl,?_,b,h1,c,rfl⟩
   rw[Ux (by simp[hp])] at hi
   push_cast;exact hi
 .rw[US (by omega)] at hi
  simp(disch:=omega)only[↓wr,seval,wq,b,h1,c,d]
  rw[<-hi];rfl
theorem Qf (x:fe) (s:Int) (q:Nat) (H:View) (a:H q=.arr 1 [[gi s]]):av Tryz.prog 250 [.agg (ki x),.ptr q 0 0] H λr H'=>r=gb (decide (x.sym=s))/\H'=H:=by
 refine av.of mixed Ay ?_
 simp(disch:=omega)only[↓wr,seval,wq,xu,ki,a]
 congr 2
theorem Gb (s:Int):∀ (l:List fe) (i:Int),0<=i->(dy (λe=>decide (e.sym=s)) l i < 0->gv l s = -1)/\(0<=dy (λe=>decide (e.sym=s)) l i->∃ (k:Nat) (e:fe),dy (λe=>decide (e.sym=s)) l i=i+k/\l[k]?=some e/\gv l s=e.to)
 | [],i,_=>⟨λ_=>rfl,λh=>by simp[dy] at h⟩
 | x :: l,i,d=>by
  simp only[dy,gv,UN]
  by_cases h:x.sym=s
  .rw[Uz h,Uz h]
   exact⟨λh=>by omega,λ_=>⟨0,x,by simp,rfl,rfl⟩⟩
  .rw[Ux h,Ux h]
   obtain⟨h1,a⟩:=Gb s l (i+1) (by omega)
   refine⟨h1,λh=>?_⟩
   obtain⟨k,e,b,k2,c⟩:=a h
   exact⟨k+1,e,by rw[b];push_cast;omega,by simpa using k2,c⟩
theorem NT {l:List fe} (h:∀ e∈l,bO e.to) (s:Int):bO (gv l s):=by
 induction l with
 | nil=>unfold bO;simp[gv]
 | cons e l a =>
  rw[gv];split
  .exact h e (by simp)
  .exact a λx b=>h x (by simp[b])
theorem Pf (a:List aP) (_:aL a) (he:∀ s∈a,aL s.b5/\∀ e∈s.b5,bO e.sym/\bO e.to) (fr:Int) (syms:List Int) (t:aL syms):az Tryz.prog 193 [bM a,gi fr,encI syms] (.aY [gi (mh a fr syms).1,gb (mh a fr syms).2]):=by
 unfold aL at t
 refine az.tree (by
  intro v l;simp at l
  rcases l with rfl | rfl | rfl
  .exact lX _
  .exact .val _
  .exact bQ _) (xH (.val _) (.val _)) λH=>?_
 refine av.of mixed C4 ?_
 unfold mh
 simp(disch:=omega)only[↓wr,seval,wq,zP,bM,encI]
 apply ai.dec<;>intro h1
 .simp(disch:=omega)only[↓wr,seval,wq]
  rw[Uz (by omega)]
 simp(disch:=omega)only[↓wr,seval,wq,bM]
 apply ai.dec<;>intro u
 .simp(disch:=omega)only[↓wr,seval,wq]
  rw[Uz (by omega)]
 rw[Ux (by omega)]
 simp(disch:=omega)only[↓wr,seval,wq]
 refine aV.up syms.length (λi T H'=>∃ at_:Int,0<=at_/\at_ < a.length/\iT a at_ (syms.drop i)=iT a fr syms/\T 0=bM a/\T 8=gi at_/\T 21=encI syms/\T 22=gi syms.length/\T 23=gi i) ⟨fr,by omega,by omega,rfl,rfl,rfl,rfl,rfl,rfl⟩ ?_
 rintro i k T H' hk ⟨at_,D,E,hw,t0,t8,t21,t22,t23⟩
 simp(disch:=omega)only[↓wr,seval,wq,xk,t0,t8,t21,t22,t23,encI]
 apply ai.dec<;>intro w
 .have m:syms[i]?=some (syms[i]'(by omega)):=Uv (by omega)
  rw[Vg (show i < syms.length by omega)] at hw
  generalize syms[i]'(by omega)=x at m hw
  have f:a[at_.toNat]?=some (a.getD at_.toNat bJ):=getD_some (by omega)
  obtain⟨b,c⟩:=he _ (UL f)
  rw[iT] at hw
  have g:=NT (λe h=>(c e h).2) x
  generalize a.getD at_.toNat bJ=S at f b c hw g
  simp(disch:=omega)only[↓wr,seval,wq,t0,t8,t21,t22,t23,encI,Uy,m,UH]
  intro q F
  rw[set_set]
  have d:(H'.set q (.arr 1 [[gi x]])) q=.arr 1 [[gi x]]:=by simp[View.set]
  generalize H'.set q (.arr 1 [[gi x]])=n at d
  simp(disch:=omega)only[↓wr,seval,wq,t0,t8,bM,Uy,f,UH,lu]
  refine aw.dL ((K5 S.b5 b 250 [.ptr q 0 0] (λe=>decide (e.sym=x)) n (λe _=>Qf e x q n d)).mono ?_)
  rintro r G ⟨rfl,rfl⟩
  obtain⟨i1,i2⟩:=Gb x S.b5 0 (by omega)
  unfold aL at b
  simp(disch:=omega)only[↓wr,seval,wq]
  apply ai.dec<;>intro o
  .simp(disch:=omega)only[↓wr,seval,wq]
   rw[<-hw,i1 o,Ux (by omega)]
  .obtain⟨j,e,y,p,z⟩:=i2 (by omega)
   have I:=(UI.1 p).1
   rw[y]
   have A:((0:Int)+(j:Int))=(j:Int):=by omega
   rw[A]
   rw[z] at hw g
   unfold bO at g
   simp(disch:=omega)only[↓wr,seval,wq,t0,t8,bM,Uy,f,UH,lu,jG,p,ki]
   apply ai.dec<;>intro B
   .simp(disch:=omega)only[↓wr,seval,wq]
    rw[<-hw,Ux (by omega)]
   .simp(disch:=omega)only[↓wr,seval,wq,t0,bM]
    apply ai.dec<;>intro C
    .simp(disch:=omega)only[↓wr,seval,wq]
     rw[<-hw,Ux (by omega)]
    .simp(disch:=omega)only[↓wr,seval,wq,t0,t21,t22,t23]
     rw[Uz ⟨by omega,by omega⟩] at hw
     exact aD hk (by omega) ⟨e.to,by omega,by omega,hw,t0,rfl,t21,t22,rfl⟩
 .simp(disch:=omega)only[↓wr,seval,wq,t8]
  rw[US (by omega),iT] at hw
  rw[<-hw]
section
variable {P:Program} {T:Env} {H:View} {K:V->View->Prop} {w:cG (T,H,K)} {t ty:TypeId}
theorem PZ {d:Operand} {id off len sz bytes s:Nat} {z:List V} {es:List (List V)} (he:oC P t=some (sz,bytes,z)) (h:ev T d=.sl id off len sz) (hH:H id=.arr s es) (i:off+len<=es.length) (j:len≠0)
  (hk:K (.aY []) (H.set id (.arr sz (dY es off (List.replicate len z))))):iW P (.call { callee:=.builtin .clear,args:=#[d],argTypes:=#[t] }) ty T H K w:=by
 obtain⟨e,ti,b,hi,c,k,f,a,g,rfl,rfl⟩:=jY he
 intro n _
 refine⟨.aY [],.fi id (.arr ti.size (dY es off (List.replicate len z))),[id],?_,hk⟩
 simp only[sI,ca,oper]
 simp only[U3] at a
 simp[uR,b,h,cd,c,j,hH,i,g,k,f,a]
 exact a
end
theorem yP:∀ (xs A B:List (List V)),xs.length<=B.length->dY (A ++ B) A.length xs=A ++ xs ++ B.drop xs.length
 | [],A,B,_=>by simp[dY]
 | x :: r,A,[],h=>by simp at h
 | x :: r,A,b :: B,h=>by
  rw[dY,List.set_append_right _ _ (UF _),Nat.sub_self,List.set_cons_zero]
  have:=yP r (A ++ [x]) B (by simpa using h)
  simpa using this
theorem xS {id off k m:Nat} (hm:m<=k):cJ 2 (.sl id off k 2) (some (gi m)) none=some (.sl id (off+m) (k - m) 2,.none,[]):=by
 simp[cJ,bound,asNat,hm]
theorem GC {id off k m:Nat} (hm:m<=k):cJ 2 (.sl id off k 2) none (some (gi m))=some (.sl id off m 2,.none,[]):=by
 simp[cJ,bound,asNat,hm]
def fQ:SC :=
 ae [ae [ab [aa 29 5,aa 30 4,aM 31 30,aR 32 .lss 29 31],bX 32 (.exit 2)],.block 3 (ae [ab [aa 35 4,aa 36 5,aO 37 2 35 36,aS 38 2 37,aa 39 4,aa 40 5,aG 41 .sub 40 1,aO 42 2 39 41,aS 43 2 42,((some 44),.op (.old (.binOp .neq 120 (.tmp 38) (.tmp 43) 120) 4))],ba 44 (ae [ab [aa 45 0,aa 46 3,aa 47 4,aa 48 5,aO 49 2 47 48,aS 50 2 49,aO 51 2 45 46,cg 2 51 50],ab [aa 52 3,aG 53 .add 52 1,aa 3 53]])]),ab [aa 33 5,aG 34 .add 33 1,aa 5 34]]
def fP:SC :=
 ae [ae [ab [aa 10 3,aa 11 0,aM 12 11,aR 13 .lss 10 12],bX 13 (.exit 0)],.block 1 (ae [ab [aa 16 0,aa 17 3,aO 18 2 16 17,aS 19 2 18,aa 20 0,aa 21 3,aG 22 .sub 21 1,aO 23 2 20 22,aS 24 2 23,((some 25),.op (.old (.binOp .eql 120 (.tmp 19) (.tmp 24) 120) 4))],ba 25 (ae [ab [aa 26 0,aa 27 3,((some 28),.op (.slice 2 (.tmp 26) (some (.tmp 27)) none)),aa 4 28],ae [ab [aN 5 1],bY 2 fQ],ab [aa 54 0,aa 55 3,((some 56),.op (.slice 2 (.tmp 54) (some (.tmp 55)) none)),(none,.op (.old (.call { callee:=.builtin .clear,args:=#[(.tmp 56)],argTypes:=#[103] }) 0))],ab [aa 57 0,aa 58 3,((some 59),.op (.slice 2 (.tmp 57) none (some (.tmp 58)))),aa 2 59],.ret])]),ab [aa 14 3,aG 15 .add 14 1,aa 3 15]]
def gj:SF:=⟨ae [ab [bI 2 1],ae [ab [aa 6 0,aM 7 6,aG 8 .lss 7 2],ba 8 (ae [ab [aa 9 0,aa 2 9],.ret])],ae [ab [aN 3 1],bY 0 fP],ab [aa 60 0,aa 2 60],.ret],
 [.tmp 2],61⟩
theorem jZ:aH Tryz.prog 192 []=some gj:=by kernel_rfl
def zx:SF:=⟨ae [ab [bI 2 1],ab [aa 3 0,rf 4 190 [(.tmp 3),(.val (.fn 191 [] []))]],ab [aa 5 0,aX 6 192 [5],aa 2 6],.ret],
 [.tmp 2],7⟩
theorem CK:aH Tryz.prog 124 []=some zx:=by kernel_rfl
theorem rX {l:List aE} {i:Nat} (h:i < l.length):(aT l).getD i []=[gi (l.getD i gO).ax,gi (l.getD i gO).dot]:=qP (getD_some h)
theorem Lu (l:List aE) (i j:Nat) (x d:aE) (hi:i < l.length):(l.set i x).getD j d=if i=j then x else l.getD j d:=by
 rw[ET]
 by_cases e:i=j
 .rw[Uz ⟨e,hi⟩,Uz e]
 .rw[Ux (λh=>e h.1),Ux e]
theorem Kj (l:List aE) (U:l.length<=100000) (u:V) (H:View) (C:aK H u 2 (aT l)):av Tryz.prog 192 [u] H λr H'=>(∀ id,owner u≠some id->H' id=H id)/\aK H' r 2 (aT (fw l l.length))/\owner r=owner u:=by
 refine av.cut (K:=λr H'=>(H'=H/\r=u/\fw l l.length=l)∨∃ id rest,u=.sl id 0 l.length 2/\r=.sl id 0 (fw l l.length).length 2/\H'=H.set id (.arr 2 (aT (fw l l.length) ++ rest))) ?_ ?_
 rotate_left
 .rintro r H' (⟨rfl,rfl,e⟩ | ⟨id,rest,rfl,rfl,rfl⟩)
  .exact .inl ⟨λ_ _=>rfl,by rw[e];exact C,rfl⟩
  .refine .inr ⟨id,2,aT (fw l l.length),rest,by simp[View.set],λj L=>?_,?_,rfl⟩
   .rw[set_set]
    simp only[View.set]
    rw[Ux (λe=>L (by rw[e];rfl))]
   .rw[set_set]
    exact .inr ⟨id,by rw[bE],by simp[View.set]⟩
 refine av.of mixed jZ ?_
 have hlen:cd u=some l.length:=by rw[C.len,bE]
 simp(disch:=omega)only[↓wr,seval,wq,gj,hlen]
 apply ai.dec<;>intro n
 .simp(disch:=omega)only[↓wr,seval,wq]
  left
  try refine⟨rfl,rfl,?_⟩
  match l,n with
  | [],_=>rfl
  | [x],_=>rfl
  | _ :: _ :: _,n=>simp at n;omega
 obtain⟨id,hu,t⟩:=C.sl (by rw[bE];omega)
 rw[bE] at hu
 subst hu
 simp(disch:=omega)only[↓wr,seval,wq]
 refine aV.up (l.length - 1) (λi T H'=>H=H'/\(∀ j,0 < j->j < i+1->l.getD j gO≠l.getD (j - 1) gO)/\T 0=.sl id 0 l.length 2/\T 3=gi ((i+1:Nat):Int)) ⟨rfl,λj h1 n=>by omega,rfl,rfl⟩ ?_
 rintro i k T _ hk ⟨rfl,o,t0,t3⟩
 simp(disch:=omega)only[↓wr,seval,wq,fP,t0,t3]
 apply ai.dec<;>intro O
 rotate_left
 .simp(disch:=omega)only[↓wr,seval,wq,t0]
  left
  try refine⟨rfl,rfl,?_⟩
  rw[x8 l _ (UF _) (λj h1 n=>o j h1 (by omega)),List.take_length]
 have D:i+1 < l.length:=by omega
 have P:(((i+1:Nat):Int) - 1)=(i:Int):=by omega
 simp(disch:=omega)only[↓wr,seval,wq,t0,t3,t,rX D,rX (show i < l.length by omega),P]
 refine⟨by omega,by rw[bE];omega,?_⟩
 refine⟨by omega,by rw[bE];omega,?_⟩
 generalize M:l.getD (i+1) gO=x
 generalize N:l.getD i gO=y
 refine jc (xs:=#[.int .i64 x.ax,.int .i64 x.dot]) (ys:=#[.int .i64 y.ax,.int .i64 y.dot]) Tryz.underlying120 (by kernel_rfl) (by kernel_rfl) ?_ ?_ (qm x y) (.inl ⟨rfl,rfl⟩) ?_
 .rfl
 .rfl
 rw[yp]
 simp(disch:=omega)only[↓wr,seval,wq,t0,t3]
 apply ai.dec<;>intro heq
 rotate_left
 .simp(disch:=omega)only[↓wr,seval,wq,t0,t3]
  refine aD hk (by omega) ⟨rfl,λj h1 n=>?_,t0,by push_cast;rfl⟩
  rcases UZ j (i+1) with q | q
  .exact o j h1 q
  .have:j=i+1:=by omega
   subst this
   rw[Nat.add_sub_cancel,M,N];exact heq
 have g:fw l (i+1+1)=l.take (i+1):=by
  rw[fw,Ux,x8 l (i+1) (by omega) o]
  rw[Nat.add_sub_cancel,M,N]
  simp[heq]
 simp(disch:=omega)only[↓wr,seval,wq,t0,t3,xS (id:=id) (off:=0) (k:=l.length) (m:=i+1) (by omega)]
 refine aV.up (l.length - (i+1) - 1) (λi2 T H'=>∃ (a:Nat) (cur:List aE),H'=H.set id (.arr 2 (aT cur))/\cur.length=l.length/\i+1<=a/\a<=i+1+i2/\cur.take a=fw l (i+1+(i2+1))/\(∀ j,a<=j->cur.getD j gO=l.getD j gO) /\
  T 0=.sl id 0 l.length 2/\T 3=gi a/\T 4=.sl id (i+1) (l.length - (i+1)) 2/\T 5=gi ((i2+1:Nat):Int)) ⟨i+1,l,?_,rfl,UF _,by omega,by rw[g],λ_ _=>rfl,t0,t3,?_,rfl⟩ ?_
 .funext j;simp only[View.set];split
  .rename_i e;rw[e,t]
  .rfl
 .rfl
 clear t0 t3 hk
 rintro i2 k2 W _ v ⟨a,cur,rfl,w,Q,X,c,d,t0,t3,t4,t5⟩
 have b:(H.set id (.arr 2 (aT cur))) id=.arr 2 (aT cur):=by simp[View.set]
 simp(disch:=omega)only[↓wr,seval,wq,fQ,t0,t3,t4,t5]
 apply ai.dec<;>intro E
 .have hp:i+1+(i2+1) < l.length:=by omega
  have R:(((i2+1:Nat):Int) - 1)=(i2:Int):=by omega
  simp(disch:=omega)only[↓wr,seval,wq,t0,t3,t4,t5,b,R,rX (l:=cur) (show i+1+(i2+1) < cur.length by omega),rX (l:=cur) (show i+1+i2 < cur.length by omega)]
  refine⟨by omega,by rw[bE];omega,?_⟩
  refine⟨by omega,by rw[bE];omega,?_⟩
  rw[d _ (show a<=i+1+(i2+1) by omega),d _ (show a<=i+1+i2 by omega)]
  generalize A:l.getD (i+1+(i2+1)) gO=f
  generalize F:l.getD (i+1+i2) gO=B
  refine jc (xs:=#[.int .i64 f.ax,.int .i64 f.dot]) (ys:=#[.int .i64 B.ax,.int .i64 B.dot]) Tryz.underlying120 (by kernel_rfl) (by kernel_rfl) ?_ ?_ (qm f B) (.inr ⟨rfl,rfl⟩) ?_
  .rfl
  .rfl
  rw[yp]
  simp(disch:=omega)only[↓wr,seval,wq,t0,t3,t4,t5]
  have h:fw l (i+1+(i2+1+1))=if f=B then fw l (i+1+(i2+1)) else fw l (i+1+(i2+1)) ++ [f]:=by
   rw[show i+1+(i2+1+1)=(i+1+(i2+1))+1 by omega,fw,A,show i+1+(i2+1) - 1=i+1+i2 by omega,F]
   by_cases e:f=B
   .rw[Uz e,Ux (by simp[e])]
   .rw[Ux e,Uz (.inr e)]
  apply ai.dec<;>intro he
  .simp(disch:=omega)only[↓wr,seval,wq,t0,t3,t4,t5]
   rw[Uz he] at h
   exact aD v (by omega) ⟨a,cur,rfl,w,Q,by omega,by rw[h];exact c,d,t0,t3,t4,by push_cast;rfl⟩
  .simp(disch:=omega)only[↓wr,seval,wq,t0,t3,t4,t5,b,rX (l:=cur) (show i+1+(i2+1) < cur.length by omega)]
   rw[d _ (show a<=i+1+(i2+1) by omega),A]
   have p:(aT cur).getD a []=[gi (cur.getD a gO).ax,gi (cur.getD a gO).dot]:=rX (by omega)
   have G:(aT cur).set a [gi f.ax,gi f.dot]=aT (cur.set a f):=by simp[aT,List.map_set,bA]
   simp(disch:=omega)only[↓wr,seval,wq,t0,t3,t4,t5,b,p,G]
   rw[set_set]
   rw[Ux he] at h
   refine⟨by omega,by rw[bE];omega,?_⟩
   refine⟨by omega,by rw[bE];omega,?_⟩
   refine aD v (by omega) ⟨a+1,cur.set a f,rfl,by simp[w],by omega,by omega,?_,λj L=>?_,t0,by push_cast;rfl,t4,by push_cast;rfl⟩
   .rw[h,<-c,UW,List.take_set_of_le (UF _),List.getElem?_set_self (by omega)];rfl
   .rw[Lu _ _ _ _ _ (by omega),Ux (by omega)]
    exact d j (by omega)
 .have I:i+1+(i2+1)=l.length:=by omega
  rw[I] at c
  have S:l.length - a≠0:=by omega
  have p:a=(fw l l.length).length:=by rw[<-c,Vj];omega
  simp(disch:=omega)only[↓wr,seval,wq,t0,t3,xS (id:=id) (off:=0) (k:=l.length) (m:=a) (by omega)]
  refine PZ (id:=id) (off:=a) (len:=l.length - a) (sz:=2) (bytes:=16) (s:=2) (z:=[gi 0,gi 0]) (es:=aT cur) (by kernel_rfl) (by simp(disch:=omega)only[↓wr,seval,wq];try rw[Vm]) b (by rw[bE];omega) S ?_
  rw[set_set]
  have J:dY (aT cur) a (List.replicate (l.length - a) [gi 0,gi 0])=aT (fw l l.length) ++ List.replicate (l.length - a) [gi 0,gi 0]:=by
   have h1:=yP (List.replicate (l.length - a) [gi 0,gi 0]) (aT (cur.take a)) (aT (cur.drop a)) (by simp[aT];omega)
   rw[show aT (cur.take a) ++ aT (cur.drop a)=aT cur by rw[aT,aT,<-UT,List.take_append_drop];rfl] at h1
   rw[show (aT (cur.take a)).length=a by rw[bE,Vj];omega] at h1
   rw[h1,c,US (by simp[aT];omega),V0]
  rw[J]
  simp(disch:=omega)only[↓wr,seval,wq,t0,t3,GC (id:=id) (off:=0) (k:=l.length) (m:=a) (by omega)]
  right
  exact⟨id,List.replicate (l.length - a) [gi 0,gi 0],rfl,by rw[p],rfl⟩
theorem JP (l:List aE) (h:l.length<=100000) (u:V) (H:View) (c:aK H u 2 (aT l)):av Tryz.prog 124 [u] H λr H'=>(∀ id,owner u≠some id->H' id=H id)/\aK H' r 2 (aT (zm l))/\owner r=owner u:=by
 refine av.of mixed CK ?_
 simp(disch:=omega)only[↓wr,seval,wq,zx]
 refine aw.dL ((Px l (by omega) u H c).mono ?_)
 rintro r d ⟨rfl,k2,e⟩
 simp(disch:=omega)only[↓wr,seval,wq]
 refine aw.dL ((Kj (eD l) (by rw[iZ];omega) u d e).mono ?_)
 rintro r i ⟨f,b,g⟩
 simp(disch:=omega)only[↓wr,seval,wq]
 rw[iZ] at b
 exact⟨λid a=>by rw[f id a,k2 id a],b,g⟩
def ye:SF:=⟨ae [ab [cw 2 0,bI 4 1],ae [ab [aa 5 1,aG 6 .eql 5 (-1)],ba 6 (ae [ab [al 7 3 2,ak 8 7,((some 9),.op (.arith .sub (.val (.val (.int .i64 (-1)))) (.tmp 8))),((some 10),.op (.bP 1 1 [(.val (.int .i64 0))] [(0,(.tmp 9))])),aa 4 10],.ret])],ab [al 11 2 2,ak 12 11,aa 13 1,aO 14 3 12 13,al 15 1 14,ak 16 15,aa 4 16],.ret],
 [.tmp 4],17⟩
theorem AO:aH Tryz.prog 244 [2]=some ye:=by kernel_rfl
def zE:SF:=⟨ae [ab [cw 2 0,cw 3 1,aN 4 0,bq 5 false],ae [ab [aS 7 4 2,al 8 0 3,ak 9 8,aX 10 244 [7,9],aa 6 10],ab [al 11 1 3,ak 12 11,aa 13 6,aM 14 13,aR 15 .lss 12 14],ba 15 (ae [ab [aa 16 6,al 17 1 3,ak 18 17,aO 19 1 16 18,ak 20 19,aa 4 20,bq 5 true],.ret])],ab [aN 4 0,bq 5 false],.ret],
 [.tmp 4,.tmp 5],21⟩
theorem CI:aH Tryz.prog 187 [2,3]=some zE:=by kernel_rfl
def zX:SF:=⟨ae [ab [cw 2 0,aN 4 0],ae [ab [aa 5 1,aG 6 .lss 5 0],ba 6 (ae [ab [al 7 0 2,ak 8 7,aM 9 8,aG 10 .sub 9 1,aa 11 1,aR 12 .sub 10 11,aa 4 12],.ret])],ab [aa 13 1,aa 4 13],.ret],
 [.tmp 4],14⟩
theorem Du:aH Tryz.prog 188 [2]=some zX:=by kernel_rfl
def cQ:SF:=⟨ae [ab [bI 2 1],ae [ab [aa 3 0,((some 4),.op (.nil true 0 (.tmp 3) (.val (.emp 1))))],ba 4 (ae [ab [bI 2 1],.ret])],ab [bI 5 2,aa 6 0,fk 7 2 16 5 6,aa 2 7],.ret],
 [.tmp 2],8⟩
theorem dh:aH Tryz.prog 189 []=some cQ:=by kernel_rfl
def r5:SC :=
 ae [ab [aR 54 .lss 53 52],bX 54 (.exit 2),.block 3 (ae [ab [aa 55 53,aO 56 3 51 53,aS 57 3 56,((some 11),.op (.alloc [(.val (.int .i64 0)),(.emp 1),(.val (.int .i64 0))])),aa 10 55,cg 3 11 57],ab [al 58 0 11,ak 59 58,aa 60 8,((some 61),.op (.arith .sub (.val (.val (.int .i64 (-1)))) (.tmp 60))),aR 62 .eql 59 61],ba 62 (ab [aa 63 5,aa 64 10,((some 65),.op (.build [(.val (.int .i64 0)),(.val (.int .i64 0))] [(0,1,(.tmp 64))])),((some 66),.op (.bP 1 2 [(.val (.int .i64 0)),(.val (.int .i64 0))] [(0,(.tmp 65))])),fk 67 2 16 63 66,aa 5 67])]),ab [aG 68 .add 53 1,aa 53 68]]
def sN:SC :=
 ae [ae [ab [aa 18 7,aa 19 5,aM 20 19,aR 21 .lss 18 20],bX 21 (.exit 0)],.block 1 (ae [ab [aS 25 4 2,aa 26 5,aa 27 7,aO 28 2 26 27,aS 29 2 28,aX 30 187 [25,29],aa 24 30,du 31 0 24,du 32 1 24,aa 8 31,aa 9 32],ae [.region false [⟨none,[aa 33 9,c7 34 33,aa 35 34]⟩,⟨(some (35,false)),[aa 36 8,aG 37 .geq 36 0]⟩,⟨none,[cM 38 35 37,aa 39 38]⟩,⟨(some (39,false)),[aa 40 6,aa 41 8,((some 42),.op (.arith .sub (.val (.val (.int .i64 (-1)))) (.tmp 41))),aO 43 1 40 42,ak 44 43]⟩,⟨none,[cM 45 39 44]⟩],ba 45 (.exit 1)],ab [aa 46 6,aa 47 8,((some 48),.op (.arith .sub (.val (.val (.int .i64 (-1)))) (.tmp 47))),aO 49 1 46 48,(none,.op (.store 1 (.tmp 49) (.val (.val (.bool true)))))],ab [al 50 2 2,ak 51 50,aM 52 51,aN 53 0],bY 2 r5]),ab [aa 22 7,aG 23 .add 22 1,aa 7 23]]
def uO:SF:=⟨ae [ab [cw 2 0,bI 4 1],ab [aa 12 1,aX 13 189 [12],aa 5 13],ab [al 14 1 2,ak 15 14,aM 16 15,((some 17),.op (.make 1 1 [(.val (.bool false))] (.tmp 16) (.tmp 16))),aa 6 17],ae [ab [aN 7 0],bY 0 sN],ab [aa 69 5,aX 70 124 [69],aa 4 70],.ret],
 [.tmp 4],71⟩
theorem zt:aH Tryz.prog 123 [2]=some uO:=by kernel_rfl
theorem Ny (g:ag) (d : -100<=g.start/\g.start<=100) (r:Int) (hr : -1<=r/\r < (g.rules.length:Int)):az Tryz.prog 244 [.agg (af g),gi r] (encI (bG g r)):=by
 refine az.of (by
  intro v a;simp at a
  rcases a with rfl | rfl
  .exact bZ _ (cz g)
  .exact .val _) ?_
 refine av.of mixed AO ?_
 unfold bG
 simp(disch:=omega)only[↓wr,seval,wq,ye,af,encS]
 apply ai.eq<;>intro h1
 .simp(disch:=omega)only[↓wr,seval,wq,af,encS]
  intro n
  rw[Uz h1]
  rintro c a
  refine dz.fr (jf (l:=[-1 - g.start]) (.inr ⟨n,rfl,?_⟩))
  rw[a];simp[View.set]
 .have b:g.rules[r.toNat]?=some (bN g r):=by unfold bN;exact getD_some (by omega)
  rw[Ux h1]
  generalize bN g r=R at b
  simp(disch:=omega)only[↓wr,seval,wq,af,encS,Uy,b,UH,aI]
  intro c _
  exact .tree _ (bQ R.right)
theorem Gg (g:ag) (c:g.cX) (x:aE) (b:cq g x):az Tryz.prog 187 [.agg (af g),.agg (bA x)] (.aY [gi (bw g x).1,gb (bw g x).2]):=by
 have h1:=Ny g (iY c) x.ax b.1
 have d:=dD c b.1
 have e:=b.2
 refine az.tree (by
  intro v a;simp at a
  rcases a with rfl | rfl
  .exact bZ _ (cz g)
  .exact bZ _ λv a=>by simp[bA] at a;rcases a with rfl | rfl <;> exact .val _) (.aY _ λi hi=>by
   match i,hi with
   | 0,_=>exact .val _
   | 1,_=>exact .val _) λH=>?_
 refine av.of mixed CI ?_
 simp only[af,encS,encI] at h1
 unfold bw
 simp(disch:=omega)only[↓wr,seval,wq,zE,af,encS,bA]
 refine aw.pure h1 ?_
 generalize bG g x.ax=R at e d ⊢
 simp(disch:=omega)only[↓wr,seval,wq,bA]
 apply ai.dec<;>intro f
 .have h:R[x.dot.toNat]?=some (R.getD x.dot.toNat 0):=getD_some (by omega)
  simp(disch:=omega)only[↓wr,seval,wq,bA,Uy,h,UH]
  rw[Ux (by omega)]
 .simp(disch:=omega)only[↓wr,seval,wq]
  rw[Uz (by omega)]
theorem P9 (g:ag) (b:g.cX) (s:Int) (c : -1000<=s/\s<=1000):az Tryz.prog 188 [.agg (af g),gi s] (gi (my g s)):=by
 have d:=b.au
 refine az.val (by
  intro v a;simp at a
  rcases a with rfl | rfl
  .exact bZ _ (cz g)
  .exact .val _) λH=>?_
 refine av.of mixed Du ?_
 unfold my
 simp(disch:=omega)only[↓wr,seval,wq,zX,af,encS]
 apply ai.dec<;>intro h1
 .simp(disch:=omega)only[↓wr,seval,wq,af]
  rw[Uz h1]
 .simp(disch:=omega)only[↓wr,seval,wq]
  rw[Ux h1]
theorem bK.T8 {P:Program} {f:FuncId} {h:aC} {u:V} (hu:∀ Z μ hp x,ay Z μ hp u x->∃ a cap,x=.slice a 0 cap/\(a=none->cap=0)) (h1:bK P f [.emp 1] h (.emp 1) h) (n:bK P f [.emp 2] h (.emp 2) h) (o:bK P f [.dS] h (.emp 2) h):bK P f [u] h (.emp 0) h:=by
 refine⟨UF _,λZ μ F w xs j hr d=>?_⟩
 obtain⟨p,q⟩:=j
 obtain⟨x,rfl⟩:∃ x,xs=[x]:=by
  match xs,p with
  | [x],_=>exact⟨x,rfl⟩
 have r:ay Z μ w.heap u x:=q 0 (by simp)
 have one:∀ v,ay Z μ w.heap v x->fT Z μ w.heap [v] [x]:=λv h=>⟨rfl,λi hi=>by
  simp at hi;subst hi;exact h⟩
 have b:∀ k,bK P f [if k=3 then .dS else .emp k] h (if k=3 then .emp 2 else .emp k) h->ay Z μ w.heap (if k=3 then .dS else .emp k) x->Calls P f [x].toArray w λe w'=>∃ x g μ',e=.returned x/\ay g μ' w'.heap (.emp 0) x/\gZ g μ' w'.heap (cat h F)/\Ext Z μ w h.length g μ' w'/\(∀ id,id < h.length∨h.length<=id->μ' id=μ id):=by
  intro k hk s
  refine(hk.2 Z μ F w [x] (one _ s) hr d).mono ?_
  rintro e w' ⟨y,g,μ',rfl,l,rest⟩
  refine⟨y,g,μ',rfl,?_,rest⟩
  have:∀ m,ay g μ' w'.heap (.emp m) y->ay g μ' w'.heap (.emp 0) y:=λm h=>by
   cases h with | emp _ a _ _=>exact .emp 0 a (by simp) (by simp)
  split at l <;> exact this _ l
 obtain⟨a,cap,rfl,t⟩:=hu Z μ w.heap x r
 cases a with
 | none =>
  have:=t rfl
  subst this
  exact b 1 (by simpa using h1) (.emp 1 none (by simp) (by simp))
 | some a =>
  cases cap with
  | zero=>exact b 2 (by simpa using n) (.emp 2 (some a) (by simp) (by simp))
  | succ c=>exact b 3 (by simpa using o) (.dS a (c+1))
theorem N1 {Z:Nat->Prop} {μ:Mu} {hp:Array Obj} {k:Nat} {x:Value} (h:ay Z μ hp (.emp k) x):∃ a cap,x=.slice a 0 cap/\(a=none->cap=0):=by
 cases h with | emp _ a _ _=>exact⟨a,0,rfl,λ_=>rfl⟩
theorem NU {Z:Nat->Prop} {μ:Mu} {hp:Array Obj} {id off esz:Nat} {x:Value} (h:ay Z μ hp (.sl id off 0 esz) x):∃ a cap,x=.slice a 0 cap/\(a=none->cap=0):=by
 rcases Hj h with ⟨_,a,e⟩ | ⟨b,o0,cap,c,e,f,d,_⟩
 .exact⟨a,0,e,λ_=>rfl⟩
 .exact⟨_,cap,d,λh=>by simp at h⟩
theorem Ie (u:V) (hu:∀ Z μ hp x,ay Z μ hp u x->∃ a cap,x=.slice a 0 cap/\(a=none->cap=0)) (h:aC):bK Tryz.prog 189 [u] h (.emp 0) h:=by
 have hp:∀ v t,Tree v->Tree t->(∀ H,av Tryz.prog 189 [v] H λr _=>r=t)->az Tryz.prog 189 [v] t:=λv t c d h=>az.tree (by intro x b;simp at b;subst b;exact c) d h
 have h1:=hp (.emp 1) (.emp 1) (.emp 1) (.emp 1) (λH=>by
  refine av.of mixed dh ?_
  simp(disch:=omega)only[↓wr,seval,wq,cQ])
 have e:=hp (.emp 2) (.emp 2) (.emp 2) (.emp 2) (λH=>by
  refine av.of mixed dh ?_
  simp(disch:=omega)only[↓wr,seval,wq,cQ,iL,V6])
 have f:=hp .dS (.emp 2) .dS (.emp 2) (λH=>by
  refine av.of mixed dh ?_
  simp(disch:=omega)only[↓wr,seval,wq,cQ,qa,iL,V6])
 exact bK.T8 hu (bK.gh h1 h) (bK.gh e h) (bK.gh f h)
theorem Ku (l:List aE) (d:l.length<=100000) (u:V) (H:View) (b:aK H u 2 (aT l)):av Tryz.prog 189 [u] H λr H'=>aK H' r 2 (aT l)/\b3 H H' r:=by
 cases l with
 | nil =>
  refine⟨by kernel_rfl,?_⟩
  rintro h rfl
  refine⟨.emp 0,h,Ie u (λZ μ hp x c=>?_) h,.refl _,.nil,.emp⟩
  rcases b with ⟨_,k,rfl⟩ | ⟨n,rfl,_⟩
  .exact N1 c
  .exact NU c
 | cons x r =>
  obtain⟨id,hu,a⟩:=b.sl (by rw[bE];simp)
  subst hu
  refine av.of mixed dh ?_
  have he:=jO (H:=H) id 0 r.length 2 2 (aT (x :: r)) a (by rw[bE];simp)
  rw[Vv,UK (by rw[bE];simp)] at he
  simp only[UE] at d
  have hlen:(aT (x :: r)).length=r.length+1:=by rw[bE];rfl
  rw[hlen]
  simp(disch:=omega)only[↓wr,seval,wq,cQ,he]
  refine eo (es:=[]) (.inl ⟨rfl,2,rfl⟩) (by simp[aT,bA,VN,aF]) (by unfold aB;rw[hlen];simp;omega) (by unfold aB;rw[hlen];simp;omega) ?_
  intro i m e f
  simp(disch:=omega)only[↓wr,seval,wq]
  refine⟨by simpa using e,λj g=>?_⟩
  exact f j g (by simp[owner])
def dt (ks:List Nat):List aE:=ks.map λ(k:Nat)=>(⟨k,0⟩:aE)
theorem yo {a:List Nat} {n:Nat} (h:a.Nodup) (hk:∀ k∈a,k < n):a.length<=n:=by
 have:=qi a (List.range n) h λx b=>VC.2 (hk x b)
 simpa using this
theorem Nt {l:List Bool} {i:Nat} (h:i < l.length):(dq l).getD i []=[gb (l.getD i false)]:=by
 simp[Uu,h]
structure ML (g:ag) (l:List aE) (H H':View) (i:Nat) (r su:V) (ks:List Nat) (seen:List Bool):Prop where
 own:bc H' [(r,2,aT (l ++ dt ks)),(su,1,dq seen)]
 f1:b3 H H' r
 f2:b3 H H' su
 nd:ks.Nodup
 kl:∀ k∈ks,k < g.rules.length
 sl:seen.length=g.aj.length
 s1:∀ (n k:Nat) (R:bb),seen.getD n false=true->g.rules[k]?=some R->R.left=n->k∈ks
 s2:∀ (k:Nat) (R:bb),k∈ks->g.rules[k]?=some R->seen.getD R.left.toNat false=true
 cl:∀ x∈l ++ dt ks,mF g l x
 dn:∀ (j:Nat) (x:aE) (s:Int),j < i->(l ++ dt ks)[j]?=some x->bw g x=(s,true)->s < 0->seen.getD (-1 - s).toNat false=true
 il:i<=(l ++ dt ks).length
theorem ML.len {g:ag} {l:List aE} {H H':View} {i:Nat} {r b:V} {a:List Nat} {seen:List Bool} (h:ML g l H H' i r b a seen):a.length<=g.rules.length/\(l ++ dt a).length=l.length+a.length:=by
 refine⟨yo h.nd h.kl,by simp[dt]⟩
def Uc (g:ag) (l:List aE) (H:View) (m:Nat) (T:Env) (H':View):Prop:=∃ (i:Nat) (r su:V) (ks:List Nat) (seen:List Bool),m=l.length+g.rules.length - i/\ML g l H H' i r su ks seen/\T 2=.aJ (af g) 0/\T 5=r/\T 6=su/\T 7=gi i
theorem Io (g:ag) (X:g.cX) (l:List aE) (hl:∀ x∈l,cq g x) (P:l.length<=10000) (u:V) (H:View) (ho:aK H u 2 (aT l)):av Tryz.prog 123 [.agg (af g),u] H λr H'=>aK H' r 2 (aT (cK g l))/\b3 H H' r:=by
 refine av.of mixed zt ?_
 have cu:=X.rules
 have cv:=X.aj
 simp(disch:=omega)only[↓wr,seval,wq,uO,af,encS]
 refine aw.dL ((Ku l (by omega) u H ho).mono ?_)
 rintro r H1 ⟨o1,f1⟩
 simp(disch:=omega)only[↓wr,seval,wq,af,encS]
 refine⟨⟨UF _,by unfold aB;omega,by unfold aB;omega⟩,λY=>?_,λY q z=>?_⟩
 .exact absurd (by have:=X.lp;omega) (show ¬ g.aj.length=0 by have:=X.lp;omega)
 have aq:ML g l H (H1.set q (.arr 1 (List.replicate g.aj.length [gb false]))) 0 r (.sl q 0 g.aj.length 1) [] (List.replicate g.aj.length false):=by
  have e:List.replicate g.aj.length [gb false]=dq (List.replicate g.aj.length false):=by simp
  have b8:bc H1 [(r,2,aT l)]:=⟨λx C=>by simp at C;subst C;exact o1,by
   cases hr:owner r <;> simp[Vy,hr]⟩
  have b9:H q=.dead∨H q≠.dead:=by cases H q <;> simp
  have E:H q=.dead:=by
   rcases b9 with h | h
   .exact h
   .have:=(f1 q h).1;rw[z] at this;exact absurd this.symm h
  refine⟨?_,λid c=>?_,λid c=>?_,.nil,by simp,by simp,λn k R h=>?_,by simp,λx C=>.base (by simpa [dt] using C),λj x s h=>by omega,VG _⟩
  .have N:=(b8.new z 1 (List.replicate g.aj.length [gb false])).perm (.swap _ _ _)
   rw[V8] at N
   rw[e] at N ⊢
   simpa [dt] using N
  .have Q:id≠q:=by rintro rfl;exact c E
   exact⟨by simp only[View.set];rw[Ux Q];exact(f1 id c).1,(f1 id c).2⟩
  .have Q:id≠q:=by rintro rfl;exact c E
   exact⟨by simp only[View.set];rw[Ux Q];exact(f1 id c).1,by simp[owner,Ne.symm Q]⟩
  .simp only[Uu,VP] at h
   split at h <;> simp at h
 generalize H1.set q (.arr 1 (List.replicate g.aj.length [gb false]))=H2 at aq ⊢
 refine aV.intro (Uc g l H) (l.length+g.rules.length) ⟨0,r,_,[],_,by omega,aq,rfl,rfl,rfl,rfl⟩ ?_
 clear aq o1 f1 z
 rintro m T H' ⟨i,r,J,w,seen,rfl,d,t2,t5,t6,t7⟩
 obtain⟨cA,cC⟩:=d.len
 have cc:cd r=some (l ++ dt w).length:=by rw[d.own.head.len,bE]
 simp(disch:=omega)only[↓wr,seval,wq,sN,t2,t5,t6,t7,cc]
 apply ai.dec<;>intro hc
 rotate_left
 ·
  have hi:i=(l ++ dt w).length:=by have:=d.il;omega
  simp(disch:=omega)only[↓wr,seval,wq,t5]
  refine aw.dL ((JP (l ++ dt w) (by omega) r H' d.own.head).mono ?_)
  rintro S H3 ⟨k3,o3,e3⟩
  simp(disch:=omega)only[↓wr,seval,wq]
  have cf:cK g l=zm (l ++ dt w):=Al X hl (Bt _) (λx C=>d.cl x (qG.1 C)) (λx C=>qG.2 (by simp[C])) (λx C s k R h1 N O h4=>by
   obtain⟨j,hj,e⟩:=VQ.1 (qG.1 C)
   have h5:=d.dn j x s (by omega) (by rw[Uv hj,e]) h1 N
   have h6:=d.s1 _ k R h5 O (by omega)
   exact qG.2 (List.mem_append_right _ (U0.2 ⟨k,h6,rfl⟩)))
  rw[cf]
  refine⟨o3,λid c=>?_⟩
  obtain⟨q1,q2⟩:=d.f1 id c
  exact⟨by rw[k3 id q2,q1],by rw[e3];exact q2⟩
 have C:(l ++ dt w)[i]?=some ((l ++ dt w)[i]'(by omega)):=Uv (by omega)
 have a8:=UC (show i < (l ++ dt w).length by omega)
 have cN:=d.dn
 generalize (l ++ dt w)[i]'(by omega)=x at C a8
 have bd:=d.cl x a8
 have ar:=bd.has hl
 have h1:=Gg g X x ar
 cases F:bw g x with
 | mk s bl =>
 have cS:=vE X ar F
 rw[F] at h1
 obtain⟨id,hu,c⟩:=d.own.head.sl (by rw[bE];omega)
 simp only at hu c
 rw[bE] at hu
 simp only[af,encS,bA] at h1
 simp(disch:=omega)only[↓wr,seval,wq,t2,t5,t6,t7,hu,c,qP C,af,encS]
 refine⟨by omega,by rw[bE];omega,?_⟩
 refine aw.pure h1 ?_
 have skip:(bl=true->s < 0->seen.getD (-1 - s).toNat false=true)->ML g l H H' (i+1) r J w seen:=λh =>
  ⟨d.own,d.f1,d.f2,d.nd,d.kl,d.sl,d.s1,d.s2,d.cl,λj y t hj I P Y=>by
   rcases UZ j i with q | q
   .exact d.dn j y t q I P Y
   .have:j=i:=by omega
    subst this
    rw[C] at I
    simp only[Uw] at I
    subst I
    rw[F] at P
    simp only[UA] at P
    obtain⟨rfl,rfl⟩:=P
    exact h rfl Y,by omega⟩
 cases bl with
 | false =>
  simp(disch:=omega)only[↓wr,seval,wq,t2,t5,t6,t7]
  exact⟨l.length+g.rules.length - (i+1),by omega,i+1,r,J,w,seen,rfl,skip (by simp),t2,by rw[<-hu];exact t5,t6,rfl⟩
 | true =>
 simp(disch:=omega)only[↓wr,seval,wq]
 apply ai.dec<;>intro Y
 .simp(disch:=omega)only[↓wr,seval,wq,t2,t5,t6,t7]
  exact⟨l.length+g.rules.length - (i+1),by omega,i+1,r,J,w,seen,rfl,skip (λ_ h=>by omega),t2,by rw[<-hu];exact t5,t6,rfl⟩
 have hG:=sg X ar F
 have bn:(-1 - s).toNat < g.aj.length:=by
  unfold dI at hG
  rw[Ux (by omega)] at hG
  simp at hG;omega
 obtain⟨K,A,L⟩:=d.own.tail.head.sl (by simp[d.sl];omega)
 simp only at A L
 rw[UB,d.sl] at A
 have U:(-1 - s).toNat < seen.length:=by rw[d.sl];exact bn
 simp(disch:=omega)only[↓wr,seval,wq,t6,A,L,Nt U]
 refine⟨by omega,by simp[d.sl];omega,?_⟩
 apply ai.split<;>intro N
 .simp(disch:=omega)only[↓wr,seval,wq,t2,t5,t6,t7]
  exact⟨l.length+g.rules.length - (i+1),by omega,i+1,r,J,w,seen,rfl,skip (λ_ _=>N),t2,by rw[<-hu];exact t5,by rw[<-A];exact t6,rfl⟩
 obtain⟨n,P⟩:∃ n:Nat,-1 - s=(n:Int):=⟨(-1 - s).toNat,by omega⟩
 have br:(-1 - s).toNat=n:=by omega
 rw[br] at bn U N
 have ch:(dq seen).set n [gb true]=dq (seen.set n true):=by simp[List.map_set]
 simp(disch:=omega)only[↓wr,seval,wq,t2,t5,t6,t7,A,L,af,encS,P,Nt U,ch]
 refine⟨by omega,by simp[d.sl];omega,?_⟩
 have a1:∀ m,(seen.set n true).getD m false=if n=m then true else seen.getD m false:=λm=>by
  rw[ET]
  by_cases e:n=m
  .rw[Uz ⟨e,U⟩,Uz e]
  .rw[Ux (λh=>e h.1),Ux e]
 have o2:bc (H'.set K (.arr 1 (dq (seen.set n true)))) [(r,2,aT (l ++ dt w)),(J,1,dq (seen.set n true))]:=by
  have O:=d.own.perm (.swap _ _ _)
  rw[A] at O ⊢
  exact(O.put (es':=dq (seen.set n true)) (by simp) (by simp[d.sl])).perm (.swap _ _ _)
 have M:∀ id,H id≠.dead->id≠K:=λid c e=>by
  have:=(d.f2 id c).2
  rw[A,e] at this
  exact this rfl
 have a6:b3 H (H'.set K (.arr 1 (dq (seen.set n true)))) r:=λid c=>⟨by simp only[View.set];rw[Ux (M id c)];exact(d.f1 id c).1,(d.f1 id c).2⟩
 have a7:b3 H (H'.set K (.arr 1 (dq (seen.set n true)))) J:=λid c=>⟨by simp only[View.set];rw[Ux (M id c)];exact(d.f2 id c).1,(d.f2 id c).2⟩
 generalize H'.set K (.arr 1 (dq (seen.set n true)))=H4 at o2 a6 a7 ⊢
 refine aV.up g.rules.length (λk T Z=>∃ (S:V) (f:List Nat),f=w ++ (List.range k).filter (λ(q:Nat)=>decide ((bN g q).left=n))/\bc Z [(S,2,aT (l ++ dt f)),(J,1,dq (seen.set n true))]/\b3 H Z S/\b3 H Z J /\
  T 2=.aJ (af g) 0/\T 5=S/\T 6=J/\T 7=gi i/\T 8=gi s/\T 51=.aQ (g.rules.map aI)/\T 52=gi g.rules.length/\T 53=gi k) ⟨r,w,by simp,o2,a6,a7,t2,by rw[<-hu];exact t5,by rw[<-A];exact t6,t7,rfl,rfl,rfl,rfl⟩ ?_
 clear t2 t5 t6 t7 o2 a6 a7
 rintro k j T5 Z hk ⟨S,f,G,o5,f5,g5,t2,t5,t6,t7,t8,t51,t52,t53⟩
 have bs:∀ q,q∈w->¬ (bN g q).left=n:=λq z e=>by
  have hR:g.rules[q]?=some (bN g q):=by unfold bN;exact getD_some (d.kl q z)
  have:=d.s2 q _ z hR
  rw[e] at this
  simp only[U8] at this
  rw[N] at this;simp at this
 have an:f.Nodup:=by
  rw[G,VK]
  refine⟨d.nd,(List.nodup_range).filter _,λa ha b hb e=>?_⟩
  subst e
  exact bs a ha (by simpa using (Vu.1 hb).2)
 simp(disch:=omega)only[↓wr,seval,wq,r5,t2,t5,t6,t7,t8,t51,t52,t53]
 apply ai.dec<;>intro cj
 .have hR:g.rules[k]?=some (bN g k):=by unfold bN;exact getD_some (by omega)
  have bx:∀ q∈f,q < g.rules.length:=λq z=>by
   rw[G] at z
   rcases UR.1 z with h | h
   .exact d.kl q h
   .have:=VC.1 (Vu.1 h).1;omega
  have cV:=yo an bx
  have p:w ++ (List.range (k+1)).filter (λ(q:Nat)=>decide ((bN g q).left=n))=if (bN g k).left=n then f ++ [k] else f:=by
   rw[V1,Wa,<-Vs,<-G]
   by_cases e:(bN g k).left=n <;> simp[e]
  generalize bN g k=R at hR p
  simp(disch:=omega)only[↓wr,seval,wq,t2,t5,t6,t7,t8,t51,t52,t53,Uy,hR,UH,aI]
  intro q z
  rw[set_set]
  have b0:(Z.set q (.arr 3 [[gi R.left,encI R.right,gi R.prec]])) q=.arr 3 [[gi R.left,encI R.right,gi R.prec]]:=by simp[View.set]
  have E:∀ id,H id≠.dead->id≠q:=λid c e=>by
   have:=(f5 id c).1
   rw[e,z] at this
   exact c (by rw[e];exact this.symm)
  have o6:=o5.fresh (o:=.arr 3 [[gi R.left,encI R.right,gi R.prec]]) z
  have f6:b3 H (Z.set q (.arr 3 [[gi R.left,encI R.right,gi R.prec]])) S:=λid c=>⟨by simp only[View.set];rw[Ux (E id c)];exact(f5 id c).1,(f5 id c).2⟩
  have g6:b3 H (Z.set q (.arr 3 [[gi R.left,encI R.right,gi R.prec]])) J:=λid c=>⟨by simp only[View.set];rw[Ux (E id c)];exact(g5 id c).1,(g5 id c).2⟩
  generalize Z.set q (.arr 3 [[gi R.left,encI R.right,gi R.prec]])=H6 at b0 o6 f6 g6
  clear o5 f5 g5 z E
  simp(disch:=omega)only[↓wr,seval,wq,t2,t5,t6,t7,t8,b0,P]
  refine⟨rfl,?_⟩
  apply ai.eq<;>intro he
  .simp(disch:=omega)only[↓wr,seval,wq,t2,t5,t6,t7,t8]
   intro q2 b1
   simp(disch:=omega)only[↓wr,seval,wq,bH]
   have D:∀ id,H id≠.dead->id≠q2:=λid c e=>by
    have:=(f6 id c).1
    rw[e,b1] at this
    exact c (by rw[e];exact this.symm)
   refine cx (o6.fresh b1) (by simp[aF]) (by unfold aB;rw[bE];simp[dt];omega) (by unfold aB;rw[bE];simp[dt];omega) ?_
   intro r3 H7 o7 l7
   simp(disch:=omega)only[↓wr,seval,wq,t2,t6,t7,t8,t51,t52,t53]
   rw[Uz he] at p
   have f7:∀ v,b3 H H6 v->(∀ id,owner v=some id->owner S≠some id/\owner r3≠some id)->b3 H H7 v:=λv hv c3 id c=>by
    obtain⟨e1,e2⟩:=hv id c
    obtain⟨k1,k2⟩:=l7 id (by simp only[View.set];rw[Ux (D id c),e1];exact c) (f6 id c).2
    refine⟨?_,e2⟩
    rw[k1]
    simp only[View.set]
    rw[Ux (D id c),e1]
   have f8:b3 H H7 r3:=λid c=>by
    obtain⟨e1,e2⟩:=f6 id c
    obtain⟨k1,k2⟩:=l7 id (by simp only[View.set];rw[Ux (D id c),e1];exact c) e2
    refine⟨?_,k2⟩
    rw[k1]
    simp only[View.set]
    rw[Ux (D id c),e1]
   refine aD hk (by omega) ⟨r3,f ++ [k],p.symm,?_,f8,λid c=>⟨(f8 id c).1,(g6 id c).2⟩,t2,rfl,t6,t7,t8,t51,t52,rfl⟩
   have e1:aT (l ++ dt (f ++ [k]))=aT (l ++ dt f) ++ [[gi k,gi 0]]:=by simp[aT,dt,bA]
   rw[e1]
   exact o7
  .simp(disch:=omega)only[↓wr,seval,wq,t2,t5,t6,t7,t8,t51,t52,t53]
   rw[Ux he] at p
   exact aD hk (by omega) ⟨S,f,p.symm,o6,f6,g6,t2,t5,t6,t7,t8,t51,t52,rfl⟩
 .have ck:k=g.rules.length:=by omega
  subst ck
  simp(disch:=omega)only[↓wr,seval,wq,t2,t5,t6,t7]
  have B:∀ q,q∈f↔q∈w∨(q < g.rules.length/\(bN g q).left=n):=λq=>by
   rw[G,UR,Vu,VC,UN]
  have b2:∀ (q:Nat) (R:bb),g.rules[q]?=some R->bN g q=R:=λq R h=>by
   unfold bN
   rw[U8,Uu,h];rfl
  have b7:∀ (j:Nat),j<=i->(l ++ dt f)[j]?=(l ++ dt w)[j]?:=λj hj=>by
   rw[G,dt,UT,<-Vs]
   exact U5 (by simp only[dt] at hc;omega)
  refine⟨l.length+g.rules.length - (i+1),by omega,i+1,S,J,f,seen.set n true,rfl,⟨o5,f5,g5,an,λq z=>?_,by rw[List.length_set];exact d.sl,λm q R O h4 h5=>?_,λq R O h4=>?_,λy I=>?_,λj y t hj I W Y=>?_,?_⟩,t2,t5,t6,rfl⟩
  .rcases (B q).1 z with h | h
   .exact d.kl q h
   .exact h.1
  .rw[a1] at O
   split at O
   .rename_i e
    subst e
    exact(B q).2 (.inr ⟨(UI.1 h4).1,by rw[b2 q R h4];exact h5⟩)
   .exact(B q).2 (.inl (d.s1 m q R O h4 h5))
  .rw[a1]
   rcases (B q).1 O with h | h
   .split
    .rfl
    .exact d.s2 q R h h4
   .rw[b2 q R h4] at h
    rw[h.2,U8,Uz rfl]
  .rcases UR.1 I with h | h
   .exact d.cl y (List.mem_append_left _ h)
   .obtain⟨q,z,rfl⟩:=U0.1 h
    rcases (B q).1 z with h | h
    .exact d.cl _ (List.mem_append_right _ (U0.2 ⟨q,h,rfl⟩))
    .have hR:g.rules[q]?=some (bN g q):=by unfold bN;exact getD_some h.1
     exact .step bd F (by omega) hR (by rw[h.2,P])
  .rw[b7 j (by omega)] at I
   rw[a1]
   rcases UZ j i with q | q
   .split
    .rfl
    .exact d.dn j y t q I W Y
   .have:j=i:=by omega
    subst this
    rw[C] at I
    simp only[Uw] at I
    subst I
    rw[F] at W
    simp only[UA,and_true] at W
    subst W
    rw[br,Uz rfl]
  .rw[G,dt,UT,<-Vs,UY]
   simp only[dt] at hc
   omega
end Gv
