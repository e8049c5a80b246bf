/-
  Part 15 of the proof: what the machine does and what the functions answer.
  Conditions: those that each lemma names.
-/
import Derived.Test.YtiophifnkakjgaaGreatSGzC1N
set_option linter.unusedSimpArgs false
set_option linter.unusedVariables false
set_option maxRecDepth 100000
set_option maxHeartbeats 20000000
namespace Gv
open Go Go.Proofs
section
variable {g:af} {a:List aJ}
theorem Yc (k:Nat):aW g ⟨k,((aA g k).right.length:Nat)⟩=(0,false):=by
 have a:aM g (k:Int)=(aA g k).right:=by rw[aM,aaD (by omega)]
 unfold aW;simp only[a,if_true]
theorem Xc {x:ay} (d:cw g x) (a:(aW g x).2=false) (e:0<=x.au):∃ k:Nat,k < g.rules.length/\x=⟨k,((aA g k).right.length:Nat)⟩:=by
 obtain⟨k,hk⟩:∃ k:Nat,x.au=k:=⟨x.au.toNat,by omega⟩
 have b:k < g.rules.length:=by have:=d.1;omega
 refine⟨k,b,?_⟩
 have c:aM g (k:Int)=(aA g k).right:=by rw[aM,aaD (by omega)]
 unfold aW at a
 rw[hk,c] at a
 split at a
 .rename_i h
  cases x
  simp only at hk h
  rw[hk,h]
 .simp at a
theorem Dz (e:bY g a) {i:Nat} (hi:i < a.length) {x:dz} : x∈fG g a i↔∃ k:Nat,k < g.rules.length/\(⟨k,((aA g k).right.length:Nat)⟩:ay)∈jc g a i/\x=⟨k,rG g a i ⟨k,((aA g k).right.length:Nat)⟩⟩:=by
 have c:(aY g a).getD i []=jc g a i:=by
  unfold aY jc
  simp[aaA,aaB hi]
 rw[fG,c,abY]
 constructor
 .rintro⟨y,b,h⟩
  split at h
  .rename_i d
   obtain⟨k,hk,rfl⟩:=Xc (e.has hi b) d.1 d.2
   exact⟨k,hk,b,by simpa using h.symm⟩
  .simp at h
 .rintro⟨k,hk,b,rfl⟩
  exact⟨_,b,by rw[aaF ⟨by rw[Yc],by simp only;omega⟩]⟩
theorem GV {i k t:Nat} (b:t < 32):(rG g a i ⟨k,((aA g k).right.length:Nat)⟩).getLsbD t=true↔kG g (av g false) a (aY g a) i ⟨k,((aA g k).right.length:Nat)⟩ t:=by
 rw[rG,Dj _ 32 t (aaM _)]
 simp[b]
theorem Tl (i:Nat):(fG g a i).Pairwise λx y=>x.au < y.au:=by
 have k:cz ((aY g a).getD i []):=by
  unfold aY
  rw[aaA,aaE]
  cases a[i]? with
  | none=>simp[cz]
  | some s=>exact kQ g _
 rw[fG,List.pairwise_filterMap]
 refine k.imp λ{x y} d b f n c=>?_
 split at f
 .rename_i h1
  split at c
  .rename_i l
   simp only[aaC] at f c
   rw[<-f,<-c]
   simp only
   rw[fZ] at d
   rcases d with h | ⟨h,o⟩
   .exact h
   .exfalso
    have e:∀ z:ay,(aW g z).2=false->z.dot=(aM g z.au).length:=λz j=>by
     unfold aW at j
     split at j
     .assumption
     .simp at j
    have m:=e x h1.1
    have p:=e y l.1
    rw[h] at m
    omega
  .simp at c
 .simp at f
theorem TS (b:bY g a) (hr:isRed g=true) {i:Nat} (hi:i < a.length) {x:dz} (d:x∈fG g a i) :
  (0<=x.au/\x.au < g.rules.length)/\x.set≠0/\qt x.set ((lp g (av g false)).getD (aA g x.au).left.toNat 0):=by
 obtain⟨k,hk,hm,rfl⟩:=(Dz b hi).1 d
 have f:g.rules[k]?=some (aA g k):=by unfold aA;exact getD_some hk
 refine⟨by simp only;omega,λe=>?_,λt c=>?_⟩
 .obtain⟨t,c,h⟩:=Po b hr (i+1) i (by omega) hi _ hm
  have:=(GV c).2 h
  simp only at e
  rw[e] at this
  simp at this
 .have j:t < 32:=BitVec.lt_of_getLsbD c
  obtain⟨p,n,l,m⟩:=(QX b hr hk).1 ((GV j).1 c)
  exact Pq b m (b.de.left _ (aaI f)).1 l
theorem TK (b:bY g a) (hr:isRed g=true) {k:Nat} (hk:k < g.rules.length):∃ p,eZ a p (-1 - (aA g k).left):=by
 have c:g.rules[k]?=some (aA g k):=by unfold aA;exact getD_some hk
 have d:=b.de.left _ (aaI c)
 have:=VC b hr (Sg hr (aA g k).left.toNat (by omega))
 rwa [show (((aA g k).left.toNat:Nat):Int)=(aA g k).left by omega] at this
theorem YJ (b:bY g a) {p k:Nat} (hk:k < g.rules.length) (c:eZ a p (-1 - (aA g k).left)):∃ q,q < a.length/\nA a p (aA g k).right q/\(⟨k,((aA g k).right.length:Nat)⟩:ay)∈jc g a q:=by
 have f:g.rules[k]?=some (aA g k):=by unfold aA;exact getD_some hk
 have d:aM g (k:Int)=(aA g k).right:=by rw[aM,aaD (by omega)]
 have hm:=rr b (iw c) (b.de.left _ (aaI f)).1 hk rfl c
 obtain⟨q,h,i,e⟩:=b.fwd k (aA g k).right 0 p (iw c) hm ⟨[],by rw[d];simp⟩
 rw[abq] at e
 exact⟨q,h,i,e⟩
theorem VK (b:bY g a) (hr:isRed g=true) {k:Nat} (hk:k < g.rules.length):∃ i,i < a.length/\∃ x∈fG g a i,x.au=k:=by
 obtain⟨p,d⟩:=TK b hr hk
 obtain⟨q,c,_,e⟩:=YJ b hk d
 exact⟨q,c,_,(Dz b c).2 ⟨k,hk,e,rfl⟩,rfl⟩
end
theorem uv {g:af} (h:(aS g).2=0):isRed g=true/\bY g (aS g).1/\(aS g).1.length<=300:=by
 have hr:isRed g=true:=by
  rcases RQ g with ⟨_,hr⟩ | ⟨b,hr⟩ | ⟨b,hr⟩
  .exact hr
  .exact hr
  .rw[b] at h;simp at h
 have a:=mX hr
 obtain⟨c,d,e⟩:=Kq a h
 exact⟨hr,⟨a,c,Pp a h,P7 a h,d⟩,e⟩
structure XO (g:af) (L:List (List dz)):Prop where
 len:L.length<=300
 row:∀ i:Nat,((L.getD i []).length<=287)
 fact:∀ (i:Nat),∀ x∈L.getD i [],(0<=x.au/\x.au < g.rules.length)/\x.set≠0/\qt x.set ((lp g (av g false)).getD (aA g x.au).left.toNat 0)
 sort:∀ i:Nat,(L.getD i []).Pairwise λx y=>x.au < y.au
 all:∀ k:Nat,k < g.rules.length->∃ i,i < L.length/\∃ x∈L.getD i [],x.au=k
theorem Oe {g:af} (h:(aS g).2=0):XO g (fy g (aS g).1):=by
 obtain⟨hr,b,d⟩:=uv h
 have c:∀ i:Nat,(fy g (aS g).1).getD i []=if i < (aS g).1.length then fG g (aS g).1 i else []:=λi=>by
  rw[fy,aaA,aaE]
  split
  .rename_i hi;rw[aby hi];rfl
  .rename_i hi;rw[aa6 (by simp;omega)];rfl
 refine⟨by simpa [fy] using d,λi=>?_,λi x a=>?_,λi=>?_,λk hk=>?_⟩
 .rw[c]
  split
  .rename_i hi
   unfold fG
   refine abx (List.length_filterMap_le _ _) ?_
   rw[show (aY g (aS g).1).getD i []=jc g (aS g).1 i by unfold aY jc;simp[aaA,aaB hi]]
   exact gR b.de (kQ _ _) λy f=>b.has hi f
  .simp
 .rw[c] at a
  split at a
  .rename_i hi;exact TS b hr hi a
  .simp at a
 .rw[c]
  split
  .exact Tl i
  .exact .nil
 .obtain⟨i,hi,x,a,e⟩:=VK b hr hk
  exact⟨i,by simpa [fy] using hi,x,by rw[c,aaF hi];exact a,e⟩
section
variable {g:af} {a:List aJ} {L:List (List dz)}
theorem HQ (b:tQ g a) {i:Nat} (hi:i < a.length) (s:Int):ef a i [s]=match iS (a.getD i bC).bO s with | some c=>(c.n,true) | none=>(0,false):=by
 have d:ef a i [s]=fV a i [s]:=by unfold ef;rw[aaD (by omega)]
 have f:fV a i [s]=if 0<=fP (a.getD i bC).bO s/\fP (a.getD i bC).bO s < a.length then (fP (a.getD i bC).bO s,true) else (0,false):=by
  rw[fV,aa0];simp only[fV]
 rw[d,f,Hc]
 cases h:iS (a.getD i bC).bO s with
 | none=>rw[aaD (by simp[XR])]
 | some c =>
  obtain⟨e,he,_,rfl⟩:=vn h
  have:=b.to _ (aaI (getD_some hi)) e he
  rw[aaF (by simp only[XR];omega)]
  rfl
theorem PV {l:List dz} {n r:Int} (h:r∈fA l n):∃ x∈l,x.au=r:=by
 unfold fA at h
 obtain⟨x,a,rfl⟩:=aaX.1 h
 exact⟨x,(abt.1 a).1,rfl⟩
theorem OF (b:tQ g a) {i:Nat} (hi:i < a.length) (k:Int):iN g a.length (iG g (a.getD i bC) k)=true:=by
 unfold iG
 cases h:iS (a.getD i bC).bO k with
 | some c =>
  obtain⟨e,he,_,rfl⟩:=vn h
  have:=b.to _ (aaI (getD_some hi)) e he
  simp[iN];omega
 | none =>
  simp only
  split
  .simp[iN]
  .simp[iN]
theorem Rl (c:tQ g a) {i:Nat} (hi:i < a.length) (k:Int) {l:List dz} (d:∀ x∈l,0<=x.au/\x.au < g.rules.length):iN g a.length (fo g (a.getD i bC) l i k).1=true:=by
 have b:=OF (g:=g) c hi k
 have e:∀ r∈fA l k,iN g a.length ⟨2,r⟩=true:=λr hr=>by
  obtain⟨x,f,rfl⟩:=PV hr
  have:=d x f
  simp[iN];omega
 unfold fo
 cases h:fA l k with
 | nil=>exact b
 | cons r rs =>
  have hr:=e r (by rw[h];simp)
  simp only
  split
  .exact hr
  .simp only
   split
   .exact hr
   .split
    .simp[iN]
    .exact b
theorem Na {n i:Nat} (h:i < n):(iM g a L n).bo.getD i []=iU g (a.getD i bC) (L.getD i []) i (g.ai.length+1)/\(iM g a L n).gotos.getD i []=Ca g a i:=by
 constructor
 .rw[aaA,iM,aaE,aby h];rfl
 .rw[aaA,iM,aaE,aby h];rfl
theorem XJ (b:tQ g a) {i:Nat} (hi:i < a.length) (k:Int) : -1<=pI a i k/\pI a i k < a.length:=by
 unfold pI
 rw[HQ (g:=g) b hi]
 cases h:iS (a.getD i bC).bO (-1 - k) with
 | none=>simp;omega
 | some c =>
  obtain⟨e,he,_,rfl⟩:=vn h
  have:=b.to _ (aaI (getD_some hi)) e he
  simp;omega
theorem HS (b:bY g a) (hr:bp g=true) (f:a.length<=300) (h:∀ i:Nat,∀ x∈L.getD i [],0<=x.au/\x.au < g.rules.length):jK g (iM g a L a.length)=true:=by
 have j:(iM g a L a.length).bo.length=a.length:=by simp[iM]
 have l:(iM g a L a.length).gotos.length=a.length:=by simp[iM]
 unfold jK
 rw[hr,j,l]
 have:=b.pos
 simp only[abM,aaK,aaP,aaZ,abA]
 refine⟨⟨⟨by omega,f⟩,trivial⟩,λi hi=>?_⟩
 rw[(Na hi).1,(Na hi).2]
 unfold Bl
 simp only[aaK,aaP,aaZ]
 refine⟨⟨⟨by simp[iU],by simp[Ca]⟩,λc d=>?_⟩,λx e=>?_⟩
 .simp only[iU,aaX] at d
  obtain⟨k,_,rfl⟩:=d
  exact Rl b.ok hi k (h i)
 .simp only[Ca,aaX] at e
  obtain⟨k,_,rfl⟩:=e
  have:=XJ b.ok hi k
  simpa using this
theorem OM {s:aJ} {l:List dz} {i k:Int} (h:(fo g s l i k).1.kind=1):(fo g s l i k).1=iG g s k:=by
 unfold fo at h ⊢
 cases hr:fA l k with
 | nil=>rfl
 | cons r rs =>
  rw[hr] at h
  simp only at h ⊢
  split at h
  .simp at h
  .rename_i a
   rw[aaD a]
   simp only at h ⊢
   split at h
   .simp at h
   .rename_i h1
    split at h
    .simp at h
    .rename_i b
     rw[aaD h1,aaD b]
theorem OZ {s:aJ} {l:List dz} {i k:Int} (a:(iG g s k).kind=1) (h:(fo g s l i k).2=[]):(fo g s l i k).1.kind=1:=by
 unfold fo at h ⊢
 cases hr:fA l k with
 | nil=>exact a
 | cons r rs =>
  rw[hr] at h
  simp only at h
  rw[aaD (by omega)] at h
  simp at h
theorem WW (h:j0 g a L a.length=[]) {i k:Nat} (hi:i < a.length) (hk:k < g.ai.length+1):(fo g (a.getD i bC) (L.getD i []) i k).2=[]:=by
 unfold j0 at h
 rw[List.flatMap_eq_nil_iff] at h
 have h1:=h i (abA.2 hi)
 unfold wT at h1
 rw[List.flatMap_eq_nil_iff] at h1
 exact h1 k (abA.2 hk)
end
theorem Vu {g:af} (hr:bp g=true) {w l:List Int} (hw:∀ x∈w,0<=x/\x < g.ai.length) {i j:Nat} (h:Sp g w l i j):i < j->∀ t:Nat,w[i]?=some (t:Int)->(ej (av g false) (cU g (av g false)) 0 l).getLsbD t=true:=by
 have q:=bj hr
 have y:=q.ai
 induction h with
 | nil=>exact λh=>absurd h (by omega)
 | term s l i j b d h z =>
  intro _ t a
  obtain⟨c,r,A⟩:=d
  rw[a] at r
  simp only[aaC] at r
  have:=hw _ (aaI a)
  refine rz.2 (.inl ⟨b,?_⟩)
  have f:s=(t:Int):=by omega
  rw[f]
  exact(vx (by omega) _).2 rfl
 | vZ s l R i k j b u v h1 B m n =>
  intro o t a
  have C:=h1.le
  refine rz.2 (.inr ⟨b,?_⟩)
  have e:(-1 - s).toNat=R.left.toNat:=by rw[v]
  rw[e]
  by_cases p:i < k
  .exact .inl (vp q _ u t (m p t a))
  .have hk:i=k:=by omega
   subst hk
   exact .inr ⟨mf hr u (NR hr h1 rfl),n o t a⟩
section
variable {g:af} {a:List aJ} {w:List Int}
def r5 (a:List aJ):Nat->List Int->List Int
 | _,[]=>[]
 | q,s :: l=>(er a q s:Int) :: r5 a (er a q s) l
theorem Hj:∀ (l:List Int) (q:Nat),(r5 a q l).length=l.length
 | [],_=>rfl
 | s :: l,q=>by rw[r5,aaN,Hj l];rfl
theorem Ib:∀ (l:List Int) (q b:Nat) (st:List Int),c5 st=q->nA a q l b->c5 (st ++ r5 a q l)=b
 | [],q,b,st,h,hw=>by cases hw;simpa [r5] using h
 | s :: l,q,b,st,h,hw=>by
  cases hw with
  | cons _ hw =>
   have:=Ib l (er a q s) b (st ++ [(er a q s:Int)]) (zQ _ _) hw
   rw[r5]
   rwa [abl] at this
theorem K4 {i:Nat} {x:Int} (h:w[i]?=some x):cp g w i=x:=by
 unfold cp
 rw[aaF (aaR.1 h).1,aaA,h];rfl
theorem Iv (hw:∀ x∈w,0<=x/\x < g.ai.length) (i:Nat):∃ t:Nat,cp g w i=t/\t<=g.ai.length/\(i < w.length->t < g.ai.length/\w[i]?=some (t:Int))/\(w.length<=i->t=g.ai.length):=by
 by_cases h:i < w.length
 .have a:w[i]?=some (w[i]'h):=aaB h
  have:=hw _ (aaL h)
  refine⟨(w[i]'h).toNat,by rw[K4 a];omega,by omega,λ_=>⟨by omega,by rw[a];congr 1;omega⟩,λb=>by omega⟩
 .exact⟨g.ai.length,by unfold cp;rw[aaD h],aaM _,λb=>absurd b h,λ_=>rfl⟩
def og (g:af) (t:iz) (w:List Int) (st:List Int) (i:Nat) (st':List Int) (j:Nat):Prop:=∀ k rs,(kz g t w k st rs i).2.2=14∨∃ k' rs',kz g t w k st rs i=kz g t w k' st' rs' j
theorem og.refl {t:iz} {st:List Int} {i:Nat} : og g t w st i st i:=λk rs=>.inr ⟨k,rs,rfl⟩
theorem og.trans {t:iz} {s1 s2 d:List Int} {i j k:Nat} (h:og g t w s1 i s2 j) (a:og g t w s2 j d k):og g t w s1 i d k:=λn rs=>by
 rcases h n rs with h | ⟨e,b,h⟩
 .exact .inl h
 .rw[h]
  rcases a e b with a | ⟨k2,c,a⟩
  .exact .inl a
  .exact .inr ⟨k2,c,a⟩
theorem og.shift {t:iz} {st:List Int} {i:Nat} {n:Int} (hi:i < w.length) (a:dI t (c5 st) (cp g w i)=⟨1,n⟩):og g t w st i (st ++ [n]) (i+1):=λk rs=>by
 cases k with
 | zero =>
  left
  rw[kz]
  rw[a,aaD (λh=>by have:=h.1;simp at this),aaD (λh=>by simp at h;omega)]
 | succ k =>
  right
  refine⟨k,rs,?_⟩
  rw[kz]
  rw[a,aaD (λh=>by have:=h.1;simp at this),aaD (λh=>by simp at h;omega)]
  simp
theorem og.reduce {t:iz} {st:List Int} {a:List Int} {i k:Nat} {n:Int} (b:st≠[]) (hp:a.length=(aA g k).right.length) (c:dI t (c5 (st ++ a)) (cp g w i)=⟨2,k⟩) (d:mR t (c5 st) (aA g k).left=n) (f:n≠-1):og g t w (st ++ a) i (st ++ [n]) i:=λm rs=>by
 have j:0 < st.length:=ab7.2 b
 have e:(st ++ a).take ((st ++ a).length - (aA g k).right.length)=st:=by
  rw[aa4,<-hp,Nat.add_sub_cancel,List.take_left' rfl]
 cases m with
 | zero =>
  left
  rw[kz]
  rw[c,aaD (λh=>by have:=h.1;simp at this),aaD (λh=>by simp at h)]
 | succ m =>
  right
  refine⟨m,rs ++ [(k:Int)],?_⟩
  rw[kz]
  rw[c,aaD (λh=>by have:=h.1;simp at this),aaD (λh=>by simp at h)]
  simp only
  rw[aaD (by simp),aaD (by rw[aa4];omega),e,d,aaD f]
end
section
variable {g:af} {a:List aJ}
noncomputable def j7 (g:af) (a:List aJ):iz:=iM g a (fy g a) a.length
theorem LH {i:Nat} (hi:i < a.length):(fy g a).getD i []=fG g a i:=by
 rw[fy,aaA,aaE,aby hi];rfl
theorem BI {i t:Nat} (hi:i < a.length) (b:t<=g.ai.length):dI (j7 g a) i t=(fo g (a.getD i bC) (fG g a i) i t).1:=by
 rw[j7,Ri g a _ (by omega) (by omega),aa0,LH hi]
theorem Gb (b:j0 g a (fy g a) a.length=[]) {i t:Nat} (hi:i < a.length) (c:t<=g.ai.length):(fo g (a.getD i bC) (fG g a i) i t).2=[]:=by
 have:=WW b hi (k:=t) (by omega)
 rwa [LH hi] at this
theorem Km (f:bY g a) {i:Nat} {s:Int} (he:eZ a i s):ef a i [s]=((er a i s:Int),true)/\iS (a.getD i bC).bO s=some ⟨1,er a i s⟩:=by
 obtain⟨e,h1,k,l,m,h⟩:=f.er he
 refine⟨h,?_⟩
 have b:=HQ (g:=g) f.ok (iw he) s
 rw[h] at b
 cases d:iS (a.getD i bC).bO s with
 | none=>rw[d] at b;simp at b
 | some c =>
  rw[d] at b
  simp only[aaG,and_true] at b
  obtain⟨e',n,o,j⟩:=vn d
  rw[j] at b ⊢
  simp only at b
  rw[b]
theorem Xx (c:bY g a) (d:j0 g a (fy g a) a.length=[]) {i t:Nat} (hi:i < a.length) (b:t<=g.ai.length) (he:eZ a i t):dI (j7 g a) i t=⟨1,er a i t⟩:=by
 have h1:iG g (a.getD i bC) t=⟨1,er a i t⟩:=by unfold iG;rw[(Km c he).2]
 have e:=OZ (l:=fG g a i) (i:=(i:Int)) (by rw[h1]) (Gb d hi b)
 rw[BI hi b,OM e,h1]
theorem VZ {s:BV} {t:Nat} (a:t<=31) (h:s.getLsbD t=true):hasB s t=true:=by
 unfold hasB
 rw[aaP]
 intro e
 have:(s &&& jq (t:Int)).getLsbD t=true:=by rw[BitVec.getLsbD_and,h,(vx a t).2 rfl];rfl
 rw[e] at this
 simp at this
theorem WN (c:bY g a) (e:j0 g a (fy g a) a.length=[]) {i t k:Nat} (hi:i < a.length) (d:t<=g.ai.length) (hk:k < g.rules.length) (f:(⟨k,((aA g k).right.length:Nat)⟩:ay)∈jc g a i) (h:kG g (av g false) a (aY g a) i ⟨k,((aA g k).right.length:Nat)⟩ t):dI (j7 g a) i t=⟨2,k⟩:=by
 have l:=c.de.ai
 have hm:(k:Int)∈fA (fG g a i) t:=by
  unfold fA
  refine aaX.2 ⟨_,abt.2 ⟨(Dz c hi).2 ⟨k,hk,f,rfl⟩,?_⟩,rfl⟩
  exact VZ (by omega) ((GV (by omega)).2 h)
 have b:=Gb e hi d
 rw[BI hi d]
 unfold fo at b ⊢
 cases hr:fA (fG g a i) t with
 | nil=>rw[hr] at hm;simp at hm
 | cons r rs =>
  rw[hr] at b hm
  simp only at b ⊢
  split at b
  .rename_i j
   rw[aaF j]
   simp only[kR,List.map_eq_nil_iff] at b
   subst b
   simp only[aaT,List.not_mem_nil,or_false] at hm
   rw[hm]
  .simp at b
theorem UG (d:j0 g a (fy g a) a.length=[]) {i:Nat} (hi:i < a.length) (f:(⟨-1,1⟩:ay)∈(a.getD i bC).bc) (he:¬ eZ a i g.ai.length):dI (j7 g a) i g.ai.length=⟨3,0⟩:=by
 have b:=Gb d hi (aaM _)
 have h1:iG g (a.getD i bC) g.ai.length=⟨3,0⟩:=by
  unfold iG
  cases h:iS (a.getD i bC).bO g.ai.length with
  | some c =>
   obtain⟨e,j,k,l⟩:=vn h
   exact absurd ⟨e,j,k⟩ he
  | none=>simp only;rw[aaF ⟨trivial,f⟩]
 rw[BI hi (aaM _)]
 unfold fo at b ⊢
 rw[h1] at b ⊢
 cases hr:fA (fG g a i) (g.ai.length:Nat) with
 | nil=>rfl
 | cons r rs=>rw[hr] at b;simp at b
theorem Xf (b:bY g a) {q:Nat} {B:Int} (d:q < a.length) (c:0<=B/\B < g.al.length) (he:eZ a q (-1 - B)):mR (j7 g a) q B=er a q (-1 - B):=by
 rw[j7,Rj g a _ (by omega) c,pI,(Km b he).1]
 rfl
def DD (g:af) (a:List aJ) (w:List Int) (r:Int) (d q j:Nat):Prop :=
 (∃ k p:Nat,r=k/\k < g.rules.length/\eZ a p (-1 - (aA g k).left)/\nA a p ((aA g k).right.take d) q/\∀ t:Nat,cp g w j=t->xb g a p (aA g k).left t)
 ∨ (r = -1/\(d=0->q=0)/\w.length<=j)
theorem DD.step {w:List Int} {r s:Int} {d q j:Nat} {l:List Int} (h:DD g a w r d q j) (f:(aM g r).drop d=s :: l) (he:eZ a q s):DD g a w r (d+1) (er a q s) j:=by
 rcases h with ⟨k,p,rfl,h1,i,b,m⟩ | ⟨h1,i,b⟩
 .refine .inl ⟨k,p,rfl,h1,i,?_,m⟩
  have c:aM g (k:Int)=(aA g k).right:=by rw[aM,aaD (by omega)]
  rw[c] at f
  have e:(aA g k).right[d]?=some s:=by rw[<-List.head?_drop,f];rfl
  rw[aa3,e]
  exact b.snoc he
 .exact .inr ⟨h1,λh=>by omega,b⟩
theorem DD.inner {w:List Int} (i:bY g a) (c:bp g=true) (hw:∀ x∈w,0<=x/\x < g.ai.length) {r s:Int} {d q k j:Nat} {l:List Int} (h:DD g a w r d q j) (F:q < a.length) (G:(⟨r,d⟩:ay)∈jc g a q) (f:(aM g r).drop d=s :: l) (Q:s < 0) (R:j<=w.length) (n:Sp g w l k j) {t:Nat} (H:cp g w k=t):xb g a q (-1 - s) t:=by
 obtain⟨n1,o,I⟩:=mT f
 obtain⟨s1,s2,J,K⟩:=i.step F G n1
 have es : -1 - (-1 - s)=s:=by omega
 have hle:=n.le
 obtain⟨u,E,S,L,M⟩:=Iv hw k
 have v:u=t:=by rw[E] at H;omega
 subst v
 by_cases y:k < j
 .obtain⟨v1,v2⟩:=L (by omega)
  have N:=Vu c hw n y u v2
  have z:=I8 i (Fx i) l (d+1) (er a q s) K (by simpa using J) o N
  exact .read (Ku.read (by rw[es];exact z))
 .have hk:k=j:=by omega
  subst hk
  have b:=NR c n rfl
  rcases h with ⟨m,p,rfl,A,B,C,O⟩ | ⟨A,B,C⟩
  .have D:aM g (m:Int)=(aA g m).right:=by rw[aM,aaD (by omega)]
   rw[D] at f o
   have e:(aA g m).right[d]?=some s:=by rw[<-List.head?_drop,f];rfl
   exact .Qi (O u E) A B (by omega) (by rw[e,es]) C (by rw[o];exact b)
  .subst A
   have P:d=0:=by simp[aM] at I;omega
   subst P
   rw[B rfl,M C]
   simp[aM] at f
   rw[<-f.1]
   have : -1 - (-1 - g.start)=g.start:=by omega
   rw[this]
   exact .read .fin
theorem drv {w:List Int} (p:bY g a) (hr:isRed g=true) (I:bp g=true) (U:j0 g a (fy g a) a.length=[]) (hw:∀ x∈w,0<=x/\x < g.ai.length) {l:List Int} {i j:Nat} (h:Sp g w l i j):j<=w.length->∀ (r:Int) (d q:Nat) (st:List Int),q < a.length->(⟨r,d⟩:ay)∈jc g a q->(aM g r).drop d=l->st≠[]->c5 st=q->DD g a w r d q j->og g (j7 g a) w st i (st ++ r5 a q l) j:=by
 induction h with
 | nil i=>intro _ r d q st _ _ _ _ _ _;rw[r5,abS];exact .refl
 | term s l i j V Z h ih =>
  intro F r d q st u G A y f n
  obtain⟨n1,J,n3⟩:=mT A
  obtain⟨s1,s2,K,L⟩:=p.step u G n1
  have hle:=h.le
  obtain⟨c,B,an⟩:=Z
  have aq:=hw _ (aaI B)
  have M:c=s:=by omega
  subst M
  have N:=K4 (g:=g) B
  have H:((c.toNat:Nat):Int)=c:=by omega
  have e:=Xx p U u (t:=c.toNat) (by omega) (by rw[H];exact s1)
  rw[H] at e
  have g1:og g (j7 g a) w st i (st ++ [(er a q c:Int)]) (i+1):=og.shift (by omega) (by rw[f,N];exact e)
  have g2:=ih F r (d+1) (er a q c) (st ++ [(er a q c:Int)]) L (by simpa using K) J (by simp) (zQ _ _) (n.step A s1)
  rw[abl] at g2
  exact g1.trans g2
 | vZ s l R i k j V W z h1 X O P =>
  intro F r d q st u G A y f n
  obtain⟨n1,J,n3⟩:=mT A
  obtain⟨s1,s2,K,L⟩:=p.step u G n1
  have hle:=X.le
  have es : -1 - (-1 - s)=s:=by omega
  obtain⟨m,hm,Q⟩:=List.getElem_of_mem W
  have b:aA g m=R:=by unfold aA;rw[aa0,aaA,aaB hm,Q];rfl
  have C:aM g (m:Int)=R.right:=by rw[aM,aaD (by omega)];simp only[b]
  have o:=p.de.left _ W
  have v:eZ a q (-1 - R.left):=by rw[z,es];exact s1
  have D:=rr p u o.1 hm (by rw[b]) v
  have Y:∀ t:Nat,cp g w k=t->xb g a q R.left t:=λt H=>by
   rw[z];exact DD.inner p I hw n u G A V F X H
  have g1:=O (by omega) m 0 q st u (by simpa using D) (by rw[C];rfl) y f (.inl ⟨m,q,rfl,hm,by rw[b];exact v,by simp;exact .nil,by rw[b];exact Y⟩)
  obtain⟨q',z1,z2,z3⟩:=p.fwd m R.right 0 q u (by simpa using D) ⟨[],by rw[C];simp⟩
  obtain⟨t,t1,t2,_,_⟩:=Iv hw k
  have E:(⟨m,((aA g m).right.length:Nat)⟩:ay)∈jc g a q':=by rw[b];simpa using z3
  have S:=(QX p hr (t:=t) hm).2 ⟨q,by rw[b];exact z2,by rw[b];exact v,by rw[b];exact Y t t1⟩
  have e:=WN p U z1 t2 hm E S
  have T:=Xf p u o v
  have g2:og g (j7 g a) w (st ++ r5 a q R.right) k (st ++ [(er a q s:Int)]) k:=by
   refine og.reduce (k:=m) y (by rw[Hj,b]) ?_ ?_ (by omega)
   .rw[Ib _ _ _ _ f z2,t1];exact e
   .rw[f,b,T,z,es]
  have g3:=P F r (d+1) (er a q s) (st ++ [(er a q s:Int)]) L (by simpa using K) J (by simp) (zQ _ _) (n.step A s1)
  rw[abl] at g3
  exact(g1.trans g2).trans g3
theorem Xi {w:List Int} (b:bY g a) (hr:isRed g=true) (i:bp g=true) (m:j0 g a (fy g a) a.length=[]) (hw:∀ x∈w,0<=x/\x < g.ai.length) (h:Sp g w [-1 - g.start] 0 w.length) (n:Nat):(kz g (j7 g a) w n [0] [] 0).2.2=0∨(kz g (j7 g a) w n [0] [] 0).2.2=14:=by
 have o:(⟨-1,0⟩:ay)∈jc g a 0:=(dc b.de (b.bc b.pos)).2 (.base (by rw[b.e.first];simp))
 have p:(aM g (-1)).drop 0=[-1 - g.start]:=by simp[aM]
 obtain⟨n1,u,v⟩:=mT (d:=0) p
 obtain⟨s1,s2,y,j⟩:=b.step b.pos o n1
 rcases drv b hr i m hw h (aaM _) (-1) 0 0 [0] b.pos (by simpa using o) p (by simp) rfl (.inr ⟨rfl,λ_=>rfl,aaM _⟩) n [] with h | ⟨q,r,h⟩
 .exact .inr h
 .left
  rw[h]
  have k:cp g w w.length=g.ai.length:=by unfold cp;rw[aaD (by omega)]
  have l:¬ eZ a (er a 0 (-1 - g.start)) g.ai.length:=λhe=>by
   obtain⟨x,s,t⟩:=(b.rS j).1 he
   have:=Cw (rH b.de (b.has j s) t)
   omega
  have c:=UG m j (by simpa using s2) l
  have f:c5 ([0] ++ r5 a 0 [-1 - g.start])=(er a 0 (-1 - g.start):Int):=zQ [0] _
  cases q <;> rw[kz] <;> rw[f,k,c,aaF ⟨rfl,rfl⟩]
end
structure bQ where
 st:Nat
 it:ay
 ah:List Int
 be:List Int
def noN:bQ:=⟨0,⟨0,0⟩,[],[]⟩
def tO (x y:bQ):Bool:=decide (y.st=x.st) && decide (y.it=x.it)
def lz (l:List bQ) (x:bQ):List bQ:=if l.any (tO x)=true then l else l ++ [x]
def qz (g:af) (x:bQ) (s:Int):Nat->List bQ->List bQ
 | 0,l=>l
 | k+1,l=>if (aA g k).left = -1 - s then lz (qz g x s k l) ⟨x.st,⟨k,0⟩,x.ah,cP g x.it ++ x.be⟩ else qz g x s k l
def jO (g:af) (a:List aJ) (l:List bQ) (x:bQ):List bQ :=
 if (aW g x.it).2=true then qz g x (aW g x.it).1 g.rules.length (lz l ⟨er a x.st (aW g x.it).1,⟨x.it.au,x.it.dot+1⟩,x.ah ++ [(aW g x.it).1],x.be⟩) else l
def kx (g:af) (a:List aJ):Nat->Nat->List bQ->List bQ
 | 0,_,l=>l
 | f+1,i,l=>match l[i]? with
  | none=>l
  | some x=>kx g a f (i+1) (jO g a l x)
def nQ:List bQ:=[⟨0,⟨-1,0⟩,[],[]⟩]
def df (g:af) (a:List aJ):List bQ:=kx g a 90000 0 nQ
def eT (l:List bQ) (i:Nat):bQ:=(l.find? λx=>decide (x.st=i)).getD noN
def fW (g:af) (x:ay):List Int:=(aM g x.au).drop x.dot.toNat
theorem sx {g:af} {x:ay} {s:Int} (a:cw g x) (h:aW g x=(s,true)):fW g x=s :: cP g x/\fW g ⟨x.au,x.dot+1⟩=cP g x:=by
 obtain⟨d,h1,b,c⟩:=oJ a h
 unfold fW
 rw[h1]
 exact⟨by rw[aa0];exact b,by simp only;rw[show ((d:Int)+1).toNat=d+1 by omega];exact c⟩
section
variable {g:af} {a:List aJ}
structure Nd (g:af) (a:List aJ) (x:bQ):Prop where
 lt:x.st < a.length
 it:x.it∈jc g a x.st
 HR:nA a 0 x.ah x.st
 SN:∀ w,Sp g w (x.ah ++ (fW g x.it ++ x.be)) 0 w.length->Sp g w [-1 - g.start] 0 w.length
theorem Nd.start (b:bY g a):Nd g a ⟨0,⟨-1,0⟩,[],[]⟩:=by
 refine⟨b.pos,(dc b.de (b.bc b.pos)).2 (.base (by rw[b.e.first];simp)),.nil,λw h=>?_⟩
 simpa [fW,aM] using h
theorem Nd.move (b:bY g a) {x:bQ} (h:Nd g a x) {s:Int} (c:aW g x.it=(s,true)):Nd g a ⟨er a x.st s,⟨x.it.au,x.it.dot+1⟩,x.ah ++ [s],x.be⟩:=by
 obtain⟨s1,s2,d,e⟩:=b.step h.lt h.it c
 obtain⟨f1,f2⟩:=sx (b.has h.lt h.it) c
 refine⟨e,d,h.HR.snoc s1,λw hw=>h.SN w ?_⟩
 simp only at hw
 rw[f2] at hw
 rw[f1]
 simpa using hw
theorem Nd.au (b:bY g a) {x:bQ} (h:Nd g a x) {s:Int} (c:aW g x.it=(s,true)) {k:Nat} (hk:k < g.rules.length) (d:(aA g k).left = -1 - s):Nd g a ⟨x.st,⟨k,0⟩,x.ah,cP g x.it ++ x.be⟩:=by
 obtain⟨s1,s2,o,p⟩:=b.step h.lt h.it c
 obtain⟨f1,f2⟩:=sx (b.has h.lt h.it) c
 have f:g.rules[k]?=some (aA g k):=by unfold aA;exact getD_some hk
 have l:=b.de.left _ (aaI f)
 refine⟨h.lt,rr b h.lt l.1 hk rfl (by rw[d];rw[show -1 - (-1 - s)=s by omega];exact s1),h.HR,λw hw=>h.SN w ?_⟩
 have e:fW g ⟨k,0⟩=(aA g k).right:=by
  unfold fW aM
  rw[aaD (by simp only;omega)];rfl
 simp only at hw
 rw[e] at hw
 rw[f1]
 obtain⟨i,i1,i2⟩:=Sp.split hw
 obtain⟨j,m,n⟩:=Sp.split i2
 exact i1.app (.vZ _ _ _ _ _ _ (by omega) (aaI f) d m n)
def KR (x:bQ):Nat:=x.st * 287+((x.it.au+1) * 7+x.it.dot).toNat
theorem Nd.small (b:bY g a) {x:bQ} (h:Nd g a x):0<=x.it.au+1/\(x.it.au+1) * 7+x.it.dot < 287/\0<=x.it.dot/\x.it.dot<=6:=by
 have h1:=b.has h.lt h.it
 have:=dS b.de h1.1
 have:=h1.1;have:=h1.2;have:=b.de.rules
 omega
theorem key_inj (f:bY g a) {x y:bQ} (i:Nd g a x) (j:Nd g a y) (h:KR x=KR y):y.st=x.st/\y.it=x.it:=by
 have h1:=i.small f;have l:=j.small f
 unfold KR at h
 have k:y.st=x.st:=by omega
 have b:y.it.au=x.it.au:=by omega
 have c:y.it.dot=x.it.dot:=by omega
 refine⟨k,?_⟩
 cases d:x.it;cases e:y.it
 rw[d,e] at b c
 simp only at b c
 rw[b,c]
structure kf (g:af) (a:List aJ) (l:List bQ):Prop where
 nd:∀ x∈l,Nd g a x
 one:(l.map KR).Nodup
 len:∀ (j:Nat) (x:bQ),l[j]?=some x->x.ah.length<=j/\x.be.length<=6 * j
theorem kf.short (b:bY g a) (e:a.length<=300) {l:List bQ} (h:kf g a l):l.length<=86100:=by
 have:=wQ 86100 _ h.one λn c=>by
  obtain⟨x,d,rfl⟩:=aaX.1 c
  have h1:=h.nd x d
  have:=h1.small b;have:=h1.lt
  unfold KR
  omega
 simpa using this
def uP (l m:List bQ):Prop:=∃ t,m=l ++ t
theorem uP.refl {l:List bQ} : uP l l:=⟨[],by simp⟩
theorem uP.trans {l m n:List bQ} (h:uP l m) (k:uP m n):uP l n:=by
 obtain⟨t,rfl⟩:=h;obtain⟨u,rfl⟩:=k;exact⟨t ++ u,by simp⟩
theorem uP.mem {l m:List bQ} (h:uP l m) {x:bQ} (a:x∈l):x∈m:=by
 obtain⟨t,rfl⟩:=h;exact aa1.2 (.inl a)
theorem uP.at {l m:List bQ} (h:uP l m) {i:Nat} (hi:i < l.length):m[i]?=l[i]?/\i < m.length:=by
 obtain⟨t,rfl⟩:=h;exact⟨abb hi,by simp;omega⟩
def ED (l:List bQ) (st:Nat) (it:ay):Prop:=∃ y∈l,y.st=st/\y.it=it
theorem ED.up {l m:List bQ} (h:uP l m) {st:Nat} {it:ay} (k:ED l st it):ED m st it:=by
 obtain⟨y,a,k⟩:=k;exact⟨y,h.mem a,k⟩
theorem LI (p:bY g a) {l:List bQ} (h:kf g a l) {x:bQ} (k:Nd g a x) (h1:x.ah.length<=l.length) (q:x.be.length<=6 * l.length):kf g a (lz l x)/\uP l (lz l x)/\ED (lz l x) x.st x.it:=by
 unfold lz
 split
 .rename_i d
  obtain⟨y,b,o⟩:=acG.1 d
  simp only[tO,aaK,aaP] at o
  exact⟨h,.refl,y,b,o⟩
 .rename_i d
  refine⟨⟨λy b=>?_,?_,λj y c=>?_⟩,⟨[x],rfl⟩,x,by simp,rfl,rfl⟩
  .rcases aa1.1 b with b | b
   .exact h.nd y b
   .simp at b;subst b;exact k
  .rw[aaW,ab9]
   refine⟨h.one,by simp,λn r m hm e=>?_⟩
   obtain⟨y,b,rfl⟩:=aaX.1 r
   simp at hm
   subst hm
   have:=key_inj p k (h.nd y b) e.symm
   exact d (acG.2 ⟨y,b,by simp[tO,this]⟩)
  .by_cases f:j < l.length
   .rw[abb f] at c;exact h.len j y c
   .have i:=(aaR.1 c).1
    simp at i
    have e:j=l.length:=by omega
    subst e
    simp at c
    subst c
    exact⟨h1,q⟩
theorem JT (c:bY g a) {x:bQ} (d:Nd g a x) {s:Int} (f:aW g x.it=(s,true)):∀ (k:Nat) (l:List bQ),k<=g.rules.length->kf g a l->x.ah.length<=l.length->x.be.length+6<=6 * l.length->kf g a (qz g x s k l)/\uP l (qz g x s k l)/\∀ j:Nat,j < k->(aA g j).left = -1 - s->ED (qz g x s k l) x.st ⟨j,0⟩
 | 0,l,_,h,_,_=>⟨h,.refl,λj i=>absurd i (by omega)⟩
 | k+1,l,hk,h,h1,n=>by
  obtain⟨i1,i2,i3⟩:=JT c d f k l (by omega) h h1 n
  rw[qz]
  have hle:l.length<=(qz g x s k l).length:=by obtain⟨t,o⟩:=i2;rw[o];simp
  split
  .rename_i m
   obtain⟨f1,f2⟩:=sx (c.has d.lt d.it) f
   have hr:(cP g x.it).length<=6:=by
    have:=dS c.de (c.has d.lt d.it).1
    have e:=abN List.length f1
    simp[fW] at e
    omega
   obtain⟨m1,m2,m3⟩:=LI c i1 (d.au c f (by omega) m) (by simp only;omega) (by simp only[aa4];omega)
   refine⟨m1,i2.trans m2,λj i b=>?_⟩
   by_cases e:j=k
   .subst e;exact m3
   .exact(i3 j (by omega) b).up m2
  .rename_i m
   refine⟨i1,i2,λj i b=>?_⟩
   have e:j≠k:=by rintro rfl;exact m b
   exact i3 j (by omega) b
def I6 (g:af) (a:List aJ) (l:List bQ) (x:bQ):Prop:=∀ s,aW g x.it=(s,true)->ED l (er a x.st s) ⟨x.it.au,x.it.dot+1⟩/\∀ k:Nat,k < g.rules.length->(aA g k).left = -1 - s->ED l x.st ⟨k,0⟩
theorem DY (c:bY g a) {l:List bQ} (h:kf g a l) {i:Nat} {x:bQ} (hi:l[i]?=some x):kf g a (jO g a l x)/\uP l (jO g a l x)/\I6 g a (jO g a l x) x:=by
 have j:=h.nd x (aaI hi)
 have m:=(aaR.1 hi).1
 have q:=h.len i x hi
 unfold jO
 split
 .rename_i d
  generalize e:(aW g x.it).1=s
  have f:aW g x.it=(s,true):=by rw[<-e,<-d]
  obtain⟨m1,m2,m3⟩:=LI c h (j.move c f) (by simp only[aa4,aaN,aa8];omega) (by simp only;omega)
  have hle:l.length<=(lz l ⟨er a x.st s,⟨x.it.au,x.it.dot+1⟩,x.ah ++ [s],x.be⟩).length:=by obtain⟨t,n⟩:=m2;rw[n];simp
  obtain⟨o,k,p⟩:=JT c j f g.rules.length _ (aaM _) m1 (by omega) (by omega)
  refine⟨o,m2.trans k,λr b=>?_⟩
  rw[f] at b
  simp only[aaG,and_true] at b
  subst b
  exact⟨m3.up k,p⟩
 .rename_i d
  exact⟨h,.refl,λs e=>absurd (by rw[e]) d⟩
theorem ET (d:bY g a) (p:a.length<=300):∀ (f i:Nat) (l:List bQ),kf g a l->i<=l.length->86101<=f+i->(∀ (j:Nat) (x:bQ),j < i->l[j]?=some x->I6 g a l x)->kf g a (kx g a f i l)/\uP l (kx g a f i l)/\∀ x∈kx g a f i l,I6 g a (kx g a f i l) x
 | 0,i,l,h,hi,q,hw=>absurd (h.short d p) (by omega)
 | f+1,i,l,h,hi,q,hw=>by
  rw[kx]
  cases e:l[i]? with
  | none =>
   have:=List.getElem?_eq_none_iff.1 e
   simp only
   refine⟨h,.refl,λx r=>?_⟩
   obtain⟨j,m⟩:=List.getElem?_of_mem r
   have u:=(aaR.1 m).1
   exact hw j x (by omega) m
  | some x =>
   simp only
   have n:=(aaR.1 e).1
   obtain⟨v,b,w⟩:=DY d h e
   have hle:l.length<=(jO g a l x).length:=by obtain⟨t,z⟩:=b;rw[z];simp
   obtain⟨n1,A,B⟩:=ET d p f (i+1) _ v (by omega) (by omega) λj y m c=>by
    by_cases o:j=i
    .subst o
     rw[(b.at n).1,e] at c
     simp at c
     subst c
     exact w
    .rw[(b.at (i:=j) (by omega)).1] at c
     intro s C
     obtain⟨D,E⟩:=hw j y (by omega) c s C
     exact⟨D.up b,λk hk F=>(E k hk F).up b⟩
   exact⟨n1,b.trans A,B⟩
theorem DV (d:bY g a):kf g a nQ:=by
 refine⟨λx c=>?_,by simp[nQ],λj x b=>?_⟩
 .simp[nQ] at c;subst c;exact .start d
 .have:=(aaR.1 b).1
  simp[nQ] at this
  subst this
  simp[nQ] at b
  subst b
  simp
theorem Du (b:bY g a) (c:a.length<=300):kf g a (df g a)/\(∀ x∈df g a,I6 g a (df g a) x)/\ED (df g a) 0 ⟨-1,0⟩:=by
 obtain⟨n1,d,e⟩:=ET b c 90000 0 nQ (DV b) (ab5 _) (by omega) λj x f=>absurd f (by omega)
 exact⟨n1,e,⟨0,⟨-1,0⟩,[],[]⟩,d.mem (by simp[nQ]),rfl,rfl⟩
theorem Xt (b:bY g a) (r:a.length<=300):∀ n p:Nat,p < n->p < a.length->∀ y∈jc g a p,ED (df g a) p y:=by
 obtain⟨h1,m,t⟩:=Du b r
 intro n
 induction n with
 | zero=>intro p hp;omega
 | succ n v =>
  intro p hp c y w
  have A:=(dc b.de (b.bc c)).1 w
  induction A with
  | base hk =>
   by_cases d:p=0
   .subst d
    rw[b.e.first] at hk
    simp at hk
    subst hk
    exact t
   .obtain⟨q,z,s,I,B,C,D,rfl,J,E⟩:=b.prev c hk (by omega)
    obtain⟨u,hu,f,h⟩:=v q (by omega) B z C
    subst h
    have:=(m u hu s D).1
    rw[f,E] at this
    exact this
  | @step x s k R F G K o H i =>
   have j:=(dc b.de (b.bc c)).2 F
   obtain⟨u,hu,f,h⟩:=i j
   subst h
   have hk:=(aaR.1 o).1
   have l:aA g k=R:=by unfold aA;rw[aa0,aaA,o];rfl
   have:=(m u hu _ G).2 k hk (by rw[l];exact H)
   rw[f] at this
   exact this
theorem DM (b:bY g a) (f:a.length<=300) {i:Nat} (hi:i < a.length):eT (df g a) i∈df g a/\(eT (df g a) i).st=i/\Nd g a (eT (df g a) i):=by
 obtain⟨h1,k,l⟩:=Du b f
 have c:∃ y,y∈jc g a i:=by
  have hk:=(b.ok.bc (a.getD i bC) (aaI (getD_some hi))).2.1
  obtain⟨y,d⟩:=List.exists_mem_of_ne_nil _ hk
  exact⟨y,(dc b.de (b.bc hi)).2 (.base d)⟩
 obtain⟨y,d⟩:=c
 obtain⟨u,hu,j,m⟩:=Xt b f _ i (Nat.lt_succ_self i) hi y d
 unfold eT
 cases e:(df g a).find? λx=>decide (x.st=i) with
 | none =>
  have:=List.find?_eq_none.1 e u hu
  simp[j] at this
 | some z =>
  have h:=List.find?_some e
  have z2:=List.mem_of_find?_eq_some e
  simp at h
  exact⟨z2,h,h1.nd z z2⟩
end
theorem Db {g:af} (l:List Int):aK (dy g l).1/\(dy g l).1.length<=60:=by
 unfold dy
 split
 .split
  .unfold aK;simp
  .rename_i hk
   split
   .unfold aK;simp
   .rename_i b
    have a:=(kn (aD g) l bF).1 (by simpa using hk)
    have:=QS a (by omega)
    unfold aK;simp only;omega
 .unfold aK;simp
theorem yV {g:af} {a l b:List Int} (h:(dy g (a ++ l ++ b)).2=0):dy g l=(eA g (aD g) g.al.length l,0):=by
 unfold dy at h
 split at h
 .rename_i h1
  split at h
  .simp at h
  .rename_i e
   split at h
   .simp at h
   .rename_i f
    simp only[List.all_append,aaK] at h1
    have c:=(kn (aD g) (a ++ l ++ b) bF).1 (by simpa using e)
    have d:lW (aD g) l:=λx i=>c x (by simp[i])
    have t1:=pc g g.al.length (a ++ l ++ b) bF (uI c) kO
    have t2:=pc g g.al.length l bF (uI d) kO
    simp only[jD,jb,aa4,bF] at t1 t2
    have j:(cb (aD g) l bF).2=true:=(kn _ _ _).2 d
    simp only[bF] at f
    unfold dy
    rw[aaF (by rw[aaK];exact⟨h1.1,h1.2.1.2⟩),aaD (by rw[j];simp),aaD]
    simp only[bF]
    omega
 .simp at h
theorem Dw {g:af} {l:List Int} (h:(dy g l).2=0):bp g=true/\Sp g (dy g l).1 l 0 (dy g l).1.length/\(∀ x∈(dy g l).1,0<=x/\x < g.ai.length):=by
 have h1:(bp g && l.all (dL g))=true:=by
  unfold dy at h
  split at h
  .assumption
  .simp at h
 simp only[aaK,aaZ] at h1
 have c:(cb (aD g) l bF).2=true:=by
  unfold dy at h
  split at h
  .split at h
   .simp at h
   .rename_i c;simpa using c
  .simp at h
 have hp:=yV (a:=[]) (l:=l) (b:=[]) (by simpa using h)
 have d:=(kn (aD g) l bF).1 c
 have e:=bj h1.1
 have f:=Rm (λr hr=>(e.left r hr).1) g.al.length l (uI d)
 rw[hp]
 refine⟨h1.1,by simpa using YT f [] [],Tx e.sym f h1.2⟩
section
variable {g:af} {a:List aJ}
def ZL (g:af) (l:List bQ) (i:Nat):List Int × List Int:=((eT l i).ah,fW g (eT l i).it ++ (eT l i).be)
def dF (g:af) (a:List aJ) (i:Nat):List Int × List Int:=ZL g (df g a) i
structure zK where
 state:Int
 len:Int
 word:List Int
def vL (g:af) (a:List aJ) (i:Nat):zK:=⟨i,((dy g (dF g a i).1).1.length:Int),(dy g ((dF g a i).1 ++ (dF g a i).2)).1⟩
theorem VI (b:bY g a) (c:a.length<=300) {i:Nat} (hi:i < a.length) (h:(dy g ((dF g a i).1 ++ (dF g a i).2)).2=0):Vf g (dy g ((dF g a i).1 ++ (dF g a i).2)).1=true:=by
 obtain⟨f1,f2,f3⟩:=DM b c hi
 obtain⟨d,e,f⟩:=Dw h
 exact(Ly d _).2 (f3.SN _ e)
end
theorem Si {g:af} (h:(aS g).2=0) {i:Nat} (hi:i < (aS g).1.length) (hw:(dy g ((dF g (aS g).1 i).1 ++ (dF g (aS g).1 i).2)).2=0)
  (f:j0 g (aS g).1 (fy g (aS g).1) (aS g).1.length=[]) :
  (vd g (j7 g (aS g).1) (vL g (aS g).1 i).word).2.2=0∨(vd g (j7 g (aS g).1) (vL g (aS g).1 i).word).2.2=14:=by
 obtain⟨hr,b,d⟩:=uv h
 have a:bp g=true:=iX hr
 obtain⟨m,n,e⟩:=Dw hw
 have j:=VI b d hi hw
 have k:=(Db (g:=g) ((dF g (aS g).1 i).1 ++ (dF g (aS g).1 i).2)).2
 have l:jK g (j7 g (aS g).1)=true:=HS b a d λi x c=>((Oe h).fact i x c).1
 unfold vd vL
 simp only
 rw[aaF (by
  simp only[aaK,aaP,aaZ]
  exact⟨⟨⟨a,k⟩,λx c=>e x c⟩,l⟩)]
 exact Xi b hr a f e ((Ly a _).1 j) 2000
theorem Ke {g:af} {u v:List Int} (h:(dy g (u ++ v)).2=0):(dy g u).2=0/\(dy g u).1.length<=(dy g (u ++ v)).1.length:=by
 have h1:=yV (a:=[]) (l:=u) (b:=v) (by simpa using h)
 have c:=yV (a:=[]) (l:=u ++ v) (b:=[]) (by simpa using h)
 rw[h1,c]
 refine⟨rfl,?_⟩
 simp only
 rw[jb,aa4]
 omega
def gM:List bQ->Int->Nat->Int
 | [],_,_=>-1
 | x :: l,i,n=>if (x.st:Int)=i then n else gM l i (n+1)
theorem FN (i:Int):∀ (l:List bQ) (n:Nat) (x:bQ),gM (l ++ [x]) i n=if gM l i n < 0 then (if (x.st:Int)=i then ((n+l.length:Nat):Int) else -1) else gM l i n
 | [],n,x=>by simp[gM]
 | y :: l,n,x=>by
  rw[abk,gM,gM]
  split
  .rw[aaD (by omega)]
  .rw[FN i l (n+1) x]
   split
   .split
    .simp only[aaN];congr 1;omega
    .rfl
   .rfl
theorem C1 (i:Nat):∀ (l:List bQ) (n:Nat),(∃ x∈l,x.st=i)->∃ k:Nat,gM l i n=((n+k:Nat):Int)/\k < l.length/\l[k]?=some (eT l i)
 | [],_,h=>by obtain⟨x,a,_⟩:=h;simp at a
 | y :: l,n,h=>by
  rw[gM]
  by_cases e:y.st=i
  .rw[aaF (by omega)]
   exact⟨0,rfl,by simp,by simp[eT,e]⟩
  .rw[aaD (by omega)]
   obtain⟨x,a,hi⟩:=h
   have b:x∈l:=by
    rcases aaT.1 a with rfl | a
    .exact absurd hi e
    .exact a
   obtain⟨k,h1,d,c⟩:=C1 i l (n+1) ⟨x,b,hi⟩
   refine⟨k+1,by rw[h1];congr 1;omega,by simp only[aaN];omega,?_⟩
   rw[abr,c]
   simp[eT,e]
theorem TO (us:List (List Int)) (w:us.flatten.length<=1000000) (hu:us.length<=1000):cK Tryz.prog 68 [.aU (WA us)] (encI us.flatten):=by
 have d:∀ i,(us.take i).flatten.length<=1000000:=λi=>by
  have:=acA i us
  have b:us.flatten=(us.take i).flatten ++ (us.drop i).flatten:=by rw[<-List.flatten_append,this]
  rw[b,aa4] at w;omega
 refine cK.of (by intro v g;simp at g;subst g;exact ew _ _ λx _ v g=>by simp at g;subst g;exact cx x) ?_
 refine aw.of mixed qG ?_
 simp(disch:=omega)only[↓wr,seval,wq,k5]
 refine ba.up us.length (λi T H'=>H'=(λ_=>.dead)/\T 0=.aU (WA us)/\T 3=gi (us.take i).flatten.length/\T 9=.aU (WA us)/\T 10=gi us.length/\T 11=gi i) ⟨rfl,rfl,rfl,rfl,rfl,rfl⟩ ?_
 rintro i k T H1 hk ⟨rfl,t0,t3,t9,t10,t11⟩
 simp(disch:=omega)only[↓wr,seval,wq,kq,t0,t3,t9,t10,t11]
 apply aj.dec<;>intro hi
 .have b:us[i]?=some (us[i]'(by omega)):=aaB (by omega)
  have a:us.take (i+1)=us.take i ++ [us[i]'(by omega)]:=by rw[aa3,b];rfl
  have c:=d (i+1)
  generalize us[i]'(by omega)=x at b a
  rw[a] at c
  simp only[List.flatten_append,List.flatten_cons,List.flatten_nil,abS,aa4] at c
  simp(disch:=omega)only[↓wr,seval,wq,t0,t3,t9,t10,t11,aaE,b,aaH,encI]
  refine aj.dec (λh=>absurd h (by omega)) (λ_=>?_)
  simp(disch:=omega)only[↓wr,seval,wq,t0,t3,t9,t10,t11]
  refine aG hk (by omega) ⟨rfl,t0,?_,t9,t10,rfl⟩
  rw[a,List.flatten_append,aa4,List.flatten_cons,List.flatten_nil,abS]
  push_cast
  rfl
 .simp(disch:=omega)only[↓wr,seval,wq,t0,t3,t9,t10,t11]
  have e:us.take i=us:=aaS (by omega)
  rw[e]
  refine ax.eM ((Qr _ w _).mono ?_)
  intro r y hr
  have j:I3 y r []:=by
   rcases hr with ⟨_,rfl,rfl⟩ | ⟨_,m,es,hm,rfl,rfl⟩
   .exact .inl .nil
   .exact .inr ⟨rfl,m,es,rfl,by simp[View.set]⟩
  have l:us.flatten.length=0->aT y r 1 (bH []):=λo=>by
   rcases hr with ⟨_,rfl,_⟩ | ⟨h1,_⟩
   .exact .nil
   .omega
  simp(disch:=omega)only[↓wr,seval,wq,t0,t3,t9,t10,t11]
  refine ba.up us.length (λi T H'=>∃ u,T 6=u/\I3 H' u (us.take i).flatten/\(us.flatten.length=0->aT H' u 1 (bH (us.take i).flatten))/\T 25=.aU (WA us)/\T 26=gi us.length/\T 27=gi i) ⟨r,rfl,j,l,rfl,rfl,rfl⟩ ?_
  rintro i k T A hk ⟨u,t6,p,q,t25,t26,t27⟩
  simp(disch:=omega)only[↓wr,seval,wq,kC,t6,t25,t26,t27]
  apply aj.dec<;>intro hi
  .have b:us[i]?=some (us[i]'(by omega)):=aaB (by omega)
   have a:us.take (i+1)=us.take i ++ [us[i]'(by omega)]:=by rw[aa3,b];rfl
   have c:=d (i+1)
   generalize us[i]'(by omega)=x at b a
   rw[a,List.flatten_append,aa4,List.flatten_cons,List.flatten_nil,abS] at c
   simp(disch:=omega)only[↓wr,seval,wq,t6,t25,t26,t27,aaE,b,aaH,encI,xm]
   refine PG p (by unfold aC;omega) (by unfold aC;omega) rfl ?_
   intro z B s t C
   simp(disch:=omega)only[↓wr,seval,wq,t6,t25,t26,t27]
   refine aG hk (by omega) ⟨z,rfl,?_,λo=>?_,t25,t26,rfl⟩
   .rw[a];simpa using s
   .rw[a];simpa using t (q o)
  .simp(disch:=omega)only[↓wr,seval,wq,t6,t25,t26,t27]
   have e:us.take i=us:=aaS (by omega)
   rw[e] at p q
   intro D g
   refine cM.Jh (sz:=1) (f:=λn=>.int .i64 n) ?_
   rw[g]
   rcases p with p | ⟨o,m,es,rfl,hm⟩
   .exact p
   .have:=q (by rw[o];rfl)
    rw[o] at this ⊢;exact this
def A0 (v:V) (l:List Int):Prop:=v=encI l∨(l=[]/\v=.emp 1)
theorem A0.pK {v:V} {l:List Int} (h:A0 v l) {H:View} : cR H v (encI l):=by
 rcases h with rfl | ⟨rfl,rfl⟩
 .exact .tree (cx l)
 .exact λ_ _=>.emp 1
theorem A0.fL {v:V} {l:List Int} (h:A0 v l):aI v=true/\V.cells v=[v]/\Tree v:=by
 rcases h with rfl | ⟨rfl,rfl⟩
 .exact⟨rfl,rfl,cx l⟩
 .exact⟨rfl,rfl,.emp 1⟩
structure vo where
 n:bQ
 a:V
 b:V
structure vo.Ok (x:vo):Prop where
 a:A0 x.a x.n.ah
 b:A0 x.b x.n.be
def jE (x:vo):List V:=[gi x.n.st,gi x.n.it.au,gi x.n.it.dot,x.a,x.b]
theorem X4 {x:vo} (c:x.Ok):(([jE x]:List (List V)).all λe=>e.length == 5 && e.all aI)=true:=by
 simp only[jE,abQ,List.all_nil,c.a.fL.1,c.b.fL.1];rfl
section
variable {κ:Type} [BEq κ] [LawfulBEq κ] {kv:κ->V} {P:Program} {T:Env} {H:View} {kt et t ty:TypeId}
end
def Au (ls:List (List ay)):List (List V):=ls.map λl=>[.aU (aV l)]
def fw (g:af) (a:List aJ) (ul us:V) (more:Bool):List V:=[.aU (g.ai.map dg),.aU (g.al.map λs=>[gs s]),.aU (g.rules.map bg),gi g.start,bI a,ul,us,gb more]
def xz:List V->Sets->List dH
 | v :: vs,s :: ss=>(v,1,eS s) :: xz vs ss
 | _,_=>[]
structure cn (H:View) (b:Nat) (g:af) (a:List aJ) (ul us:V) (vs:List V) (ls:List (List ay)) (ss:Sets) (more:Bool) (L:List dH):Prop where
 len:vs.length=ss.length
 own:bq H ((.sl b 0 1 8,8,[fw g a ul us more]) :: (ul,1,Au ls) :: (us,1,vs.map λv=>[v]) :: (xz vs ss ++ L))
theorem zS:∀ (vs:List V) (ss:Sets) (i:Nat) (v:V),vs.length=ss.length->vs[i]?=some v->∃ P Q,xz vs ss=P ++ (v,1,eS (ss.getD i [])) :: Q/\∀ r,xz vs (ss.set i r)=P ++ (v,1,eS r) :: Q
 | [],_,i,v,_,h=>by simp at h
 | x :: vs,[],i,v,h,_=>by simp at h
 | x :: vs,s :: ss,0,v,_,h=>by
  simp at h;subst h
  exact⟨[],xz vs ss,rfl,λr=>rfl⟩
 | x :: vs,s :: ss,i+1,v,a,h=>by
  obtain⟨P,Q,h1,b⟩:=zS vs ss i v (by simpa using a) (by simpa using h)
  refine⟨(x,1,eS s) :: P,Q,?_,λr=>?_⟩
  .simp[xz,h1]
  .simp[xz,b]
section
variable {H:View} {b:Nat} {g:af} {a:List aJ} {ul us:V} {vs:List V} {ls:List (List ay)} {ss:Sets} {more:Bool} {L:List dH}
theorem cn.box (h:cn H b g a ul us vs ls ss more L):H b=.arr 8 [fw g a ul us more]:=h.own.is 0 rfl (by simp)
theorem cn.lists (h:cn H b g a ul us vs ls ss more L) (c:0 < ls.length):∃ n,ul=.sl n 0 ls.length 1/\H n=.arr 1 (Au ls):=by
 obtain⟨n,h1,d⟩:=(h.own.own 1 rfl).sl (by simpa [Au] using c)
 exact⟨n,by simpa [Au] using h1,d⟩
theorem cn.O8 (h:cn H b g a ul us vs ls ss more L) (c:0 < ss.length):∃ n,us=.sl n 0 ss.length 1/\H n=.arr 1 (vs.map λv=>[v]):=by
 obtain⟨n,h1,d⟩:=(h.own.own 2 rfl).sl (by simpa [h.len] using c)
 exact⟨n,by simpa [h.len] using h1,d⟩
theorem cn.Ga {n k:Nat} (h:cn H b g a (.sl n 0 k 1) us vs ls ss more L) (c:0 < ls.length):H n=.arr 1 (Au ls)/\k=ls.length:=by
 obtain⟨m,h1,d⟩:=h.lists c
 simp only[V.sl.injEq] at h1
 obtain⟨rfl,_,rfl,_⟩:=h1
 exact⟨d,rfl⟩
theorem cn.Qx {n k:Nat} (h:cn H b g a ul (.sl n 0 k 1) vs ls ss more L) (c:0 < ss.length):H n=.arr 1 (vs.map λv=>[v])/\k=ss.length:=by
 obtain⟨m,h1,d⟩:=h.O8 c
 simp only[V.sl.injEq] at h1
 obtain⟨rfl,_,rfl,_⟩:=h1
 exact⟨d,rfl⟩
theorem cn.row (h:cn H b g a ul us vs ls ss more L) {i:Nat} {v:V} (c:vs[i]?=some v):aT H v 1 (eS (ss.getD i [])):=by
 obtain⟨P,Q,h1,_⟩:=zS vs ss i v h.len c
 refine h.own.1 (v,1,eS (ss.getD i [])) (aaV _ (aaV _ (aaV _ (List.mem_append_left _ ?_))))
 rw[h1];simp
theorem Jz {α:Type} {x y z e:α} {P Q L:List α} : (x :: y :: z :: ((P ++ e :: Q) ++ L)).Perm (e :: x :: y :: z :: ((P ++ Q) ++ L)):=by
 have h:((P ++ e :: Q) ++ L).Perm (e :: ((P ++ Q) ++ L)):=by
  simp
 exact(((h.cons z).cons y).cons x).trans (abF (a:=e) (l₁:=[x,y,z]) (l₂:=(P ++ Q) ++ L))
theorem cn.put (h:cn H b g a ul us vs ls ss more L) {i n k:Nat} (c:vs[i]?=some (.sl n 0 k 1)) {r:List BV} (hr:r.length=(ss.getD i []).length) (hk:k=(ss.getD i []).length):cn (H.set n (.arr 1 (eS r))) b g a ul us vs ls (ss.set i r) more L:=by
 obtain⟨P,Q,h1,d⟩:=zS vs ss i _ h.len c
 refine⟨by rw[acn];exact h.len,?_⟩
 have o:=h.own
 rw[h1] at o
 have e:=(o.perm Jz).put (es':=eS r) (by simp[hr]) (by simp[hk])
 rw[d]
 exact e.perm Jz.symm
theorem cn.flag (h:cn H b g a ul us vs ls ss more L) (m:Bool):cn (H.set b (.arr 8 [fw g a ul us m])) b g a ul us vs ls ss m L:=⟨h.len,h.own.put rfl rfl⟩
theorem cn.fresh (h:cn H b g a ul us vs ls ss more L) {n:Nat} {o:dG} (c:H n=.dead):cn (H.set n o) b g a ul us vs ls ss more L:=⟨h.len,h.own.fresh c⟩
end
theorem Eg {ls:List (List ay)} {i:Nat} (h:i < ls.length):(Au ls).getD i []=[.aU (aV (ls.getD i []))]:=by simp[Au,aaA,h]
theorem EO {vs:List V} {i:Nat} {v:V} (h:vs[i]?=some v):(vs.map λv=>[v]).getD i []=[v]:=by simp[aaA,h]
def lQ:SC :=
 ae [ae [ab [aa 9 8,aa 10 0,fh 11 10,ao 12 5 11,ak 13 12,aa 14 1,aO 15 1 13 14,ak 16 15,aN 17 16,aQ 18 .lss 9 17],bX 18 (.exit 0)],.block 1 (ae [.region false [⟨none,[aa 21 0,fh 22 21,ao 23 5 22,ak 24 23,aa 25 1,aO 26 1 24 25,ak 27 26,aa 28 8,aO 29 2 27 28,aZ 30 2 29,aZ 31 2 6,((some 32),.op (.old (.binOp .eql 120 (.tmp 30) (.tmp 31) 120) 4)),aa 33 32]⟩,⟨(some (33,true)),[aa 34 3,aa 35 0,fh 36 35,ao 37 6 36,ak 38 37,aa 39 1,aO 40 1 38 39,ak 41 40,aa 42 8,aO 43 1 41 42,ak 44 43,aQ 45 .andNot 34 44,((some 46),.op (.arith .neq (.tmp 45) (.val (.val (.int .u32 0)))))]⟩,⟨none,[eO 47 33 46]⟩],bb 47 (ae [ab [aa 48 0,fh 49 48,ao 50 6 49,ak 51 50,aa 52 1,aO 53 1 51 52,ak 54 53,aa 55 8,aa 56 0,fh 57 56,ao 58 6 57,ak 59 58,aa 60 1,aO 61 1 59 60,ak 62 61,aa 63 8,aO 64 1 62 63,ak 65 64,aa 66 3,aQ 67 .or 65 66,aO 68 1 54 55,cD 1 68 67],ab [aa 69 0,fh 70 69,ao 71 7 70,(none,.op (.store 1 (.tmp 71) (.val (.val (.bool true)))))]])]),ab [aa 19 8,aF 20 .add 19 1,aa 8 20]]
def nr:SF:=⟨ae [ab [cF 6 2],ab [aR 8 0],bZ 0 lQ],
 [],72⟩
theorem tt:aP Tryz.prog 97 [6]=some nr:=by kernel_rfl
def hQ (l:List ay) (row:List BV) (x:ay) (s:BV) (i:Nat):List BV:=(jx l row x s).take i ++ row.drop i
theorem QF {l:List ay} {row:List BV} {x:ay} {s:BV} (h:row.length=l.length) (i:Nat) (hi:i<=l.length):(hQ l row x s i).length=row.length:=by
 simp[hQ,lf h];omega
theorem Uh {l:List ay} {row:List BV} {x:ay} {s:BV} (h:row.length=l.length) {i:Nat} (hi:i < l.length):(hQ l row x s i)[i]?=row[i]?:=by
 unfold hQ
 rw[abu (by simp[lf h];omega)]
 simp[lf h,acH (show i<=row.length by omega)]
theorem Pk {l:List ay} {row:List BV} {x:ay} {s:BV} (h:row.length=l.length) {i:Nat} {y:ay} {v:BV} (a:l[i]?=some y) (b:row[i]?=some v):hQ l row x s (i+1)=if y=x then (hQ l row x s i).set i (v ||| s) else hQ l row x s i:=by
 have hi:=(aaR.1 a).1
 have c:(jx l row x s)[i]?=some (if y=x then v ||| s else v):=by simp[jx,List.getElem?_zipWith,a,b]
 have d:row.drop i=v :: row.drop (i+1):=by
  obtain⟨q,e⟩:=aaR.1 b
  rw[abo q,e]
 have f:((jx l row x s).take i).length=i:=by simp[lf h];omega
 unfold hQ
 rw[aa3,c,d]
 split
 .rw[List.set_append_right _ _ (by omega),f,Nat.sub_self,List.set_cons_zero]
  simp
 .simp
theorem Kh {α:Type} {l:List α} {i:Nat} {d:α} (h:i < l.length):l.set i (l.getD i d)=l:=by
 rw[aaA,aaB h]
 exact List.set_getElem_self h
theorem ll (ls:List (List ay)):(Au ls).length=ls.length:=by simp[Au]
theorem SD (l:List BV) (i:Nat) (z:BV):(eS l).set i [gw z]=eS (l.set i z):=by rw[eS,eS,acC]
theorem mU (l:List BV):(eS l).length=l.length:=by simp
theorem Re {α:Type} (l:List α) (i:Nat) (x y:α):(l.set i x).set i y=l.set i y:=by simp
theorem My {α:Type} {l:List α} {i:Nat} {r d:α} (h:i < l.length):l.set i r=l↔r=l.getD i d:=by
 constructor
 .intro e
  have a:(l.set i r).getD i d=l.getD i d:=by rw[e]
  rw[jQ,aaF ⟨rfl,h⟩] at a
  exact a
 .rintro rfl;exact Kh h
theorem Gw (g:af) (a:List aJ) (ul us:V) (vs:List V) (ls:List (List ay)) (ss:Sets) (more:Bool) (L:List dH) (b:Nat) (H:View) (c:cn H b g a ul us vs ls ss more L) (F:k6 ls ss) (Q:∀ l∈ls,l.length<=10000) (st:Nat) (n:st < ls.length) (x:ay) (s:BV) :
  aw Tryz.prog 97 [.ptr b 0 0,gi st,.agg (bu x),gw s] H λ_ H'=>cn H' b g a ul us vs ls (fR ls ss st x s) (more || decide (fR ls ss st x s≠ss)) L:=by
 refine aw.of mixed tt ?_
 have f:st < ss.length:=by rw[F.1];exact n
 have Y:=Eg n
 have an:=Q _ (aaI (getD_some (d:=[]) n))
 have u:=F.2 st
 have G:vs[st]?=some (vs[st]'(by rw[c.len];exact f)):=aaB _
 generalize vs[st]'(by rw[c.len];exact f)=v at G
 obtain⟨nl,rfl,_⟩:=c.lists (by omega)
 obtain⟨Z,rfl,_⟩:=c.O8 (by omega)
 simp(disch:=omega)only[↓wr,seval,wq,nr,bu]
 unfold fR
 generalize ls.getD st []=l at *
 generalize B:ss.getD st []=row at *
 refine ba.up l.length (λi T H'=>∃ m:Bool,(m=(more || decide (hQ l row x s i≠row)))/\cn H' b g a (.sl nl 0 ls.length 1) (.sl Z 0 ss.length 1) vs ls (ss.set st (hQ l row x s i)) m L/\T 0=.ptr b 0 0/\T 1=gi st/\T 3=gw s/\T 6=.aL (bu x) 0/\T 8=gi i) ?_ ?_
 .have P:hQ l row x s 0=row:=by simp[hQ]
  refine⟨more,by rw[P];simp,?_,rfl,rfl,rfl,rfl,rfl⟩
  rw[P,<-B,Kh f]
  exact c
 rintro i k T H' hk ⟨m,hm,c,t0,t1,t3,t6,t8⟩
 have I:=c.box
 have J:=(c.Ga (by omega)).1
 simp(disch:=omega)only[↓wr,seval,wq,lQ,t0,t1,t3,t6,t8,I,fw,J,Y,ll,bG]
 refine⟨n,n,?_⟩
 apply aj.dec<;>intro t
 .have j:i < l.length:=by omega
  have R:l[i]?=some (l[i]'j):=aaB j
  have hw:row[i]?=some (row[i]'(by omega)):=aaB (by omega)
  generalize l[i]'j=y at R
  generalize row[i]'(by omega)=w at hw
  have o:=Uh (x:=x) (s:=s) u j
  rw[hw] at o
  have S:=QF (x:=x) (s:=s) u i (by omega)
  have p:=Pk (x:=x) (s:=s) u R hw
  have C:(ss.set st (hQ l row x s i)).getD st []=hQ l row x s i:=by rw[jQ,aaF ⟨rfl,f⟩]
  have K:=c.row G
  rw[C] at K
  obtain⟨nv,z,A⟩:=K.sl (by rw[mU];omega)
  have M:=(c.Qx (by rw[acn];omega)).1
  have U:¬ b=nv:=by rintro rfl;rw[I] at A;simp at A
  rw[mU] at z
  generalize aq:hQ l row x s i=cur at *
  simp(disch:=omega)only[↓wr,seval,wq,t0,t1,t3,t6,t8,I,fw,J,Y,ll,aV,aaE,R,aaH,bu]
  refine⟨n,n,?_⟩
  refine jd (xs:=#[.int .i64 y.au,.int .i64 y.dot]) (ys:=#[.int .i64 x.au,.int .i64 x.dot]) Tryz.underlying120 (by kernel_rfl) (by kernel_rfl) ?_ ?_ (oZ y x) (.inl ⟨rfl,rfl⟩) ?_
  .rfl
  .rfl
  rw[xP]
  simp(disch:=omega)only[↓wr,seval,wq,t0,t1,t3,t6,t8]
  have same:hQ l row x s (i+1)=cur->∀ D:Env,D 0=.ptr b 0 0->D 1=gi st->D 3=gw s->D 6=.aL (bu x) 0->D 8=gi ((i:Int)+1)->∃ k',k' < k/\EY l.length k' (λi T H'=>∃ m:Bool,(m=(more || decide (hQ l row x s i≠row)))/\cn H' b g a (.sl nl 0 ls.length 1) (.sl Z 0 ss.length 1) vs ls (ss.set st (hQ l row x s i)) m L/\T 0=.ptr b 0 0/\T 1=gi st/\T 3=gw s/\T 6=.aL (bu x) 0/\T 8=gi i) D H':=λe D P e1 e3 e6 e8 =>
   aG hk j ⟨m,by rw[e];exact hm,by rw[e];exact c,P,e1,e3,e6,e8⟩
  apply aj.dec<;>intro he
  rotate_left
  .rw[aaD he] at p
   simp(disch:=omega)only[↓wr,seval,wq,t0,t1,t3,t6,t8]
   exact same p _ t0 t1 t3 t6 rfl
  rw[aaF he] at p
  simp(disch:=omega)only[↓wr,seval,wq,t0,t1,t3,t6,t8,I,fw,M,EO G,z,A,xK o,VA]
  refine⟨by omega,by rw[c.len,acn];omega,by omega,by omega,?_⟩
  apply aj.ne<;>intro W
  .have E:¬ qt s w:=λh=>W (toNat_zero.2 (CV.2 h))
   have t:=c.put (r:=cur.set i (w ||| s)) (by rw[<-z];exact G) (by rw[C,acn]) (by rw[C])
   rw[Re] at t
   have ar:=t.box
   simp(disch:=omega)only[↓wr,seval,wq,t0,t1,t3,t6,t8,I,fw,M,EO G,z,A,xK o,Kd,SD,U]
   have N:st < vs.length:=by rw[c.len,acn];exact f
   have X:hQ l row x s (i+1)≠row:=λe=>by
    have h1:(cur.set i (w ||| s))[i]?=some (w ||| s):=by rw[ab6 (by omega)]
    rw[<-p,e,hw] at h1
    simp only[aaC] at h1
    rw[BitVec.or_comm] at h1
    exact E (F6.1 h1.symm)
   refine⟨f,N,f,N,by omega,by omega,by omega,by omega,aG hk j ⟨true,by rw[ack X,Bool.or_true],?_,t0,t1,t3,t6,rfl⟩⟩
   rw[p]
   exact t.flag true
  .have O:qt s w:=CV.1 (toNat_zero.1 W)
   simp(disch:=omega)only[↓wr,seval,wq,t0,t1,t3,t6,t8]
   refine same ?_ _ t0 t1 t3 t6 rfl
   rw[p,show w ||| s=w by rw[BitVec.or_comm];exact F6.2 O]
   obtain⟨q,e⟩:=aaR.1 o
   rw[<-e];exact List.set_getElem_self q
 .have j:i=l.length:=by omega
  have e:hQ l row x s i=jx l row x s:=by
   subst j
   unfold hQ
   rw[aaS (by rw[lf u];omega),aa7 (by omega),abS]
  rw[e] at hm c
  simp(disch:=omega)only[↓wr,seval,wq]
  rw[hm] at c
  rw[show decide (ss.set st (jx l row x s)≠ss)=decide (jx l row x s≠row) by
   simp only[ne_eq,My (d:=[]) f,B]]
  exact c
theorem oI {α:Type} {x y z e:α} {Z L:List α} : (x :: y :: z :: (Z ++ e :: L)).Perm (e :: x :: y :: z :: (Z ++ L)) :=
 ((((abF (a:=e) (l₁:=Z) (l₂:=L)).cons z).cons y).cons x).trans (abF (a:=e) (l₁:=[x,y,z]) (l₂:=Z ++ L))
section
variable {H:View} {b:Nat} {g:af} {a:List aJ} {ul us:V} {vs:List V} {ls:List (List ay)} {ss:Sets} {more:Bool} {L:List dH}
theorem cn.ZV (h:cn H b g a ul us vs ls ss more L) {n:Nat} (c:H n=.dead) (sz:Nat) (es:List (List V)):cn (H.set n (.arr sz es)) b g a ul us vs ls ss more ((.sl n 0 es.length sz,sz,es) :: L) :=
 ⟨h.len,(h.own.new c sz es).perm oI.symm⟩
theorem cn.drop {e:dH} (h:cn H b g a ul us vs ls ss more (e :: L)):cn H b g a ul us vs ls ss more L :=
 ⟨h.len,(h.own.perm oI).tail⟩
theorem cn.XS {n k sz:Nat} {es:List (List V)} (h:cn H b g a ul us vs ls ss more ((.sl n 0 k sz,sz,es) :: L)) (he:0 < es.length):H n=.arr sz es :=
 (h.own.perm oI).is 0 rfl he
end
theorem Kx {a s1 s2:Sets} (h:k9 a s1) (k:k9 s1 s2):(decide (s1≠a) || decide (s2≠s1))=decide (s2≠a):=by
 rw[abD]
 simp only[abC,aaP]
 constructor
 .rintro (e | e) b
  .subst b;exact e (k.tz h)
  .subst b;exact e (h.tz k)
 .intro e
  by_cases c:s1=a
  .exact .inr (by rw[c];exact e)
  .exact .inl c
theorem V9 {g:af} (hr:bp g=true) {x:ay} (b:cw g x) (s:BV):NF g (cP g x) s=ej (av g false) (cU g (av g false)) s (cP g x):=by
 have h:bp g=true/\∀ s∈cP g x,dL g s=true:=⟨hr,λy a=>by
  unfold cP at a
  split at a
  .have c:g.rules[x.au.toNat]?=some (aA g x.au):=by unfold aA;exact getD_some (by have:=b.1;omega)
   exact(bj hr).sym _ (aaI c) y (List.mem_of_mem_drop a)
  .simp at a⟩
 rw[NF,aaF h]
structure Tz (g:af) (a:List aJ) (ls:List (List ay)):Prop where
 Wl:g.Ok
 right:bp g=true
 len:ls.length=a.length
 Pg:1<=a.length
 short:a.length<=300
 bO:∀ s∈a,aK s.bO/\∀ e∈s.bO,bM e.sym/\bM e.to
 item:∀ l∈ls,l.length<=10000/\∀ x∈l,cw g x
def lF:SC :=
 ae [ae [ab [aa 96 13,aa 97 0,fh 98 97,ao 99 0 98,ao 100 2 99,ak 101 100,aN 102 101,aQ 103 .lss 96 102],bX 103 (.exit 0)],.block 1 (ae [ab [aa 106 0,fh 107 106,ao 108 0 107,ao 109 2 108,ak 110 109,aa 111 13,aO 112 3 110 111,ao 113 0 112,ak 114 113,aa 115 8,((some 116),.op (.arith .sub (.val (.val (.int .i64 (-1)))) (.tmp 115))),aQ 117 .eql 114 116],bb 117 (ab [aa 118 0,aa 119 1,aa 120 13,((some 121),.op (.build [(.val (.int .i64 0)),(.val (.int .i64 0))] [(0,1,(.tmp 120))])),aa 122 7,bk 123 97 [118,119,121,122]])]),ab [aa 104 13,aF 105 .add 104 1,aa 13 105]]
def nj:SF:=⟨ae [ab [aa 14 0,fh 15 14,ao 16 5 15,ak 17 16,aa 18 1,aO 19 1 17 18,ak 20 19,aa 21 2,aO 22 2 20 21,aZ 23 2 22,aa 24 0,fh 25 24,ao 26 6 25,ak 27 26,aa 28 1,aO 29 1 27 28,ak 30 29,aa 31 2,aO 32 1 30 31,ak 33 32,((some 6),.op (.alloc [(.val (.int .i64 0)),(.val (.int .i64 0))])),cD 2 6 23,aa 7 33],ab [aa 35 0,fh 36 35,ao 37 0 36,aZ 38 4 37,aZ 39 2 6,bk 40 100 [38,39],aa 34 40,dr 41 0 34,dr 42 1 34,aa 8 41,aa 9 42],ae [.region false [⟨none,[aa 43 9,c9 44 43,aa 45 44]⟩,⟨(some (45,false)),[aa 46 7,((some 47),.op (.arith .eql (.tmp 46) (.val (.val (.int .u32 0)))))]⟩,⟨none,[cy 48 45 47]⟩],bb 48 (.ret)],ab [aa 50 0,fh 51 50,ao 52 4 51,ak 53 52,aa 54 1,aa 55 8,((some 56),.op (.bJ 1 1 [(.val (.int .i64 0))] [(0,(.tmp 55))])),bk 57 33 [53,54,56],aa 49 57,dr 58 0 49,dr 59 1 49,aa 10 58,aa 11 59],ab [aa 60 0,aa 61 10,ao 62 0 6,ak 63 62,ao 64 1 6,ak 65 64,aF 66 .add 65 1,((some 67),.op (.build [(.val (.int .i64 0)),(.val (.int .i64 0))] [(0,1,(.tmp 63)),(1,1,(.tmp 66))])),aa 68 7,bk 69 97 [60,61,67,68]],ae [ab [aa 70 8,aF 71 .geq 70 0],bb 71 (.ret)],ab [bT 12 1],ae [ab [ao 72 0 6,ak 73 72,aF 74 .geq 73 0],bb 74 (ab [aa 75 0,fh 76 75,ao 77 0 76,ao 78 2 77,ak 79 78,ao 80 0 6,ak 81 80,aO 82 3 79 81,ao 83 1 82,ak 84 83,ao 85 1 6,ak 86 85,aF 87 .add 86 1,((some 88),.op (.slice 1 (.tmp 84) (some (.tmp 87)) none)),aa 12 88])],ab [aa 89 0,fh 90 89,ao 91 0 90,aZ 92 4 91,aa 93 12,aa 94 7,bk 95 167 [92,93,94],aa 7 95],ab [aR 13 0],bZ 0 lF],
 [],124⟩
theorem tw:aP Tryz.prog 99 []=some nj:=by kernel_rfl
theorem zp {g:af} (a:g.cY) {x:ay} (h:cw g x):bM x.au/\bM x.dot:=by
 have:=dS a h.1
 have:=a.rules
 obtain⟨⟨h1,b⟩,c,d⟩:=h
 unfold bM;omega
theorem cR.nil {H:View} {k:Nat} : cR H (.emp k) (encI []):=λ_ _=>.emp k
theorem WY (g:af) (a:List aJ) (ul us:V) (vs:List V) (ls:List (List ay)) (ss:Sets) (more:Bool) (L:List dH) (b:Nat) (H:View) (r:Tz g a ls) (A:cn H b g a ul us vs ls ss more L) (t:k6 ls ss) (i k:Nat) (hi:i < ls.length) (hk:k < (ls.getD i []).length) :
  aw Tryz.prog 99 [.ptr b 0 0,gi i,gi k] H λ_ H'=>cn H' b g a ul us vs ls (jr g (av g false) a ls i k ss) (more || decide (jr g (av g false) a ls i k ss≠ss)) L:=by
 refine aw.of mixed tw ?_
 have U:=bj r.right
 have W:∀ l∈ls,l.length<=10000:=λl hl=>(r.item l hl).1
 have X:=r.len
 have cg:=r.short
 have cj:=U.rules
 have B:i < ss.length:=by rw[t.1];exact hi
 have hl:=Eg hi
 have br:=r.item _ (aaI (getD_some (d:=[]) hi))
 have ck:=t.2 i
 have hx:(ls.getD i [])[k]?=some ((ls.getD i []).getD k ⟨0,0⟩):=getD_some hk
 have hw:(ss.getD i [])[k]?=some (ey ss i k):=getD_some (by omega)
 have c:=br.2 _ (aaI hx)
 have u:=JA (null:=av g false) (g:=g) X r.Pg hi k t
 have hv:vs[i]?=some (vs[i]'(by rw[A.len];exact B)):=aaB _
 generalize vs[i]'(by rw[A.len];exact B)=v at hv
 obtain⟨nl,rfl,Y⟩:=A.lists (by omega)
 obtain⟨nu,rfl,Z⟩:=A.O8 (by omega)
 obtain⟨nv,rfl,an⟩:=(A.row hv).sl (by rw[mU];omega)
 have bs:i < vs.length:=by rw[A.len];exact B
 have hb:=A.box
 unfold jr at u ⊢
 generalize (ls.getD i []).getD k ⟨0,0⟩=x at *
 generalize ey ss i k=w at *
 have f:=Hy g r.Wl x (zp U c)
 rw[Fy,aaF (p8.2 ⟨r.right,c⟩)] at f
 have G:=V9 r.right c
 cases I:aW g x with
 | mk sym b0 =>
 have cr:=ud U c I
 have ch:=zp U c
 have b1:=dS U c.1
 have cu:0<=x.dot/\x.dot<=6:=⟨c.2.1,by have:=c.2.2;omega⟩
 rw[I] at f u
 simp only[ag,encS,bu] at f
 simp(disch:=omega)only[↓wr,seval,wq,nj,hb,fw,Y,hl,ll,aV,aaE,hx,aaH,bu,Z,EO hv,an,xK hw,mU]
 refine⟨hi,hi,B,bs,by omega,by omega,?_⟩
 intro bx J
 rw[set_set]
 have m:=A.ZV J 2 [[gi x.au,gi x.dot]]
 have K:=m.box
 have aq:=m.XS (by simp)
 have b2:¬ b=bx:=by rintro rfl;rw[hb] at J;simp at J
 simp(disch:=omega)only[↓wr,seval,wq,b2]
 refine ax.pure f ?_
 generalize H.set bx (.arr 2 [[gi x.au,gi x.dot]])=H1 at m K aq ⊢
 clear A Y Z an hb
 simp(disch:=omega)only[↓wr,seval,wq]
 cases b0 with
 | false =>
  simp(disch:=omega)only[↓wr,seval,wq]
  simp
  exact m.drop
 | true =>
  simp(disch:=omega)only[↓wr,seval,wq]
  apply aj.eq<;>intro hz
  .have y:w=0#32:=toNat_zero.1 hz
   simp(disch:=omega)only[↓wr,seval,wq]
   rw[aaF y]
   simp
   exact m.drop
  .have y:¬ w=0#32:=λe=>hz (toNat_zero.2 e)
   rw[aaD (λh=>h.elim (by simp) y)] at u
   simp only at u
   have b3:=HN a (by unfold aK;omega) r.bO i [sym] (by unfold aK;simp)
   have z:=vf X r.Pg i [sym]
   have cv:0<=(ef a i [sym]).1:=by
    unfold ef
    split
    .simp
    .exact(AD (a:=a) _ _ (by omega) (by omega)).1
   simp(disch:=omega)only[↓wr,seval,wq,K,fw]
   intro q hq
   refine ax.B5 b3 (by kernel_rfl) (.bf _ λj hj=>by
    match j,hj with
    | 0,_=>exact⟨_,rfl⟩
    | 1,_=>exact⟨_,rfl⟩) ⟨.tree (lj a),.tree (.val _),yR (l:=[sym]) (by simp[View.set]) rfl,trivial⟩ ?_
   have M:=m.fresh (o:=.arr 1 [[gi sym]]) hq
   have ar:=M.XS (by simp)
   generalize H1.set q (.arr 1 [[gi sym]])=H2 at M ar ⊢
   clear m K aq hq
   generalize (ef a i [sym]).1=to at *
   obtain⟨a1,rfl⟩:∃ n:Nat,to=n:=⟨to.toNat,by omega⟩
   rw[aa0] at *
   simp(disch:=omega)only[↓wr,seval,wq,ar]
   refine ax.eM ((Gw g a _ _ vs ls ss more _ b H2 M t W a1 z ⟨x.au,x.dot+1⟩ w).mono ?_)
   intro _ H3 C
   have a6:=je t z ⟨x.au,x.dot+1⟩ w
   have a7:=mA t z ⟨x.au,x.dot+1⟩ w
   generalize fR ls ss a1 ⟨x.au,x.dot+1⟩ w=p at *
   have N:=C.box
   have O:=C.XS (by simp)
   simp(disch:=omega)only[↓wr,seval,wq]
   apply aj.dec<;>intro D
   .simp(disch:=omega)only[↓wr,seval,wq]
    rw[aaD y,aaF D]
    exact C.drop
   .rw[aaD D] at u
    have b4:=(r7 I).1
    have b5:=c.2
    have b7:∀ s∈cP g x,bM s:=by
     intro s D
     unfold cP at D
     split at D
     .have hR:g.rules[x.au.toNat]?=some (aA g x.au):=by unfold aA;exact getD_some (by have:=c.1;omega)
      exact(r.Wl.au _ (aaI hR)).2.2.2 s (List.mem_of_mem_drop D)
     .simp at D
    have b8:(cP g x).length<=6:=by
     unfold cP
     split
     .rename_i h0
      rw[aM,aaD (by omega)] at b1
      simp;omega
     .simp
    have h2:=Xo g r.Wl (cP g x) w (by unfold aK;omega) b7
    rw[G w] at h2
    simp only[ag,encS] at h2
    generalize cA:ej (av g false) (cU g (av g false)) w (cP g x)=s2 at *
    simp(disch:=omega)only[↓wr,seval,wq,O]
    have key:∀ v12:V,cR H3 v12 (encI (cP g x))->qm H3 [.agg [.aU (g.ai.map dg),.aU (g.al.map λs=>[gs s]),.aU (g.rules.map bg),gi g.start],v12,gw w] [.agg [.aU (g.ai.map dg),.aU (g.al.map λs=>[gs s]),.aU (g.rules.map bg),gi g.start],encI (cP g x),gw w]:=λv12 h =>
     ⟨.tree (bL _ (cd g)),h,.tree (.val _),trivial⟩
    apply aj.dec<;>intro h0
    have hR:g.rules[x.au.toNat]?=some (aA g x.au):=by unfold aA;exact getD_some (by have:=c.1;omega)
    have b9:aM g x.au=(aA g x.au).right:=by rw[aM,aaD (by omega)]
    rw[b9] at b4 b5
    have P:=yP (l:=(aA g x.au).right) (k:=(x.dot+1).toNat) (by omega)
    rw[show (((x.dot+1).toNat:Nat):Int)=x.dot+1 by omega] at P
    have E:cP g x=(aA g x.au).right.drop (x.dot+1).toNat:=by rw[cP,aaF (by omega)]
    generalize aA g x.au=R at hR P E
    simp(disch:=omega)only[↓wr,seval,wq,O,N,fw,aaE,hR,aaH,bg,encI,P]
    refine ax.B5 h2 (by kernel_rfl) (.val _) (key _ (by rw[E];exact .tree (cx _))) ?_
    rotate_left
    have E:cP g x=[]:=by rw[cP,aaD (by omega)]
    simp(disch:=omega)only[↓wr,seval,wq,O,N,fw]
    refine ax.B5 h2 (by kernel_rfl) (.val _) (key _ (by rw[E];exact .nil)) ?_
    all_goals (
     simp(disch:=omega)only[↓wr,seval,wq,N]
     refine ba.up g.rules.length (λq T H'=>cn H' b g a (.sl nl 0 ls.length 1) (.sl nu 0 ss.length 1) vs ls (fH g ls i sym s2 p q) (more || decide (fH g ls i sym s2 p q≠ss)) ((.sl bx 0 1 2,2,[[gi x.au,gi x.dot]]) :: L)/\T 0=.ptr b 0 0/\T 1=gi i/\T 7=gw s2/\T 8=gi sym/\T 13=gi q) ⟨C,rfl,rfl,rfl,rfl,rfl⟩ ?_
     rintro q k2 T4 H4 a8 ⟨F,t0,t1,t7,t8,t13⟩
     have bd:=F.box
     simp(disch:=omega)only[↓wr,seval,wq,lF,t0,t1,t7,t8,t13,bd,fw]
     apply aj.dec<;>intro ca
     .have Q:q < g.rules.length:=by omega
      have S:g.rules[q]?=some (aA g (q:Int)):=by unfold aA;rw[aa0];exact getD_some Q
      have hL:=U.left _ (aaI S)
      obtain⟨bl,cc⟩:=kZ (g:=g) hi sym s2 q p a6
      have e1:fH g ls i sym s2 p (q+1)=if (aA g (q:Int)).left = -1 - sym then fR ls (fH g ls i sym s2 p q) i ⟨q,0⟩ s2 else fH g ls i sym s2 p q:=by
       unfold fH
       rw[abH,abR]
       rfl
      generalize aA g (q:Int)=R at S hL e1
      generalize fH g ls i sym s2 p q=cC at *
      simp(disch:=omega)only[↓wr,seval,wq,t0,t1,t7,t8,t13,bd,fw,aaE,S,aaH,bg]
      apply aj.eq<;>intro he
      .simp(disch:=omega)only[↓wr,seval,wq,t0,t1,t7,t8,t13]
       refine ax.eM ((Gw g a _ _ vs ls _ _ _ b H4 F bl W i hi ⟨q,0⟩ s2).mono ?_)
       intro _ H5 bn
       simp(disch:=omega)only[↓wr,seval,wq,t0,t1,t7,t8,t13]
       rw[aaF he] at e1
       rw[Bool.or_assoc,Kx (a7.trans cc) (mA bl hi _ _),<-e1] at bn
       exact aG a8 Q ⟨bn,t0,t1,t7,t8,rfl⟩
      .simp(disch:=omega)only[↓wr,seval,wq,t0,t1,t7,t8,t13]
       rw[aaD he] at e1
       exact aG a8 Q ⟨by rw[e1];exact F,t0,t1,t7,t8,rfl⟩
     .simp(disch:=omega)only[↓wr,seval,wq]
      rw[aaD y,aaD D]
      have cf:q=g.rules.length:=by omega
      subst cf
      exact F.drop)
section
variable {H:View} {b:Nat} {g:af} {a:List aJ} {ul us:V} {vs:List V} {ls:List (List ay)} {ss:Sets} {more:Bool} {L:List dH}
theorem cn.goApp {u:V} {sz bytes:Nat} {es xs:List (List V)} {K:V->View->Prop} {w:cX (H,K)} (h:cn H b g a ul us vs ls ss more ((u,sz,es) :: L)) (d:(xs.all λe=>e.length == sz && e.all aI)=true)
  (i:(es.length+xs.length) * bytes < aC) (f:es.length+xs.length < aC) (hk:∀ c H',cn H' b g a ul us vs ls ss more ((c,sz,es ++ xs) :: L)->K c H'):lK sz bytes u xs H K w :=
 b6 (h.own.perm oI) d i f λc H' j _=>hk c H' ⟨h.len,j.perm oI.symm⟩
theorem cn.emp (h:cn H b g a ul us vs ls ss more L) (k sz:Nat):cn H b g a ul us vs ls ss more ((.emp k,sz,[]) :: L):=⟨h.len,(h.own.emp (k:=k) (sz:=sz)).perm oI.symm⟩
theorem cn.Wz {u:V} {sz:Nat} {es:List (List V)} (h:cn H b g a ul us vs ls ss more ((u,sz,es) :: L)):aT H u sz es:=(h.own.perm oI).head
theorem cn.Wv {c:List dH} (h:cn H b g a ul us vs ls ss more L) (p:L.Perm c):cn H b g a ul us vs ls ss more c:=⟨h.len,h.own.perm (((p.append_left _).cons _).cons _ |>.cons _)⟩
end
theorem TU (a:List aJ):V.cells (bI a)=[bI a]:=id rfl
theorem Yh (a:List aJ):aI (bI a)=true:=id rfl
def gK (ls:List (List ay)):Sets:=ls.map λl=>List.replicate l.length 0
theorem SV (ls:List (List ay)):k6 ls (gK ls):=by
 refine⟨by simp[gK],λi=>?_⟩
 simp only[gK,aaA,aaE]
 cases ls[i]? <;> simp
theorem G1 (ls:List (List ay)) (i k:Nat):ey (gK ls) i k=0:=by
 simp only[ey,gK,aaA,aaE]
 cases ls[i]? with
 | none=>simp
 | some l =>
  simp only[aaH,aaU,abV]
  split <;> rfl
theorem Lq:∀ {vs:List V} {ss:Sets} (v:V) (r:List BV),vs.length=ss.length->xz (vs ++ [v]) (ss ++ [r])=xz vs ss ++ [(v,1,eS r)]
 | [],[],v,r,_=>rfl
 | [],_ :: _,_,_,h=>by simp at h
 | _ :: _,[],_,_,h=>by simp at h
 | x :: vs,s :: ss,v,r,h=>by
  simp only[abk,xz,Lq v r (show vs.length=ss.length by simpa using h)]
theorem VY {g:af} {a:List aJ} (b:(aY g a).length=a.length) (h1:1<=a.length) {ss:Sets} (d:k6 (aY g a) ss) (e:mh g (av g false) a (aY g a) ss) (f:∀ k,((aY g a).getD 0 [])[k]?=some ⟨-1,0⟩->(ey ss 0 k).getLsbD g.ai.length=true)
  (j:∀ i k,i < (aY g a).length->k < ((aY g a).getD i []).length->jr g (av g false) a (aY g a) i k ss=ss) {i k:Nat} {x:ay} (c:((aY g a).getD i [])[k]?=some x):ey ss i k=rG g a i x:=by
 classical
 refine AU λt l=>?_
 rw[abD]
 unfold rG
 rw[Dj _ 32 t (aaM _)]
 simp only[aaP]
 exact⟨λh=>⟨l,e i k x t c h⟩,λh=>R9 b h1 d f j h.2 k c⟩
def E8 (p:dz):List V:=[gi p.au,gw p.set]
def nb (l:List dz):List (List V):=l.map E8
def yb (l:List (List dz)):V:=.aU (l.map λr=>[.aU (nb r)])
theorem Ns (l:List dz):Tree (.aU (nb l)):=ew _ _ λx _ v a=>by simp[E8] at a;rcases a with rfl | rfl <;> exact .val _
abbrev YP:=List (V × List dz)
def Rw (B:YP):List dH:=B.map λx=>(x.1,2,nb x.2)
theorem XB {h:aE} {u:V} {B:YP} (f:aT h.view u 1 (ez B)) (g:∀ x∈B,aT h.view x.1 2 (nb x.2)):cM h u (yb (B.map (·.2))):=by
 have c:∀ i (hi:i < B.length),(ez B).getD i []=[(B[i]).1]/\(((B.map (·.2)).map λr=>[V.aU (nb r)]).getD i [])=[.aU (nb (B[i]).2)]:=λi hi=>by
  simp[ez,aaA,hi]
 refine cM.own f (by simp[ez]) (λi hi=>?_) (λi j hi b=>?_)
 .have a:i < B.length:=by simpa [ez] using hi
  rw[(c i a).1,(c i a).2];rfl
 .have a:i < B.length:=by simpa [ez] using hi
  rw[(c i a).2] at b ⊢
  rw[(c i a).1]
  have:j=0:=by simp at b;omega
  subst this
  simp only[abE]
  have d:=g _ (aaL a)
  generalize (B[i]'a).2=l at d
  refine cM.own d rfl (λi _=>rfl) (λi j hi b=>?_)
  simp only[nb,aaJ] at hi
  have e:(nb l).getD i []=E8 l[i]:=by simp[nb,aaA,hi]
  rw[e] at b ⊢
  match j,b with
  | 0,_=>exact .val _
  | 1,_=>exact .val _
def s9:SC :=
 ae [ae [ab [aa 29 7,aa 30 4,aN 31 30,aQ 32 .lss 29 31],bX 32 (.exit 0)],.block 1 (ae [ab [aZ 35 4 1,aa 36 4,aa 37 7,aO 38 2 36 37,ao 39 0 38,ak 40 39,bk 41 96 [35,40],aa 8 41],ab [aa 42 6,aa 43 6,fh 44 43,ao 45 5 44,ak 46 45,aa 47 8,((some 48),.op (.bJ 1 1 [(.emp 1)] [(0,(.tmp 47))])),fD 49 1 24 46 48,fh 50 42,ao 51 5 50,cD 1 51 49],ab [aa 52 6,aa 53 6,fh 54 53,ao 55 6 54,ak 56 55,aa 57 8,aN 58 57,((some 59),.op (.make 1 4 [(.val (.int .u32 0))] (.tmp 58) (.tmp 58))),((some 60),.op (.bJ 1 1 [(.emp 1)] [(0,(.tmp 59))])),fD 61 1 24 56 60,fh 62 52,ao 63 6 62,cD 1 63 61]]),ab [aa 33 7,aF 34 .add 33 1,aa 7 34]]
def tf:SC :=
 ae [ae [ab [aa 84 10,aa 85 6,fh 86 85,ao 87 5 86,ak 88 87,aa 89 9,aO 90 1 88 89,ak 91 90,aN 92 91,aQ 93 .lss 84 92],bX 93 (.exit 6)],.block 7 (ab [aa 96 6,aa 97 9,aa 98 10,bk 99 99 [96,97,98]]),ab [aa 94 10,aF 95 .add 94 1,aa 10 95]]
def sC:SC :=
 ae [ae [ab [aa 78 9,aa 79 4,aN 80 79,aQ 81 .lss 78 80],bX 81 (.exit 4)],.block 5 (ae [ab [aR 10 0],bZ 6 tf]),ab [aa 82 9,aF 83 .add 82 1,aa 9 83]]
def sO:SC :=
 ae [ae [ab [aa 71 6,fh 72 71,ao 73 7 72,ak 74 73],bX 74 (.exit 2)],.block 3 (ae [ab [aa 75 6,fh 76 75,ao 77 7 76,(none,.op (.store 1 (.tmp 77) (.val (.val (.bool false)))))],ab [aR 9 0],bZ 4 sC])]
def sH:SC :=
 ae [ae [ab [aa 106 14,aa 107 6,fh 108 107,ao 109 5 108,ak 110 109,aa 111 12,aO 112 1 110 111,ak 113 112,aN 114 113,aQ 115 .lss 106 114],bX 115 (.exit 10)],.block 11 (ae [ab [aZ 119 4 1,aa 120 6,fh 121 120,ao 122 5 121,ak 123 122,aa 124 12,aO 125 1 123 124,ak 126 125,aa 127 14,aO 128 2 126 127,aZ 129 2 128,bk 130 100 [119,129],aa 118 130,dr 131 0 118,dr 132 1 118,aa 15 131,aa 16 132],.region false [⟨none,[aa 133 16,c9 134 133,aa 135 134]⟩,⟨(some (135,true)),[aa 136 6,fh 137 136,ao 138 5 137,ak 139 138,aa 140 12,aO 141 1 139 140,ak 142 141,aa 143 14,aO 144 2 142 143,ao 145 0 144,ak 146 145,aF 147 .geq 146 0]⟩,⟨none,[eO 148 135 147]⟩],bb 148 (ab [aa 149 13,aa 150 6,fh 151 150,ao 152 5 151,ak 153 152,aa 154 12,aO 155 1 153 154,ak 156 155,aa 157 14,aO 158 2 156 157,ao 159 0 158,ak 160 159,aa 161 6,fh 162 161,ao 163 6 162,ak 164 163,aa 165 12,aO 166 1 164 165,ak 167 166,aa 168 14,aO 169 1 167 168,ak 170 169,((some 171),.op (.build [(.val (.int .i64 0)),(.val (.int .u32 0))] [(0,1,(.tmp 160)),(1,1,(.tmp 170))])),((some 172),.op (.bJ 1 2 [(.val (.int .i64 0)),(.val (.int .u32 0))] [(0,(.tmp 171))])),fD 173 2 16 149 172,aa 13 173])]),ab [aa 116 14,aF 117 .add 116 1,aa 14 117]]
def sP:SC :=
 ae [ae [ab [aa 100 12,aa 101 4,aN 102 101,aQ 103 .lss 100 102],bX 103 (.exit 8)],.block 9 (ae [ab [bT 13 1],ae [ab [aR 14 0],bZ 10 sH],ab [aa 174 11,aa 175 13,((some 176),.op (.bJ 1 1 [(.emp 1)] [(0,(.tmp 175))])),fD 177 1 24 174 176,aa 11 177]]),ab [aa 104 12,aF 105 .add 104 1,aa 12 105]]
def vm:SF:=⟨ae [ab [cF 1 0,bT 2 1,aR 3 0],ab [aZ 18 4 1,bk 19 32 [18],aa 17 19,dr 20 0 17,dr 21 1 17,aa 4 20,aa 5 21],ae [ab [aa 22 5,aF 23 .neq 22 0],bb 23 (ae [ab [aa 24 5,bT 2 1,aa 3 24],.ret])],ab [aZ 25 4 1,aa 26 4,((some 27),.op (.build [(.emp 1),(.emp 1),(.emp 1),(.val (.int .i64 0)),(.emp 1),(.emp 1),(.emp 1),(.val (.bool false))] [(0,4,(.tmp 25)),(4,1,(.tmp 26))])),((some 28),.op (.box (.tmp 27))),aa 6 28],ae [ab [aR 7 0],bZ 0 s9],ab [aa 64 6,((some 65),.op (.build [(.val (.int .i64 0)),(.val (.int .i64 0))] [(0,1,(.val (.val (.int .i64 (-1)))))])),ao 66 0 1,ak 67 66,aN 68 67,bk 69 98 [68],qw 70 97 [(.tmp 64),(.val (.val (.int .i64 0))),(.tmp 65),(.tmp 69)]],bZ 2 sO,ab [bT 11 1],ae [ab [aR 12 0],bZ 8 sP],ab [aa 178 11,aa 2 178,aR 3 0],.ret],
 [.tmp 2,.tmp 3],179⟩
theorem AA:aP Tryz.prog 48 [1]=some vm:=by kernel_rfl
theorem Tf {g:af} {a:List aJ} {i:Nat} {s:aJ} (h:a[i]?=some s):(aY g a)[i]?=some (cJ g s.bc):=by rw[aY,aaE,h];rfl
theorem Eo {g:af} (d:g.Ok) (h:(aS g).2=0):Tz g (aS g).1 (aY g (aS g).1)/\tQ g (aS g).1:=by
 have hr:isRed g=true:=abO λf=>by
  unfold aS at h;rw[aaD f] at h;simp at h
 have c:=mX hr
 obtain⟨a,h1,i⟩:=Kq c h
 refine⟨⟨d,iX hr,by simp[aY],h1,i,λs b=>⟨by unfold aK;have:=a.bO s b;omega,λe he=>?_⟩,λl j=>?_⟩,a⟩
 .have m:=a.to s b e he
  have n:=a.sym s b e he
  unfold bM;omega
 .obtain⟨s,b,rfl⟩:=aaX.1 j
  have hk:=(a.bc s b).2.2
  exact⟨by have:=Ih c hk;omega,λx k=>((dc c hk).1 k).has hk⟩
def OfI (g:af) (a:List aJ) (b:Nat) (ul us:V) (vs:List V) (m:Nat) (T:Env) (H:View):Prop:=∃ (ss:Sets) (more:Bool),m=(Vz (aY g a) - BQ ss)+(if more then 1 else 0)/\cn H b g a ul us vs (aY g a) ss more []/\k6 (aY g a) ss/\mh g (av g false) a (aY g a) ss /\
 (∀ k,((aY g a).getD 0 [])[k]?=some ⟨-1,0⟩->(ey ss 0 k).getLsbD g.ai.length=true)/\(more=false->∀ i k,i < (aY g a).length->k < ((aY g a).getD i []).length->jr g (av g false) a (aY g a) i k ss=ss) /\
 T 1=.aL (ag g) 0/\T 4=bI a/\T 6=.ptr b 0 0
theorem W7 (g:af) (hg:g.Ok):cK Tryz.prog 48 [.agg (ag g)] (.bf [yb (yJ g).1,gi (yJ g).2]):=by
 refine cK.of (eK g) ?_
 have Z:=(Fe g hg).pure
 refine aw.of mixed AA ?_
 simp only[ag,encS] at Z
 simp(disch:=omega)only[↓wr,seval,wq,vm,ag,encS]
 refine ax.pure Z ?_
 unfold yJ
 simp(disch:=omega)only[↓wr,seval,wq]
 apply aj.ne<;>intro h
 .simp(disch:=omega)only[↓wr,seval,wq]
  intro h' _
  rw[aaD h]
  exact lu (.emp _)
 rw[aaF h]
 obtain⟨u,hA⟩:=Eo hg h
 generalize (aS g).1=a at *
 clear Z h
 have hf:=bj u.right
 have ee:=u.short
 have hT:=hf.ai
 simp(disch:=omega)only[↓wr,seval,wq,ag,encS,TU,Yh]
 intro b
 have c0:cn (View.set (λ_=>dG.dead) b (.arr 8 [fw g a (.emp 1) (.emp 1) false])) b g a (.emp 1) (.emp 1) [] ((aY g a).take 0) (gK ((aY g a).take 0)) false [] :=
  ⟨rfl,(((bq.nil.new (n:=b) (H:=λ_=>dG.dead) rfl 8 [fw g a (.emp 1) (.emp 1) false]).emp (k:=1) (sz:=1)).emp (k:=1) (sz:=1)).perm DQ.symm⟩
 simp only[fw] at c0
 generalize (View.set (λ_=>dG.dead) b (.arr 8 [[V.aU (g.ai.map dg),.aU (g.al.map λs=>[gs s]),.aU (g.rules.map bg),gi g.start,bI a,.emp 1,.emp 1,gb false]]))=H0 at c0 ⊢
 refine ba.up a.length (λi T H'=>∃ (ul us:V) (vs:List V),cn H' b g a ul us vs ((aY g a).take i) (gK ((aY g a).take i)) false []/\T 1=.aL (ag g) 0/\T 4=bI a/\T 6=.ptr b 0 0/\T 7=gi i) ⟨_,_,_,c0,rfl,rfl,rfl,rfl⟩ ?_
 clear c0
 rintro i k T H hk ⟨ul,us,vs,y,t1,t4,t6,t7⟩
 simp(disch:=omega)only[↓wr,seval,wq,s9,t1,t4,t6,t7,bI]
 apply aj.dec<;>intro D
 .have hs:a[i]?=some (a[i]'(by omega)):=aaB (by omega)
  have bx:=Tf (g:=g) hs
  obtain⟨k1,k2,k3⟩:=hA.bc _ (aaL (show i < a.length by omega))
  generalize a[i]'(by omega)=s at hs bx k1 k2 k3
  have p:=gR hf k1 k3
  have hC:=(JO g hg s.bc (by omega) (λx L=>zp hf (k3 x L))).pure
  rw[List.filter_eq_self.2 λx L=>p8.2 ⟨u.right,k3 x L⟩] at hC
  have eg:=Ih hf k3
  have cj:cJ g s.bc≠[]:=λe=>by
   cases hk:s.bc with
   | nil=>exact k2 hk
   | cons x r =>
    have:=(dc hf k3).2 (.base (show x∈s.bc by rw[hk];simp))
    rw[e] at this;simp at this
  generalize cJ g s.bc=cl at *
  have E:(aY g a).take (i+1)=(aY g a).take i ++ [cl]:=by rw[aa3,bx];rfl
  have R:((aY g a).take i).length<=300:=by rw[abn];have:=u.len;omega
  simp only[ag,encS] at hC
  simp(disch:=omega)only[↓wr,seval,wq,t1,t4,t6,t7,ag,encS,bI,aaE,hs,aaH,fI]
  refine ax.pure hC ?_
  have hb:=y.box
  simp(disch:=omega)only[↓wr,seval,wq,t1,t4,t6,t7,hb,fw]
  intro q hq
  simp(disch:=omega)only[↓wr,seval,wq,bz]
  have o1:=(y.own.fresh (o:=.arr 1 [[.aU (aV cl)]]) hq).at 1 (by simp)
  refine b6 o1 (by simp[aI]) (by unfold aC;simp only[abi,abf,ll];simp;omega) (by unfold aC;simp only[abi,abf,ll];simp;omega) ?_
  intro aq H2 o2 _
  simp only[abi,abf,abg,abh] at o2
  have b0:=o2.is 1 rfl (by simp)
  have o3:=(o2.perm (.swap _ _ _)).put (es':=[fw g a aq us false]) rfl rfl
  have cu:=o2.head.cells
  have ku:=o2.head.fL
  simp only[fw] at o3 b0
  clear o1 o2 hq hb
  simp(disch:=omega)only[↓wr,seval,wq,t1,t4,t6,t7,b0,cu,ku,bG]
  have b1:cl.length≠0:=λe=>cj (abU.1 e)
  refine⟨⟨aaM _,by unfold aC;omega,by unfold aC;omega⟩,λhz=>absurd hz b1,λ_ nm ck=>?_⟩
  have o4:=o3.new (n:=nm) (by simpa [View.set] using ck) 1 (List.replicate cl.length [.val (.int .u32 0)])
  rw[acf] at o4
  intro q2 cr
  simp(disch:=omega)only[↓wr,seval,wq,bz,t1,t4,t6,t7]
  have o5:=(o4.fresh (n:=q2) (o:=.arr 1 [[.sl nm 0 cl.length 1]]) (by simpa [View.set] using cr)).at 3 (by simp)
  refine b6 o5 (by simp[aI]) (by unfold aC;simp only[abi,abf,aaJ];simp;have:=y.len;simp[gK] at this;omega) (by unfold aC;simp only[abi,abf,aaJ];simp;have:=y.len;simp[gK] at this;omega) ?_
  intro b2 H5 o6 _
  simp only[abi,abf,abg,abh] at o6
  have cv:=o6.is 2 rfl (by simp)
  have cA:=o6.head.cells
  have cC:=o6.head.fL
  simp(disch:=omega)only[↓wr,seval,wq,t1,t4,t6,t7,cv,cA,cC]
  have o7:=(o6.at 2 (by simp)).put (es':=[fw g a aq b2 false]) rfl rfl
  simp only[abi,abf,abg,abh] at o7
  refine aG hk (by omega) ⟨aq,b2,vs ++ [.sl nm 0 cl.length 1],⟨?_,?_⟩,t1,t4,t6,rfl⟩
  .have:=y.len
   rw[E];simp[gK] at this ⊢;exact this
  .have e1:Au ((aY g a).take i ++ [cl])=Au ((aY g a).take i) ++ [[.aU (aV cl)]]:=by simp[Au]
   have e2:gK ((aY g a).take i ++ [cl])=gK ((aY g a).take i) ++ [List.replicate cl.length 0]:=by simp[gK]
   have e3:(List.replicate cl.length [V.val (.int .u32 0)])=eS (List.replicate cl.length (0:BV)):=by simp
   rw[E,e1,e2,Lq _ _ y.len,aaW,abS]
   rw[e3,abS] at o7
   exact o7.perm (.cons _ ((abF (l₁:=[_,_])).trans (.cons _ (.cons _ (acu _ _).symm))))
 rw[aaS (by have:=u.len;omega)] at y
 have ei:=λm=>u.item m
 simp(disch:=omega)only[↓wr,seval,wq,t1,t4,t6,ag]
 refine ax.pure (Di (g.ai.length:Int)) ?_
 simp(disch:=omega)only[↓wr,seval,wq,t1,t4,t6]
 have N:=SV (aY g a)
 have S:0 < (aY g a).length:=by have:=u.len;have:=u.Pg;omega
 refine ax.eM ((Gw g a ul us vs (aY g a) (gK (aY g a)) false [] b H y N (λl hl=>(u.item l hl).1) 0 S ⟨-1,0⟩ (jq g.ai.length)).mono ?_)
 intro _ H1 F
 have an:∀ t,(jq (g.ai.length:Int)).getLsbD t=true↔t=g.ai.length:=λt=>by
  rw[jq,aaF (by omega),ab0]
  simp only[aa0,aaK,aaP]
  omega
 have b3:=je N S ⟨-1,0⟩ (jq g.ai.length)
 have b4:mh g (av g false) a (aY g a) (fR (aY g a) (gK (aY g a)) 0 ⟨-1,0⟩ (jq g.ai.length)):=by
  refine xq N (λi k x t _ h=>by rw[G1] at h;simp at h) S λt ht hm=>?_
  rw[(an t).1 ht]
  exact .start hm
 have b5:∀ k,((aY g a).getD 0 [])[k]?=some ⟨-1,0⟩->(ey (fR (aY g a) (gK (aY g a)) 0 ⟨-1,0⟩ (jq g.ai.length)) 0 k).getLsbD g.ai.length=true:=λk hk=>by
  rw[wa N S,aaF ⟨rfl,hk⟩,abm,(an _).2 rfl,Bool.or_true]
 have b7:(false || decide (fR (aY g a) (gK (aY g a)) 0 ⟨-1,0⟩ (jq g.ai.length)≠gK (aY g a)))=false->∀ i k,i < (aY g a).length->k < ((aY g a).getD i []).length->jr g (av g false) a (aY g a) i k (fR (aY g a) (gK (aY g a)) 0 ⟨-1,0⟩ (jq g.ai.length))=fR (aY g a) (gK (aY g a)) 0 ⟨-1,0⟩ (jq g.ai.length):=λh i k _ _=>by
  simp only[acJ,abT,Classical.not_not] at h
  rw[h,jr,aaF (.inr (G1 _ _ _))]
 generalize fR (aY g a) (gK (aY g a)) 0 ⟨-1,0⟩ (jq g.ai.length)=b8 at *
 generalize (false || decide (b8≠gK (aY g a)))=ar at *
 simp(disch:=omega)only[↓wr,seval,wq,t1,t4,t6]
 refine ba.intro (OfI g a b ul us vs) _ ⟨b8,ar,rfl,F,b3,b4,b5,b7,t1,t4,t6⟩ ?_
 clear y F b3 b4 b5 b7 t1 t4 t6 t7 N D hk
 rintro m T2 H2 ⟨c,cN,rfl,y,w,hd,h0,b9,t1,t4,t6⟩
 have hb:=y.box
 have a1:=u.len
 have a6:=u.Pg
 obtain⟨nl,rfl,_⟩:=y.lists (by omega)
 simp(disch:=omega)only[↓wr,seval,wq,sO,t1,t4,t6,hb,fw]
 apply aj.split<;>intro hm
 .have F:=y.flag false
  simp only[fw] at F
  simp(disch:=omega)only[↓wr,seval,wq,t1,t4,t6,hb,fw]
  refine ba.up a.length (λi T H'=>∃ ss:Sets,cn H' b g a (.sl nl 0 (aY g a).length 1) us vs (aY g a) ss (decide (ss≠c)) []/\k6 (aY g a) ss/\mh g (av g false) a (aY g a) ss/\k9 c ss /\
   (ss=c->∀ M k,M < i->k < ((aY g a).getD M []).length->jr g (av g false) a (aY g a) M k c=c)/\T 1=.aL (ag g) 0/\T 4=bI a/\T 6=.ptr b 0 0/\T 9=gi i)
   ⟨c,by rw[decide_eq_false (by simp)];exact F,w,hd,.refl,λ_ M k h=>by omega,t1,t4,t6,rfl⟩ ?_
  clear F t1 t4 t6 hb
  rintro i k2 T3 H3 a7 ⟨ss,z,U,a8,A,bd,t1,t4,t6,t9⟩
  simp(disch:=omega)only[↓wr,seval,wq,sC,t1,t4,t6,t9,bI]
  apply aj.dec<;>intro D
  .have f:i < (aY g a).length:=by omega
   have cS:=(u.item _ (aaI (getD_some (d:=[]) f))).1
   simp(disch:=omega)only[↓wr,seval,wq,t1,t4,t6,t9]
   refine ba.up ((aY g a).getD i []).length (λk T H'=>∃ ss:Sets,cn H' b g a (.sl nl 0 (aY g a).length 1) us vs (aY g a) ss (decide (ss≠c)) []/\k6 (aY g a) ss/\mh g (av g false) a (aY g a) ss/\k9 c ss /\
    (ss=c->(∀ M k,M < i->k < ((aY g a).getD M []).length->jr g (av g false) a (aY g a) M k c=c)/\∀ P,P < k->jr g (av g false) a (aY g a) i P c=c)/\T 1=.aL (ag g) 0/\T 4=bI a/\T 6=.ptr b 0 0/\T 9=gi i/\T 10=gi k)
    ⟨ss,z,U,a8,A,λe=>⟨bd e,λP h=>by omega⟩,t1,t4,t6,t9,rfl⟩ ?_
   clear z U a8 A bd t1 t4 t6 t9
   rintro k k3 T4 H4 O ⟨ss,j,W,ca,C,X,t1,t4,t6,t9,t10⟩
   have G:=j.box
   have I:=(j.Ga (by omega)).1
   have J:=Eg f
   simp(disch:=omega)only[↓wr,seval,wq,tf,t1,t4,t6,t9,t10,G,fw,I,J,ll,bG]
   refine⟨f,f,?_⟩
   apply aj.dec<;>intro bl
   .have p:k < ((aY g a).getD i []).length:=by omega
    simp(disch:=omega)only[↓wr,seval,wq,t1,t4,t6,t9,t10]
    refine ax.eM ((WY g a _ us vs (aY g a) ss _ [] b H4 u j W i k f p).mono ?_)
    intro _ H5 K
    obtain⟨p1,p2⟩:=JA (g:=g) (null:=av g false) a1 a6 f k W
    have p3:=Md a1 a6 f p W ca
    rw[Kx C p2] at K
    simp(disch:=omega)only[↓wr,seval,wq,t1,t4,t6,t9,t10]
    refine aG O p ⟨_,K,p1,p3,C.trans p2,λe=>?_,t1,t4,t6,t9,rfl⟩
    have e1:ss=c:=k9.tz (Eq.mp (abN (k9 ss) e) p2) C
    subst e1
    refine⟨(X rfl).1,λP cc=>?_⟩
    rcases aa2 P k with R | cV
    .exact(X rfl).2 P R
    .have:P=k:=by omega
     subst this
     exact e
   .simp(disch:=omega)only[↓wr,seval,wq,t1,t4,t6,t9]
    refine aG a7 (by omega) ⟨ss,j,W,ca,C,λe M P ek cc=>?_,t1,t4,t6,rfl⟩
    rcases aa2 M i with R | cV
    .exact(X e).1 M P R cc
    .have:M=i:=by omega
     subst this
     exact(X e).2 P (by omega)
  .simp(disch:=omega)only[↓wr,seval,wq,t1,t4,t6]
   have q1:=Nh A
   have q2:=KL U
   refine⟨_,?_,ss,decide (ss≠c),rfl,z,U,a8,λk hk=>A.2.2 0 k _ (h0 k hk),λe=>?_,t1,t4,t6⟩
   .rw[hm]
    by_cases e:ss=c
    .subst e;simp
    .have:=q1.2 (λh=>e h.symm)
     simp[e];omega
   .have e2:ss=c:=by simpa using e
    have h3:=bd e2
    rw[e2]
    exact λi k hi hk=>h3 i k (by omega) hk
 .have Y:=b9 hm
  subst hm
  have cf:=λi k x=>VY (i:=i) (k:=k) (x:=x) a1 a6 w hd h0 Y
  obtain⟨nu,rfl,_⟩:=y.O8 (by rw[w.1];omega)
  simp(disch:=omega)only[↓wr,seval,wq,t1,t4,t6]
  refine ba.up a.length (λi T H'=>∃ (uo:V) (B:YP),B.map (·.2)=(fy g a).take i/\cn H' b g a (.sl nl 0 (aY g a).length 1) (.sl nu 0 c.length 1) vs (aY g a) c false ((uo,1,ez B) :: Rw B)/\T 1=.aL (ag g) 0/\T 4=bI a/\T 6=.ptr b 0 0/\T 11=uo/\T 12=gi i)
   ⟨.emp 1,[],by simp,y.emp 1 1,t1,t4,t6,rfl,rfl⟩ ?_
  clear y t1 t4 t6 hb
  rintro i k2 T3 H3 a7 ⟨uo,B,Z,z,t1,t4,t6,t11,t12⟩
  simp(disch:=omega)only[↓wr,seval,wq,sP,t1,t4,t6,t11,t12,bI]
  apply aj.dec<;>intro D
  .have f:i < (aY g a).length:=by omega
   have cS:=(u.item _ (aaI (getD_some (d:=[]) f))).1
   simp(disch:=omega)only[↓wr,seval,wq,t1,t4,t6,t11,t12]
   refine ba.up ((aY g a).getD i []).length (λk T H'=>∃ Q:V,cn H' b g a (.sl nl 0 (aY g a).length 1) (.sl nu 0 c.length 1) vs (aY g a) c false ((Q,2,nb ((((aY g a).getD i []).take k).filterMap λx=>if (aW g x).2=false/\0<=x.au then some ⟨x.au,rG g a i x⟩ else none)) :: (uo,1,ez B) :: Rw B) /\
    T 1=.aL (ag g) 0/\T 4=bI a/\T 6=.ptr b 0 0/\T 11=uo/\T 12=gi i/\T 13=Q/\T 14=gi k)
    ⟨.emp 1,z.emp 1 2,t1,t4,t6,t11,t12,rfl,rfl⟩ ?_
   clear z t1 t4 t6 t11 t12
   rintro k k3 T4 H4 O ⟨Q,j,t1,t4,t6,t11,t12,t13,t14⟩
   have G:=j.box
   have I:=(j.Ga (by omega)).1
   have J:=Eg f
   simp(disch:=omega)only[↓wr,seval,wq,sH,t1,t4,t6,t11,t12,t13,t14,G,fw,I,J,ll,bG]
   refine⟨f,f,?_⟩
   apply aj.dec<;>intro bl
   .have p:k < ((aY g a).getD i []).length:=by omega
    have L:((aY g a).getD i [])[k]?=some (((aY g a).getD i [])[k]'p):=aaB p
    have bn:=(u.item _ (aaI (getD_some (d:=[]) f))).2 _ (aaL p)
    have E:((aY g a).getD i []).take (k+1)=((aY g a).getD i []).take k ++ [((aY g a).getD i [])[k]'p]:=by rw[aa3,L];rfl
    generalize ((aY g a).getD i [])[k]'p=x at L bn E
    have hN:=Hy g u.Wl x (zp hf bn)
    rw[Fy,aaF (p8.2 ⟨u.right,bn⟩)] at hN
    have c3:=cf i k x L
    have br:vs[i]?=some (vs[i]'(by rw[j.len,w.1];exact f)):=aaB _
    generalize vs[i]'(by rw[j.len,w.1];exact f)=v at br
    have eH:=w.2 i
    have c4:i < vs.length:=by rw[j.len,w.1];exact f
    have da:i < c.length:=by rw[w.1];exact f
    obtain⟨nv,rfl,db⟩:=(j.row br).sl (by rw[mU];omega)
    have hw:(c.getD i [])[k]?=some (ey c i k):=getD_some (by omega)
    have dj:=(j.Qx (by omega)).1
    have dm:=List.length_filterMap_le (λx:ay=>if (aW g x).2=false/\0<=x.au then some (⟨x.au,rG g a i x⟩:dz) else none) (((aY g a).getD i []).take k)
    rw[abn] at dm
    rw[c3] at hw
    simp only[ag,encS,bu] at hN
    simp(disch:=omega)only[↓wr,seval,wq,t1,t4,t6,t11,t12,t13,t14,G,fw,I,J,ll,aV,aaE,L,aaH,bu,ag,encS]
    refine⟨f,f,?_⟩
    refine ax.pure hN ?_
    have skip:¬ ((aW g x).2=false/\0<=x.au)->(((aY g a).getD i []).take (k+1)).filterMap (λx=>if (aW g x).2=false/\0<=x.au then some (⟨x.au,rG g a i x⟩:dz) else none)=(((aY g a).getD i []).take k).filterMap (λx=>if (aW g x).2=false/\0<=x.au then some (⟨x.au,rG g a i x⟩:dz) else none):=λds=>by
     rw[E,List.filterMap_append]
     simp[ds]
    have take:((aW g x).2=false/\0<=x.au)->(((aY g a).getD i []).take (k+1)).filterMap (λx=>if (aW g x).2=false/\0<=x.au then some (⟨x.au,rG g a i x⟩:dz) else none)=(((aY g a).getD i []).take k).filterMap (λx=>if (aW g x).2=false/\0<=x.au then some (⟨x.au,rG g a i x⟩:dz) else none) ++ [⟨x.au,rG g a i x⟩]:=λcg=>by
     rw[E,List.filterMap_append]
     simp[cg]
    simp(disch:=omega)only[↓wr,seval,wq,t1,t4,t6,t11,t12,t13,t14]
    apply aj.split<;>intro bs
    .simp(disch:=omega)only[↓wr,seval,wq,t1,t4,t6,t11,t12,t13,t14]
     exact aG O p ⟨Q,by rw[skip (by simp[bs])];exact j,t1,t4,t6,t11,t12,t13,rfl⟩
    .simp(disch:=omega)only[↓wr,seval,wq,t1,t4,t6,t11,t12,t13,t14,G,fw,I,J,ll,aV,aaE,L,aaH,bu]
     refine⟨f,f,?_⟩
     apply aj.dec<;>intro h0
     .simp(disch:=omega)only[↓wr,seval,wq,t1,t4,t6,t11,t12,t13,t14,G,fw,I,J,ll,aV,aaE,L,aaH,bu,dj,EO br,db,xK hw,mU]
      refine⟨f,f,da,c4,by omega,by omega,?_⟩
      intro q hq
      simp(disch:=omega)only[↓wr,seval,wq,bz]
      refine cn.goApp (j.fresh hq) (by simp[aI]) (by unfold aC;rw[nb,aaJ];simp only[aaN,aa8];omega) (by unfold aC;rw[nb,aaJ];simp only[aaN,aa8];omega) ?_
      intro u2 H5 K
      simp(disch:=omega)only[↓wr,seval,wq,t1,t4,t6,t11,t12,t13,t14]
      exact aG O p ⟨u2,by rw[take ⟨bs,h0⟩,nb,aaW];exact K,t1,t4,t6,t11,t12,rfl,rfl⟩
     .simp(disch:=omega)only[↓wr,seval,wq,t1,t4,t6,t11,t12,t13,t14]
      exact aG O p ⟨Q,by rw[skip (by omega)];exact j,t1,t4,t6,t11,t12,t13,rfl⟩
   .simp(disch:=omega)only[↓wr,seval,wq,t1,t4,t6,t11,t12,t13,t14]
    have dv:=abN List.length Z
    simp only[aaJ,abn] at dv
    have ea:=j.Wz.cells
    have ch:=j.Wz.fL
    rw[aaS (by omega)] at j
    have eb:(fy g a)[i]?=some (fG g a i):=by rw[fy,aaE,aby (by omega)];rfl
    simp(disch:=omega)only[↓wr,seval,wq,t1,t4,t6,t11,t12,t13,t14,ea,ch]
    intro q hq
    simp(disch:=omega)only[↓wr,seval,wq,bz,t1,t4,t6,t11,t12,t13,t14]
    refine cn.goApp ((j.Wv (.swap _ _ _)).fresh hq) (by simp[ch]) (by unfold aC;simp[ez];omega) (by unfold aC;simp[ez];omega) ?_
    intro ec H5 K
    simp(disch:=omega)only[↓wr,seval,wq,t1,t4,t6,t11,t12]
    refine aG a7 (by omega) ⟨ec,B ++ [(Q,fG g a i)],?_,?_,t1,t4,t6,rfl,rfl⟩
    .rw[aaW,Z,aa3,eb];rfl
    .have e1:ez (B ++ [(Q,fG g a i)])=ez B ++ [[Q]]:=by simp[ez]
     have e2:Rw (B ++ [(Q,fG g a i)])=Rw B ++ [(Q,2,nb (fG g a i))]:=by simp[Rw]
     rw[e1,e2]
     exact K.Wv (.cons _ (acu _ _).symm)
  .simp(disch:=omega)only[↓wr,seval,wq,t11]
   rw[aaS (by simp[fy];omega)] at Z
   rintro h' rfl
   rw[<-Z]
   have ho:=(z.own.perm oI)
   refine lu (XB ho.head λx L=>ho.1 (x.1,2,nb x.2) (aaV _ (aaV _ (aaV _ (aaV _ (List.mem_append_right _ (aaX.2 ⟨x,L,rfl⟩)))))))
end Gv
