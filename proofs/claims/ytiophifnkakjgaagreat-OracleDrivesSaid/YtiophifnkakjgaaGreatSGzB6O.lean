/-
  Part 15 of the proof: what the machine does and what the functions answer.
  Conditions: those that each lemma names.
-/
import Derived.Test.YtiophifnkakjgaaGreatSGzB6N
set_option linter.unusedSimpArgs false
set_option linter.unusedVariables false
set_option maxRecDepth 100000
set_option maxHeartbeats 20000000
namespace Gv
open Go Go.Proofs
theorem Qy {g:ae} (hr:aO g=true) {w l:List Int} (hw:∀ x∈w,0<=x/\x < g.ai.length) {i j:Nat} (h:Sp g w l i j):i < j->∀ t:Nat,w[i]?=some (t:Int)->(dp (ak g false) (cq g (ak g false)) 0 l).getLsbD t=true:=by
 have q:=aK hr
 have y:=q.ai
 induction h with
 | nil=>exact λh=>absurd h (by omega)
 | term s l i j b d h z =>
  intro _ t a
  obtain⟨c,r,A⟩:=d
  rw[a] at r
  simp only[U7] at r
  have:=hw _ (Vc a)
  refine pk.2 (.inl ⟨b,?_⟩)
  have f:s=(t:Int):=by omega
  rw[f]
  exact(rN (by omega) _).2 rfl
 | dD s l R i k j b u v h1 B m n =>
  intro o t a
  have C:=h1.le
  refine pk.2 (.inr ⟨b,?_⟩)
  have e:(-1 - s).toNat=R.left.toNat:=by rw[v]
  rw[e]
  by_cases p:i < k
  .exact .inl (sf q _ u t (m p t a))
  .have hk:i=k:=by omega
   subst hk
   exact .inr ⟨ie hr u (zk hr h1 rfl),n o t a⟩
section
variable {g:ae} {a:List aR} {w:List Int}
def pE (a:List aR):Nat->List Int->List Int
 | _,[]=>[]
 | q,s :: l=>(ep a q s:Int) :: pE a (ep a q s) l
theorem D6:∀ (l:List Int) (q:Nat),(pE a q l).length=l.length
 | [],_=>rfl
 | s :: l,q=>by rw[pE,Vm,D6 l];rfl
theorem D8:∀ (l:List Int) (q b:Nat) (st:List Int),bM st=q->mc a q l b->bM (st ++ pE a q l)=b
 | [],q,b,st,h,hw=>by cases hw;simpa [pE] using h
 | s :: l,q,b,st,h,hw=>by
  cases hw with
  | cons _ hw =>
   have:=D8 l (ep a q s) b (st ++ [(ep a q s:Int)]) (j7 _ _) hw
   rw[pE]
   rwa [VR] at this
theorem FF {i:Nat} {x:Int} (h:w[i]?=some x):bJ g w i=x:=by
 unfold bJ
 rw[Va (Vf.1 h).1,U5,h];rfl
theorem En (hw:∀ x∈w,0<=x/\x < g.ai.length) (i:Nat):∃ t:Nat,bJ g w i=t/\t<=g.ai.length/\(i < w.length->t < g.ai.length/\w[i]?=some (t:Int))/\(w.length<=i->t=g.ai.length):=by
 by_cases h:i < w.length
 .have a:w[i]?=some (w[i]'h):=U6 h
  have:=hw _ (Vg h)
  refine⟨(w[i]'h).toNat,by rw[FF a];omega,by omega,λ_=>⟨by omega,by rw[a];congr 1;omega⟩,λb=>by omega⟩
 .exact⟨g.ai.length,by unfold bJ;rw[U8 h],Vh _,λb=>absurd b h,λ_=>rfl⟩
def mf (g:ae) (t:gn) (w:List Int) (st:List Int) (i:Nat) (st':List Int) (j:Nat):Prop:=∀ k rs,(gA g t w k st rs i).2.2=14∨∃ k' rs',gA g t w k st rs i=gA g t w k' st' rs' j
theorem mf.refl {t:gn} {st:List Int} {i:Nat} : mf g t w st i st i:=λk rs=>.inr ⟨k,rs,rfl⟩
theorem mf.trans {t:gn} {s1 s2 d:List Int} {i j k:Nat} (h:mf g t w s1 i s2 j) (a:mf g t w s2 j d k):mf g t w s1 i d k:=λn rs=>by
 rcases h n rs with h | ⟨e,b,h⟩
 .exact .inl h
 .rw[h]
  rcases a e b with a | ⟨k2,c,a⟩
  .exact .inl a
  .exact .inr ⟨k2,c,a⟩
theorem mf.shift {t:gn} {st:List Int} {i:Nat} {n:Int} (hi:i < w.length) (a:cX t (bM st) (bJ g w i)=⟨1,n⟩):mf g t w st i (st ++ [n]) (i+1):=λk rs=>by
 cases k with
 | zero =>
  left
  rw[gA]
  rw[a,U8 (λh=>by have:=h.1;simp at this),U8 (λh=>by simp at h;omega)]
 | succ k =>
  right
  refine⟨k,rs,?_⟩
  rw[gA]
  rw[a,U8 (λh=>by have:=h.1;simp at this),U8 (λh=>by simp at h;omega)]
  simp
theorem mf.reduce {t:gn} {st:List Int} {a:List Int} {i k:Nat} {n:Int} (b:st≠[]) (hp:a.length=(az g k).right.length) (c:cX t (bM (st ++ a)) (bJ g w i)=⟨2,k⟩) (d:kJ t (bM st) (az g k).left=n) (f:n≠-1):mf g t w (st ++ a) i (st ++ [n]) i:=λm rs=>by
 have j:0 < st.length:=WR.2 b
 have e:(st ++ a).take ((st ++ a).length - (az g k).right.length)=st:=by
  rw[Wf,<-hp,Nat.add_sub_cancel,List.take_left' rfl]
 cases m with
 | zero =>
  left
  rw[gA]
  rw[c,U8 (λh=>by have:=h.1;simp at this),U8 (λh=>by simp at h)]
 | succ m =>
  right
  refine⟨m,rs ++ [(k:Int)],?_⟩
  rw[gA]
  rw[c,U8 (λh=>by have:=h.1;simp at this),U8 (λh=>by simp at h)]
  simp only
  rw[U8 (by simp),U8 (by rw[Wf];omega),e,d,U8 f]
end
section
variable {g:ae} {a:List aR}
noncomputable def j9 (g:ae) (a:List aR):gn:=fy g a (dZ g a) a.length
theorem zW {i:Nat} (hi:i < a.length):(dZ g a).getD i []=ez g a i:=by
 rw[dZ,U5,U9,WS hi];rfl
theorem yU {i t:Nat} (hi:i < a.length) (b:t<=g.ai.length):cX (j9 g a) i t=(dd g (a.getD i bf) (ez g a i) i t).1:=by
 rw[j9,yE g a _ (by omega) (by omega),VD,zW hi]
theorem Cz (b:jc g a (dZ g a) a.length=[]) {i t:Nat} (hi:i < a.length) (c:t<=g.ai.length):(dd g (a.getD i bf) (ez g a i) i t).2=[]:=by
 have:=RK b hi (k:=t) (by omega)
 rwa [zW hi] at this
theorem Gw (f:cJ g a) {i:Nat} {s:Int} (he:dT a i s):dt a i [s]=((ep a i s:Int),true)/\gq (a.getD i bf).bI s=some ⟨1,ep a i s⟩:=by
 obtain⟨e,h1,k,l,m,h⟩:=f.ep he
 refine⟨h,?_⟩
 have b:=DW (g:=g) f.ok (gm he) s
 rw[h] at b
 cases d:gq (a.getD i bf).bI s with
 | none=>rw[d] at b;simp at b
 | some c =>
  rw[d] at b
  simp only[Vb,and_true] at b
  obtain⟨e',n,o,j⟩:=pa d
  rw[j] at b ⊢
  simp only at b
  rw[b]
theorem R6 (c:cJ g a) (d:jc g a (dZ g a) a.length=[]) {i t:Nat} (hi:i < a.length) (b:t<=g.ai.length) (he:dT a i t):cX (j9 g a) i t=⟨1,ep a i t⟩:=by
 have h1:eY g (a.getD i bf) t=⟨1,ep a i t⟩:=by unfold eY;rw[(Gw c he).2]
 have e:=K5 (l:=ez g a i) (i:=(i:Int)) (by rw[h1]) (Cz d hi b)
 rw[yU hi b,KT e,h1]
theorem Qu {s:BV} {t:Nat} (a:t<=31) (h:s.getLsbD t=true):hasB s t=true:=by
 unfold hasB
 rw[Vj]
 intro e
 have:(s &&& gX (t:Int)).getLsbD t=true:=by rw[BitVec.getLsbD_and,h,(rN a t).2 rfl];rfl
 rw[e] at this
 simp at this
theorem RG (c:cJ g a) (e:jc g a (dZ g a) a.length=[]) {i t k:Nat} (hi:i < a.length) (d:t<=g.ai.length) (hk:k < g.rules.length) (f:(⟨k,((az g k).right.length:Nat)⟩:aC)∈iA g a i) (h:jg g (ak g false) a (aL g a) i ⟨k,((az g k).right.length:Nat)⟩ t):cX (j9 g a) i t=⟨2,k⟩:=by
 have l:=c.dQ.ai
 have hm:(k:Int)∈dA (ez g a i) t:=by
  unfold dA
  refine Vv.2 ⟨_,VV.2 ⟨(vR c hi).2 ⟨k,hk,f,rfl⟩,?_⟩,rfl⟩
  exact Qu (by omega) ((CL (by omega)).2 h)
 have b:=Cz e hi d
 rw[yU hi d]
 unfold dd at b ⊢
 cases hr:dA (ez g a i) t with
 | nil=>rw[hr] at hm;simp at hm
 | cons r rs =>
  rw[hr] at b hm
  simp only at b ⊢
  split at b
  .rename_i j
   rw[Va j]
   simp only[jt,List.map_eq_nil_iff] at b
   subst b
   simp only[Vq,List.not_mem_nil,or_false] at hm
   rw[hm]
  .simp at b
theorem PD (d:jc g a (dZ g a) a.length=[]) {i:Nat} (hi:i < a.length) (f:(⟨-1,1⟩:aC)∈(a.getD i bf).aX) (he:¬ dT a i g.ai.length):cX (j9 g a) i g.ai.length=⟨3,0⟩:=by
 have b:=Cz d hi (Vh _)
 have h1:eY g (a.getD i bf) g.ai.length=⟨3,0⟩:=by
  unfold eY
  cases h:gq (a.getD i bf).bI g.ai.length with
  | some c =>
   obtain⟨e,j,k,l⟩:=pa h
   exact absurd ⟨e,j,k⟩ he
  | none=>simp only;rw[Va ⟨trivial,f⟩]
 rw[yU hi (Vh _)]
 unfold dd at b ⊢
 rw[h1] at b ⊢
 cases hr:dA (ez g a i) (g.ai.length:Nat) with
 | nil=>rfl
 | cons r rs=>rw[hr] at b;simp at b
theorem Rn (b:cJ g a) {q:Nat} {B:Int} (d:q < a.length) (c:0<=B/\B < g.ao.length) (he:dT a q (-1 - B)):kJ (j9 g a) q B=ep a q (-1 - B):=by
 rw[j9,DD g a _ (by omega) c,jR,(Gw b he).1]
 rfl
def zR (g:ae) (a:List aR) (w:List Int) (r:Int) (d q j:Nat):Prop :=
 (∃ k p:Nat,r=k/\k < g.rules.length/\dT a p (-1 - (az g k).left)/\mc a p ((az g k).right.take d) q/\∀ t:Nat,bJ g w j=t->tN g a p (az g k).left t)
 ∨ (r = -1/\(d=0->q=0)/\w.length<=j)
theorem zR.step {w:List Int} {r s:Int} {d q j:Nat} {l:List Int} (h:zR g a w r d q j) (f:(aG g r).drop d=s :: l) (he:dT a q s):zR g a w r (d+1) (ep a q s) j:=by
 rcases h with ⟨k,p,rfl,h1,i,b,m⟩ | ⟨h1,i,b⟩
 .refine .inl ⟨k,p,rfl,h1,i,?_,m⟩
  have c:aG g (k:Int)=(az g k).right:=by rw[aG,U8 (by omega)]
  rw[c] at f
  have e:(az g k).right[d]?=some s:=by rw[<-List.head?_drop,f];rfl
  rw[Vs,e]
  exact b.snoc he
 .exact .inr ⟨h1,λh=>by omega,b⟩
theorem zR.inner {w:List Int} (i:cJ g a) (c:aO g=true) (hw:∀ x∈w,0<=x/\x < g.ai.length) {r s:Int} {d q k j:Nat} {l:List Int} (h:zR g a w r d q j) (F:q < a.length) (G:(⟨r,d⟩:aC)∈iA g a q) (f:(aG g r).drop d=s :: l) (Q:s < 0) (R:j<=w.length) (n:Sp g w l k j) {t:Nat} (H:bJ g w k=t):tN g a q (-1 - s) t:=by
 obtain⟨n1,o,I⟩:=kK f
 obtain⟨s1,s2,J,K⟩:=i.step F G n1
 have es : -1 - (-1 - s)=s:=by omega
 have hle:=n.le
 obtain⟨u,E,S,L,M⟩:=En hw k
 have v:u=t:=by rw[E] at H;omega
 subst v
 by_cases y:k < j
 .obtain⟨v1,v2⟩:=L (by omega)
  have N:=Qy c hw n y u v2
  have z:=E3 i (Bv i) l (d+1) (ep a q s) K (by simpa using J) o N
  exact .read (Fk.read (by rw[es];exact z))
 .have hk:k=j:=by omega
  subst hk
  have b:=zk c n rfl
  rcases h with ⟨m,p,rfl,A,B,C,O⟩ | ⟨A,B,C⟩
  .have D:aG g (m:Int)=(az g m).right:=by rw[aG,U8 (by omega)]
   rw[D] at f o
   have e:(az g m).right[d]?=some s:=by rw[<-List.head?_drop,f];rfl
   exact .Lv (O u E) A B (by omega) (by rw[e,es]) C (by rw[o];exact b)
  .subst A
   have P:d=0:=by simp[aG] at I;omega
   subst P
   rw[B rfl,M C]
   simp[aG] at f
   rw[<-f.1]
   have : -1 - (-1 - g.start)=g.start:=by omega
   rw[this]
   exact .read .fin
theorem UW {w:List Int} (p:cJ g a) (hr:isRed g=true) (I:aO g=true) (U:jc g a (dZ g a) a.length=[]) (hw:∀ x∈w,0<=x/\x < g.ai.length) {l:List Int} {i j:Nat} (h:Sp g w l i j):j<=w.length->∀ (r:Int) (d q:Nat) (st:List Int),q < a.length->(⟨r,d⟩:aC)∈iA g a q->(aG g r).drop d=l->st≠[]->bM st=q->zR g a w r d q j->mf g (j9 g a) w st i (st ++ pE a q l) j:=by
 induction h with
 | nil i=>intro _ r d q st _ _ _ _ _ _;rw[pE,WH];exact .refl
 | term s l i j V Z h ih =>
  intro F r d q st u G A y f n
  obtain⟨n1,J,n3⟩:=kK A
  obtain⟨s1,s2,K,L⟩:=p.step u G n1
  have hle:=h.le
  obtain⟨c,B,an⟩:=Z
  have aq:=hw _ (Vc B)
  have M:c=s:=by omega
  subst M
  have N:=FF (g:=g) B
  have H:((c.toNat:Nat):Int)=c:=by omega
  have e:=R6 p U u (t:=c.toNat) (by omega) (by rw[H];exact s1)
  rw[H] at e
  have g1:mf g (j9 g a) w st i (st ++ [(ep a q c:Int)]) (i+1):=mf.shift (by omega) (by rw[f,N];exact e)
  have g2:=ih F r (d+1) (ep a q c) (st ++ [(ep a q c:Int)]) L (by simpa using K) J (by simp) (j7 _ _) (n.step A s1)
  rw[VR] at g2
  exact g1.trans g2
 | dD s l R i k j V W z h1 X O P =>
  intro F r d q st u G A y f n
  obtain⟨n1,J,n3⟩:=kK A
  obtain⟨s1,s2,K,L⟩:=p.step u G n1
  have hle:=X.le
  have es : -1 - (-1 - s)=s:=by omega
  obtain⟨m,hm,Q⟩:=Wi W
  have b:az g m=R:=by unfold az;rw[VD,U5,U6 hm,Q];rfl
  have C:aG g (m:Int)=R.right:=by rw[aG,U8 (by omega)];simp only[b]
  have o:=p.dQ.left _ W
  have v:dT a q (-1 - R.left):=by rw[z,es];exact s1
  have D:=rr p u o.1 hm (by rw[b]) v
  have Y:∀ t:Nat,bJ g w k=t->tN g a q R.left t:=λt H=>by
   rw[z];exact zR.inner p I hw n u G A V F X H
  have g1:=O (by omega) m 0 q st u (by simpa using D) (by rw[C];rfl) y f (.inl ⟨m,q,rfl,hm,by rw[b];exact v,by simp;exact .nil,by rw[b];exact Y⟩)
  obtain⟨q',z1,z2,z3⟩:=p.fwd m R.right 0 q u (by simpa using D) ⟨[],by rw[C];simp⟩
  obtain⟨t,t1,t2,_,_⟩:=En hw k
  have E:(⟨m,((az g m).right.length:Nat)⟩:aC)∈iA g a q':=by rw[b];simpa using z3
  have S:=(M7 p hr (t:=t) hm).2 ⟨q,by rw[b];exact z2,by rw[b];exact v,by rw[b];exact Y t t1⟩
  have e:=RG p U z1 t2 hm E S
  have T:=Rn p u o v
  have g2:mf g (j9 g a) w (st ++ pE a q R.right) k (st ++ [(ep a q s:Int)]) k:=by
   refine mf.reduce (k:=m) y (by rw[D6,b]) ?_ ?_ (by omega)
   .rw[D8 _ _ _ _ f z2,t1];exact e
   .rw[f,b,T,z,es]
  have g3:=P F r (d+1) (ep a q s) (st ++ [(ep a q s:Int)]) L (by simpa using K) J (by simp) (j7 _ _) (n.step A s1)
  rw[VR] at g3
  exact(g1.trans g2).trans g3
theorem RN {w:List Int} (b:cJ g a) (hr:isRed g=true) (i:aO g=true) (m:jc g a (dZ g a) a.length=[]) (hw:∀ x∈w,0<=x/\x < g.ai.length) (h:Sp g w [-1 - g.start] 0 w.length) (n:Nat):(gA g (j9 g a) w n [0] [] 0).2.2=0∨(gA g (j9 g a) w n [0] [] 0).2.2=14:=by
 have o:(⟨-1,0⟩:aC)∈iA g a 0:=(bY b.dQ (b.aX b.pos)).2 (.base (by rw[b.e.first];simp))
 have p:(aG g (-1)).drop 0=[-1 - g.start]:=by simp[aG]
 obtain⟨n1,u,v⟩:=kK (d:=0) p
 obtain⟨s1,s2,y,j⟩:=b.step b.pos o n1
 rcases UW b hr i m hw h (Vh _) (-1) 0 0 [0] b.pos (by simpa using o) p (by simp) rfl (.inr ⟨rfl,λ_=>rfl,Vh _⟩) n [] with h | ⟨q,r,h⟩
 .exact .inr h
 .left
  rw[h]
  have k:bJ g w w.length=g.ai.length:=by unfold bJ;rw[U8 (by omega)]
  have l:¬ dT a (ep a 0 (-1 - g.start)) g.ai.length:=λhe=>by
   obtain⟨x,s,t⟩:=(b.l7 j).1 he
   have:=Df (Ar b.dQ (b.has j s) t)
   omega
  have c:=PD m j (by simpa using s2) l
  have f:bM ([0] ++ pE a 0 [-1 - g.start])=(ep a 0 (-1 - g.start):Int):=j7 [0] _
  cases q <;> rw[gA] <;> rw[f,k,c,Va ⟨rfl,rfl⟩]
end
theorem Cl {l:List Int} : ∀ k:Nat,0<=ix l k->∃ m:Nat,m < k/\ix l k=m/\l.getD m 0 < 0
 | 0,h=>absurd h (by rw[ix];omega)
 | k+1,h=>by
  rw[ix] at h ⊢
  by_cases e:l.getD k 0 < 0
  .rw[Va e];exact⟨k,by omega,rfl,e⟩
  .rw[U8 e] at h ⊢
   obtain⟨m,h1,a,b⟩:=Cl k h
   exact⟨m,by omega,a,b⟩
theorem Jw {g:ae} {w:List Int} (hw:∀ x∈w,0<=x):∀ (l:List Int) (i:Nat),w.drop i=l->i<=w.length->Sp g w l i w.length
 | [],i,h,hi=>by
  have:=List.drop_eq_nil_iff.1 h
  have e:i=w.length:=by omega
  subst e
  exact .nil _
 | x :: l,i,h,hi=>by
  have a:w[i]?=some x:=by rw[<-List.head?_drop,h];rfl
  have b:=(Vf.1 a).1
  refine .term x l i _ (hw _ (Vc a)) ⟨x,a,.inl rfl⟩ (Jw hw l (i+1) ?_ (by omega))
  rw[<-List.drop_drop,h];rfl
theorem I6 {g:ae} {w:List Int} (hw:∀ x∈w,0<=x):∀ (rs f:List Int),Ad g rs f=some w->Sp g w f 0 w.length
 | [],f,h=>by
  rw[Ad,U7] at h
  exact Jw hw f 0 (by rw[h];rfl) (We _)
 | r :: rs,f,h=>by
  rw[Ad] at h
  split at h
  .simp at h
  .rename_i h1
   split at h
   .simp at h
   .rename_i o
    split at h
    .rename_i b
     obtain⟨m,m1,m2,m3⟩:=Cl (l:=f) f.length (by omega)
     rw[m2,VD] at h b
     have a:=I6 hw rs _ h
     rw[VR] at a
     obtain⟨k,c,k2⟩:=Sp.split a
     obtain⟨j,d,i⟩:=Sp.split k2
     have n:az g r∈g.rules:=by
      unfold az
      exact Vc (getD_some (by omega))
     have e:f=f.take m ++ f.getD m 0 :: f.drop (m+1):=by
      rw[U5,U6 m1,Vo,<-VL m1,List.take_append_drop]
     rw[e]
     exact c.app (.dD _ _ _ _ _ _ m3 n (by omega) d i)
    .simp at h
theorem Qx {g:ae} {a:List aR} (b:cJ g a):∀ i:Nat,∀ p∈(dZ g a).getD i [],∃ x∈cE g (a.getD i bf).aX,(bo g x).2=false/\0<=x.al/\p.al=x.al:=by
 intro i p hp
 by_cases hi:i < a.length
 .rw[zW hi] at hp
  obtain⟨k,h1,c,rfl⟩:=(vR b hi).1 hp
  exact⟨_,c,by rw[Nj],by simp only;omega,rfl⟩
 .rw[dZ,U5,Vx (by simp;omega)] at hp
  simp at hp
theorem LN {g:ae} (h:(bF g).2=0) {w:List Int} (hw:∀ x∈w,0<=x/\x < g.ai.length) :
  ((rS g (j9 g (bF g).1) w).2.2=0->me g w=true)/\(jc g (bF g).1 (dZ g (bF g).1) (bF g).1.length=[]->me g w=true->(rS g (j9 g (bF g).1) w).2.2≠3):=by
 obtain⟨hr,b,k⟩:=C2 h
 have a:aO g=true:=gQ hr
 unfold rS
 split
 .constructor
  .intro c
   have:=((HW b.dQ b.ok b.e b.pos (Qx b) hw 2000 [0] [] 0 [] .nil (We _) rfl).1 c).2
   exact(mj a w).2 (I6 (λx d=>(hw x d).1) _ _ this)
  .intro f i l
   rcases RN b hr a f hw ((mj a w).1 i) 2000 with j | j
   .omega
   .omega
 .exact⟨λh=>by simp at h,λ_ _ h=>by simp at h⟩
theorem Pw {g:ae} (a:g.de) {n:Nat} (b:n<=300) {c:Cell} (h:gI g n c=true):bD c.kind/\bD c.n:=by
 have:=a.rules
 unfold gI at h
 unfold bD
 split at h
 .simp at h;omega
 .split at h
  .simp at h;omega
  .split at h
   .simp at h;omega
   .simp at h
theorem R5 {g:ae} {t:gn} (h:iU g t=true):t.Ok:=by
 have F:=ud h
 have b:=aK F.right
 have k:=b.ai;have l:=b.ao;have j:=F.n300
 refine⟨by unfold aH;omega,by unfold aH;have:=F.len;omega,λr hr=>?_,λr hr=>?_⟩
 .obtain⟨i,hi,e⟩:=V4.1 hr
  have d:t.aY.getD i []=r:=by rw[U5,U6 hi,e];rfl
  obtain⟨h1,_,a,_⟩:=F.nC hi
  rw[d] at h1 a
  exact⟨by unfold aH;omega,λc f=>Pw b j (a c f)⟩
 .obtain⟨i,hi,e⟩:=V4.1 hr
  have d:t.gotos.getD i []=r:=by rw[U5,U6 hi,e];rfl
  obtain⟨_,h1,_,a⟩:=F.nC (i:=i) (by have:=F.len;omega)
  rw[d] at h1 a
  exact⟨by unfold aH;omega,λc f=>by have:=a c f;unfold bD;omega⟩
theorem Rl {g:ae} (h:(bF g).2=0):(j9 g (bF g).1).Ok:=by
 obtain⟨hr,b,a⟩:=C2 h
 exact R5 (OF b (gQ hr) a λi x c=>((Rk h).fact i x c).1)
def w9 (ls:List (List aC)):List (List V):=ls.map λl=>[.aS (bA l)]
def eh (g:ae) (a:List aR) (ul us:V) (more:Bool):List V:=[.aS (g.ai.map cO),.aS (g.ao.map λs=>[gs s]),.aS (g.rules.map aW),gi g.start,bU a,ul,us,gb more]
def tJ:List V->Sets->List eC
 | v :: vs,s :: ss=>(v,1,dJ s) :: tJ vs ss
 | _,_=>[]
structure bN (H:View) (b:Nat) (g:ae) (a:List aR) (ul us:V) (vs:List V) (ls:List (List aC)) (ss:Sets) (more:Bool) (L:List eC):Prop where
 len:vs.length=ss.length
 own:bH H ((.sl b 0 1 8,8,[eh g a ul us more]) :: (ul,1,w9 ls) :: (us,1,vs.map λv=>[v]) :: (tJ vs ss ++ L))
theorem wD:∀ (vs:List V) (ss:Sets) (i:Nat) (v:V),vs.length=ss.length->vs[i]?=some v->∃ P Q,tJ vs ss=P ++ (v,1,dJ (ss.getD i [])) :: Q/\∀ r,tJ vs (ss.set i r)=P ++ (v,1,dJ r) :: Q
 | [],_,i,v,_,h=>by simp at h
 | x :: vs,[],i,v,h,_=>by simp at h
 | x :: vs,s :: ss,0,v,_,h=>by
  simp at h;subst h
  exact⟨[],tJ vs ss,rfl,λr=>rfl⟩
 | x :: vs,s :: ss,i+1,v,a,h=>by
  obtain⟨P,Q,h1,b⟩:=wD vs ss i v (by simpa using a) (by simpa using h)
  refine⟨(x,1,dJ s) :: P,Q,?_,λr=>?_⟩
  .simp[tJ,h1]
  .simp[tJ,b]
section
variable {H:View} {b:Nat} {g:ae} {a:List aR} {ul us:V} {vs:List V} {ls:List (List aC)} {ss:Sets} {more:Bool} {L:List eC}
theorem bN.box (h:bN H b g a ul us vs ls ss more L):H b=.arr 8 [eh g a ul us more]:=h.own.is 0 rfl (by simp)
theorem bN.lists (h:bN H b g a ul us vs ls ss more L) (c:0 < ls.length):∃ n,ul=.sl n 0 ls.length 1/\H n=.arr 1 (w9 ls):=by
 obtain⟨n,h1,d⟩:=(h.own.own 1 rfl).sl (by simpa [w9] using c)
 exact⟨n,by simpa [w9] using h1,d⟩
theorem bN.fA (h:bN H b g a ul us vs ls ss more L) (c:0 < ss.length):∃ n,us=.sl n 0 ss.length 1/\H n=.arr 1 (vs.map λv=>[v]):=by
 obtain⟨n,h1,d⟩:=(h.own.own 2 rfl).sl (by simpa [h.len] using c)
 exact⟨n,by simpa [h.len] using h1,d⟩
theorem bN.CM {n k:Nat} (h:bN H b g a (.sl n 0 k 1) us vs ls ss more L) (c:0 < ls.length):H n=.arr 1 (w9 ls)/\k=ls.length:=by
 obtain⟨m,h1,d⟩:=h.lists c
 simp only[V.sl.injEq] at h1
 obtain⟨rfl,_,rfl,_⟩:=h1
 exact⟨d,rfl⟩
theorem bN.Mp {n k:Nat} (h:bN H b g a ul (.sl n 0 k 1) vs ls ss more L) (c:0 < ss.length):H n=.arr 1 (vs.map λv=>[v])/\k=ss.length:=by
 obtain⟨m,h1,d⟩:=h.fA c
 simp only[V.sl.injEq] at h1
 obtain⟨rfl,_,rfl,_⟩:=h1
 exact⟨d,rfl⟩
theorem bN.row (h:bN H b g a ul us vs ls ss more L) {i:Nat} {v:V} (c:vs[i]?=some v):aZ H v 1 (dJ (ss.getD i [])):=by
 obtain⟨P,Q,h1,_⟩:=wD vs ss i v h.len c
 refine h.own.1 (v,1,dJ (ss.getD i [])) (Vt _ (Vt _ (Vt _ (List.mem_append_left _ ?_))))
 rw[h1];simp
theorem Hf {α:Type} {x y z e:α} {P Q L:List α} : (x :: y :: z :: ((P ++ e :: Q) ++ L)).Perm (e :: x :: y :: z :: ((P ++ Q) ++ L)):=by
 have h:((P ++ e :: Q) ++ L).Perm (e :: ((P ++ Q) ++ L)):=by
  simp
 exact(((h.cons z).cons y).cons x).trans (WD (a:=e) (l₁:=[x,y,z]) (l₂:=(P ++ Q) ++ L))
theorem bN.put (h:bN H b g a ul us vs ls ss more L) {i n k:Nat} (c:vs[i]?=some (.sl n 0 k 1)) {r:List BV} (hr:r.length=(ss.getD i []).length) (hk:k=(ss.getD i []).length):bN (H.set n (.arr 1 (dJ r))) b g a ul us vs ls (ss.set i r) more L:=by
 obtain⟨P,Q,h1,d⟩:=wD vs ss i _ h.len c
 refine⟨by rw[List.length_set];exact h.len,?_⟩
 have o:=h.own
 rw[h1] at o
 have e:=(o.perm Hf).put (es':=dJ r) (by simp[hr]) (by simp[hk])
 rw[d]
 exact e.perm Hf.symm
theorem bN.flag (h:bN H b g a ul us vs ls ss more L) (m:Bool):bN (H.set b (.arr 8 [eh g a ul us m])) b g a ul us vs ls ss m L:=⟨h.len,h.own.put rfl rfl⟩
theorem bN.fresh (h:bN H b g a ul us vs ls ss more L) {n:Nat} {o:bT} (c:H n=.dead):bN (H.set n o) b g a ul us vs ls ss more L:=⟨h.len,h.own.fresh c⟩
end
theorem Bo {ls:List (List aC)} {i:Nat} (h:i < ls.length):(w9 ls).getD i []=[.aS (bA (ls.getD i []))]:=by simp[w9,U5,h]
theorem BE {vs:List V} {i:Nat} {v:V} (h:vs[i]?=some v):(vs.map λv=>[v]).getD i []=[v]:=by simp[U5,h]
def jK:SC :=
 af [af [ab [aa 9 8,aa 10 0,ed 11 10,au 12 5 11,aj 13 12,aa 14 1,aM 15 1 13 14,aj 16 15,aP 17 16,aV 18 .lss 9 17],bW 18 (.exit 0)],.block 1 (af [.region false [⟨none,[aa 21 0,ed 22 21,au 23 5 22,aj 24 23,aa 25 1,aM 26 1 24 25,aj 27 26,aa 28 8,aM 29 2 27 28,aU 30 2 29,aU 31 2 6,((some 32),.op (.old (.binOp .eql 120 (.tmp 30) (.tmp 31) 120) 4)),aa 33 32]⟩,⟨(some (33,true)),[aa 34 3,aa 35 0,ed 36 35,au 37 6 36,aj 38 37,aa 39 1,aM 40 1 38 39,aj 41 40,aa 42 8,aM 43 1 41 42,aj 44 43,aV 45 .andNot 34 44,((some 46),.op (.arith .neq (.tmp 45) (.val (.val (.int .u32 0)))))]⟩,⟨none,[c8 47 33 46]⟩],bg 47 (af [ab [aa 48 0,ed 49 48,au 50 6 49,aj 51 50,aa 52 1,aM 53 1 51 52,aj 54 53,aa 55 8,aa 56 0,ed 57 56,au 58 6 57,aj 59 58,aa 60 1,aM 61 1 59 60,aj 62 61,aa 63 8,aM 64 1 62 63,aj 65 64,aa 66 3,aV 67 .or 65 66,aM 68 1 54 55,cG 1 68 67],ab [aa 69 0,ed 70 69,au 71 7 70,(none,.op (.store 1 (.tmp 71) (.val (.val (.bool true)))))]])]),ab [aa 19 8,aE 20 .add 19 1,aa 8 20]]
def ln:SF:=⟨af [ab [cd 6 2],ab [aT 8 0],bX 0 jK],
 [],72⟩
theorem qP:aQ Tryz.prog 97 [6]=some ln:=by kernel_rfl
def fR (l:List aC) (row:List BV) (x:aC) (s:BV) (i:Nat):List BV:=(iz l row x s).take i ++ row.drop i
theorem Nk {l:List aC} {row:List BV} {x:aC} {s:BV} (h:row.length=l.length) (i:Nat) (hi:i<=l.length):(fR l row x s i).length=row.length:=by
 simp[fR,jE h];omega
theorem N0 {l:List aC} {row:List BV} {x:aC} {s:BV} (h:row.length=l.length) {i:Nat} (hi:i < l.length):(fR l row x s i)[i]?=row[i]?:=by
 unfold fR
 rw[VQ (by simp[jE h];omega)]
 simp[jE h,W8 (show i<=row.length by omega)]
theorem Ly {l:List aC} {row:List BV} {x:aC} {s:BV} (h:row.length=l.length) {i:Nat} {y:aC} {v:BV} (a:l[i]?=some y) (b:row[i]?=some v):fR l row x s (i+1)=if y=x then (fR l row x s i).set i (v ||| s) else fR l row x s i:=by
 have hi:=(Vf.1 a).1
 have c:(iz l row x s)[i]?=some (if y=x then v ||| s else v):=by simp[iz,List.getElem?_zipWith,a,b]
 have d:row.drop i=v :: row.drop (i+1):=by
  obtain⟨q,e⟩:=Vf.1 b
  rw[VL q,e]
 have f:((iz l row x s).take i).length=i:=by simp[jE h];omega
 unfold fR
 rw[Vs,c,d]
 split
 .rw[List.set_append_right _ _ (by omega),f,Nat.sub_self,List.set_cons_zero]
  simp
 .simp
theorem GG {α:Type} {l:List α} {i:Nat} {d:α} (h:i < l.length):l.set i (l.getD i d)=l:=by
 rw[U5,U6 h]
 exact List.set_getElem_self h
theorem jz (ls:List (List aC)):(w9 ls).length=ls.length:=by simp[w9]
theorem N6 (l:List BV) (i:Nat) (z:BV):(dJ l).set i [gw z]=dJ (l.set i z):=by rw[dJ,dJ,List.map_set]
theorem kI (l:List BV):(dJ l).length=l.length:=by simp
theorem MU {α:Type} (l:List α) (i:Nat) (x y:α):(l.set i x).set i y=l.set i y:=by simp
theorem Im {α:Type} {l:List α} {i:Nat} {r d:α} (h:i < l.length):l.set i r=l↔r=l.getD i d:=by
 constructor
 .intro e
  have a:(l.set i r).getD i d=l.getD i d:=by rw[e]
  rw[kc,Va ⟨rfl,h⟩] at a
  exact a
 .rintro rfl;exact GG h
theorem CZ (g:ae) (a:List aR) (ul us:V) (vs:List V) (ls:List (List aC)) (ss:Sets) (more:Bool) (L:List eC) (b:Nat) (H:View) (c:bN H b g a ul us vs ls ss more L) (F:jy ls ss) (Q:∀ l∈ls,l.length<=10000) (st:Nat) (n:st < ls.length) (x:aC) (s:BV) :
  aw Tryz.prog 97 [.ptr b 0 0,gi st,.agg (bC x),gw s] H λ_ H'=>bN H' b g a ul us vs ls (eJ ls ss st x s) (more || decide (eJ ls ss st x s≠ss)) L:=by
 refine aw.of mixed qP ?_
 have f:st < ss.length:=by rw[F.1];exact n
 have Y:=Bo n
 have an:=Q _ (Vc (getD_some (d:=[]) n))
 have u:=F.2 st
 have G:vs[st]?=some (vs[st]'(by rw[c.len];exact f)):=U6 _
 generalize vs[st]'(by rw[c.len];exact f)=v at G
 obtain⟨nl,rfl,_⟩:=c.lists (by omega)
 obtain⟨Z,rfl,_⟩:=c.fA (by omega)
 simp(disch:=omega)only[↓wr,seval,wq,ln,bC]
 unfold eJ
 generalize ls.getD st []=l at *
 generalize B:ss.getD st []=row at *
 refine bc.up l.length (λi T H'=>∃ m:Bool,(m=(more || decide (fR l row x s i≠row)))/\bN H' b g a (.sl nl 0 ls.length 1) (.sl Z 0 ss.length 1) vs ls (ss.set st (fR l row x s i)) m L/\T 0=.ptr b 0 0/\T 1=gi st/\T 3=gw s/\T 6=.aF (bC x) 0/\T 8=gi i) ?_ ?_
 .have P:fR l row x s 0=row:=by simp[fR]
  refine⟨more,by rw[P];simp,?_,rfl,rfl,rfl,rfl,rfl⟩
  rw[P,<-B,GG f]
  exact c
 rintro i k T H' hk ⟨m,hm,c,t0,t1,t3,t6,t8⟩
 have I:=c.box
 have J:=(c.CM (by omega)).1
 simp(disch:=omega)only[↓wr,seval,wq,jK,t0,t1,t3,t6,t8,I,eh,J,Y,jz,gj]
 refine⟨n,n,?_⟩
 apply ah.dec<;>intro t
 .have j:i < l.length:=by omega
  have R:l[i]?=some (l[i]'j):=U6 j
  have hw:row[i]?=some (row[i]'(by omega)):=U6 (by omega)
  generalize l[i]'j=y at R
  generalize row[i]'(by omega)=w at hw
  have o:=N0 (x:=x) (s:=s) u j
  rw[hw] at o
  have S:=Nk (x:=x) (s:=s) u i (by omega)
  have p:=Ly (x:=x) (s:=s) u R hw
  have C:(ss.set st (fR l row x s i)).getD st []=fR l row x s i:=by rw[kc,Va ⟨rfl,f⟩]
  have K:=c.row G
  rw[C] at K
  obtain⟨nv,z,A⟩:=K.sl (by rw[kI];omega)
  have M:=(c.Mp (by rw[List.length_set];omega)).1
  have U:¬ b=nv:=by rintro rfl;rw[I] at A;simp at A
  rw[kI] at z
  generalize aq:fR l row x s i=cur at *
  simp(disch:=omega)only[↓wr,seval,wq,t0,t1,t3,t6,t8,I,eh,J,Y,jz,bA,U9,R,Ve,bC]
  refine⟨n,n,?_⟩
  refine lM (xs:=#[.int .i64 y.al,.int .i64 y.dot]) (ys:=#[.int .i64 x.al,.int .i64 x.dot]) Tryz.underlying120 (by kernel_rfl) (by kernel_rfl) ?_ ?_ (tn y x) (.inl ⟨rfl,rfl⟩) ?_
  .rfl
  .rfl
  rw[Bi]
  simp(disch:=omega)only[↓wr,seval,wq,t0,t1,t3,t6,t8]
  have same:fR l row x s (i+1)=cur->∀ D:Env,D 0=.ptr b 0 0->D 1=gi st->D 3=gw s->D 6=.aF (bC x) 0->D 8=gi ((i:Int)+1)->∃ k',k' < k/\BJ l.length k' (λi T H'=>∃ m:Bool,(m=(more || decide (fR l row x s i≠row)))/\bN H' b g a (.sl nl 0 ls.length 1) (.sl Z 0 ss.length 1) vs ls (ss.set st (fR l row x s i)) m L/\T 0=.ptr b 0 0/\T 1=gi st/\T 3=gw s/\T 6=.aF (bC x) 0/\T 8=gi i) D H':=λe D P e1 e3 e6 e8 =>
   aI hk j ⟨m,by rw[e];exact hm,by rw[e];exact c,P,e1,e3,e6,e8⟩
  apply ah.dec<;>intro he
  rotate_left
  .rw[U8 he] at p
   simp(disch:=omega)only[↓wr,seval,wq,t0,t1,t3,t6,t8]
   exact same p _ t0 t1 t3 t6 rfl
  rw[Va he] at p
  simp(disch:=omega)only[↓wr,seval,wq,t0,t1,t3,t6,t8,I,eh,M,BE G,z,A,vg o,PC]
  refine⟨by omega,by rw[c.len,List.length_set];omega,by omega,by omega,?_⟩
  apply ah.ne<;>intro W
  .have E:¬ nW s w:=λh=>W (toNat_zero.2 (zA.2 h))
   have t:=c.put (r:=cur.set i (w ||| s)) (by rw[<-z];exact G) (by rw[C,List.length_set]) (by rw[C])
   rw[MU] at t
   have ar:=t.box
   simp(disch:=omega)only[↓wr,seval,wq,t0,t1,t3,t6,t8,I,eh,M,BE G,z,A,vg o,HA,N6,U]
   have N:st < vs.length:=by rw[c.len,List.length_set];exact f
   have X:fR l row x s (i+1)≠row:=λe=>by
    have h1:(cur.set i (w ||| s))[i]?=some (w ||| s):=by rw[WU (by omega)]
    rw[<-p,e,hw] at h1
    simp only[U7] at h1
    rw[BitVec.or_comm] at h1
    exact E (Dd.1 h1.symm)
   refine⟨f,N,f,N,by omega,by omega,by omega,by omega,aI hk j ⟨true,by rw[Wn X,Bool.or_true],?_,t0,t1,t3,t6,rfl⟩⟩
   rw[p]
   exact t.flag true
  .have O:nW s w:=zA.1 (toNat_zero.1 W)
   simp(disch:=omega)only[↓wr,seval,wq,t0,t1,t3,t6,t8]
   refine same ?_ _ t0 t1 t3 t6 rfl
   rw[p,show w ||| s=w by rw[BitVec.or_comm];exact Dd.2 O]
   obtain⟨q,e⟩:=Vf.1 o
   rw[<-e];exact List.set_getElem_self q
 .have j:i=l.length:=by omega
  have e:fR l row x s i=iz l row x s:=by
   subst j
   unfold fR
   rw[Vn (by rw[jE u];omega),VA (by omega),WH]
  rw[e] at hm c
  simp(disch:=omega)only[↓wr,seval,wq]
  rw[hm] at c
  rw[show decide (ss.set st (iz l row x s)≠ss)=decide (iz l row x s≠row) by
   simp only[ne_eq,Im (d:=[]) f,B]]
  exact c
theorem mA {α:Type} {x y z e:α} {Z L:List α} : (x :: y :: z :: (Z ++ e :: L)).Perm (e :: x :: y :: z :: (Z ++ L)) :=
 ((((WD (a:=e) (l₁:=Z) (l₂:=L)).cons z).cons y).cons x).trans (WD (a:=e) (l₁:=[x,y,z]) (l₂:=Z ++ L))
section
variable {H:View} {b:Nat} {g:ae} {a:List aR} {ul us:V} {vs:List V} {ls:List (List aC)} {ss:Sets} {more:Bool} {L:List eC}
theorem bN.Ul (h:bN H b g a ul us vs ls ss more L) {n:Nat} (c:H n=.dead) (sz:Nat) (es:List (List V)):bN (H.set n (.arr sz es)) b g a ul us vs ls ss more ((.sl n 0 es.length sz,sz,es) :: L) :=
 ⟨h.len,(h.own.new c sz es).perm mA.symm⟩
theorem bN.drop {e:eC} (h:bN H b g a ul us vs ls ss more (e :: L)):bN H b g a ul us vs ls ss more L :=
 ⟨h.len,(h.own.perm mA).tail⟩
theorem bN.Sh {n k sz:Nat} {es:List (List V)} (h:bN H b g a ul us vs ls ss more ((.sl n 0 k sz,sz,es) :: L)) (he:0 < es.length):H n=.arr sz es :=
 (h.own.perm mA).is 0 rfl he
end
theorem HJ {a s1 s2:Sets} (h:jv a s1) (k:jv s1 s2):(decide (s1≠a) || decide (s2≠s1))=decide (s2≠a):=by
 rw[V1]
 simp only[VP,Vj]
 constructor
 .rintro (e | e) b
  .subst b;exact e (k.qN h)
  .subst b;exact e (h.qN k)
 .intro e
  by_cases c:s1=a
  .exact .inr (by rw[c];exact e)
  .exact .inl c
theorem QD {g:ae} (hr:aO g=true) {x:aC} (b:cD g x) (s:BV):Iz g (cY g x) s=dp (ak g false) (cq g (ak g false)) s (cY g x):=by
 have h:aO g=true/\∀ s∈cY g x,gB g s=true:=⟨hr,λy a=>by
  unfold cY at a
  split at a
  .have c:g.rules[x.al.toNat]?=some (az g x.al):=by unfold az;exact getD_some (by have:=b.1;omega)
   exact(aK hr).sym _ (Vc c) y (List.mem_of_mem_drop a)
  .simp at a⟩
 rw[Iz,Va h]
structure M4 (g:ae) (a:List aR) (ls:List (List aC)):Prop where
 QS:g.Ok
 right:aO g=true
 len:ls.length=a.length
 LV:1<=a.length
 short:a.length<=300
 bI:∀ s∈a,aH s.bI/\∀ e∈s.bI,bD e.sym/\bD e.to
 item:∀ l∈ls,l.length<=10000/\∀ x∈l,cD g x
def jY:SC :=
 af [af [ab [aa 96 13,aa 97 0,ed 98 97,au 99 0 98,au 100 2 99,aj 101 100,aP 102 101,aV 103 .lss 96 102],bW 103 (.exit 0)],.block 1 (af [ab [aa 106 0,ed 107 106,au 108 0 107,au 109 2 108,aj 110 109,aa 111 13,aM 112 3 110 111,au 113 0 112,aj 114 113,aa 115 8,((some 116),.op (.arith .sub (.val (.val (.int .i64 (-1)))) (.tmp 115))),aV 117 .eql 114 116],bg 117 (ab [aa 118 0,aa 119 1,aa 120 13,((some 121),.op (.build [(.val (.int .i64 0)),(.val (.int .i64 0))] [(0,1,(.tmp 120))])),aa 122 7,ba 123 97 [118,119,121,122]])]),ab [aa 104 13,aE 105 .add 104 1,aa 13 105]]
def k8:SF:=⟨af [ab [aa 14 0,ed 15 14,au 16 5 15,aj 17 16,aa 18 1,aM 19 1 17 18,aj 20 19,aa 21 2,aM 22 2 20 21,aU 23 2 22,aa 24 0,ed 25 24,au 26 6 25,aj 27 26,aa 28 1,aM 29 1 27 28,aj 30 29,aa 31 2,aM 32 1 30 31,aj 33 32,((some 6),.op (.alloc [(.val (.int .i64 0)),(.val (.int .i64 0))])),cG 2 6 23,aa 7 33],ab [aa 35 0,ed 36 35,au 37 0 36,aU 38 4 37,aU 39 2 6,ba 40 100 [38,39],aa 34 40,cZ 41 0 34,cZ 42 1 34,aa 8 41,aa 9 42],af [.region false [⟨none,[aa 43 9,cb 44 43,aa 45 44]⟩,⟨(some (45,false)),[aa 46 7,((some 47),.op (.arith .eql (.tmp 46) (.val (.val (.int .u32 0)))))]⟩,⟨none,[bP 48 45 47]⟩],bg 48 (.ret)],ab [aa 50 0,ed 51 50,au 52 4 51,aj 53 52,aa 54 1,aa 55 8,((some 56),.op (.bG 1 1 [(.val (.int .i64 0))] [(0,(.tmp 55))])),ba 57 33 [53,54,56],aa 49 57,cZ 58 0 49,cZ 59 1 49,aa 10 58,aa 11 59],ab [aa 60 0,aa 61 10,au 62 0 6,aj 63 62,au 64 1 6,aj 65 64,aE 66 .add 65 1,((some 67),.op (.build [(.val (.int .i64 0)),(.val (.int .i64 0))] [(0,1,(.tmp 63)),(1,1,(.tmp 66))])),aa 68 7,ba 69 97 [60,61,67,68]],af [ab [aa 70 8,aE 71 .geq 70 0],bg 71 (.ret)],ab [ct 12 1],af [ab [au 72 0 6,aj 73 72,aE 74 .geq 73 0],bg 74 (ab [aa 75 0,ed 76 75,au 77 0 76,au 78 2 77,aj 79 78,au 80 0 6,aj 81 80,aM 82 3 79 81,au 83 1 82,aj 84 83,au 85 1 6,aj 86 85,aE 87 .add 86 1,((some 88),.op (.slice 1 (.tmp 84) (some (.tmp 87)) none)),aa 12 88])],ab [aa 89 0,ed 90 89,au 91 0 90,aU 92 4 91,aa 93 12,aa 94 7,ba 95 167 [92,93,94],aa 7 95],ab [aT 13 0],bX 0 jY],
 [],124⟩
theorem qM:aQ Tryz.prog 99 []=some k8:=by kernel_rfl
theorem wu {g:ae} (a:g.de) {x:aC} (h:cD g x):bD x.al/\bD x.dot:=by
 have:=iJ a h.1
 have:=a.rules
 obtain⟨⟨h1,b⟩,c,d⟩:=h
 unfold bD;omega
theorem dh.nil {H:View} {k:Nat} : dh H (.emp k) (encI []):=λ_ _=>.emp k
theorem Rs (g:ae) (a:List aR) (ul us:V) (vs:List V) (ls:List (List aC)) (ss:Sets) (more:Bool) (L:List eC) (b:Nat) (H:View) (r:M4 g a ls) (A:bN H b g a ul us vs ls ss more L) (t:jy ls ss) (i k:Nat) (hi:i < ls.length) (hk:k < (ls.getD i []).length) :
  aw Tryz.prog 99 [.ptr b 0 0,gi i,gi k] H λ_ H'=>bN H' b g a ul us vs ls (ij g (ak g false) a ls i k ss) (more || decide (ij g (ak g false) a ls i k ss≠ss)) L:=by
 refine aw.of mixed qM ?_
 have U:=aK r.right
 have W:∀ l∈ls,l.length<=10000:=λl hl=>(r.item l hl).1
 have X:=r.len
 have cg:=r.short
 have cj:=U.rules
 have B:i < ss.length:=by rw[t.1];exact hi
 have hl:=Bo hi
 have br:=r.item _ (Vc (getD_some (d:=[]) hi))
 have ck:=t.2 i
 have hx:(ls.getD i [])[k]?=some ((ls.getD i []).getD k ⟨0,0⟩):=getD_some hk
 have hw:(ss.getD i [])[k]?=some (du ss i k):=getD_some (by omega)
 have c:=br.2 _ (Vc hx)
 have u:=Gr (null:=ak g false) (g:=g) X r.LV hi k t
 have hv:vs[i]?=some (vs[i]'(by rw[A.len];exact B)):=U6 _
 generalize vs[i]'(by rw[A.len];exact B)=v at hv
 obtain⟨nl,rfl,Y⟩:=A.lists (by omega)
 obtain⟨nu,rfl,Z⟩:=A.fA (by omega)
 obtain⟨nv,rfl,an⟩:=(A.row hv).sl (by rw[kI];omega)
 have bs:i < vs.length:=by rw[A.len];exact B
 have hb:=A.box
 unfold ij at u ⊢
 generalize (ls.getD i []).getD k ⟨0,0⟩=x at *
 generalize du ss i k=w at *
 have f:=DH g r.QS x (wu U c)
 rw[AS,Va (nR.2 ⟨r.right,c⟩)] at f
 have G:=QD r.right c
 cases I:bo g x with
 | mk sym b0 =>
 have cr:=Cv U c I
 have ch:=wu U c
 have b1:=iJ U c.1
 have cu:0<=x.dot/\x.dot<=6:=⟨c.2.1,by have:=c.2.2;omega⟩
 rw[I] at f u
 simp only[ag,encS,bC] at f
 simp(disch:=omega)only[↓wr,seval,wq,k8,hb,eh,Y,hl,jz,bA,U9,hx,Ve,bC,Z,BE hv,an,vg hw,kI]
 refine⟨hi,hi,B,bs,by omega,by omega,?_⟩
 intro bx J
 rw[set_set]
 have m:=A.Ul J 2 [[gi x.al,gi x.dot]]
 have K:=m.box
 have aq:=m.Sh (by simp)
 have b2:¬ b=bx:=by rintro rfl;rw[hb] at J;simp at J
 simp(disch:=omega)only[↓wr,seval,wq,b2]
 refine av.pure f ?_
 generalize H.set bx (.arr 2 [[gi x.al,gi x.dot]])=H1 at m K aq ⊢
 clear A Y Z an hb
 simp(disch:=omega)only[↓wr,seval,wq]
 cases b0 with
 | false =>
  simp(disch:=omega)only[↓wr,seval,wq]
  simp
  exact m.drop
 | true =>
  simp(disch:=omega)only[↓wr,seval,wq]
  apply ah.eq<;>intro hz
  .have y:w=0#32:=toNat_zero.1 hz
   simp(disch:=omega)only[↓wr,seval,wq]
   rw[Va y]
   simp
   exact m.drop
  .have y:¬ w=0#32:=λe=>hz (toNat_zero.2 e)
   rw[U8 (λh=>h.elim (by simp) y)] at u
   simp only at u
   have b3:=ED a (by unfold aH;omega) r.bI i [sym] (by unfold aH;simp)
   have z:=sn X r.LV i [sym]
   have cv:0<=(dt a i [sym]).1:=by
    unfold dt
    split
    .simp
    .exact(yK (a:=a) _ _ (by omega) (by omega)).1
   simp(disch:=omega)only[↓wr,seval,wq,K,eh]
   intro q hq
   refine av.xY b3 (by kernel_rfl) (.bm _ λj hj=>by
    match j,hj with
    | 0,_=>exact⟨_,rfl⟩
    | 1,_=>exact⟨_,rfl⟩) ⟨.tree (pC a),.tree (.val _),fO (l:=[sym]) (by simp[View.set]) rfl,trivial⟩ ?_
   have M:=m.fresh (o:=.arr 1 [[gi sym]]) hq
   have ar:=M.Sh (by simp)
   generalize H1.set q (.arr 1 [[gi sym]])=H2 at M ar ⊢
   clear m K aq hq
   generalize (dt a i [sym]).1=to at *
   obtain⟨a1,rfl⟩:∃ n:Nat,to=n:=⟨to.toNat,by omega⟩
   rw[VD] at *
   simp(disch:=omega)only[↓wr,seval,wq,ar]
   refine av.eD ((CZ g a _ _ vs ls ss more _ b H2 M t W a1 z ⟨x.al,x.dot+1⟩ w).mono ?_)
   intro _ H3 C
   have a6:=gP t z ⟨x.al,x.dot+1⟩ w
   have a7:=kd t z ⟨x.al,x.dot+1⟩ w
   generalize eJ ls ss a1 ⟨x.al,x.dot+1⟩ w=p at *
   have N:=C.box
   have O:=C.Sh (by simp)
   simp(disch:=omega)only[↓wr,seval,wq]
   apply ah.dec<;>intro D
   .simp(disch:=omega)only[↓wr,seval,wq]
    rw[U8 y,Va D]
    exact C.drop
   .rw[U8 D] at u
    have b4:=(lK I).1
    have b5:=c.2
    have b7:∀ s∈cY g x,bD s:=by
     intro s D
     unfold cY at D
     split at D
     .have hR:g.rules[x.al.toNat]?=some (az g x.al):=by unfold az;exact getD_some (by have:=c.1;omega)
      exact(r.QS.al _ (Vc hR)).2.2.2 s (List.mem_of_mem_drop D)
     .simp at D
    have b8:(cY g x).length<=6:=by
     unfold cY
     split
     .rename_i h0
      rw[aG,U8 (by omega)] at b1
      simp;omega
     .simp
    have h2:=Rw g r.QS (cY g x) w (by unfold aH;omega) b7
    rw[G w] at h2
    simp only[ag,encS] at h2
    generalize cC:dp (ak g false) (cq g (ak g false)) w (cY g x)=s2 at *
    simp(disch:=omega)only[↓wr,seval,wq,O]
    have key:∀ v12:V,dh H3 v12 (encI (cY g x))->lX H3 [.agg [.aS (g.ai.map cO),.aS (g.ao.map λs=>[gs s]),.aS (g.rules.map aW),gi g.start],v12,gw w] [.agg [.aS (g.ai.map cO),.aS (g.ao.map λs=>[gs s]),.aS (g.rules.map aW),gi g.start],encI (cY g x),gw w]:=λv12 h =>
     ⟨.tree (bz _ (bE g)),h,.tree (.val _),trivial⟩
    apply ah.dec<;>intro h0
    have hR:g.rules[x.al.toNat]?=some (az g x.al):=by unfold az;exact getD_some (by have:=c.1;omega)
    have b9:aG g x.al=(az g x.al).right:=by rw[aG,U8 (by omega)]
    rw[b9] at b4 b5
    have P:=KE (l:=(az g x.al).right) (k:=(x.dot+1).toNat) (by omega)
    rw[show (((x.dot+1).toNat:Nat):Int)=x.dot+1 by omega] at P
    have E:cY g x=(az g x.al).right.drop (x.dot+1).toNat:=by rw[cY,Va (by omega)]
    generalize az g x.al=R at hR P E
    simp(disch:=omega)only[↓wr,seval,wq,O,N,eh,U9,hR,Ve,aW,encI,P]
    refine av.xY h2 (by kernel_rfl) (.val _) (key _ (by rw[E];exact .tree (eM _))) ?_
    rotate_left
    have E:cY g x=[]:=by rw[cY,U8 (by omega)]
    simp(disch:=omega)only[↓wr,seval,wq,O,N,eh]
    refine av.xY h2 (by kernel_rfl) (.val _) (key _ (by rw[E];exact .nil)) ?_
    all_goals (
     simp(disch:=omega)only[↓wr,seval,wq,N]
     refine bc.up g.rules.length (λq T H'=>bN H' b g a (.sl nl 0 ls.length 1) (.sl nu 0 ss.length 1) vs ls (eA g ls i sym s2 p q) (more || decide (eA g ls i sym s2 p q≠ss)) ((.sl bx 0 1 2,2,[[gi x.al,gi x.dot]]) :: L)/\T 0=.ptr b 0 0/\T 1=gi i/\T 7=gw s2/\T 8=gi sym/\T 13=gi q) ⟨C,rfl,rfl,rfl,rfl,rfl⟩ ?_
     rintro q k2 T4 H4 a8 ⟨F,t0,t1,t7,t8,t13⟩
     have bd:=F.box
     simp(disch:=omega)only[↓wr,seval,wq,jY,t0,t1,t7,t8,t13,bd,eh]
     apply ah.dec<;>intro ca
     .have Q:q < g.rules.length:=by omega
      have S:g.rules[q]?=some (az g (q:Int)):=by unfold az;rw[VD];exact getD_some Q
      have hL:=U.left _ (Vc S)
      obtain⟨bl,cc⟩:=js (g:=g) hi sym s2 q p a6
      have e1:eA g ls i sym s2 p (q+1)=if (az g (q:Int)).left = -1 - sym then eJ ls (eA g ls i sym s2 p q) i ⟨q,0⟩ s2 else eA g ls i sym s2 p q:=by
       unfold eA
       rw[Wd,Wl]
       rfl
      generalize az g (q:Int)=R at S hL e1
      generalize eA g ls i sym s2 p q=cN at *
      simp(disch:=omega)only[↓wr,seval,wq,t0,t1,t7,t8,t13,bd,eh,U9,S,Ve,aW]
      apply ah.eq<;>intro he
      .simp(disch:=omega)only[↓wr,seval,wq,t0,t1,t7,t8,t13]
       refine av.eD ((CZ g a _ _ vs ls _ _ _ b H4 F bl W i hi ⟨q,0⟩ s2).mono ?_)
       intro _ H5 bn
       simp(disch:=omega)only[↓wr,seval,wq,t0,t1,t7,t8,t13]
       rw[Va he] at e1
       rw[Bool.or_assoc,HJ (a7.trans cc) (kd bl hi _ _),<-e1] at bn
       exact aI a8 Q ⟨bn,t0,t1,t7,t8,rfl⟩
      .simp(disch:=omega)only[↓wr,seval,wq,t0,t1,t7,t8,t13]
       rw[U8 he] at e1
       exact aI a8 Q ⟨by rw[e1];exact F,t0,t1,t7,t8,rfl⟩
     .simp(disch:=omega)only[↓wr,seval,wq]
      rw[U8 y,U8 D]
      have cf:q=g.rules.length:=by omega
      subst cf
      exact F.drop)
section
variable {H:View} {b:Nat} {g:ae} {a:List aR} {ul us:V} {vs:List V} {ls:List (List aC)} {ss:Sets} {more:Bool} {L:List eC}
theorem bN.goApp {u:V} {sz bytes:Nat} {es xs:List (List V)} {K:V->View->Prop} {w:cP (H,K)} (f:bN H b g a ul us vs ls ss more ((u,sz,es) :: L)) (c:(xs.all λe=>e.length == sz && e.all aJ)=true)
  (h:(es.length+xs.length) * bytes < aD) (d:es.length+xs.length < aD) (hk:∀ u' H',bN H' b g a ul us vs ls ss more ((u',sz,es ++ xs) :: L)->K u' H'):k6 sz bytes u xs H K w :=
 cn (f.own.perm mA) c h d λu' H' i _=>hk u' H' ⟨f.len,i.perm mA.symm⟩
theorem bN.emp (h:bN H b g a ul us vs ls ss more L) (k sz:Nat):bN H b g a ul us vs ls ss more ((.emp k,sz,[]) :: L):=⟨h.len,(h.own.emp (k:=k) (sz:=sz)).perm mA.symm⟩
theorem bN.QG {u:V} {sz:Nat} {es:List (List V)} (h:bN H b g a ul us vs ls ss more ((u,sz,es) :: L)):aZ H u sz es:=(h.own.perm mA).head
theorem bN.Q4 {c:List eC} (h:bN H b g a ul us vs ls ss more L) (p:L.Perm c):bN H b g a ul us vs ls ss more c:=⟨h.len,h.own.perm (((p.append_left _).cons _).cons _ |>.cons _)⟩
end
theorem Mz (a:List aR):V.cells (bU a)=[bU a]:=id rfl
theorem SL (a:List aR):aJ (bU a)=true:=id rfl
def fD (ls:List (List aC)):Sets:=ls.map λl=>List.replicate l.length 0
theorem MT (ls:List (List aC)):jy ls (fD ls):=by
 refine⟨by simp[fD],λi=>?_⟩
 simp only[fD,U5,U9]
 cases ls[i]? <;> simp
theorem Er (ls:List (List aC)) (i k:Nat):du (fD ls) i k=0:=by
 simp only[du,fD,U5,U9]
 cases ls[i]? with
 | none=>simp
 | some l =>
  simp only[Ve,Vo,List.getElem?_replicate]
  split <;> rfl
theorem FL:∀ {vs:List V} {ss:Sets} (v:V) (r:List BV),vs.length=ss.length->tJ (vs ++ [v]) (ss ++ [r])=tJ vs ss ++ [(v,1,dJ r)]
 | [],[],v,r,_=>rfl
 | [],_ :: _,_,_,h=>by simp at h
 | _ :: _,[],_,_,h=>by simp at h
 | x :: vs,s :: ss,v,r,h=>by
  simp only[VZ,tJ,FL v r (show vs.length=ss.length by simpa using h)]
theorem PR {g:ae} {a:List aR} (b:(aL g a).length=a.length) (h1:1<=a.length) {ss:Sets} (d:jy (aL g a) ss) (e:kq g (ak g false) a (aL g a) ss) (f:∀ k,((aL g a).getD 0 [])[k]?=some ⟨-1,0⟩->(du ss 0 k).getLsbD g.ai.length=true)
  (j:∀ i k,i < (aL g a).length->k < ((aL g a).getD i []).length->ij g (ak g false) a (aL g a) i k ss=ss) {i k:Nat} {x:aC} (c:((aL g a).getD i [])[k]?=some x):du ss i k=pn g a i x:=by
 classical
 refine x9 λt l=>?_
 rw[V1]
 unfold pn
 rw[Az _ 32 t (Vh _)]
 simp only[Vj]
 exact⟨λh=>⟨l,e i k x t c h⟩,λh=>L4 b h1 d f j h.2 k c⟩
def BO (p:cH):List V:=[gi p.al,gw p.set]
def lj (l:List cH):List (List V):=l.map BO
def uW (l:List (List cH)):V:=.aS (l.map λr=>[.aS (lj r)])
theorem Jy (l:List cH):Tree (.aS (lj l)):=fq _ _ λx _ v a=>by simp[BO] at a;rcases a with rfl | rfl <;> exact .val _
abbrev Sl:=List (V × List cH)
def Mt (B:Sl):List eC:=B.map λx=>(x.1,2,lj x.2)
theorem RU {h:aB} {u:V} {B:Sl} (f:aZ h.view u 1 (dx B)) (g:∀ x∈B,aZ h.view x.1 2 (lj x.2)):cM h u (uW (B.map (·.2))):=by
 have c:∀ i (hi:i < B.length),(dx B).getD i []=[(B[i]).1]/\(((B.map (·.2)).map λr=>[V.aS (lj r)]).getD i [])=[.aS (lj (B[i]).2)]:=λi hi=>by
  simp[dx,U5,hi]
 refine cM.own f (by simp[dx]) (λi hi=>?_) (λi j hi b=>?_)
 .have a:i < B.length:=by simpa [dx] using hi
  rw[(c i a).1,(c i a).2];rfl
 .have a:i < B.length:=by simpa [dx] using hi
  rw[(c i a).2] at b ⊢
  rw[(c i a).1]
  have:j=0:=by simp at b;omega
  subst this
  simp only[Wc]
  have d:=g _ (Vg a)
  generalize (B[i]'a).2=l at d
  refine cM.own d rfl (λi _=>rfl) (λi j hi b=>?_)
  simp only[lj,Vl] at hi
  have e:(lj l).getD i []=BO l[i]:=by simp[lj,U5,hi]
  rw[e] at b ⊢
  match j,b with
  | 0,_=>exact .val _
  | 1,_=>exact .val _
def qa:SC :=
 af [af [ab [aa 29 7,aa 30 4,aP 31 30,aV 32 .lss 29 31],bW 32 (.exit 0)],.block 1 (af [ab [aU 35 4 1,aa 36 4,aa 37 7,aM 38 2 36 37,au 39 0 38,aj 40 39,ba 41 96 [35,40],aa 8 41],ab [aa 42 6,aa 43 6,ed 44 43,au 45 5 44,aj 46 45,aa 47 8,((some 48),.op (.bG 1 1 [(.emp 1)] [(0,(.tmp 47))])),fM 49 1 24 46 48,ed 50 42,au 51 5 50,cG 1 51 49],ab [aa 52 6,aa 53 6,ed 54 53,au 55 6 54,aj 56 55,aa 57 8,aP 58 57,((some 59),.op (.make 1 4 [(.val (.int .u32 0))] (.tmp 58) (.tmp 58))),((some 60),.op (.bG 1 1 [(.emp 1)] [(0,(.tmp 59))])),fM 61 1 24 56 60,ed 62 52,au 63 6 62,cG 1 63 61]]),ab [aa 33 7,aE 34 .add 33 1,aa 7 34]]
def pY:SC :=
 af [af [ab [aa 84 10,aa 85 6,ed 86 85,au 87 5 86,aj 88 87,aa 89 9,aM 90 1 88 89,aj 91 90,aP 92 91,aV 93 .lss 84 92],bW 93 (.exit 6)],.block 7 (ab [aa 96 6,aa 97 9,aa 98 10,ba 99 99 [96,97,98]]),ab [aa 94 10,aE 95 .add 94 1,aa 10 95]]
def qd:SC :=
 af [af [ab [aa 78 9,aa 79 4,aP 80 79,aV 81 .lss 78 80],bW 81 (.exit 4)],.block 5 (af [ab [aT 10 0],bX 6 pY]),ab [aa 82 9,aE 83 .add 82 1,aa 9 83]]
def qc:SC :=
 af [af [ab [aa 71 6,ed 72 71,au 73 7 72,aj 74 73],bW 74 (.exit 2)],.block 3 (af [ab [aa 75 6,ed 76 75,au 77 7 76,(none,.op (.store 1 (.tmp 77) (.val (.val (.bool false)))))],ab [aT 9 0],bX 4 qd])]
def qz:SC :=
 af [af [ab [aa 106 14,aa 107 6,ed 108 107,au 109 5 108,aj 110 109,aa 111 12,aM 112 1 110 111,aj 113 112,aP 114 113,aV 115 .lss 106 114],bW 115 (.exit 10)],.block 11 (af [ab [aU 119 4 1,aa 120 6,ed 121 120,au 122 5 121,aj 123 122,aa 124 12,aM 125 1 123 124,aj 126 125,aa 127 14,aM 128 2 126 127,aU 129 2 128,ba 130 100 [119,129],aa 118 130,cZ 131 0 118,cZ 132 1 118,aa 15 131,aa 16 132],.region false [⟨none,[aa 133 16,cb 134 133,aa 135 134]⟩,⟨(some (135,true)),[aa 136 6,ed 137 136,au 138 5 137,aj 139 138,aa 140 12,aM 141 1 139 140,aj 142 141,aa 143 14,aM 144 2 142 143,au 145 0 144,aj 146 145,aE 147 .geq 146 0]⟩,⟨none,[c8 148 135 147]⟩],bg 148 (ab [aa 149 13,aa 150 6,ed 151 150,au 152 5 151,aj 153 152,aa 154 12,aM 155 1 153 154,aj 156 155,aa 157 14,aM 158 2 156 157,au 159 0 158,aj 160 159,aa 161 6,ed 162 161,au 163 6 162,aj 164 163,aa 165 12,aM 166 1 164 165,aj 167 166,aa 168 14,aM 169 1 167 168,aj 170 169,((some 171),.op (.build [(.val (.int .i64 0)),(.val (.int .u32 0))] [(0,1,(.tmp 160)),(1,1,(.tmp 170))])),((some 172),.op (.bG 1 2 [(.val (.int .i64 0)),(.val (.int .u32 0))] [(0,(.tmp 171))])),fM 173 2 16 149 172,aa 13 173])]),ab [aa 116 14,aE 117 .add 116 1,aa 14 117]]
def qh:SC :=
 af [af [ab [aa 100 12,aa 101 4,aP 102 101,aV 103 .lss 100 102],bW 103 (.exit 8)],.block 9 (af [ab [ct 13 1],af [ab [aT 14 0],bX 10 qz],ab [aa 174 11,aa 175 13,((some 176),.op (.bG 1 1 [(.emp 1)] [(0,(.tmp 175))])),fM 177 1 24 174 176,aa 11 177]]),ab [aa 104 12,aE 105 .add 104 1,aa 12 105]]
def rO:SF:=⟨af [ab [cd 1 0,ct 2 1,aT 3 0],ab [aU 18 4 1,ba 19 32 [18],aa 17 19,cZ 20 0 17,cZ 21 1 17,aa 4 20,aa 5 21],af [ab [aa 22 5,aE 23 .neq 22 0],bg 23 (af [ab [aa 24 5,ct 2 1,aa 3 24],.ret])],ab [aU 25 4 1,aa 26 4,((some 27),.op (.build [(.emp 1),(.emp 1),(.emp 1),(.val (.int .i64 0)),(.emp 1),(.emp 1),(.emp 1),(.val (.bool false))] [(0,4,(.tmp 25)),(4,1,(.tmp 26))])),((some 28),.op (.box (.tmp 27))),aa 6 28],af [ab [aT 7 0],bX 0 qa],ab [aa 64 6,((some 65),.op (.build [(.val (.int .i64 0)),(.val (.int .i64 0))] [(0,1,(.val (.val (.int .i64 (-1)))))])),au 66 0 1,aj 67 66,aP 68 67,ba 69 98 [68],oE 70 97 [(.tmp 64),(.val (.val (.int .i64 0))),(.tmp 65),(.tmp 69)]],bX 2 qc,ab [ct 11 1],af [ab [aT 12 0],bX 8 qh],ab [aa 178 11,aa 2 178,aT 3 0],.ret],
 [.tmp 2,.tmp 3],179⟩
theorem xn:aQ Tryz.prog 48 [1]=some rO:=by kernel_rfl
theorem L8 {g:ae} {a:List aR} {i:Nat} {s:aR} (h:a[i]?=some s):(aL g a)[i]?=some (cE g s.aX):=by rw[aL,U9,h];rfl
theorem Bw {g:ae} (d:g.Ok) (h:(bF g).2=0):M4 g (bF g).1 (aL g (bF g).1)/\kY g (bF g).1:=by
 have hr:isRed g=true:=Wu λf=>by
  unfold bF at h;rw[U8 f] at h;simp at h
 have c:=vJ hr
 obtain⟨a,h1,i⟩:=Gg c h
 refine⟨⟨d,gQ hr,by simp[aL],h1,i,λs b=>⟨by unfold aH;have:=a.bI s b;omega,λe he=>?_⟩,λl j=>?_⟩,a⟩
 .have m:=a.to s b e he
  have n:=a.sym s b e he
  unfold bD;omega
 .obtain⟨s,b,rfl⟩:=Vv.1 j
  have hk:=(a.aX s b).2.2
  exact⟨by have:=Eg c hk;omega,λx k=>((bY c hk).1 k).has hk⟩
def UZ (g:ae) (a:List aR) (b:Nat) (ul us:V) (vs:List V) (m:Nat) (T:Env) (H:View):Prop:=∃ (ss:Sets) (more:Bool),m=(PN (aL g a) - yI ss)+(if more then 1 else 0)/\bN H b g a ul us vs (aL g a) ss more []/\jy (aL g a) ss/\kq g (ak g false) a (aL g a) ss /\
 (∀ k,((aL g a).getD 0 [])[k]?=some ⟨-1,0⟩->(du ss 0 k).getLsbD g.ai.length=true)/\(more=false->∀ i k,i < (aL g a).length->k < ((aL g a).getD i []).length->ij g (ak g false) a (aL g a) i k ss=ss) /\
 T 1=.aF (ag g) 0/\T 4=bU a/\T 6=.ptr b 0 0
theorem RL (g:ae) (hg:g.Ok):cx Tryz.prog 48 [.agg (ag g)] (.bm [uW (vS g).1,gi (vS g).2]):=by
 refine cx.of (eP g) ?_
 have Z:=(BX g hg).pure
 refine aw.of mixed xn ?_
 simp only[ag,encS] at Z
 simp(disch:=omega)only[↓wr,seval,wq,rO,ag,encS]
 refine av.pure Z ?_
 unfold vS
 simp(disch:=omega)only[↓wr,seval,wq]
 apply ah.ne<;>intro h
 .simp(disch:=omega)only[↓wr,seval,wq]
  intro h' _
  rw[U8 h]
  exact uX (.emp _)
 rw[Va h]
 obtain⟨u,hA⟩:=Bw hg h
 generalize (bF g).1=a at *
 clear Z h
 have hf:=aK u.right
 have ek:=u.short
 have hT:=hf.ai
 simp(disch:=omega)only[↓wr,seval,wq,ag,encS,Mz,SL]
 intro b
 have c0:bN (View.set (λ_=>bT.dead) b (.arr 8 [eh g a (.emp 1) (.emp 1) false])) b g a (.emp 1) (.emp 1) [] ((aL g a).take 0) (fD ((aL g a).take 0)) false [] :=
  ⟨rfl,(((bH.nil.new (n:=b) (H:=λ_=>bT.dead) rfl 8 [eh g a (.emp 1) (.emp 1) false]).emp (k:=1) (sz:=1)).emp (k:=1) (sz:=1)).perm CC.symm⟩
 simp only[eh] at c0
 generalize (View.set (λ_=>bT.dead) b (.arr 8 [[V.aS (g.ai.map cO),.aS (g.ao.map λs=>[gs s]),.aS (g.rules.map aW),gi g.start,bU a,.emp 1,.emp 1,gb false]]))=H0 at c0 ⊢
 refine bc.up a.length (λi T H'=>∃ (ul us:V) (vs:List V),bN H' b g a ul us vs ((aL g a).take i) (fD ((aL g a).take i)) false []/\T 1=.aF (ag g) 0/\T 4=bU a/\T 6=.ptr b 0 0/\T 7=gi i) ⟨_,_,_,c0,rfl,rfl,rfl,rfl⟩ ?_
 clear c0
 rintro i k T H hk ⟨ul,us,vs,y,t1,t4,t6,t7⟩
 simp(disch:=omega)only[↓wr,seval,wq,qa,t1,t4,t6,t7,bU]
 apply ah.dec<;>intro D
 .have hs:a[i]?=some (a[i]'(by omega)):=U6 (by omega)
  have bx:=L8 (g:=g) hs
  obtain⟨k1,k2,k3⟩:=hA.aX _ (Vg (show i < a.length by omega))
  generalize a[i]'(by omega)=s at hs bx k1 k2 k3
  have p:=gT hf k1 k3
  have hC:=(GV g hg s.aX (by omega) (λx L=>wu hf (k3 x L))).pure
  rw[List.filter_eq_self.2 λx L=>nR.2 ⟨u.right,k3 x L⟩] at hC
  have eH:=Eg hf k3
  have cj:cE g s.aX≠[]:=λe=>by
   cases hk:s.aX with
   | nil=>exact k2 hk
   | cons x r =>
    have:=(bY hf k3).2 (.base (show x∈s.aX by rw[hk];simp))
    rw[e] at this;simp at this
  generalize cE g s.aX=cl at *
  have E:(aL g a).take (i+1)=(aL g a).take i ++ [cl]:=by rw[Vs,bx];rfl
  have R:((aL g a).take i).length<=300:=by rw[VS];have:=u.len;omega
  simp only[ag,encS] at hC
  simp(disch:=omega)only[↓wr,seval,wq,t1,t4,t6,t7,ag,encS,bU,U9,hs,Ve,eU]
  refine av.pure hC ?_
  have hb:=y.box
  simp(disch:=omega)only[↓wr,seval,wq,t1,t4,t6,t7,hb,eh]
  intro q hq
  simp(disch:=omega)only[↓wr,seval,wq,bt]
  have o1:=(y.own.fresh (o:=.arr 1 [[.aS (bA cl)]]) hq).at 1 (by simp)
  refine cn o1 (by simp[aJ]) (by unfold aD;simp only[VN,VJ,jz];simp;omega) (by unfold aD;simp only[VN,VJ,jz];simp;omega) ?_
  intro aq H2 o2 _
  simp only[VN,VJ,V5,V6] at o2
  have b0:=o2.is 1 rfl (by simp)
  have o3:=(o2.perm (.swap _ _ _)).put (es':=[eh g a aq us false]) rfl rfl
  have cu:=o2.head.cells
  have ku:=o2.head.iG
  simp only[eh] at o3 b0
  clear o1 o2 hq hb
  simp(disch:=omega)only[↓wr,seval,wq,t1,t4,t6,t7,b0,cu,ku,gj]
  have b1:cl.length≠0:=λe=>cj (WB.1 e)
  refine⟨⟨Vh _,by unfold aD;omega,by unfold aD;omega⟩,λhz=>absurd hz b1,λ_ nm ck=>?_⟩
  have o4:=o3.new (n:=nm) (by simpa [View.set] using ck) 1 (List.replicate cl.length [.val (.int .u32 0)])
  rw[List.length_replicate] at o4
  intro q2 cr
  simp(disch:=omega)only[↓wr,seval,wq,bt,t1,t4,t6,t7]
  have o5:=(o4.fresh (n:=q2) (o:=.arr 1 [[.sl nm 0 cl.length 1]]) (by simpa [View.set] using cr)).at 3 (by simp)
  refine cn o5 (by simp[aJ]) (by unfold aD;simp only[VN,VJ,Vl];simp;have:=y.len;simp[fD] at this;omega) (by unfold aD;simp only[VN,VJ,Vl];simp;have:=y.len;simp[fD] at this;omega) ?_
  intro b2 H5 o6 _
  simp only[VN,VJ,V5,V6] at o6
  have cv:=o6.is 2 rfl (by simp)
  have cC:=o6.head.cells
  have cN:=o6.head.iG
  simp(disch:=omega)only[↓wr,seval,wq,t1,t4,t6,t7,cv,cC,cN]
  have o7:=(o6.at 2 (by simp)).put (es':=[eh g a aq b2 false]) rfl rfl
  simp only[VN,VJ,V5,V6] at o7
  refine aI hk (by omega) ⟨aq,b2,vs ++ [.sl nm 0 cl.length 1],⟨?_,?_⟩,t1,t4,t6,rfl⟩
  .have:=y.len
   rw[E];simp[fD] at this ⊢;exact this
  .have e1:w9 ((aL g a).take i ++ [cl])=w9 ((aL g a).take i) ++ [[.aS (bA cl)]]:=by simp[w9]
   have e2:fD ((aL g a).take i ++ [cl])=fD ((aL g a).take i) ++ [List.replicate cl.length 0]:=by simp[fD]
   have e3:(List.replicate cl.length [V.val (.int .u32 0)])=dJ (List.replicate cl.length (0:BV)):=by simp
   rw[E,e1,e2,FL _ _ y.len,Vz,WH]
   rw[e3,WH] at o7
   exact o7.perm (.cons _ ((WD (l₁:=[_,_])).trans (.cons _ (.cons _ (WX _ _).symm))))
 rw[Vn (by have:=u.len;omega)] at y
 have eX:=λm=>u.item m
 simp(disch:=omega)only[↓wr,seval,wq,t1,t4,t6,ag]
 refine av.pure (An (g.ai.length:Int)) ?_
 simp(disch:=omega)only[↓wr,seval,wq,t1,t4,t6]
 have N:=MT (aL g a)
 have S:0 < (aL g a).length:=by have:=u.len;have:=u.LV;omega
 refine av.eD ((CZ g a ul us vs (aL g a) (fD (aL g a)) false [] b H y N (λl hl=>(u.item l hl).1) 0 S ⟨-1,0⟩ (gX g.ai.length)).mono ?_)
 intro _ H1 F
 have an:∀ t,(gX (g.ai.length:Int)).getLsbD t=true↔t=g.ai.length:=λt=>by
  rw[gX,Va (by omega),Wj]
  simp only[VD,Vd,Vj]
  omega
 have b3:=gP N S ⟨-1,0⟩ (gX g.ai.length)
 have b4:kq g (ak g false) a (aL g a) (eJ (aL g a) (fD (aL g a)) 0 ⟨-1,0⟩ (gX g.ai.length)):=by
  refine tT N (λi k x t _ h=>by rw[Er] at h;simp at h) S λt ht hm=>?_
  rw[(an t).1 ht]
  exact .start hm
 have b5:∀ k,((aL g a).getD 0 [])[k]?=some ⟨-1,0⟩->(du (eJ (aL g a) (fD (aL g a)) 0 ⟨-1,0⟩ (gX g.ai.length)) 0 k).getLsbD g.ai.length=true:=λk hk=>by
  rw[ta N S,Va ⟨rfl,hk⟩,VM,(an _).2 rfl,Bool.or_true]
 have b7:(false || decide (eJ (aL g a) (fD (aL g a)) 0 ⟨-1,0⟩ (gX g.ai.length)≠fD (aL g a)))=false->∀ i k,i < (aL g a).length->k < ((aL g a).getD i []).length->ij g (ak g false) a (aL g a) i k (eJ (aL g a) (fD (aL g a)) 0 ⟨-1,0⟩ (gX g.ai.length))=eJ (aL g a) (fD (aL g a)) 0 ⟨-1,0⟩ (gX g.ai.length):=λh i k _ _=>by
  simp only[Xa,WA,Classical.not_not] at h
  rw[h,ij,Va (.inr (Er _ _ _))]
 generalize eJ (aL g a) (fD (aL g a)) 0 ⟨-1,0⟩ (gX g.ai.length)=b8 at *
 generalize (false || decide (b8≠fD (aL g a)))=ar at *
 simp(disch:=omega)only[↓wr,seval,wq,t1,t4,t6]
 refine bc.intro (UZ g a b ul us vs) _ ⟨b8,ar,rfl,F,b3,b4,b5,b7,t1,t4,t6⟩ ?_
 clear y F b3 b4 b5 b7 t1 t4 t6 t7 N D hk
 rintro m T2 H2 ⟨c,cS,rfl,y,w,hd,h0,b9,t1,t4,t6⟩
 have hb:=y.box
 have a1:=u.len
 have a6:=u.LV
 obtain⟨nl,rfl,_⟩:=y.lists (by omega)
 simp(disch:=omega)only[↓wr,seval,wq,qc,t1,t4,t6,hb,eh]
 apply ah.split<;>intro hm
 .have F:=y.flag false
  simp only[eh] at F
  simp(disch:=omega)only[↓wr,seval,wq,t1,t4,t6,hb,eh]
  refine bc.up a.length (λi T H'=>∃ ss:Sets,bN H' b g a (.sl nl 0 (aL g a).length 1) us vs (aL g a) ss (decide (ss≠c)) []/\jy (aL g a) ss/\kq g (ak g false) a (aL g a) ss/\jv c ss /\
   (ss=c->∀ M k,M < i->k < ((aL g a).getD M []).length->ij g (ak g false) a (aL g a) M k c=c)/\T 1=.aF (ag g) 0/\T 4=bU a/\T 6=.ptr b 0 0/\T 9=gi i)
   ⟨c,by rw[decide_eq_false (by simp)];exact F,w,hd,.refl,λ_ M k h=>by omega,t1,t4,t6,rfl⟩ ?_
  clear F t1 t4 t6 hb
  rintro i k2 T3 H3 a7 ⟨ss,z,U,a8,A,bd,t1,t4,t6,t9⟩
  simp(disch:=omega)only[↓wr,seval,wq,qd,t1,t4,t6,t9,bU]
  apply ah.dec<;>intro D
  .have f:i < (aL g a).length:=by omega
   have cV:=(u.item _ (Vc (getD_some (d:=[]) f))).1
   simp(disch:=omega)only[↓wr,seval,wq,t1,t4,t6,t9]
   refine bc.up ((aL g a).getD i []).length (λk T H'=>∃ ss:Sets,bN H' b g a (.sl nl 0 (aL g a).length 1) us vs (aL g a) ss (decide (ss≠c)) []/\jy (aL g a) ss/\kq g (ak g false) a (aL g a) ss/\jv c ss /\
    (ss=c->(∀ M k,M < i->k < ((aL g a).getD M []).length->ij g (ak g false) a (aL g a) M k c=c)/\∀ P,P < k->ij g (ak g false) a (aL g a) i P c=c)/\T 1=.aF (ag g) 0/\T 4=bU a/\T 6=.ptr b 0 0/\T 9=gi i/\T 10=gi k)
    ⟨ss,z,U,a8,A,λe=>⟨bd e,λP h=>by omega⟩,t1,t4,t6,t9,rfl⟩ ?_
   clear z U a8 A bd t1 t4 t6 t9
   rintro k k3 T4 H4 O ⟨ss,j,W,ca,C,X,t1,t4,t6,t9,t10⟩
   have G:=j.box
   have I:=(j.CM (by omega)).1
   have J:=Bo f
   simp(disch:=omega)only[↓wr,seval,wq,pY,t1,t4,t6,t9,t10,G,eh,I,J,jz,gj]
   refine⟨f,f,?_⟩
   apply ah.dec<;>intro bl
   .have p:k < ((aL g a).getD i []).length:=by omega
    simp(disch:=omega)only[↓wr,seval,wq,t1,t4,t6,t9,t10]
    refine av.eD ((Rs g a _ us vs (aL g a) ss _ [] b H4 u j W i k f p).mono ?_)
    intro _ H5 K
    obtain⟨p1,p2⟩:=Gr (g:=g) (null:=ak g false) a1 a6 f k W
    have p3:=HM a1 a6 f p W ca
    rw[HJ C p2] at K
    simp(disch:=omega)only[↓wr,seval,wq,t1,t4,t6,t9,t10]
    refine aI O p ⟨_,K,p1,p3,C.trans p2,λe=>?_,t1,t4,t6,t9,rfl⟩
    have e1:ss=c:=jv.qN (Eq.mp (VT (jv ss) e) p2) C
    subst e1
    refine⟨(X rfl).1,λP cc=>?_⟩
    rcases Vw P k with R | c3
    .exact(X rfl).2 P R
    .have:P=k:=by omega
     subst this
     exact e
   .simp(disch:=omega)only[↓wr,seval,wq,t1,t4,t6,t9]
    refine aI a7 (by omega) ⟨ss,j,W,ca,C,λe M P e0 cc=>?_,t1,t4,t6,rfl⟩
    rcases Vw M i with R | c3
    .exact(X e).1 M P R cc
    .have:M=i:=by omega
     subst this
     exact(X e).2 P (by omega)
  .simp(disch:=omega)only[↓wr,seval,wq,t1,t4,t6]
   have q1:=Jv A
   have q2:=Fv U
   refine⟨_,?_,ss,decide (ss≠c),rfl,z,U,a8,λk hk=>A.2.2 0 k _ (h0 k hk),λe=>?_,t1,t4,t6⟩
   .rw[hm]
    by_cases e:ss=c
    .subst e;simp
    .have:=q1.2 (λh=>e h.symm)
     simp[e];omega
   .have e2:ss=c:=by simpa using e
    have h3:=bd e2
    rw[e2]
    exact λi k hi hk=>h3 i k (by omega) hk
 .have Y:=b9 hm
  subst hm
  have cf:=λi k x=>PR (i:=i) (k:=k) (x:=x) a1 a6 w hd h0 Y
  obtain⟨nu,rfl,_⟩:=y.fA (by rw[w.1];omega)
  simp(disch:=omega)only[↓wr,seval,wq,t1,t4,t6]
  refine bc.up a.length (λi T H'=>∃ (uo:V) (B:Sl),B.map (·.2)=(dZ g a).take i/\bN H' b g a (.sl nl 0 (aL g a).length 1) (.sl nu 0 c.length 1) vs (aL g a) c false ((uo,1,dx B) :: Mt B)/\T 1=.aF (ag g) 0/\T 4=bU a/\T 6=.ptr b 0 0/\T 11=uo/\T 12=gi i)
   ⟨.emp 1,[],by simp,y.emp 1 1,t1,t4,t6,rfl,rfl⟩ ?_
  clear y t1 t4 t6 hb
  rintro i k2 T3 H3 a7 ⟨uo,B,Z,z,t1,t4,t6,t11,t12⟩
  simp(disch:=omega)only[↓wr,seval,wq,qh,t1,t4,t6,t11,t12,bU]
  apply ah.dec<;>intro D
  .have f:i < (aL g a).length:=by omega
   have cV:=(u.item _ (Vc (getD_some (d:=[]) f))).1
   simp(disch:=omega)only[↓wr,seval,wq,t1,t4,t6,t11,t12]
   refine bc.up ((aL g a).getD i []).length (λk T H'=>∃ Q:V,bN H' b g a (.sl nl 0 (aL g a).length 1) (.sl nu 0 c.length 1) vs (aL g a) c false ((Q,2,lj ((((aL g a).getD i []).take k).filterMap λx=>if (bo g x).2=false/\0<=x.al then some ⟨x.al,pn g a i x⟩ else none)) :: (uo,1,dx B) :: Mt B) /\
    T 1=.aF (ag g) 0/\T 4=bU a/\T 6=.ptr b 0 0/\T 11=uo/\T 12=gi i/\T 13=Q/\T 14=gi k)
    ⟨.emp 1,z.emp 1 2,t1,t4,t6,t11,t12,rfl,rfl⟩ ?_
   clear z t1 t4 t6 t11 t12
   rintro k k3 T4 H4 O ⟨Q,j,t1,t4,t6,t11,t12,t13,t14⟩
   have G:=j.box
   have I:=(j.CM (by omega)).1
   have J:=Bo f
   simp(disch:=omega)only[↓wr,seval,wq,qz,t1,t4,t6,t11,t12,t13,t14,G,eh,I,J,jz,gj]
   refine⟨f,f,?_⟩
   apply ah.dec<;>intro bl
   .have p:k < ((aL g a).getD i []).length:=by omega
    have L:((aL g a).getD i [])[k]?=some (((aL g a).getD i [])[k]'p):=U6 p
    have bn:=(u.item _ (Vc (getD_some (d:=[]) f))).2 _ (Vg p)
    have E:((aL g a).getD i []).take (k+1)=((aL g a).getD i []).take k ++ [((aL g a).getD i [])[k]'p]:=by rw[Vs,L];rfl
    generalize ((aL g a).getD i [])[k]'p=x at L bn E
    have hN:=DH g u.QS x (wu hf bn)
    rw[AS,Va (nR.2 ⟨u.right,bn⟩)] at hN
    have da:=cf i k x L
    have br:vs[i]?=some (vs[i]'(by rw[j.len,w.1];exact f)):=U6 _
    generalize vs[i]'(by rw[j.len,w.1];exact f)=v at br
    have e4:=w.2 i
    have db:i < vs.length:=by rw[j.len,w.1];exact f
    have dj:i < c.length:=by rw[w.1];exact f
    obtain⟨nv,rfl,dm⟩:=(j.row br).sl (by rw[kI];omega)
    have hw:(c.getD i [])[k]?=some (du c i k):=getD_some (by omega)
    have ds:=(j.Mp (by omega)).1
    have dv:=List.length_filterMap_le (λx:aC=>if (bo g x).2=false/\0<=x.al then some (⟨x.al,pn g a i x⟩:cH) else none) (((aL g a).getD i []).take k)
    rw[VS] at dv
    rw[da] at hw
    simp only[ag,encS,bC] at hN
    simp(disch:=omega)only[↓wr,seval,wq,t1,t4,t6,t11,t12,t13,t14,G,eh,I,J,jz,bA,U9,L,Ve,bC,ag,encS]
    refine⟨f,f,?_⟩
    refine av.pure hN ?_
    have skip:¬ ((bo g x).2=false/\0<=x.al)->(((aL g a).getD i []).take (k+1)).filterMap (λx=>if (bo g x).2=false/\0<=x.al then some (⟨x.al,pn g a i x⟩:cH) else none)=(((aL g a).getD i []).take k).filterMap (λx=>if (bo g x).2=false/\0<=x.al then some (⟨x.al,pn g a i x⟩:cH) else none):=λea=>by
     rw[E,List.filterMap_append]
     simp[ea]
    have take:((bo g x).2=false/\0<=x.al)->(((aL g a).getD i []).take (k+1)).filterMap (λx=>if (bo g x).2=false/\0<=x.al then some (⟨x.al,pn g a i x⟩:cH) else none)=(((aL g a).getD i []).take k).filterMap (λx=>if (bo g x).2=false/\0<=x.al then some (⟨x.al,pn g a i x⟩:cH) else none) ++ [⟨x.al,pn g a i x⟩]:=λcg=>by
     rw[E,List.filterMap_append]
     simp[cg]
    simp(disch:=omega)only[↓wr,seval,wq,t1,t4,t6,t11,t12,t13,t14]
    apply ah.split<;>intro bs
    .simp(disch:=omega)only[↓wr,seval,wq,t1,t4,t6,t11,t12,t13,t14]
     exact aI O p ⟨Q,by rw[skip (by simp[bs])];exact j,t1,t4,t6,t11,t12,t13,rfl⟩
    .simp(disch:=omega)only[↓wr,seval,wq,t1,t4,t6,t11,t12,t13,t14,G,eh,I,J,jz,bA,U9,L,Ve,bC]
     refine⟨f,f,?_⟩
     apply ah.dec<;>intro h0
     .simp(disch:=omega)only[↓wr,seval,wq,t1,t4,t6,t11,t12,t13,t14,G,eh,I,J,jz,bA,U9,L,Ve,bC,ds,BE br,dm,vg hw,kI]
      refine⟨f,f,dj,db,by omega,by omega,?_⟩
      intro q hq
      simp(disch:=omega)only[↓wr,seval,wq,bt]
      refine bN.goApp (j.fresh hq) (by simp[aJ]) (by unfold aD;rw[lj,Vl];simp only[Vm,Vy];omega) (by unfold aD;rw[lj,Vl];simp only[Vm,Vy];omega) ?_
      intro u2 H5 K
      simp(disch:=omega)only[↓wr,seval,wq,t1,t4,t6,t11,t12,t13,t14]
      exact aI O p ⟨u2,by rw[take ⟨bs,h0⟩,lj,Vz];exact K,t1,t4,t6,t11,t12,rfl,rfl⟩
     .simp(disch:=omega)only[↓wr,seval,wq,t1,t4,t6,t11,t12,t13,t14]
      exact aI O p ⟨Q,by rw[skip (by omega)];exact j,t1,t4,t6,t11,t12,t13,rfl⟩
   .simp(disch:=omega)only[↓wr,seval,wq,t1,t4,t6,t11,t12,t13,t14]
    have eb:=VT List.length Z
    simp only[Vl,VS] at eb
    have ec:=j.QG.cells
    have ch:=j.QG.iG
    rw[Vn (by omega)] at j
    have eg:(dZ g a)[i]?=some (ez g a i):=by rw[dZ,U9,WS (by omega)];rfl
    simp(disch:=omega)only[↓wr,seval,wq,t1,t4,t6,t11,t12,t13,t14,ec,ch]
    intro q hq
    simp(disch:=omega)only[↓wr,seval,wq,bt,t1,t4,t6,t11,t12,t13,t14]
    refine bN.goApp ((j.Q4 (.swap _ _ _)).fresh hq) (by simp[ch]) (by unfold aD;simp[dx];omega) (by unfold aD;simp[dx];omega) ?_
    intro ei H5 K
    simp(disch:=omega)only[↓wr,seval,wq,t1,t4,t6,t11,t12]
    refine aI a7 (by omega) ⟨ei,B ++ [(Q,ez g a i)],?_,?_,t1,t4,t6,rfl,rfl⟩
    .rw[Vz,Z,Vs,eg];rfl
    .have e1:dx (B ++ [(Q,ez g a i)])=dx B ++ [[Q]]:=by simp[dx]
     have e2:Mt (B ++ [(Q,ez g a i)])=Mt B ++ [(Q,2,lj (ez g a i))]:=by simp[Mt]
     rw[e1,e2]
     exact K.Q4 (.cons _ (WX _ _).symm)
  .simp(disch:=omega)only[↓wr,seval,wq,t11]
   rw[Vn (by simp[dZ];omega)] at Z
   rintro h' rfl
   rw[<-Z]
   have ho:=(z.own.perm mA)
   refine uX (RU ho.head λx L=>ho.1 (x.1,2,lj x.2) (Vt _ (Vt _ (Vt _ (Vt _ (List.mem_append_right _ (Vv.2 ⟨x,L,rfl⟩)))))))
def ni:SC :=
 af [af [ab [aa 7 6,aa 8 0,aP 9 8,aV 10 .lss 7 9],bW 10 (.exit 0)],.block 1 (af [ab [aa 13 0,aa 14 6,aM 15 2 13 14,au 16 1 15,aj 17 16,aa 18 1,ba 19 168 [17,18]],bg 19 (ab [aa 20 5,aa 21 0,aa 22 6,aM 23 2 21 22,au 24 0 23,aj 25 24,((some 26),.op (.bG 1 1 [(.val (.int .i64 0))] [(0,(.tmp 25))])),fM 27 1 8 20 26,aa 5 27])]),ab [aa 11 6,aE 12 .add 11 1,aa 6 12]]
def oH:SF:=⟨af [ab [ct 4 1],ab [ct 5 1],af [ab [aT 6 0],bX 0 ni],ab [aa 28 5,aa 4 28],.ret],
 [.tmp 4],29⟩
theorem ue:aQ Tryz.prog 102 []=some oH:=by kernel_rfl
def nH:SF:=⟨af [ab [cd 3 0,aT 6 0],af [.region false [⟨none,[aU 11 4 3,ba 12 50 [11],cb 13 12,aa 14 13]⟩,⟨(some (14,false)),[aa 15 1,aE 16 .lss 15 0]⟩,⟨none,[bP 17 14 16,aa 18 17]⟩,⟨(some (18,false)),[aa 19 1,au 20 2 3,aj 21 20,aP 22 21,aV 23 .geq 19 22]⟩,⟨none,[bP 24 18 23,aa 25 24]⟩,⟨(some (25,false)),[aa 26 2,aE 27 .lss 26 0]⟩,⟨none,[bP 28 25 27,aa 29 28]⟩,⟨(some (29,false)),[aa 30 2,au 31 0 3,aj 32 31,aP 33 32,aV 34 .gtr 30 33]⟩,⟨none,[bP 35 29 34]⟩],bg 35 (af [ab [aT 6 0],.ret])],ab [au 36 2 3,aj 37 36,aa 38 1,aM 39 3 37 38,au 40 2 39,aj 41 40,aa 7 41],af [.region false [⟨none,[aa 42 2,au 43 0 3,aj 44 43,aP 45 44,aV 46 .eql 42 45,aa 47 46]⟩,⟨(some (47,false)),[aa 48 7,aE 49 .lss 48 0]⟩,⟨none,[bP 50 47 49,aa 51 50]⟩,⟨(some (51,false)),[au 52 0 3,aj 53 52,aa 54 7,aM 55 3 53 54,au 56 1 55,aj 57 56,aE 58 .eql 57 0]⟩,⟨none,[bP 59 51 58,aa 60 59]⟩,⟨(some (60,false)),[au 61 0 3,aj 62 61,aa 63 2,aM 64 3 62 63,au 65 1 64,aj 66 65,aE 67 .eql 66 0]⟩,⟨none,[bP 68 60 67]⟩],bg 68 (af [ab [aT 6 4],.ret])],ab [au 69 0 3,aj 70 69,aa 71 7,aM 72 3 70 71,au 73 1 72,aj 74 73,au 75 0 3,aj 76 75,aa 77 2,aM 78 3 76 77,au 79 1 78,aj 80 79,aa 8 74,aa 9 80],ab [au 81 0 3,aj 82 81,aa 83 2,aM 84 3 82 83,au 85 2 84,aj 86 85,aa 10 86],.block 0 (af [.region false [⟨none,[aa 88 8,aa 89 9,aV 90 .gtr 88 89,aa 91 90]⟩,⟨(some (91,false)),[aa 92 8,aa 93 9,aV 94 .eql 92 93,aa 95 94]⟩,⟨(some (95,true)),[aa 96 10,aE 97 .eql 96 1]⟩,⟨(some (91,false)),[c8 98 95 97]⟩,⟨none,[bP 99 91 98,aa 87 99]⟩],.cond (.tmp 87) (af [ab [aT 6 1],.ret]) (af [.region false [⟨none,[aa 101 8,aa 102 9,aV 103 .lss 101 102,aa 104 103]⟩,⟨(some (104,false)),[aa 105 10,aE 106 .eql 105 2]⟩,⟨none,[bP 107 104 106,aa 100 107]⟩],bg 100 (af [ab [aT 6 2],.ret])])]),ab [aT 6 3],.ret],
 [.tmp 6],108⟩
theorem sx:aQ Tryz.prog 103 [3]=some nH:=by kernel_rfl
def mE:SC :=
 af [af [ab [aa 9 7,au 10 1 4,aj 11 10,aP 12 11,aV 13 .lss 9 12],bW 13 (.exit 0)],.block 1 (af [ab [au 16 1 4,aj 17 16,aa 18 7,aM 19 2 17 18,au 20 0 19,aj 21 20,aa 22 2,aV 23 .eql 21 22],bg 23 (af [ab [au 24 1 4,aj 25 24,aa 26 7,aM 27 2 25 26,au 28 1 27,aj 29 28,((some 30),.op (.build [(.val (.int .i64 0)),(.val (.int .i64 0))] [(0,1,(.val (.val (.int .i64 1)))),(1,1,(.tmp 29))])),cG 2 6 30],.ret])]),ab [aa 14 7,aE 15 .add 14 1,aa 7 15]]
def nk:SC :=
 af [af [ab [aa 31 8,au 32 0 4,aj 33 32,aP 34 33,aV 35 .lss 31 34],bW 35 (.exit 2)],.block 3 (af [.region false [⟨none,[aa 38 2,au 39 0 3,aj 40 39,aP 41 40,aV 42 .eql 38 41,aa 43 42]⟩,⟨(some (43,true)),[au 44 0 4,aj 45 44,aa 46 8,aM 47 2 45 46,aU 48 2 47,((some 49),.op (.build [(.val (.int .i64 0)),(.val (.int .i64 0))] [(0,1,(.val (.val (.int .i64 (-1))))),(1,1,(.val (.val (.int .i64 1))))])),((some 50),.op (.old (.binOp .eql 120 (.tmp 48) (.tmp 49) 120) 4))]⟩,⟨none,[c8 51 43 50]⟩],bg 51 (af [ab [((some 52),.op (.build [(.val (.int .i64 0)),(.val (.int .i64 0))] [(0,1,(.val (.val (.int .i64 3))))])),cG 2 6 52],.ret])]),ab [aa 36 8,aE 37 .add 36 1,aa 8 37]]
def oB:SF:=⟨af [ab [cd 3 0,cd 4 1,((some 6),.op (.alloc [(.val (.int .i64 0)),(.val (.int .i64 0))]))],af [ab [aT 7 0],bX 0 mE],af [ab [aT 8 0],bX 2 nk],ab [((some 53),.op (.build [(.val (.int .i64 0)),(.val (.int .i64 0))] [])),cG 2 6 53],.ret],
 [.cell 6 (some 2)],54⟩
theorem tA:aQ Tryz.prog 101 [3,4]=some oB:=by kernel_rfl
theorem Kq (l:List cH) (m:l.length<=10000) (n:Int):cx Tryz.prog 102 [.aS (lj l),gi n] (encI (dA l n)):=by
 refine cx.of (by
  intro v d;simp at d
  rcases d with rfl | rfl
  .exact Jy _
  .exact .val _) ?_
 refine aw.of mixed ue ?_
 simp(disch:=omega)only[↓wr,seval,wq,oH,lj]
 refine bc.up l.length (λi T H'=>∃ u:V,aZ H' u 1 (bR (dA (l.take i) n))/\T 0=.aS (lj l)/\T 1=gi n/\T 5=u/\T 6=gi i) ⟨.emp 1,.nil,rfl,rfl,rfl,rfl⟩ ?_
 rintro i k T H hk ⟨u,b,t0,t1,t5,t6⟩
 simp(disch:=omega)only[↓wr,seval,wq,ni,t0,t1,t5,t6,lj]
 apply ah.dec<;>intro e
 .have c:l[i]?=some (l[i]'(by omega)):=U6 (by omega)
  generalize l[i]'(by omega)=x at c
  have a:dA (l.take (i+1)) n=if hasB x.set n=true then dA (l.take i) n ++ [x.al] else dA (l.take i) n:=by
   unfold dA
   rw[DG c]
   split <;> simp
  have f:(dA (l.take i) n).length<=i:=by
   unfold dA
   have:=VY (λx:cH=>hasB x.set n) (l.take i)
   simp only[Vl,VS] at this ⊢
   omega
  simp(disch:=omega)only[↓wr,seval,wq,t0,t1,t5,t6,lj,U9,c,Ve,BO]
  refine av.pure (Ql x.set n) ?_
  simp(disch:=omega)only[↓wr,seval,wq,t0,t1,t5,t6]
  apply ah.split<;>intro he
  .simp(disch:=omega)only[↓wr,seval,wq,t0,t1,t5,t6,lj,U9,c,Ve,BO]
   intro q g
   simp(disch:=omega)only[↓wr,seval,wq,bt]
   refine kx (b.fresh g) (by simp[aJ]) (by unfold aD;simp;omega) (by unfold aD;simp;omega) ?_
   intro h o j _
   simp(disch:=omega)only[↓wr,seval,wq,t0,t1,t5,t6]
   rw[Va he] at a
   exact aI hk (by omega) ⟨h,by rw[a];simpa using j,t0,t1,rfl,rfl⟩
  .simp(disch:=omega)only[↓wr,seval,wq,t0,t1,t5,t6]
   rw[U8 (by rw[he];simp)] at a
   exact aI hk (by omega) ⟨u,by rw[a];exact b,t0,t1,t5,rfl⟩
 .rw[Vn (by omega)] at b
  simp(disch:=omega)only[↓wr,seval,wq,t5]
  rintro p rfl
  exact kn b
theorem DP {g:ae} {t:Int} {x:Term} (h:g.ai[t.toNat]?=some x):fF g t=x.level/\uQ g t=x.assoc:=by
 simp[fF,uQ,h]
theorem Ia (g:ae) (r:g.Ok) (al term:Int):ay Tryz.prog 103 [.agg (ag g),gi al,gi term] (gi (kL g al term)):=by
 refine ay.val (by
  intro v j;simp at j
  rcases j with rfl | rfl | rfl
  .exact bz _ (bE g)
  .exact .val _
  .exact .val _) λH=>?_
 have c:=gK g r
 refine aw.of mixed sx ?_
 simp only[ag,encS] at c
 simp(disch:=omega)only[↓wr,seval,wq,nH,ag,encS]
 refine av.pure c ?_
 have bad:aO g=false∨al < 0∨(g.rules.length:Int)<=al∨term < 0∨(g.ai.length:Int) < term->kL g al term=0:=λh=>by rw[kL,Va h]
 cases hr:aO g with
 | false =>
  simp(disch:=omega)only[↓wr,seval,wq]
  rw[bad (.inl hr)]
 | true =>
  have s:=aK hr
  simp(disch:=omega)only[↓wr,seval,wq]
  apply ah.dec<;>intro h1
  .simp(disch:=omega)only[↓wr,seval,wq]
   rw[bad (.inr (by omega))]
  simp(disch:=omega)only[↓wr,seval,wq,ag]
  apply ah.dec<;>intro t
  .simp(disch:=omega)only[↓wr,seval,wq]
   rw[bad (.inr (by omega))]
  simp(disch:=omega)only[↓wr,seval,wq]
  apply ah.dec<;>intro u
  .simp(disch:=omega)only[↓wr,seval,wq]
   rw[bad (.inr (by omega))]
  simp(disch:=omega)only[↓wr,seval,wq,ag]
  apply ah.dec<;>intro w
  .simp(disch:=omega)only[↓wr,seval,wq]
   rw[bad (.inr (by omega))]
  have e:g.rules[al.toNat]?=some (az g al):=by unfold az;exact getD_some (by omega)
  have x:=s.prec _ (Vc e)
  have k:kL g al term=if term=g.ai.length∨(az g al).prec < 0∨fF g (az g al).prec=0∨fF g term=0 then 4
    else if fF g term < fF g (az g al).prec∨fF g (az g al).prec=fF g term/\uQ g term=1 then 1
    else if fF g (az g al).prec < fF g term∨uQ g term=2 then 2 else 3:=by
   rw[kL,U8 (by rw[hr];simp;omega)]
  rw[k]
  clear k bad
  generalize az g al=R at e x
  simp(disch:=omega)only[↓wr,seval,wq,ag,U9,e,Ve,aW]
  apply ah.eq<;>intro l
  .simp(disch:=omega)only[↓wr,seval,wq]
   rw[Va (.inl l)]
  simp(disch:=omega)only[↓wr,seval,wq]
  apply ah.dec<;>intro m
  .simp(disch:=omega)only[↓wr,seval,wq]
   rw[Va (.inr (.inl m))]
  have hp:g.ai[R.prec.toNat]?=some (g.ai[R.prec.toNat]'(by omega)):=U6 (by omega)
  have d:g.ai[term.toNat]?=some (g.ai[term.toNat]'(by omega)):=U6 (by omega)
  generalize g.ai[R.prec.toNat]'(by omega)=p at hp
  generalize g.ai[term.toNat]'(by omega)=q at d
  obtain⟨y,_⟩:=DP hp
  obtain⟨z,A⟩:=DP d
  rw[y,z,A]
  simp(disch:=omega)only[↓wr,seval,wq,ag,U9,hp,d,Ve,cO]
  apply ah.eq<;>intro n
  .simp(disch:=omega)only[↓wr,seval,wq]
   rw[Va (.inr (.inr (.inl n)))]
  simp(disch:=omega)only[↓wr,seval,wq,ag,U9,hp,d,Ve,cO]
  apply ah.eq<;>intro o
  .simp(disch:=omega)only[↓wr,seval,wq]
   rw[Va (.inr (.inr (.inr o)))]
  rw[U8 (by omega)]
  simp(disch:=omega)only[↓wr,seval,wq,ag,U9,hp,d,Ve,cO]
  apply ah.dec<;>intro B
  .simp(disch:=omega)only[↓wr,seval,wq]
   rw[Va (by omega)]
  simp(disch:=omega)only[↓wr,seval,wq]
  apply ah.eq<;>intro f
  .simp(disch:=omega)only[↓wr,seval,wq]
   apply ah.eq<;>intro i
   .simp(disch:=omega)only[↓wr,seval,wq]
    rw[Va (by omega)]
   .simp(disch:=omega)only[↓wr,seval,wq]
    rw[U8 (by omega)]
    apply ah.dec<;>intro a
    .simp(disch:=omega)only[↓wr,seval,wq]
     rw[Va (by omega)]
    simp(disch:=omega)only[↓wr,seval,wq]
    apply ah.eq<;>intro b
    .simp(disch:=omega)only[↓wr,seval,wq]
     rw[Va (by omega)]
    .simp(disch:=omega)only[↓wr,seval,wq]
     rw[U8 (by omega)]
  .simp(disch:=omega)only[↓wr,seval,wq]
   rw[U8 (by omega)]
   apply ah.dec<;>intro a
   .simp(disch:=omega)only[↓wr,seval,wq]
    rw[Va (by omega)]
   simp(disch:=omega)only[↓wr,seval,wq]
   apply ah.eq<;>intro b
   .simp(disch:=omega)only[↓wr,seval,wq]
    rw[Va (by omega)]
   .simp(disch:=omega)only[↓wr,seval,wq]
    rw[U8 (by omega)]
theorem A3:∀ (l:List eV) (s:Int) (i:Nat),(∀ j e,j < i->l[j]?=some e->e.sym≠s)->(∀ e,l[i]?=some e->e.sym=s->gq l s=some ⟨1,e.to⟩)/\(l.length<=i->gq l s=none)
 | [],s,i,_=>⟨λe h=>by simp at h,λ_=>rfl⟩
 | x :: l,s,0,_=>⟨λe h a=>by simp at h;subst h;simp[gq,a],λh=>by simp at h⟩
 | x :: l,s,i+1,h=>by
  have b:=h 0 x (by omega) rfl
  obtain⟨h1,c⟩:=A3 l s i λj e f he=>h (j+1) e (by omega) (by simpa using he)
  refine⟨λe he a=>?_,λd=>?_⟩
  .rw[gq,U8 b];exact h1 e (by simpa using he) a
  .rw[gq,U8 b];exact c (by simpa using d)
theorem Kv (g:ae) (y:g.Ok) (s:aR) (z:aH s.bI/\aH s.aX) (t:Int):ay Tryz.prog 101 [.agg (ag g),.agg (eU s),gi t] (.agg (cK (eY g s t))):=by
 obtain⟨p,q⟩:=z
 have A:=y.ai
 unfold aH at p q A
 refine ay.tree (by
  intro v w;simp at w
  rcases w with rfl | rfl | rfl
  .exact bz _ (bE g)
  .exact bz _ (vV s)
  .exact .val _) (bz _ (rT _)) λH=>?_
 refine aw.of mixed tA ?_
 simp(disch:=omega)only[↓wr,seval,wq,oB]
 refine⟨rfl,rfl,λb f=>?_⟩
 refine bc.up s.bI.length (λi T H'=>(∀ j e,j < i->s.bI[j]?=some e->e.sym≠t)/\H' b=.arr 2 [[gi 0,gi 0]]/\T 2=gi t/\T 3=.aF (ag g) 0/\T 4=.aF (eU s) 0/\T 6=.ptr b 0 0/\T 7=gi i) ⟨λj e h=>by omega,by simp[View.set],rfl,rfl,rfl,rfl,rfl⟩ ?_
 rintro i k T H hk ⟨a,f,t2,t3,t4,t6,t7⟩
 obtain⟨f1,f2⟩:=A3 s.bI t i a
 simp(disch:=omega)only[↓wr,seval,wq,mE,t2,t3,t4,t6,t7,eU,ly]
 apply ah.dec<;>intro B
 .have l:s.bI[i]?=some (s.bI[i]'(by omega)):=U6 (by omega)
  generalize s.bI[i]'(by omega)=E at l
  simp(disch:=omega)only[↓wr,seval,wq,t2,t3,t4,t6,t7,eU,ly,U9,l,Ve,sY]
  apply ah.eq<;>intro he
  .simp(disch:=omega)only[↓wr,seval,wq,t2,t3,t4,t6,t7,eU,ly,U9,l,Ve,sY,f]
   rw[eY,f1 E l he]
   rfl
  .simp(disch:=omega)only[↓wr,seval,wq,t2,t3,t4,t6,t7]
   refine aI hk (by omega) ⟨λj e r c=>?_,f,t2,t3,t4,t6,rfl⟩
   rcases Vw j i with h | h
   .exact a j e h c
   .have:j=i:=by omega
    subst this
    rw[l] at c;simp at c;subst c;exact he
 have d:=f2 (by omega)
 simp(disch:=omega)only[↓wr,seval,wq,t2,t3,t4,t6]
 refine bc.up s.aX.length (λi T H'=>(t=g.ai.length->∀ j x,j < i->s.aX[j]?=some x->x≠(⟨-1,1⟩:aC))/\H' b=.arr 2 [[gi 0,gi 0]]/\T 2=gi t/\T 3=.aF (ag g) 0/\T 4=.aF (eU s) 0/\T 6=.ptr b 0 0/\T 8=gi i) ⟨λ_ j e h=>by omega,f,t2,t3,t4,t6,rfl⟩ ?_
 clear a f t2 t3 t4 t6 t7 f1 f2
 rintro i k2 D F m ⟨a,f,t2,t3,t4,t6,t8⟩
 simp(disch:=omega)only[↓wr,seval,wq,nk,t2,t3,t4,t6,t8,eU,bA]
 apply ah.dec<;>intro u
 .have n:s.aX[i]?=some (s.aX[i]'(by omega)):=U6 (by omega)
  generalize s.aX[i]'(by omega)=x at n
  simp(disch:=omega)only[↓wr,seval,wq,t2,t3,t4,t6,t8,ag]
  apply ah.eq<;>intro o
  .simp(disch:=omega)only[↓wr,seval,wq,t2,t3,t4,t6,t8,eU,bA,U9,n,Ve,bC]
   refine lM (xs:=#[.int .i64 x.al,.int .i64 x.dot]) (ys:=#[.int .i64 (-1),.int .i64 1]) Tryz.underlying120 (by kernel_rfl) (by kernel_rfl) ?_ ?_ (tn x ⟨-1,1⟩) (.inl ⟨rfl,rfl⟩) ?_
   .rfl
   .rfl
   rw[Bi]
   simp(disch:=omega)only[↓wr,seval,wq]
   apply ah.dec<;>intro he
   .simp(disch:=omega)only[↓wr,seval,wq,t2,t3,t4,t6,t8,f]
    rw[eY,d]
    simp only
    rw[Va ⟨o,he ▸ Vc n⟩]
    rfl
   .simp(disch:=omega)only[↓wr,seval,wq,t2,t3,t4,t6,t8]
    refine aI m (by omega) ⟨λ_ j e r c=>?_,f,t2,t3,t4,t6,rfl⟩
    rcases Vw j i with h | h
    .exact a o j e h c
    .have:j=i:=by omega
     subst this
     rw[n] at c;simp at c;subst c;exact he
  .simp(disch:=omega)only[↓wr,seval,wq,t2,t3,t4,t6,t8]
   exact aI m (by omega) ⟨λh=>absurd h o,f,t2,t3,t4,t6,rfl⟩
 .simp(disch:=omega)only[↓wr,seval,wq,t6,f]
  rw[eY,d]
  simp only
  rw[U8]
  .rfl
  .rintro⟨h1,C⟩
   obtain⟨j,r,e⟩:=V4.1 C
   exact a h1 j _ (by omega) (by rw[U6 r,e]) rfl
end Gv
