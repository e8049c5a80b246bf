/-
  Part 7 of the proof: what the machine does and what the functions answer.
  Conditions: those that each lemma names.
-/
import Derived.Test.YtiophifnkakjgaaGreatSGzC1F
set_option linter.unusedSimpArgs false
set_option linter.unusedVariables false
set_option maxRecDepth 100000
set_option maxHeartbeats 20000000
namespace Gv
open Go Go.Proofs
section
variable {P:Program} {n:Nat} {all:List Oper}
def jJ (h:aE) (e:ES):Prop:=e.V=h.view/\e.n=h.length
def Calm (e e':ES) (h h':aE):Prop:=h.length<=h'.length/\(∀ id,id < h.length->¬ id∈e'.w->h'.view id=h.view id/\¬ id∈e.w)
theorem Calm.trans {a b c:ES} {h1 e f:aE} (x:Calm a b h1 e) (y:Calm b c e f):Calm a c h1 f :=
 ⟨abx x.1 y.1,λid d hw =>
  let ⟨g,d1⟩:=y.2 id (abd d x.1) hw
  let ⟨h,d2⟩:=x.2 id d d1
  ⟨g.trans h,d2⟩⟩
theorem Calm.refl (e:ES) (h:aE):Calm e e h h:=⟨aaM _,λ_ _ hw=>⟨rfl,hw⟩⟩
def mz (P:Program) (call:jo):Prop:=∀ g vs e v e' h,call g vs e=some (v,e')->jJ h e ->
 ed P g=true/\∃ h',bU P g vs h v h'/\jJ h' e'/\(∀ id,id < h.length->¬ id∈e'.w->h'.view id=h.view id)/\∀ id,id∈e'.w->id < h.length
def yS (P:Program) (run:As):Prop:=∀ (n:Nat) (fz:List Nat) (c:Code) (sc:DC),kh P n fz c=some sc->n<=8000->∀ (e e':ES) (r:Exit) (h:aE),run sc e=some (r,e')->jJ h e ->
 ∃ h',dE P n c e.T h r e'.T h'/\jJ h' e'/\Calm e e' h h'/\∀ c0,c=.loop c0->sg P n c0 e.T h r e'.T h'
theorem Q1 {h:aE} {e:ES} {d:Option Nat} {v:V} (he:jJ h e):jJ h (e.put d v):=by cases d <;> exact he
theorem Wj {e:ES} {d:Option Nat} {v:V} : (e.put d v).w=e.w:=by cases d <;> rfl
theorem U9 {h:aE} {e e':ES} {b:aE} {d:Option Nat} {v:V} (x:Calm e e' h b):Calm e (e'.put d v) h b:=⟨x.1,λid a hw=>x.2 id a (by rw[Wj] at hw;exact hw)⟩
theorem FC {a:Nat} (h:Nat.ble a 8000=true):a+1 < 2 ^ 13:=by
 have:=Nat.le_of_ble_eq_true h
 omega
theorem Xs {h:aE} {e e':ES} {v v':V} {eff:bE} {rd:List Nat} {c:Rec} (he:jJ h e) (a:J3 v eff rd e=some (v',e',c)) :
  v'=v/\e'.T=e.T/\e'.V=eff.view h.view h.length/\e'.n=(eff.apply h).length/\c=⟨rd,eff.wr,false,h.length,(eff.apply h).length⟩/\e'.w=eff.wr ++ e.w:=by
 obtain⟨h1,b⟩:=he
 unfold J3 at a
 cases eff with
 | none =>
  simp only[aaC,aaG] at a
  obtain⟨rfl,rfl,rfl⟩:=a
  exact⟨rfl,rfl,h1,b,by rw[b];rfl,rfl⟩
 | new o =>
  simp only at a
  split at a
  .rename_i d
   simp only[aaC,aaG] at a
   obtain⟨rfl,rfl,rfl⟩:=a
   refine⟨rfl,rfl,?_,by simp[ir,b],by simp[ir,b,bE.wr],rfl⟩
   funext k
   simp only[ES.V,bE.view,View.set]
   rw[c7.oY _ _ _ _ _ _ (FC d),b]
   have:=congrFun h1 k
   simp only[ES.V] at this
   rw[this]
  .simp at a
 | fU id o =>
  simp only at a
  split at a
  .rename_i d
   simp only[aaC,aaG] at a
   obtain⟨rfl,rfl,rfl⟩:=a
   refine⟨rfl,rfl,?_,by simp[ir,b],by simp[ir,b,bE.wr],rfl⟩
   funext k
   simp only[ES.V,bE.view,View.set]
   rw[c7.oY _ _ _ _ _ _ (FC d)]
   have:=congrFun h1 k
   simp only[ES.V] at this
   rw[this]
  .simp at a
 | eJ id o =>
  simp only at a
  split at a
  .rename_i f g
   simp only[aaC,aaG] at a
   obtain⟨rfl,rfl,rfl⟩:=a
   refine⟨rfl,rfl,?_,by simp[ir,b],by simp[ir,b,bE.wr],rfl⟩
   funext k
   simp only[ES.V,bE.view,View.set]
   rw[c7.oY _ _ _ _ _ _ (FC f),c7.oY _ _ _ _ _ _ (FC g),b]
   have:=congrFun h1 k
   simp only[ES.V] at this
   rw[this]
  .simp at a
theorem YG {o:Oper} {e e':ES} {h:aE} {s:SI} {v:V} {c:Rec} (i:dX n all e.T o=some true) (j:∀ v eff rd,sI P s e.T h.view h.length=some (v,eff,rd)->cH P o e.T h.view h.length=some (v,eff,rd))
  (he:jJ h e) (b:R6 P s e=some (v,e',c)):∃ d,eC P n all o e.T h v d c.rd c.wr c.call/\jJ d e'/\e'.T=e.T/\Calm e e' h d/\mj (vG P s) c.rd c.wr c.call h.length d.length/\c.lo=h.length/\c.hi=d.length:=by
 unfold R6 at b
 rw[PQ,he.1,he.2] at b
 split at b
 .rename_i v0 eff rd f
  obtain⟨rfl,g1,g2,g3,rfl,g5⟩:=Xs he b
  have g:=j _ _ _ f
  have st:=eC.op (P:=P) (n:=n) (all:=all) i g
  refine⟨eff.apply h,st,⟨?_,g3⟩,g1,⟨vP st,λid a hw=>?_⟩,⟨λk=>?_,λh1=>?_⟩,rfl,rfl⟩
  .rw[mJ (λid a=>(oA g id a).1)];exact g2
  .rw[g5] at hw
   simp only[aa1,not_or] at hw
   exact⟨tS st a hw.1,hw.2⟩
  .obtain⟨rfl,rfl⟩:=(uq f).1 k
   exact⟨rfl,rfl,rfl,rfl⟩
  .rcases aa2 (vG P s) 1 with l | l
   .obtain⟨rfl,rfl⟩:=(uq f).1 (by omega);rfl
   .exact(uq f).2 (by omega)
 .simp at b
theorem Zh {call:jo} (j:mz P call) {q:Fz} {o:Oper} {e e':ES} {h:aE} {v:V} {c:Rec} (r:dX n all e.T o=some true) (he:jJ h e) (a:eB P call (nW P q o) e=some (v,e',c)) :
  ∃ k,eC P n all o e.T h v k c.rd c.wr c.call/\jJ k e'/\e'.T=e.T/\Calm e e' h k/\mj (jU P false (nW P q o)) c.rd c.wr c.call h.length k.length/\c.lo=h.length/\c.hi=k.length:=by
 rcases CR P q o with ⟨f,args,C,m,i | i⟩ | ⟨t,x,m,i⟩ | ⟨s,d,x,m,u,i⟩ | i
 rotate_left
 .rw[i] at a
  simp[eB] at a
 rotate_right
 .rw[i] at a ⊢
  simp only[eB,Qw] at a
  split at a
  .rename_i g first cap A
   rw[Ff] at a
   rw[SX.dh] at A
   split at a
   .rename_i v0 G D
    obtain⟨l,k,hr,p,B,w⟩:=j _ _ _ _ _ _ D he
    simp only[aaC,aaG] at a
    obtain⟨rfl,rfl,rfl⟩:=a
    exact⟨k,.call r m A l hr B w,p,rfl,⟨hr.1,λid y hw=>by
     simp only[aa1,not_or] at hw
     exact⟨B id y hw.1,hw.2⟩⟩,Wn (by simp[jU]),he.2,p.2⟩
   .simp at a
  .simp at a
 .rw[i] at a ⊢
  simp only[eB,R6,PQ,sI,SX.dh] at a
  split at a
  .rename_i v0 eff rd b
   split at b
   .rename_i l
    simp only[aaC,aaG] at b
    obtain⟨rfl,rfl,rfl⟩:=b
    simp only[J3,aaC,aaG] at a
    obtain⟨rfl,rfl,rfl⟩:=a
    exact⟨h,.ko r m l,he,rfl,Calm.refl _ _,⟨λ_=>⟨rfl,rfl,rfl,rfl⟩,λ_=>rfl⟩,he.2,he.2⟩
   .simp at b
  .simp at a
 .rw[i] at a ⊢
  obtain⟨ty,h1,E,F⟩:=C6 u
  simp only[eB,R6,PQ,sI,SX.dh] at a
  split at a
  .rename_i v0 eff rd b
   split at b
   .rename_i st z
    simp only[aaC,aaG] at b
    obtain⟨rfl,rfl,rfl⟩:=b
    simp only[J3,aaC,aaG] at a
    obtain⟨rfl,rfl,rfl⟩:=a
    exact⟨h,.gV r m h1 E F z,he,rfl,Calm.refl _ _,⟨λ_=>⟨rfl,rfl,rfl,rfl⟩,λ_=>rfl⟩,he.2,he.2⟩
   .simp at b
  .simp at a
 .rw[i] at a ⊢
  exact YG (s:=AT P q.fr (comp P o)) r (λv eff rd b=>MD (NO b)) he a
theorem YN {o:Oper} (a:tP n o=true) (b:n<=8000):∀ t,o.dst=some t->t < 8000:=by
 intro t c
 unfold tP at a
 rw[c] at a
 have:t < n:=by simpa using a
 exact abd this b
theorem Xp {c:Rec} {a b:Nat} (h1:c.lo=a) (d:c.hi=b):c=⟨c.rd,c.wr,c.call,a,b⟩:=by cases c;subst h1;subst d;rfl
theorem Kw {call:jo} (i:mz P call) (N:n<=8000) {S:Fz} (g:Option (Nat × Bool)):∀ (l:List (Option Nat × SB)) (os:List Oper) (e e':ES) (h:aE) (a u:List Rec),
  eh P n all S os=some (l.map λ(d,b)=>⟨d,g,b⟩)->(∀ d w,g=some (d,w)->e.T d=.val (.bool w)/\(l.all λx=>x.1 != some d)=true)->jJ h e->NH P call l a e=some (e',u) ->
  ∃ f z,u=a ++ f/\Tr P n all os e.T h f e'.T z/\jJ z e'/\Calm e e' h z/\gP P false (l.map λ(d,b)=>⟨d,g,b⟩) f
 | [],os,e,e',h,a,u,A,B,he,k=>by
  have:=mL A;subst this
  simp only[NH,aaC,aaG] at k;obtain⟨rfl,rfl⟩:=k
  exact⟨[],h,by simp,.nil,he,Calm.refl _ _,.nil⟩
 | (d,b) :: l,os,e,e',h,a,u,A,B,he,k=>by
  obtain⟨o,r,rfl,h1,U⟩:=nK A
  obtain⟨O,j,q,s⟩:=vW h1
  simp only at j q s
  have C:dX n all e.T o=some true:=by
   cases g with
   | none=>exact EL s
   | some p =>
    obtain⟨D,w⟩:=p
    have:=(mD (T:=e.T) s).1 w (B D w rfl).1
    rw[this];simp
  simp only[NH] at k
  rw[q] at k
  split at k
  .rename_i v Q c V
   obtain⟨E,st,F,G,H,W,I,J⟩:=Zh i C he V
   have m:(Q.put d v).T=e.T.put o.dst v:=by
    rw[ES.Ww (by rw[j];exact YN O N),G,j]
   obtain⟨f,K,X,R,L,y,M⟩:=Kw i N g l r (Q.put d v) e' E _ u U (λD w eq=>by
    have:=B D w eq
    simp only[abQ,aaK,acM,ne_eq] at this
    refine⟨?_,this.2.2⟩
    rw[<-this.1,m,<-j]
    cases d with
    | none=>rfl
    | some t=>simp only[Env.put];rw[aaD];intro e;subst e;exact this.2.1 rfl) (Q1 F) k
   rw[m] at R
   refine⟨_,K,?_,.cons st O R,L,(U9 H).trans y,M.cons (by rw[q];exact W)⟩
   rw[X,abl,<-Xp I J];rfl
  .simp at k
theorem K0 {E:Fz} (C:n<=8000) (d:Nat) (w:Bool) (h:aE):∀ (l:List (Option Nat × SB)) (os:List Oper) (e e':ES) (a m:List Rec),
  eh P n all E os=some (l.map λ(g,b)=>⟨g,some (d,w),b⟩)->(e.T d=.val (.bool !w)∨e.T d=.bf [])->(l.all λx=>x.1 != some d)=true->jJ h e->ze l a e=(e',m) ->
  ∃ c,m=a ++ c/\Tr P n all os e.T h c e'.T h/\jJ h e'/\e'.w=e.w/\gP P false (l.map λ(g,b)=>⟨g,some (d,w),b⟩) c
 | [],os,e,e',a,m,u,j,s,he,p=>by
  have:=mL u;subst this
  simp only[ze,aaG] at p;obtain⟨rfl,rfl⟩:=p
  exact⟨[],by simp,.nil,he,rfl,.nil⟩
 | (g,b) :: l,os,e,e',a,m,u,j,s,he,p=>by
  obtain⟨o,r,rfl,h1,F⟩:=nK u
  obtain⟨q,f,v,k⟩:=vW h1
  simp only at f v k
  have y:dX n all e.T o=some false:=by
   rcases j with j | j
   .rw[(mD (T:=e.T) k).1 _ j];cases w <;> rfl
   .exact(mD (T:=e.T) k).2 j
  simp only[abQ,aaK,acM,ne_eq] at s
  have i:(e.put g (.bf [])).T=e.T.put o.dst (.bf []):=by
   rw[ES.Ww (by rw[f];exact YN q C),f]
  simp only[ze] at p
  obtain⟨c,G,D,z,A,B⟩:=K0 C d w h l r (e.put g (.bf [])) e' _ m F (by
   have:(e.put g (.bf [])).T d=e.T d:=by
    rw[i,<-f]
    cases g with
    | none=>rfl
    | some t=>simp only[Env.put];rw[aaD];intro e;subst e;exact s.1 rfl
   rw[this];exact j) s.2 (Q1 he) p
  rw[i] at D
  refine⟨_,?_,Tr.cons (.skip y) q D,z,by rw[A,Wj],B.cons (r:=⟨[],[],false,h.length,h.length⟩) ⟨λ_=>⟨rfl,rfl,rfl,rfl⟩,λ_=>rfl⟩⟩
  rw[G,abl,WE,he.2];rfl
theorem Il {j:Fz} (k:n<=8000) {d:Nat} {w:Bool} {h:aE} {l:List (Option Nat × SB)} {os:List Oper} {e e':ES} {a f:List Rec}
  (m:eh P n all j os=some (l.map λ(g,b)=>⟨g,some (d,w),b⟩)) (o:e.T d=.val (.bool !w)∨e.T d=.bf []) (p:(l.all λx=>x.1 != some d)=true) (he:jJ h e) (q:ze l a e=(e',f)) :
  ∃ c i,f=a ++ c/\Tr P n all os e.T h c e'.T i/\jJ i e'/\Calm e e' h i/\gP P false (l.map λ(g,b)=>⟨g,some (d,w),b⟩) c:=by
 obtain⟨c,h1,r,s,t,u⟩:=K0 k d w h l os e e' a f m o p he q
 exact⟨c,h,h1,r,s,⟨aaM _,λid _ hw=>⟨rfl,by rw[t] at hw;exact hw⟩⟩,u⟩
theorem YW {call:jo} (i:mz P call) (m:n<=8000) {s:Fz} {g:SG} {os:List Oper} {e e':ES} {h:aE} {a o:List Rec} (k:eh P n all s os=some g.flat) (c:vV g=true) (he:jJ h e) (f:eG P call g a e=some (e',o)) :
  ∃ j q,o=a ++ j/\Tr P n all os e.T h j e'.T q/\jJ q e'/\Calm e e' h q/\gP P false g.flat j:=by
 unfold eG at f
 unfold SG.flat at k ⊢
 unfold vV at c
 split at f
 .rename_i r
  rw[r] at k ⊢
  exact Kw i m none g.ops os e e' h a o k (λd w e=>by simp at e) he f
 .rename_i d want r
  rw[r] at k c ⊢
  simp only at c
  unfold TI at f
  split at f
  .rename_i b p
   split at f
   .rename_i l
    simp only[aaC] at f
    have e':b = !want:=by cases b <;> cases want <;> simp_all
    subst e'
    exact Il m k (.inl p) c he f
   .rename_i l
    have e':b=want:=by cases b <;> cases want <;> simp_all
    subst e'
    exact Kw i m (some (d,b)) g.ops os e _ h a o k (λt w e=>by simp at e;obtain⟨rfl,rfl⟩:=e;exact⟨p,c⟩) he f
  .rename_i p
   simp only[aaC] at f
   exact Il m k (.inr p) c he f
  .simp at f
theorem RG {call:jo} (b:mz P call) (z:n<=8000) {A:Fz} : ∀ (gs:List SG) (os:List Oper) (e e':ES) (h:aE) (a i:List Rec),eh P n all A os=some (lL gs)->gs.all vV=true->jJ h e->Qy P call gs a e=some (e',i) ->
  ∃ c k,i=a ++ c/\Tr P n all os e.T h c e'.T k/\jJ k e'/\Calm e e' h k/\gP P false (lL gs) c
 | [],os,e,e',h,a,i,j,_,he,d=>by
  have:=mL j;subst this
  simp only[Qy,aaC,aaG] at d;obtain⟨rfl,rfl⟩:=d
  exact⟨[],h,by simp,.nil,he,Calm.refl _ _,.nil⟩
 | g :: gs,os,e,e',h,a,i,j,f,he,d=>by
  simp only[lL,aa9,List.flatten_cons] at j ⊢
  simp only[abQ,aaK] at f
  obtain⟨F,B,rfl,h1,C⟩:=tq j
  simp only[Qy] at d
  split at d
  .rename_i D E l
   obtain⟨G,m,o,p,q,r,s⟩:=YW b z h1 f.1 he l
   obtain⟨H,t,u,v,w,x,y⟩:=RG b z gs B D e' m E i C f.2 q d
   exact⟨_,t,by rw[u,o,abl],p.append v,w,r.trans x,s.append y⟩
  .simp at d
theorem RE {ls:List Nat} {i k x y:Nat} (a:i < k) (b:ls[i]?=some x) (c:ls[k]?=some y) (d:ordered (gu all []) i k=false) (h:¬ (x=0∨y=0∨(x<=1/\y<=1))):(i,k)∈E1 all ls:=by
 unfold E1
 simp only[List.mem_flatten,aaX]
 refine⟨_,⟨(x,i),by rw[abI];exact b,rfl⟩,?_⟩
 simp only[aaX,abt]
 refine⟨(y,k),⟨by rw[abI];exact c,?_⟩,rfl⟩
 simp only[a,decide_true,d,acJ,abM,acD,Bool.or_eq_false_iff,beq_eq_false_iff_ne,Bool.and_eq_false_iff,abT]
 omega
theorem Uq {ls:List Nat} {d:List Rec} (h:Tt d (E1 all ls)=true) (v:ls.length=d.length) (hr:∀ (i x:Nat) (r:Rec),ls[i]?=some x->d[i]?=some r->mj x r.rd r.wr r.call r.lo r.hi):wZ all d:=by
 intro i k a b l m n t
 have hi:i < d.length:=(aaR.1 m).1
 have hk:k < d.length:=(aaR.1 n).1
 have j:ls[i]?=some (ls[i]'(by omega)):=aaB (by omega)
 have o:ls[k]?=some (ls[k]'(by omega)):=aaB (by omega)
 generalize ls[i]'(by omega)=x at j
 generalize ls[k]'(by omega)=y at o
 have q:=hr i _ a j m
 have s:=hr k _ b o n
 by_cases f:x=0∨y=0∨(x<=1/\y<=1)
 .rcases f with h1 | h1 | h1
  .obtain⟨g,e,p,u⟩:=q.1 h1
   exact⟨λid c=>by simp[e] at c,λid _=>by simp[g],λf=>by simp[p] at f,λ_=>e,λid _ j=>by omega⟩
  .obtain⟨g,e,p,u⟩:=s.1 h1
   exact⟨λid _=>by simp[g],λid c=>by simp[e] at c,λ_=>e,λf=>by simp[p] at f,λid c=>by simp[e] at c⟩
  .have g:=q.2 h1.1
   have e:=s.2 h1.2
   exact⟨λid c=>by simp[g] at c,λid c=>by simp[e] at c,λ_=>e,λ_=>g,λid c=>by simp[e] at c⟩
 .have:=aaZ.1 h _ (RE l j o t f)
  simp only[m,n] at this
  exact RH this
theorem WK (hm:P.follows .mixedOrders=true) {call:jo} (g:mz P call) (D:n<=8000) {y:List Nat} {id:Nat} {ops:Array Oper} {draw:Bool} {z:DC} {run:As} {e e':ES} {r:Exit} {h:aE}
  (c:Ka P n y ops.toList draw=some z) (he:jJ h e) (a:nT P call run z e=some (r,e')) :
  ∃ f,dE P n (.region id ops draw) e.T h r e'.T f/\jJ f e'/\Calm e e' h f:=by
 unfold Ka at c
 split at c
 .simp at c
 .rename_i l E
  split at c
  .simp at c
  .rename_i j
   have j:(group l).all vV=true:=by simpa using j
   have p:eh P n ops.toList ⟨y,false⟩ ops.toList=some (lL (group l)):=by rw[ia];exact E
   have key:∀ q,nT P call run (.region q (group l)) e=some (r,e')->(draw=true->nJ ops.toList=true/\q=E1 ops.toList (l.map λs=>jU P false s.b)) ->
     ∃ f,dE P n (.region id ops draw) e.T h r e'.T f/\jJ f e'/\Calm e e' h f:=by
    intro q a t
    simp only[nT,Oq] at a
    split at a
    .rename_i F d u
     split at a
     .rename_i m
      simp only[aaC,aaG] at a
      obtain⟨rfl,rfl⟩:=a
      obtain⟨A,f,B,C,hk,v,k⟩:=RG g D (group l) ops.toList e F h [] d p j he u
      simp only[abG] at B
      subst B
      rw[ia] at k
      refine⟨f,?_,hk,v⟩
      cases o:draw with
      | false=>simpa using Kz (id:=id) C
      | true =>
       obtain⟨h1,rfl⟩:=t o
       have w:wZ ops.toList d:=Uq m (by simpa using k.1) (λi x r a hr=>by
        simp only[aaE,aaO] at a
        obtain⟨s,G,rfl⟩:=a
        exact k.2 i s r G hr)
       simpa using BF hm (id:=id) C h1 w
     .simp at a
    .simp at a
   split at c
   .rename_i o
    split at c
    .rename_i H
     simp at c;subst c
     exact key _ a (λ_=>⟨H,rfl⟩)
    .simp at c
   .rename_i o
    simp at c;subst c
    exact key _ a (λe=>absurd e o)
theorem VV (hm:P.follows .mixedOrders=true) {call:jo} (q:mz P call) {run:As} (f:yS P run):yS P (nT P call run):=by
 intro n p c I k o e e' r h g he
 cases c with
 | skip =>
  simp[kh] at k;subst k
  simp only[nT,TN,aaC,aaG] at g
  obtain⟨rfl,rfl⟩:=g
  exact⟨h,.skip,he,Calm.refl _ _,λ_ h=>by simp at h⟩
 | region id ops draw =>
  obtain⟨G,a,b,d⟩:=WK (id:=id) hm q o k he g
  exact⟨G,a,b,d,λ_ h=>by simp at h⟩
 | seq x y =>
  simp only[kh] at k
  split at k
  .rename_i a b h1 B
   simp at k;subst k
   simp only[nT,X1] at g
   split at g
   .rename_i s m
    obtain⟨i,l,j,c1,w⟩:=f n p x a h1 o e s .normal h m he
    obtain⟨t,E,u,c2,F⟩:=f n p y b B o s e' r i g j
    exact⟨t,l.seq E,u,c1.trans c2,λ_ h=>by simp at h⟩
   .rename_i v
    obtain⟨i,l,j,c1,w⟩:=f n p x a h1 o e e' r h g he
    refine⟨i,l.NS (λe=>?_),j,c1,λ_ h=>by simp at h⟩
    subst e
    exact absurd g (v e')
  .simp at k
 | cond J x y =>
  simp only[kh] at k
  split at k
  .rename_i a b h1 B
   simp at k;subst k
   simp only[nT,Wf,SX.dh] at g
   split at g
   .rename_i C
    obtain⟨i,l,j,c1,w⟩:=f n p x a h1 o e e' r h g he
    exact⟨i,.cond C l,j,c1,λ_ h=>by simp at h⟩
   .rename_i C
    obtain⟨i,l,j,c1,w⟩:=f n p y b B o e e' r h g he
    exact⟨i,.cond C l,j,c1,λ_ h=>by simp at h⟩
   .simp at g
  .simp at k
 | block id c =>
  simp only[kh,aaO] at k
  obtain⟨a,h1,rfl⟩:=k
  simp only[nT,Sw] at g
  split at g
  .rename_i H s m
   simp only[aaC,aaG] at g
   obtain⟨rfl,rfl⟩:=g
   obtain⟨i,l,j,c1,w⟩:=f n p c a h1 o e s H h m he
   exact⟨i,l.block,j,c1,λ_ h=>by simp at h⟩
  .simp at g
 | loop c =>
  have D:=k
  simp only[kh,aaO] at k
  obtain⟨a,h1,rfl⟩:=k
  simp only[nT,Wc] at g
  split at g
  .rename_i s m
   obtain⟨i,l,j,c1,w⟩:=f n p c a h1 o e s .normal h m he
   obtain⟨t,E,u,c2,F⟩:=f n p (.loop c) (.loop a) D o s e' r i g j
   have z:=sg.step l (F c rfl)
   exact⟨t,.loop z,u,c1.trans c2,λc0 A=>by simp only[Code.loop.injEq] at A;subst A;exact z⟩
  .rename_i v
   obtain⟨i,l,j,c1,w⟩:=f n p c a h1 o e e' r h g he
   have z:=sg.out l (λe=>by subst e;exact absurd g (v e'))
   exact⟨i,.loop z,j,c1,λc0 A=>by simp only[Code.loop.injEq] at A;subst A;exact z⟩
 | exit id =>
  simp[kh] at k;subst k
  simp only[nT,aaC,aaG] at g
  obtain⟨rfl,rfl⟩:=g
  exact⟨h,.exit,he,Calm.refl _ _,λ_ h=>by simp at h⟩
 | ret =>
  simp[kh] at k;subst k
  simp only[nT,aaC,aaG] at g
  obtain⟨rfl,rfl⟩:=g
  exact⟨h,.ret,he,Calm.refl _ _,λ_ h=>by simp at h⟩
 | _=>simp[kh] at k
theorem HC:∀ (vs:List V) (i:Nat) (t:c7 V),i+vs.length<=8000->∀ k,(px vs i t).get .any k=if i<=k/\k < i+vs.length then vs.getD (k - i) .any else t.get .any k
 | [],i,t,h,k=>by
  rw[px,aaD (by simp only[aa8];omega)]
 | v :: vs,i,t,h,k=>by
  simp only[aaN] at h
  rw[px,HC vs (i+1) _ (by omega),c7.oY _ _ _ _ _ _ (by simp only[deep];omega)]
  simp only[aaN]
  by_cases h1:k=i
  .subst h1;rw[aaD (by omega),aaF rfl,aaF (by omega)];simp
  .by_cases a:i+1<=k/\k < i+1+vs.length
   .rw[aaF a,aaF (by omega)]
    have:k - i=(k - (i+1))+1:=by omega
    rw[this];rfl
   .rw[aaD a,aaD h1,aaD (by omega)]
theorem Mf (vs:List V) (h:vs.length<=8000):(px vs 0 .nil).get .any=mM vs:=by
 funext k
 rw[HC vs 0 .nil (by omega)]
 simp only[mM,ab5,true_and,abq,Nat.sub_zero]
 split
 .rfl
 .rename_i hk
  rw[aaA,aa6 (by omega)];rfl
theorem Xy {e:ES} {h:aE} {r:ResultVar} {rest:List ResultVar} {l:List SR} (he:jJ h e) (c:gz P (r :: rest)=some l):∃ s d,l=s :: d/\gz P rest=some d/\∀ v,UW s e=some v->vy P e.T h r=some v:=by
 cases r with
 | tmp t =>
  simp only[gz,aaO] at c
  obtain⟨d,h1,rfl⟩:=c
  exact⟨.tmp t,d,rfl,h1,λv b=>b⟩
 | cell a t =>
  simp only[gz] at c
  split at c
  .rename_i k d h1 m
   simp at c;subst c
   refine⟨.cell a k,d,rfl,m,λv b=>?_⟩
   simp only[UW] at b
   simp only[vy,nX,zU h1]
   rw[he.1] at b
   split at b
   .rename_i id i j f
    split at b
    .rename_i es hH
     split at b
     .rename_i g
      rw[f];simp only[hH];rw[aaF g,b];rfl
     .simp at b
    .simp at b
   .rename_i e j f
    rw[f];simp only;rw[b];rfl
   .simp at b
  .simp at c
theorem Jj {e:ES} {h:aE} (he:jJ h e):∀ (rs:List ResultVar) (l:List SR) (vs:List V),gz P rs=some l->zl l e=some vs->nP P e.T h rs=some vs
 | [],l,vs,a,hw=>by simp[gz] at a;subst a;simp[zl] at hw;subst hw;rfl
 | r :: rest,l,vs,a,hw=>by
  obtain⟨s,d,rfl,h1,f⟩:=Xy (e:=e) (h:=h) he a
  simp only[zl] at hw
  split at hw
  .rename_i v b g c
   simp at hw;subst hw
   simp[nP,f v g,Jj he rest d b h1 c]
  .simp at hw
def rW (P:Program) (tab:List (FuncId × DF)):Prop:=∀ p∈tab,∃ fz,Lg P p.1 fz=some p.2
def vw (P:Program) (ext:A8):Prop:=∀ g vs H t,ext g vs H=some t->ed P g=true/\∀ h:aE,h.view=H->bU P g vs h t h
theorem JK {q:List (FuncId × DF)} {ext:A8} (N:rW P q) (z:vw P ext) {run:As} (s:yS P run):mz P (Jg P q ext run):=by
 intro g vs e v e' h b he
 unfold Jg at b
 split at b
 .rename_i t u
  simp only[aaC,aaG] at b
  obtain⟨rfl,rfl⟩:=b
  obtain⟨h1,C⟩:=z _ _ _ _ u
  exact⟨h1,h,C h he.1.symm,he,λ_ _ _=>rfl,λ_ hw=>by simp at hw⟩
 .split at b
  .rename_i A F K
   have x:=List.mem_of_find?_eq_some K
   have D:A=g:=by
    have:=List.find?_some K
    exact acz this
   subst D
   obtain⟨O,k⟩:=N _ x
   simp only at k
   unfold Lg at k
   split at k
   .rename_i fn E
    split at k
    .rename_i c Q
     split at k
     .rename_i M rs h1 C R
      simp at k;subst k
      refine⟨R,?_⟩
      unfold Yb at b
      split at b
      .rename_i hlen B
       have hlen:=Nat.le_of_ble_eq_true hlen
       have B:=Nat.le_of_ble_eq_true B
       simp only at hlen B
       unfold YK at b
       split at b
       .rename_i v1 d f
        simp only[aaC,aaG] at b
        obtain⟨rfl,rfl⟩:=b
        unfold Yk at f
        have go:∀ (r:Exit) (p:ES),(r=.ret∨r=.normal)->run M ⟨px vs 0 .nil,e.H,e.n,[]⟩=some (r,p)->(zl rs p).map (λvs=>(zO vs,p))=some (v1,d) ->
          ∃ i,bU P A vs h v1 i/\jJ i d/\(∀ id,id < h.length->¬ id∈d.w->i.view id=h.view id):=by
         intro r p hr j o
         simp only[aaO,aaG] at o
         obtain⟨G,I,rfl,rfl⟩:=o
         obtain⟨i,z,y,J,_⟩:=s fn.ntmps O c M h1 B _ p r h j he
         have S:(ES.T ⟨px vs 0 .nil,e.H,e.n,[]⟩)=mM vs:=Mf vs (by omega)
         rw[S] at z
         refine⟨i,bU.N3 E Q hlen z (by rcases hr with rfl | rfl <;> simp) ?_,y,λid m hw=>(J.2 id m hw).1⟩
         unfold O7
         rw[Jj y _ _ _ C I]
         cases G with
         | nil=>rfl
         | cons a l=>cases l <;> rfl
        have done:(∃ i,bU P A vs h v1 i/\jJ i d/\(∀ id,id < h.length->¬ id∈d.w->i.view id=h.view id)) ->
          ∃ i,bU P A vs h v1 i/\jJ i ⟨d.L,d.H,d.n,d.w.filter λid=>Nat.blt id e.n⟩/\(∀ id,id < h.length->¬ id∈d.w.filter (λid=>Nat.blt id e.n)->i.view id=h.view id)/\∀ id,id∈d.w.filter (λid=>Nat.blt id e.n)->id < h.length:=by
         rintro⟨i,U,k2,V⟩
         refine⟨i,U,k2,λid m hw=>V id m (λhm=>hw ?_),λid hw=>?_⟩
         .rw[abt]
          exact⟨hm,by rw[he.2];exact Nat.ble_eq_true_of_le m⟩
         .rw[abt] at hw
          have:=Nat.le_of_ble_eq_true hw.2
          rw[he.2] at this;exact this
        split at f
        .rename_i p j;exact done (go _ _ (.inl rfl) j f)
        .rename_i p j;exact done (go _ _ (.inr rfl) j f)
        .simp at f
       .simp at b
      .simp at b
     .simp at k
    .simp at k
   .simp at k
  .simp at b
theorem NG (hm:P.follows .mixedOrders=true) {a:List (FuncId × DF)} {ext:A8} (b:rW P a) (d:vw P ext):∀ k,yS P (JW P a ext k)
 | 0=>λn g c i j l e e' r h hr he=>by simp[JW] at hr
 | k+1=>by
  have f:=NG hm b d k
  have:=VV hm (JK b d f) f
  exact this
end
inductive cM (h:aE):V->V->Prop
 | val (v:Value):cM h (.val v) (.val v)
 | emp (k:Nat):cM h (.emp k) (.aU [])
 | sl (id off len esz z:Nat) (es es':List (List V)):h.view id=.arr z es->off+len<=es.length->es'.length=len ->
  (∀ i,i < len->(es'.getD i []).length=(es.getD (off+i) []).length) ->
  (∀ i j,i < len->j < (es'.getD i []).length->cM h ((es.getD (off+i) []).getD j .any) ((es'.getD i []).getD j .any))->cM h (.sl id off len esz) (.aU es')
 | agg (cs cs':List V):cs'.length=cs.length->(∀ i,i < cs.length->cM h (cs.getD i .any) (cs'.getD i .any))->cM h (.agg cs) (.agg cs')
 | bf (cs cs':List V):cs'.length=cs.length->(∀ i,i < cs.length->cM h (cs.getD i .any) (cs'.getD i .any))->cM h (.bf cs) (.bf cs')
theorem WO {h:aE} {Z:Nat->Prop} {μ B:Mu} {F:View} {hp:Array Obj} (hr:iR Z μ hp (cat h F)) {v t:V} (fr:cM h v t):∀ {x:Value},aB Z μ hp v x->aB (kd μ) B hp t x:=by
 have l:∀ id,h.view id≠.dead->cat h F id=h.view id:=λid D=>by simp only[cat];rw[aaF (jh D)]
 induction fr with
 | val v=>intro x d;cases d with | val _ s=>exact .val _ s
 | emp k=>intro x d;cases d with | emp _ a=>exact .ji a 0 (λ_=>rfl)
 | sl id off len esz z es es' hH hle hlen E _ m =>
  intro x d
  cases d with
  | rn _ _ _ a =>
   have:es'=[]:=abU.1 hlen
   subst this
   exact .ji a 0 (λ_=>rfl)
  | sl _ _ _ _ b o0 cap c e f hm C J K =>
   have o:=hr.obj id
   rw[l id (by rw[hH];simp),hH] at o
   obtain⟨rfl,_,G,H⟩:=o b o0 esz hm
   have d:∀ i,∃ ci:Nat->Value,∀ j,j < esz->i < len->cellAt hp b (o0+off * esz+i * esz+j)=some (ci j)/\aB Z μ hp ((es.getD (off+i) []).getD j .any) (ci j):=by
    intro i
    by_cases hi:i < len
    .obtain⟨ci,u⟩:=p9 (n:=esz) (p:=λj x=>cellAt hp b (o0+off * esz+i * esz+j)=some x/\aB Z μ hp ((es.getD (off+i) []).getD j .any) x) (λj g=>by
      obtain⟨x,d,s⟩:=H (off+i) j (by omega) g
      rw[abp,<-aca] at d
      exact⟨x,d,s⟩)
     exact⟨ci,λj g _=>u j g⟩
    .exact⟨λ_=>undef,λj _ h=>absurd h hi⟩
   obtain⟨I,q⟩:=Classical.axiomOfChoice d
   have r:∀ i,i < es'.length->(es'.getD i []).length=esz:=λi hi=>by rw[E i (by omega)];exact G _ (by omega)
   have:=aB.aU (Z:=kd μ) (μ:=B) (hp:=hp) es' b (o0+off * esz) esz cap I ⟨id,o0,esz,hm⟩ (by omega) r
    (λi j hi g=>(q i j g (by omega)).1) (λi j hi g=>m i j (by omega) (by rw[r i hi];exact g) (q i j g (by omega)).2)
   rw[hlen] at this
   exact this
 | agg cs w hlen _ m =>
  intro x d
  cases d with
  | agg _ y h1 A=>exact .agg _ _ (by omega) (λi hi=>m i (by omega) (A i (by omega)))
 | bf cs w hlen _ m =>
  intro x d
  cases d with
  | bf _ y h1 A=>exact .bf _ _ (by omega) (λi hi=>m i (by omega) (A i (by omega)))
def cK (P:Program) (f:FuncId) (vs:List V) (t:V):Prop :=
 ∀ Z μ (w:World) (xs:List Value),gL Z μ w.heap vs xs->(∀ b,Z b->b < w.heap.size) ->
  Calls P f xs.toArray w λe w'=>∃ x Z',e=.returned x/\(∀ ν,aB Z' ν w'.heap t x)/\fB w w'/\(∀ b,Z' b->w.heap.size<=b/\b < w'.heap.size)/\gN w.heap w'.heap (λ_=>False)
theorem cK.pure {P:Program} {f:FuncId} {vs:List V} {t:V} (h:cK P f vs t):az P f vs t:=by
 intro Z μ w xs a d
 refine(h Z μ w xs a d).mono ?_
 rintro e w' ⟨x,g,rfl,i,j,c,k⟩
 exact⟨x,λb=>Z b∨g b,rfl,λl=>(i l).mono ⟨λ_ h=>.inr h,λ_ _=>rfl,λ_ _ h=>h,gx.refl _⟩,j,λ_ h=>.inl h,λb m=>m.imp id (c b),k⟩
theorem cK.zw {P:Program} {f:FuncId} {vs:List V} {r t:V} {k:aE} (m:∀ v∈vs,Tree v) (n:bU P f vs [] r k) (p:cM k r t):cK P f vs t:=by
 intro Z μ w xs a q
 have c:gL Z (λ_=>none) w.heap vs xs:=⟨a.1,λi hi=>zt (a.2 i hi) (by
  simp only[aaA,aaB hi,aaU]
  exact m _ (aaL _))⟩
 have g:iR Z (λ_=>none) w.heap (cat [] λ_=>.dead):=by
  rw[F8]
  exact⟨λ_=>trivial,λi j b o s y z _ h=>by simp at h,λid b o s h=>by simp at h,q,λid b o s h=>by simp at h⟩
 refine(n.2 Z _ _ w xs c g (λ_ _ _=>rfl)).mono ?_
 rintro e w' ⟨x,A,μ',rfl,u,l,hex,_⟩
 refine⟨x,kd μ',rfl,λB=>WO l p u,hex.same,?_,λb d _=>hex.frame b d (by rintro⟨_,_,_,h⟩;simp at h)⟩
 rintro b ⟨id,o,s,d⟩
 rcases hex.Fv _ _ _ _ d with h1 | ⟨_,h1 | ⟨_,_,_,h1⟩⟩
 .simp at h1
 .exact⟨h1,l.lt _ _ _ _ d⟩
 .simp at h1
theorem cK.of {P:Program} {f:FuncId} {vs:List V} {t:V} (b:∀ v∈vs,Tree v) (h:aw P f vs (λ_=>.dead) λr H'=>∀ a:aE,a.view=H'->cM a r t):cK P f vs t:=by
 obtain⟨r,a,c,_,d⟩:=h.2 [] He
 exact cK.zw b c (d a rfl)
theorem bU.x5 {P:Program} {f:FuncId} {j vs:List V} {t:V} {h:aE} (v:cK P f j t) (y:j.length=vs.length)
  (l:∀ i,i < vs.length->Fr h (vs.getD i .any) (j.getD i .any)):bU P f vs h t h:=by
 refine⟨aaM _,λZ μ F w xs c hr m=>?_⟩
 have n:gL (λb=>Z b∨kd μ b) μ w.heap j xs:=⟨by rw[y,c.1],λi hi=>Fh hr (l i (by omega)) (c.2 i (by omega))⟩
 have p:∀ b,(Z b∨kd μ b)->b < w.heap.size:=by
  rintro b (a | ⟨id,o,s,a⟩)
  .exact hr.di b a
  .exact hr.lt _ _ _ _ a
 refine(v _ μ w xs n p).mono ?_
 rintro e w' ⟨x,u,rfl,z,q,d,k⟩
 have hm:iB Z (λb=>Z b∨u b) μ μ w.heap w'.heap:=⟨λ_ h=>.inl h,λb a=>k b (hr.di b a) (λx=>x),λ_ _ h=>h,k.sT⟩
 refine⟨x,λb=>Z b∨u b,μ,rfl,(z μ).mono ⟨λ_ h=>.inr h,λ_ _=>rfl,λ_ _ h=>h,gx.refl _⟩,⟨λid=>(hr.obj id).mono hm rfl (λb o s g=>k b (hr.lt _ _ _ _ g) (λx=>x)),hr.inj,λid b o s g=>abd (hr.lt _ _ _ _ g) q.size,λb a=>?_,λid b o s g r=>?_⟩,
  ⟨q,hm,λb a _=>k b a (λx=>x),λb a=>a.imp id (λh=>(d b h).1),λ_ _ _ _ h=>.inl h⟩,λ_ _=>rfl⟩
 .rcases a with a | a
  .exact abd (hr.di b a) q.size
  .exact(d b a).2
 .rcases r with a | a
  .exact hr.ix _ _ _ _ g a
  .have:=hr.lt _ _ _ _ g;have:=(d b a).1;omega
theorem ax.x5 {P:Program} {q:Bool} {f:FuncId} {H:View} {vs c:List V} {K:V->View->Prop} {v:cX (H,K)} {t:V} (d:cK P f c t) (a:ed P f=true) (g:c.length=vs.length)
  (b:∀ i,i < vs.length->cR H (vs.getD i .any) (c.getD i .any)) (hk:K t H):ax P q f vs H K v:=by
 unfold ax
 cases q with
 | true=>exact⟨a,λh e=>⟨t,h,bU.x5 d g (λi hi=>b i hi h e),λ_ _=>rfl,e ▸ hk⟩⟩
 | false =>
  refine⟨a,?_⟩
  rintro h rfl
  exact⟨t,h,bU.x5 d g (λi hi=>b i hi h rfl),.refl _,hk⟩
noncomputable def qj (fz:V->Option V):List V->Option (List V)
 | []=>some []
 | v :: l=>match fz v,qj fz l with
  | some a,some b=>some (a :: b)
  | _,_=>none
noncomputable def G0 (fz:V->Option V):List (List V)->Option (List (List V))
 | []=>some []
 | v :: l=>match qj fz v,G0 fz l with
  | some a,some b=>some (a :: b)
  | _,_=>none
noncomputable def Br (H:View):Nat->V->Option V
 | 0,_=>none
 | k+1,v=>match v with
  | .val x=>some (.val x)
  | .emp _=>some (.aU [])
  | .sl id off len _=>match H id with
   | .arr _ es=>if off+len<=es.length then (G0 (Br H k) ((es.drop off).take len)).map .aU else none
   | _=>none
  | .agg cs=>(qj (Br H k) cs).map .agg
  | .bf cs=>(qj (Br H k) cs).map .bf
  | _=>none
theorem jg {d:V->Option V} : ∀ (l c:List V),qj d l=some c->c.length=l.length/\∀ i,i < l.length->d (l.getD i .any)=some (c.getD i .any)
 | [],c,h=>by simp only[qj,aaC] at h;subst h;exact⟨rfl,λi hi=>by simp at hi⟩
 | v :: l,c,h=>by
  simp only[qj] at h
  split at h
  .rename_i a b h1 e
   simp only[aaC] at h;subst h
   obtain⟨g1,g2⟩:=jg l b e
   refine⟨by simp[g1],λi hi=>?_⟩
   cases i with
   | zero=>exact h1
   | succ i=>exact g2 i (by simpa using hi)
  .simp at h
theorem GH {d:V->Option V} : ∀ (l c:List (List V)),G0 d l=some c->c.length=l.length/\∀ i,i < l.length->qj d (l.getD i [])=some (c.getD i [])
 | [],c,h=>by simp only[G0,aaC] at h;subst h;exact⟨rfl,λi hi=>by simp at hi⟩
 | v :: l,c,h=>by
  simp only[G0] at h
  split at h
  .rename_i a b h1 e
   simp only[aaC] at h;subst h
   obtain⟨g1,g2⟩:=GH l b e
   refine⟨by simp[g1],λi hi=>?_⟩
   cases i with
   | zero=>exact h1
   | succ i=>exact g2 i (by simpa using hi)
  .simp at h
theorem Og (h:aE):∀ (k:Nat) (v t:V),Br h.view k v=some t->cM h v t
 | 0,v,t,a=>by simp[Br] at a
 | k+1,v,t,a=>by
  have b:=Og h k
  simp only[Br] at a
  split at a
  .simp only[aaC] at a;subst a;exact .val _
  .simp only[aaC] at a;subst a;exact .emp _
  .rename_i id off len esz
   split at a
   .rename_i z es hH
    split at a
    .rename_i hle
     simp only[aaO] at a
     obtain⟨es',he,rfl⟩:=a
     obtain⟨g1,g2⟩:=GH _ _ he
     have hlen:es'.length=len:=by rw[g1];simp;omega
     have d:∀ i,i < len->((es.drop off).take len).getD i []=es.getD (off+i) []:=λi hi=>by
      simp[aaA,abX,hi]
     have g3:∀ i,i < len->qj (Br h.view k) (es.getD (off+i) [])=some (es'.getD i []):=λi hi=>by
      rw[<-d i hi];exact g2 i (by rw[<-g1,hlen];exact hi)
     exact .sl id off len esz z es es' hH hle hlen (λi hi=>(jg _ _ (g3 i hi)).1) (λi j hi e=>b _ _ ((jg _ _ (g3 i hi)).2 j (by rw[<-(jg _ _ (g3 i hi)).1];exact e)))
    .simp at a
   .simp at a
  .simp only[aaO] at a
   obtain⟨l,c,rfl⟩:=a
   obtain⟨g1,g2⟩:=jg _ _ c
   exact .agg _ _ g1 (λi hi=>b _ _ (g2 i hi))
  .simp only[aaO] at a
   obtain⟨l,c,rfl⟩:=a
   obtain⟨g1,g2⟩:=jg _ _ c
   exact .bf _ _ g1 (λi hi=>b _ _ (g2 i hi))
  .simp at a
noncomputable def Wg:Option (V × ES)->Option V
 | some (v,e)=>Br e.V 50 v
 | none=>none
noncomputable def uy (P:Program) (tab:List (FuncId × DF)) (ext:A8) (f:FuncId) (vs:List V):Option V :=
 Wg (Jg P tab ext (JW P tab ext 100000) f vs ⟨.nil,.nil,0,[]⟩)
theorem pL {P:Program} (hm:P.follows .mixedOrders=true) {a:List (FuncId × DF)} {ext:A8} (c:rW P a) (d:vw P ext) {f:FuncId} {vs:List V} {t:V} (b:∀ v∈vs,Tree v) (h:uy P a ext f vs=some t) :
  cK P f vs t:=by
 unfold uy Wg at h
 split at h
 .rename_i v e hr
  obtain⟨h1,g,i,j,_⟩:=JK c d (NG hm c d 100000) f vs _ v e [] hr ⟨by funext k;rfl,rfl⟩
  rw[j.1] at h
  exact cK.zw b i (Og g 50 v t h)
 .simp at h
def zf (P:Program) (fs:List (FuncId × List Nat)):List (FuncId × DF):=fs.filterMap λf=>(Lg P f.1 f.2).map (f.1,·)
theorem uR (P:Program) (a:List (FuncId × List Nat)):rW P (zf P a):=by
 intro p hp
 unfold zf at hp
 obtain⟨f,_,h⟩:=abY.1 hp
 simp only[aaO] at h
 obtain⟨d,h1,rfl⟩:=h
 exact⟨f.2,h1⟩
structure af.cY (g:af):Prop where
 ai:g.ai.length<=24
 sm:1<=g.al.length
 al:g.al.length<=16
 aaj:1<=g.rules.length
 rules:g.rules.length<=40
 kj:0<=g.start
 start:g.start < g.al.length
 left:∀ r∈g.rules,0<=r.left/\r.left < g.al.length
 right:∀ r∈g.rules,r.right.length<=6
 sym:∀ r∈g.rules,∀ s∈r.right,dL g s=true
 prec:∀ r∈g.rules,-1<=r.prec/\r.prec < g.ai.length
theorem BD {g:af} : ∀ (l:List aX) (top:Int),iE g l top=true->top<=(g.al.length:Int) - 1/\∀ r∈l,0<=r.left/\r.left < g.al.length/\js g r=true
 | [],top,h=>by simp[iE] at h;exact⟨by omega,λr hr=>by simp at hr⟩
 | r :: l,top,h=>by
  simp only[iE,aaK,aaP] at h
  obtain⟨⟨⟨h1,d⟩,a⟩,b⟩:=h
  obtain⟨e,k2⟩:=BD l _ b
  have f:r.left<=(if r.left > top then r.left else top):=by split <;> omega
  have i:top<=(if r.left > top then r.left else top):=by split <;> omega
  refine⟨by omega,λc hr=>?_⟩
  rcases aaT.1 hr with rfl | hr
  .exact⟨h1,by omega,a⟩
  .exact k2 c hr
theorem bj {g:af} (h:bp g=true):g.cY:=by
 simp only[bp,lq,mn,aaK,aaP] at h
 obtain⟨⟨⟨⟨⟨⟨⟨h1,_⟩,⟨b,c⟩,_⟩,d⟩,e⟩,f⟩,i⟩,j⟩:=h
 have k:=(BD _ _ j).2
 have a:∀ r∈g.rules,r.right.length<=6/\-1<=r.prec/\r.prec < g.ai.length/\∀ s∈r.right,dL g s=true:=λr hr=>by
  have:=(k r hr).2.2
  simp only[js,aaK,aaP,aaZ,ot] at this
  exact⟨this.1.1.1,this.1.1.2,this.1.2,λs l=>(this.2 s l).1⟩
 exact⟨h1,b,c,d,e,f,i,λr hr=>⟨(k r hr).1,(k r hr).2.1⟩,λr hr=>(a r hr).1,λr hr=>(a r hr).2.2.2,λr hr=>⟨(a r hr).2.1,(a r hr).2.2.1⟩⟩
theorem af.cY.neg {g:af} (h:g.cY) {r:aX} (hr:r∈g.rules) {s:Int} (a:s∈r.right) (b:s < 0) : -1 - s < g.al.length:=by
 have:=h.sym r hr s a
 simp only[dL] at this
 rw[aaD (by omega)] at this
 simpa using this
theorem K2 (l:List Int) (is:List Bool) (t:Bool) (b:aK l) (c:∀ s∈l,bM s/\(s < 0->-1 - s < is.length)):az Tryz.prog 95 [encI l,cI is,gb t] (gb (dB l is t)) :=
 az.val (by
  intro v a;simp at a
  rcases a with rfl | rfl | rfl
  .exact cx _
  .exact im _
  .exact .val _) (λH=>(Yq l is t b c H).mono λr H' h=>h.1)
abbrev dU (is:List Bool):List (List V):=is.map λx=>[gb x]
theorem BP {h:aE} {id:Nat} {is:List Bool} (b:h.view id=.arr 1 (dU is)):cM h (.sl id 0 is.length 1) (cI is):=by
 refine .sl id 0 is.length 1 1 (dU is) _ b (by simp) (by simp) (λi hi=>by simp) (λi j hi a=>?_)
 rw[abq]
 have e:(dU is).getD i []=[gb is[i]]:=by simp[aaA,hi]
 rw[e] at a ⊢
 have:j=0:=by simp at a;omega
 subst this
 exact .val _
theorem Fq {H:View} {id n:Nat} {is:List Bool} (b:H id=.arr 1 (dU is)) (c:n=is.length):cR H (.sl id 0 n 1) (cI is):=by
 have d:∀ e∈dU is,∀ v∈e,Tree v:=by
  intro e he v b
  obtain⟨a,_,rfl⟩:=aaX.1 he
  rw[abL] at b
  subst b
  exact .val _
 have:=cR.sl (off:=0) (len:=n) (esz:=1) b (by simp[c]) d
 rwa [abP,aaS (by simp[c])] at this
theorem mb {is:List Bool} {i:Nat} (h:i < is.length):(dU is).getD i []=[gb is[i]]:=by simp[aaA,h]
theorem lU (is:List Bool) (i:Nat) (b:Bool):(dU is).set i [gb b]=dU (is.set i b):=by simp[acC]
theorem BU (n:Nat) (b:Bool):List.replicate n [gb b]=dU (List.replicate n b):=by simp
def iter {α:Type} (f:α->α):Nat->α->α
 | 0,x=>x
 | n+1,x=>iter f n (f x)
def fi (t:Bool) (is:List Bool) (r:aX):List Bool:=if dB r.right is t=true then is.set r.left.toNat true else is
def lg (g:af) (t:Bool) (is:List Bool):List Bool:=g.rules.foldl (fi t) is
def cQ (g:af):List Bool:=List.replicate g.al.length false
def av (g:af) (t:Bool):List Bool:=if bp g=true then iter (lg g t) g.al.length (cQ g) else []
theorem OU (t:Bool) (is:List Bool) (r:aX):(fi t is r).length=is.length:=by unfold fi;split <;> simp
def oN:SC :=
 ae [ae [ab [aa 22 7,ao 23 2 2,ak 24 23,aN 25 24,aQ 26 .lss 22 25],bX 26 (.exit 2)],.block 3 (ae [ab [ao 29 2 2,ak 30 29,aa 31 7,aO 32 3 30 31,ao 33 1 32,ak 34 33,aa 35 5,aa 36 1,bk 37 95 [34,35,36]],bb 37 (ab [aa 38 5,ao 39 2 2,ak 40 39,aa 41 7,aO 42 3 40 41,ao 43 0 42,ak 44 43,aO 45 1 38 44,(none,.op (.store 1 (.tmp 45) (.val (.val (.bool true)))))])]),ab [aa 27 7,aF 28 .add 27 1,aa 7 28]]
def oF:SC :=
 ae [ae [ab [aa 15 6,ao 16 1 2,ak 17 16,aN 18 17,aQ 19 .lss 15 18],bX 19 (.exit 0)],.block 1 (ae [ab [aR 7 0],bZ 2 oN]),ab [aa 20 6,aF 21 .add 20 1,aa 6 21]]
def rh:SF:=⟨ae [ab [cF 2 0,bT 4 1],ae [ab [aZ 8 4 2,bk 9 50 [8],c9 10 9],bb 10 (ae [ab [bT 4 1],.ret])],ab [ao 11 1 2,ak 12 11,aN 13 12,((some 14),.op (.make 1 1 [(.val (.bool false))] (.tmp 13) (.tmp 13))),aa 5 14],ae [ab [aR 6 0],bZ 0 oF],ab [aa 46 5,aa 4 46],.ret],
 [.tmp 4],47⟩
theorem xx:aP Tryz.prog 165 [2]=some rh:=by kernel_rfl
def nR:SF:=⟨ae [ab [cF 1 0,bT 2 1],ab [aZ 3 4 1,qw 4 165 [(.tmp 3),(.val (.val (.bool false)))],aa 2 4],.ret],
 [.tmp 2],5⟩
theorem tT:aP Tryz.prog 230 [1]=some nR:=by kernel_rfl
def lX:SF:=⟨ae [ab [cF 1 0,bT 2 1],ab [aZ 3 4 1,qw 4 165 [(.tmp 3),(.val (.val (.bool true)))],aa 2 4],.ret],
 [.tmp 2],5⟩
theorem sD:aP Tryz.prog 93 [1]=some lX:=by kernel_rfl
theorem VG (g:af) (t:Bool):∀ v∈[V.agg (ag g),gb t],Tree v:=by
 intro v a;simp at a
 rcases a with rfl | rfl
 .exact bL _ (cd g)
 .exact .val _
theorem V7 (g:af) (C:g.Ok) (t:Bool) (H:View):aw Tryz.prog 165 [.agg (ag g),gb t] H λr H'=>∀ w:aE,w.view=H'->cM w r (cI (av g t)):=by
 refine aw.of mixed xx ?_
 simp(disch:=omega)only[↓wr,seval,wq,rh,ag,encS]
 refine ax.pure (iO g C) ?_
 repeat' (first | ((first|apply aj.dec|apply aj.eq|apply aj.ne|apply aj.split)<;>intro)|(simp(disch:=omega)only[↓wr,seval,wq,ag,encS]))
 .rename_i hr
  have u:=bj hr
  obtain⟨E,F⟩:=And.intro u.sm u.al
  refine⟨⟨by omega,by unfold aC;omega,by unfold aC;omega⟩,λP=>by omega,λ_ m hm=>?_⟩
  try simp(disch:=omega)only[↓wr,seval,wq,ag,encS]
  refine ba.intro (λk T H'=>∃ (i:Nat) (is:List Bool),i+k=g.al.length/\is.length=g.al.length/\iter (lg g t) k is=iter (lg g t) g.al.length (cQ g)/\T 1=gb t/\T 2=.aL (ag g) 0/\T 5=.sl m 0 g.al.length 1/\H' m=.arr 1 (dU is)/\T 6=gi i) g.al.length ?_ ?_
  .refine⟨0,cQ g,by omega,by simp[cQ],rfl,?_⟩
   simp(disch:=omega)only[↓wr,↓reduceIte,wq,Nat.reduceEqDiff,Nat.reduceAdd,Nat.reduceLT,Nat.reduceLeDiff,Int.reduceNeg,Int.reduceToNat,reduceCtorEq,ag,encS]
   exact⟨by rw[BU];rfl,rfl⟩
  .rintro k T H' ⟨i,is,hk,hlen,hi,f1,f2,f5,y,f6⟩
   simp(disch:=omega)only[↓wr,seval,wq,oF,f1,f2,f5,f6,ag,encS]
   apply aj.dec<;>intro G
   .simp(disch:=omega)only[↓wr,seval,wq,f1,f2,f5,f6,ag,encS]
    refine ba.intro (λx T H'=>∃ (j:Nat) (a:List Bool),j+x=g.rules.length/\a.length=g.al.length/\(g.rules.drop j).foldl (fi t) a=lg g t is/\T 1=gb t/\T 2=.aL (ag g) 0/\T 5=.sl m 0 g.al.length 1/\H' m=.arr 1 (dU a)/\T 6=gi i/\T 7=gi j) g.rules.length ?_ ?_
    .refine⟨0,is,by omega,hlen,rfl,?_⟩
     simp(disch:=omega)only[↓wr,↓reduceIte,wq,Nat.reduceEqDiff,Nat.reduceAdd,Nat.reduceLT,Nat.reduceLeDiff,Int.reduceNeg,Int.reduceToNat,reduceCtorEq,f1,f2,f5,f6,y,ag,encS]
     rfl
    .rintro x Q I ⟨j,a,J,b,d,h,l,n,em,o,p⟩
     simp(disch:=omega)only[↓wr,seval,wq,oN,h,l,n,o,p,ag]
     apply aj.dec<;>intro K
     .have hle:=u.rules
      have e:g.rules[j]?=some (g.rules[j]'(by omega)):=aaB (by omega)
      rw[fq (show j < g.rules.length by omega)] at d
      have c:g.rules[j]'(by omega)∈g.rules:=aaL _
      generalize g.rules[j]'(by omega)=r at e d c
      simp only[abc] at d
      obtain⟨L,M⟩:=u.left r c
      obtain⟨_,_,z,A⟩:=C.au r c
      have v:=K2 r.right a t z (λs D=>⟨A s D,λN=>by have:=u.neg c D N;omega⟩)
      simp(disch:=omega)only[↓wr,seval,wq,h,l,n,o,p,ag,encS,bg,aaE,e,aaH]
      refine ax.borrow v (by kernel_rfl) (.val _) rfl (λq O=>?_) ?_
      .match q,O with
       | 0,_=>exact cR.tree (cx _)
       | 1,_=>exact Fq em b.symm
       | 2,_=>exact cR.tree (.val _)
      .simp(disch:=omega)only[↓wr,seval,wq,h,l,n,o,p,ag,encS,bg,aaE,e,aaH]
       apply aj.split<;>intro B
       .have f:fi t a r=a.set r.left.toNat true:=by rw[fi,aaF B]
        simp(disch:=omega)only[↓wr,seval,wq,h,l,n,o,p,em,ag,encS,bg,aaE,e,aaH,mb (show r.left.toNat < a.length by omega)]
        rw[f] at d
        exact⟨by omega,by omega,x - 1,by omega,j+1,a.set r.left.toNat true,by omega,by simp[b],d,by rw[lU],rfl⟩
       .have f:fi t a r=a:=by rw[fi,aaD (by rw[B];simp)]
        rw[f] at d
        simp(disch:=omega)only[↓wr,seval,wq,h,l,n,o,p]
        exact⟨x - 1,by omega,j+1,a,by omega,b,d,by first | rfl | exact⟨rfl,rfl⟩ | exact⟨em,rfl⟩ | exact⟨rfl,em,rfl⟩⟩
     .rw[aa7 (by omega),acd] at d
      simp(disch:=omega)only[↓wr,seval,wq,h,l,n,o,p]
      obtain⟨q,rfl⟩:∃ q,k=q+1:=⟨k - 1,by omega⟩
      exact⟨q,by omega,i+1,a,by omega,b,by rw[d];exact hi,rfl,em,rfl⟩
   .simp(disch:=omega)only[↓wr,seval,wq,f1,f2,f5,f6,y]
    have:k=0:=by omega
    subst this
    rintro w rfl
    simp only[av,aaF hr,<-hi,iter]
    rw[<-hlen]
    exact BP y
 .rename_i hr
  rintro w rfl
  simp only[av,hr]
  exact .emp 1
theorem Kf (g:af) (a:g.Ok) (t:Bool):cK Tryz.prog 165 [.agg (ag g),gb t] (cI (av g t)):=cK.of (VG g t) (V7 g a t _)
theorem IV (g:af) (a:g.Ok) (H:View):aw Tryz.prog 230 [.agg (ag g)] H λr H'=>r=cI (av g false)/\H'=H:=by
 refine aw.of mixed tT ?_
 simp(disch:=omega)only[↓wr,seval,wq,nR,ag,encS]
 refine ax.pure (Kf g a false).pure ?_
 simp(disch:=omega)only[↓wr,seval,wq,ag,encS]
theorem zY (g:af) (a:g.Ok):az Tryz.prog 230 [.agg (ag g)] (cI (av g false)) :=
 az.of (eK g) ((IV g a _).mono λr H' h b _=>by rw[h.1];exact .tree _ (im _))
theorem D1 (g:af) (a:g.Ok) (H:View):aw Tryz.prog 93 [.agg (ag g)] H λr H'=>r=cI (av g true)/\H'=H:=by
 refine aw.of mixed sD ?_
 simp(disch:=omega)only[↓wr,seval,wq,lX,ag,encS]
 refine ax.pure (Kf g a true).pure ?_
 simp(disch:=omega)only[↓wr,seval,wq,ag,encS]
theorem vT (g:af) (a:g.Ok):az Tryz.prog 93 [.agg (ag g)] (cI (av g true)) :=
 az.of (eK g) ((D1 g a _).mono λr H' h b _=>by rw[h.1];exact .tree _ (im _))
def mark (is:List Bool) (s:Int):List Bool:=if s < 0 then is.set (-1 - s).toNat true else is
def gJ (p is:List Bool) (r:aX):List Bool:=if (is.getD r.left.toNat false && dB r.right p true)=true then r.right.foldl mark is else is
def ql (g:af) (p is:List Bool):List Bool:=g.rules.foldl (gJ p) is
def bP (g:af):List Bool:=if bp g=true then iter (ql g (av g true)) g.al.length ((cQ g).set g.start.toNat true) else []
theorem VE (is:List Bool) (s:Int):(mark is s).length=is.length:=by unfold mark;split <;> simp
theorem Hs:∀ (l:List Int) (is:List Bool),(l.foldl mark is).length=is.length
 | [],_=>rfl
 | s :: l,is=>by rw[abc,Hs l,VE]
theorem RM (p is:List Bool) (r:aX):(gJ p is r).length=is.length:=by unfold gJ;split <;> simp[Hs]
theorem DO {f:List Bool->List Bool} (a:∀ is,(f is).length=is.length):∀ (n:Nat) (is:List Bool),(iter f n is).length=is.length
 | 0,_=>rfl
 | n+1,is=>by rw[iter,DO a n,a]
theorem DH {α:Type} {f:List Bool->α->List Bool} (a:∀ is x,(f is x).length=is.length):∀ (l:List α) (is:List Bool),(l.foldl f is).length=is.length
 | [],_=>rfl
 | x :: l,is=>by rw[abc,DH a l,a]
theorem jf {g:af} (h:bp g=true) (t:Bool):(av g t).length=g.al.length:=by
 have a:∀ is,(lg g t is).length=is.length:=λis=>DH (OU t) _ _
 rw[av,aaF h,DO a]
 simp[cQ]
def lM:SC :=
 ae [ae [.region false [⟨none,[aa 41 8,ao 42 1 7,ak 43 42,aN 44 43,aQ 45 .lss 41 44,aa 46 45]⟩,⟨(some (46,true)),[aa 47 4,ao 48 0 7,ak 49 48,aO 50 1 47 49,ak 51 50]⟩,⟨none,[eO 52 46 51,aa 53 52]⟩,⟨(some (53,true)),[ao 54 1 7,ak 55 54,aa 56 3,qw 57 95 [(.tmp 55),(.tmp 56),(.val (.val (.bool true)))]]⟩,⟨none,[eO 58 53 57]⟩],bX 58 (.exit 4)],.block 5 (ae [ab [ao 61 1 7,ak 62 61,aa 63 8,aO 64 1 62 63,ak 65 64,aF 66 .lss 65 0],bb 66 (ab [aa 67 4,ao 68 1 7,ak 69 68,aa 70 8,aO 71 1 69 70,ak 72 71,((some 73),.op (.arith .sub (.val (.val (.int .i64 (-1)))) (.tmp 72))),aO 74 1 67 73,(none,.op (.store 1 (.tmp 74) (.val (.val (.bool true)))))])]),ab [aa 59 8,aF 60 .add 59 1,aa 8 60]]
def lP:SC :=
 ae [ae [ab [aa 29 6,ao 30 2 1,ak 31 30,aN 32 31,aQ 33 .lss 29 32],bX 33 (.exit 2)],.block 3 (ae [ab [ao 36 2 1,ak 37 36,aa 38 6,aO 39 3 37 38,aZ 40 3 39,((some 7),.op (.alloc [(.val (.int .i64 0)),(.emp 1),(.val (.int .i64 0))])),cD 3 7 40],ab [aR 8 0],bZ 4 lM]),ab [aa 34 6,aF 35 .add 34 1,aa 6 35]]
def lJ:SC :=
 ae [ae [ab [aa 22 5,ao 23 1 1,ak 24 23,aN 25 24,aQ 26 .lss 22 25],bX 26 (.exit 0)],.block 1 (ae [ab [aR 6 0],bZ 2 lP]),ab [aa 27 5,aF 28 .add 27 1,aa 5 28]]
def ni:SF:=⟨ae [ab [cF 1 0,bT 2 1],ae [ab [aZ 9 4 1,bk 10 50 [9],c9 11 10],bb 11 (ae [ab [bT 2 1],.ret])],ab [aZ 12 4 1,bk 13 93 [12],aa 3 13],ab [ao 14 1 1,ak 15 14,aN 16 15,((some 17),.op (.make 1 1 [(.val (.bool false))] (.tmp 16) (.tmp 16))),aa 4 17],ab [aa 18 4,ao 19 3 1,ak 20 19,aO 21 1 18 20,(none,.op (.store 1 (.tmp 21) (.val (.val (.bool true)))))],ae [ab [aR 5 0],bZ 0 lJ],ab [aa 75 4,aa 2 75],.ret],
 [.tmp 2],76⟩
theorem tu:aP Tryz.prog 94 [1]=some ni:=by kernel_rfl
theorem VU {l:List Bool} {i j:Nat} (h:l.getD j false=true):(l.set i true).getD j false=true:=by
 simp only[aaA,abW] at h ⊢
 by_cases e:i=j
 .subst e
  by_cases hi:i < l.length
  .simp[hi]
  .rw[aa6 (by omega)] at h;simp at h
 .rw[aaD e];exact h
theorem Vc {H:View} {m n:Nat} {o:dG} (hm:H m=o) (a:H n=.dead) (b:o≠.dead):m≠n:=by rintro rfl;exact b (hm.symm.trans a)
theorem Gx (g:af) (Y:g.Ok) (H:View):aw Tryz.prog 94 [.agg (ag g)] H λr H'=>∀ X:aE,X.view=H'->cM X r (cI (bP g)):=by
 refine aw.of mixed tu ?_
 simp(disch:=omega)only[↓wr,seval,wq,ni,ag,encS]
 refine ax.pure (iO g Y) ?_
 repeat' (first | ((first|apply aj.dec|apply aj.eq|apply aj.ne|apply aj.split)<;>intro)|(simp(disch:=omega)only[↓wr,seval,wq,ag,encS]))
 .rename_i hr
  have y:=bj hr
  obtain⟨a8,bd⟩:=And.intro y.sm y.al
  refine ax.pure (vT g Y) ?_
  have Z:=jf hr true
  have n:bP g=iter (ql g (av g true)) g.al.length ((cQ g).set g.start.toNat true):=by rw[bP,aaF hr]
  generalize av g true=p at Z n
  have o:=y.kj
  have a6:=y.start
  have I:List.replicate g.al.length [V.val (Value.bool false)]=dU (cQ g):=BU _ _
  have an:(cQ g).length=g.al.length:=by simp[cQ]
  simp(disch:=omega)only[↓wr,seval,wq,ag,encS]
  refine⟨⟨by omega,by unfold aC;omega,by unfold aC;omega⟩,λhz=>by omega,λ_ m hm=>?_⟩
  rw[I]
  have aq:(dU (cQ g)).getD g.start.toNat []=[gb ((cQ g)[g.start.toNat]'(by omega))]:=mb (by omega)
  simp(disch:=omega)only[↓wr,seval,wq,ag,encS,mb (show g.start.toNat < (cQ g).length by omega),lU,aaJ]
  refine⟨by omega,by omega,?_⟩
  refine ba.intro (λk T H'=>∃ (i:Nat) (is:List Bool),i+k=g.al.length/\is.length=g.al.length/\iter (ql g p) k is=bP g/\T 1=.aL (ag g) 0/\T 3=cI p/\T 4=.sl m 0 g.al.length 1/\H' m=.arr 1 (dU is)/\T 5=gi i) g.al.length ?_ ?_
  .refine⟨0,(cQ g).set g.start.toNat true,by omega,by simp[an],n.symm,?_⟩
   simp(disch:=omega)only[↓wr,↓reduceIte,wq,Nat.reduceEqDiff,Nat.reduceAdd,Nat.reduceLT,Nat.reduceLeDiff,Int.reduceNeg,Int.reduceToNat,reduceCtorEq,ag,encS]
   rw[aq]
   exact⟨by rw[<-lU];rfl,rfl⟩
  .rintro k T H' ⟨i,is,hk,hlen,hi,f1,f3,f4,fm,f5⟩
   simp(disch:=omega)only[↓wr,seval,wq,lJ,f1,f3,f4,f5,ag,encS]
   apply aj.dec<;>intro hc
   .simp(disch:=omega)only[↓wr,seval,wq,f1,f3,f4,f5,ag,encS]
    refine ba.intro (λJ T H'=>∃ (j:Nat) (d:List Bool),j+J=g.rules.length/\d.length=g.al.length/\(g.rules.drop j).foldl (gJ p) d=ql g p is/\T 1=.aL (ag g) 0/\T 3=cI p/\T 4=.sl m 0 g.al.length 1/\H' m=.arr 1 (dU d)/\T 5=gi i/\T 6=gi j) g.rules.length ?_ ?_
    .refine⟨0,is,by omega,hlen,rfl,?_⟩
     simp(disch:=omega)only[↓wr,seval,wq,f1,f3,f4,f5,fm,ag,encS]
     first | done | exact⟨rfl,rfl⟩ | rfl
    .rintro J T' bl ⟨j,d,bn,t,C,K,L,M,em,N,O⟩
     simp(disch:=omega)only[↓wr,seval,wq,lP,K,L,M,N,O,ag]
     apply aj.dec<;>intro hd
     .have hle:=y.rules
      have P:g.rules[j]?=some (g.rules[j]'(by omega)):=aaB (by omega)
      rw[fq (show j < g.rules.length by omega)] at C
      have f:g.rules[j]'(by omega)∈g.rules:=aaL _
      generalize g.rules[j]'(by omega)=r at P C f
      simp only[abc] at C
      obtain⟨br,bs⟩:=y.left r f
      obtain⟨_,_,ar,Q⟩:=Y.au r f
      have bx:=y.right r f
      have R:=K2 r.right p true ar (λs hs=>⟨Q s hs,λhn=>by have:=y.neg f hs hn;omega⟩)
      simp(disch:=omega)only[↓wr,seval,wq,K,L,M,N,O,ag,encS,bg,encI,aaE,P,aaH]
      intro b hb
      have S:m≠b:=Vc em hb (by simp)
      try simp(disch:=omega)only[↓wr,seval,wq,K,L,M,N,O,ag,encS,bg,encI]
      refine ba.intro (λq T H'=>∃ (a:Nat) (c:List Bool),a+q=r.right.length/\c.length=g.al.length/\(r.right.drop a).foldl mark c=r.right.foldl mark d/\((a=0/\c=d)∨((d.getD r.left.toNat false && dB r.right p true)=true/\c.getD r.left.toNat false=true)) /\
       T 1=.aL (ag g) 0/\T 3=cI p/\T 4=.sl m 0 g.al.length 1/\H' m=.arr 1 (dU c)/\T 5=gi i/\T 6=gi j/\T 7=.ptr b 0 0/\H' b=.arr 3 [bg r]/\T 8=gi a) r.right.length ?_ ?_
      .refine⟨0,d,by omega,t,rfl,.inl ⟨rfl,rfl⟩,?_⟩
       simp(disch:=omega)only[↓wr,↓reduceIte,wq,Nat.reduceEqDiff,Nat.reduceAdd,Nat.reduceLT,Nat.reduceLeDiff,Int.reduceNeg,Int.reduceToNat,reduceCtorEq,K,L,M,N,O,em,S,ag,encS,bg]
       exact⟨rfl,rfl⟩
      .rintro q T3 H3 ⟨a,c,hq,e,w,h,d1,d3,d4,z,d5,d6,d7,x,d8⟩
       simp(disch:=omega)only[↓wr,seval,wq,lM,d1,d3,d4,d5,d6,d7,d8,x,bg,encI]
       have U:c[r.left.toNat]?=some (c[r.left.toNat]'(by omega)):=aaB (by omega)
       have l:c.getD r.left.toNat false=c[r.left.toNat]'(by omega):=by simp[aaA,U]
       have A:=mb (show r.left.toNat < c.length by omega)
       have W:(d.getD r.left.toNat false && dB r.right p true)=false->gJ p d r=c:=λG=>by
        rcases h with ⟨_,rfl⟩ | ⟨h1,_⟩
        .rw[gJ,G];rfl
        .rw[G] at h1;simp at h1
       generalize c[r.left.toNat]'(by omega)=tl at U l A
       apply aj.dec<;>intro ht
       .have D:r.right[a]?=some (r.right[a]'(by omega)):=aaB (by omega)
        rw[fq (show a < r.right.length by omega)] at w
        have E:r.right[a]'(by omega)∈r.right:=aaL _
        generalize r.right[a]'(by omega)=s at D w E
        simp only[abc] at w
        have a1:=Q s E
        simp(disch:=omega)only[↓wr,seval,wq,d1,d3,d4,d5,d6,d7,d8,x,z,bg,encI,A,aaJ]
        refine⟨by omega,by omega,?_⟩
        apply aj.split<;>intro u
        .simp(disch:=omega)only[↓wr,seval,wq,d1,d3,d4,d5,d6,d7,d8,x,z,bg,encI,A,aaJ]
         refine ax.pure R ?_
         simp(disch:=omega)only[↓wr,seval,wq,d1,d3,d4,d5,d6,d7,d8,x,z,bg,encI]
         apply aj.split<;>intro F
         .simp(disch:=omega)only[↓wr,seval,wq,d1,d3,d4,d5,d6,d7,d8,x,z,bg,encI,aaE,D,aaH]
          have G:(d.getD r.left.toNat false && dB r.right p true)=true/\c.getD r.left.toNat false=true:=by
           rcases h with ⟨_,rfl⟩ | h1
           .exact⟨by rw[l,u,F];rfl,by rw[l,u]⟩
           .exact h1
          apply aj.dec<;>intro B
          .have b0:=y.neg f E B
           have a7:=a1.1
           have v:mark c s=c.set (-1 - s).toNat true:=by rw[mark,aaF B]
           simp(disch:=omega)only[↓wr,seval,wq,d1,d3,d4,d5,d6,d7,d8,x,z,bg,encI,aaE,D,aaH,mb (show (-1 - s).toNat < c.length by omega),aaJ,S.symm]
           rw[v] at w
           exact⟨by omega,by omega,q - 1,by omega,a+1,c.set (-1 - s).toNat true,by omega,by simp[e],w,.inr ⟨G.1,VU G.2⟩,by rw[lU],by first | rfl | exact⟨rfl,rfl⟩⟩
          .have v:mark c s=c:=by rw[mark,aaD B]
           rw[v] at w
           simp(disch:=omega)only[↓wr,seval,wq,d1,d3,d4,d5,d6,d7,d8,x,z]
           exact⟨q - 1,by omega,a+1,c,by omega,e,w,.inr G,by first | rfl | exact⟨rfl,rfl⟩ | exact⟨rfl,rfl,rfl⟩⟩
         .simp(disch:=omega)only[↓wr,seval,wq,d1,d3,d4,d5,d6,d7,d8,x,z,bg,encI]
          have o:=W (by rw[F,acy])
          exact⟨J - 1,by omega,j+1,c,by omega,e,by rw[<-o];exact C,rfl,rfl,rfl⟩
        .simp(disch:=omega)only[↓wr,seval,wq,d1,d3,d4,d5,d6,d7,d8,x,z,bg,encI,A,aaJ]
         have o:gJ p d r=c:=by
          rcases h with ⟨_,rfl⟩ | ⟨_,h1⟩
          .rw[gJ,l,u];rfl
          .rw[l,u] at h1;simp at h1
         exact⟨J - 1,by omega,j+1,c,by omega,e,by rw[<-o];exact C,rfl,rfl,rfl⟩
       .simp(disch:=omega)only[↓wr,seval,wq,d1,d3,d4,d5,d6,d7,d8,x,z,bg,encI]
        rw[aa7 (by omega),acd] at w
        have o:gJ p d r=c:=by
         rcases h with ⟨h0,rfl⟩ | ⟨h1,_⟩
         .unfold gJ
          split
          .exact w.symm
          .rfl
         .rw[gJ,aaF h1];exact w.symm
        exact⟨J - 1,by omega,j+1,c,by omega,e,by rw[<-o];exact C,rfl,rfl,rfl⟩
     .rw[aa7 (by omega),acd] at C
      simp(disch:=omega)only[↓wr,seval,wq,K,L,M,N,O]
      obtain⟨q,rfl⟩:∃ q,k=q+1:=⟨k - 1,by omega⟩
      exact⟨q,by omega,i+1,d,by omega,t,by rw[C];exact hi,rfl,em,rfl⟩
   .simp(disch:=omega)only[↓wr,seval,wq,f1,f3,f4,f5,fm]
    have:k=0:=by omega
    subst this
    rintro X rfl
    simp only[<-hi,iter]
    rw[<-hlen]
    exact BP fm
 .rename_i hr
  rintro X rfl
  simp only[bP,hr]
  exact .emp 1
theorem F9 (g:af) (a:g.Ok):cK Tryz.prog 94 [.agg (ag g)] (cI (bP g)):=cK.of (eK g) (Gx g a _)
noncomputable def B4:List (FuncId × DF):=zf Tryz.prog [(224,[]),(223,[]),(296,[]),(297,[])]
theorem vJ:rW Tryz.prog B4:=uR _ _
theorem PX (P:Program):vw P (λ_ _ _=>none):=λ_ _ _ _ h=>by simp at h
def YS (o:Option V) (b:Bool):Bool:=match o with
 | some (.val (.bool c))=>c == b
 | _=>false
theorem Yg {o:Option V} {b:Bool} (h:YS o b=true):o=some (gb b):=by
 unfold YS at h
 split at h
 .rw[abB] at h;rw[h]
 .simp at h
noncomputable def BS (tab:List (FuncId × DF)) (f:FuncId) (p:Int->Bool):Bool:=(List.range 256).all λc=>YS (uy Tryz.prog tab (λ_ _ _=>none) f [gy (c:Int)]) (p (c:Int))
theorem zB {a:List (FuncId × DF)} (d:rW Tryz.prog a) {f:FuncId} {p:Int->Bool} (h:BS a f p=true) (c:Int) (e:0<=c) (h1:c<=255):az Tryz.prog f [gy c] (gb (p c)):=by
 have:=aaZ.1 h c.toNat (by simp;omega)
 rw[show ((c.toNat:Nat):Int)=c by omega] at this
 exact(pL mixed d (PX _) (by intro v b;simp at b;subst b;exact .val _) (Yg this)).pure
def B0 (c:Int):Bool:=decide (32<=c) && decide (c<=126) && c != 39 && c != 92
def GB (c:Int):Bool:=c == 110 || c == 116 || c == 92 || c == 39
theorem OR:BS B4 223 yC=true:=by kernel_rfl
theorem Q9:BS B4 224 qa=true:=by kernel_rfl
theorem Su:BS B4 296 B0=true:=by kernel_rfl
theorem Xn:BS B4 297 GB=true:=by kernel_rfl
theorem Is {s:ByteArray} {c:Int} (h:c∈gp s):0<=c/\c<=255:=by
 unfold gp at h
 obtain⟨b,_,rfl⟩:=aaX.1 h
 have:=b.toNat_lt
 omega
theorem TD (s:ByteArray):iu s=(gp s).map λx=>[gy x]:=by simp[iu,gp]
noncomputable def NT:List (FuncId × DF):=zf Tryz.prog [(44,[]),(87,[]),(145,[]),(207,[]),(255,[]),(256,[]),(257,[]),(258,[]),(286,[]),(208,[]),(259,[]),(209,[]),(234,[]),(233,[]),(232,[]),(260,[]),(261,[]),(262,[]),(146,[]),(213,[]),(212,[]),(263,[]),(264,[]),(211,[]),(214,[]),(210,[]),(88,[1]),(149,[3]),(169,[]),(172,[]),(151,[4]),(216,[4]),(150,[2]),(170,[2]),(266,[3]),(147,[]),(215,[5]),(265,[]),(148,[])]
theorem PE:rW Tryz.prog NT:=uR _ _
def KP (l:List Int):V:=.aU (l.map λx=>[gy x])
theorem Ud (l:List Int):Tree (KP l):=ew _ _ λx _ v a=>by simp at a;subst a;exact .val _
def Cz (g:af):V:=.bf [.agg (ag g),.val (.complex .f64 0 0),gi 0]
theorem XN {l:List Int} {g:af} (h:uy Tryz.prog NT (λ_ _ _=>none) 44 [KP l]=some (Cz g)):cK Tryz.prog 44 [KP l] (Cz g) :=
 pL mixed PE (PX _) (by intro v a;simp at a;subst a;exact Ud _) h
abbrev cZ (κ:Type):=List (κ × V × Nat)
def cO {κ:Type} (key:κ->Value) (m:cZ κ):List (V × V × Nat):=m.map λx=>(.val (key x.1),x.2.1,x.2.2)
def getM {κ:Type} [BEq κ] (m:cZ κ) (k:κ):Option V:=(m.find? λx=>k == x.1).map (·.2.1)
def bV {κ:Type} [BEq κ] (k:κ) (v:V) (c:Nat):cZ κ->cZ κ
 | []=>[(k,v,c)]
 | x :: r=>if k == x.1 then (k,v,x.2.2) :: r else x :: bV k v c r
structure Dq {κ:Type} [BEq κ] (P:Program) (kt:TypeId) (key:κ->Value):Prop where
 ty:∃ d,P.underlying kt=some d/\(∀ a b,Instr.sameNow d (key a) (key b)=some (a == b))/\(∀ a e,bw P (Instr.checkKey e 10000 kt (key a))=some ())
 bits:∀ a b,(a == b)=true->Instr.sameBits 10000 (key b) (key a)=true
theorem xW {κ:Type} (key:κ->Value):∀ m:cZ κ,iT (cO key m)=some (m.map λx=>{ key:=key x.1,val:=.nilFunc,born:=x.2.2 })
 | []=>rfl
 | x :: r=>by
  have:=xW key r
  simp only[cO] at this
  simp[cO,iT,dJ,this]
def ig {κ:Type} [BEq κ] (k:κ):cZ κ->Option Nat
 | []=>none
 | x :: r=>if k == x.1 then some 0 else (ig k r).map (·+1)
theorem C4 {κ:Type} [BEq κ] {key:κ->Value} {d:TypeDesc} (h:∀ a b,Instr.sameNow d (key a) (key b)=some (a == b)) (k:κ):∀ (m:cZ κ) (i:Nat),
  Instr.findNow d (key k) (m.map λx=>{ key:=key x.1,val:=.nilFunc,born:=x.2.2 }) i=some ((ig k m).map λj=>(i+j,.nilFunc))
 | [],i=>rfl
 | x :: r,i=>by
  simp only[aa9,Instr.findNow,h,ig]
  cases hk:k == x.1 with
  | true=>simp
  | false =>
   simp only[C4 h k r (i+1),aba,if_false,Option.map_map]
   congr 2
   funext j
   simp only[Function.comp]
   congr 1
   omega
theorem AW {κ:Type} [BEq κ] {P:Program} {kt:TypeId} {key:κ->Value} (h:Dq P kt key) (k:κ) (e:Bool) (m:cZ κ):n0 P kt (.val (key k)) e (cO key m)=some (ig k m):=by
 obtain⟨d,a,b,c⟩:=h.ty
 have hu:bw P (underlying kt)=some d:=ep a
 simp only[n0,dJ,xW,bm,c,abe]
 have:bw P (Instr.findKey kt (key k) (m.map λx=>{ key:=key x.1,val:=.nilFunc,born:=x.2.2 }))=some ((ig k m).map λj=>(0+j,.nilFunc)):=by
  unfold Instr.findKey
  rw[bm,hu,abe,C4 b]
  rfl
 rw[this]
 cases ig k m with
 | none=>rfl
 | some j=>simp
theorem Fo {P:Program} {kt:TypeId} {d:TypeDesc} (h:P.underlying kt=some d) (a:match d with | .int _ | .string | .bool=>True | _=>False) (e:Bool) (n:Nat) (v:Value):bw P (Instr.checkKey e (n+1) kt v)=some ():=by
 unfold Instr.checkKey
 rw[bm,ep h,abe]
 cases d <;> first | exact a.elim | rfl
theorem my {P:Program} {kt:TypeId} (k:IntKind) (h:P.underlying kt=some (.int k)):Dq P kt (Value.int k) where
 ty:=⟨_,h,λa b=>by simp[Instr.sameNow],λa e=>Fo h trivial e 9999 _⟩
 bits:=λa b c=>by
  have:a=b:=by simpa using c
  subst this
  simp[Instr.sameBits]
theorem zT {κ:Type} [BEq κ] {key:κ->Value} (k:κ):∀ m:cZ κ,match ig k m with
  | some i=>∃ x,m[i]?=some x/\(k == x.1)=true/\getM m k=some x.2.1/\(cO key m)[i]?=some (.val (key x.1),x.2.1,x.2.2)/\∀ v c,(cO key m).set i (.val (key k),v,x.2.2)=cO key (bV k v c m)/\(bV k v c m).length=m.length
  | none=>getM m k=none/\∀ v c,cO key m ++ [(.val (key k),v,c)]=cO key (bV k v c m)/\(bV k v c m).length=m.length+1
 | []=>⟨rfl,λv c=>⟨rfl,rfl⟩⟩
 | x :: r=>by
  have a:=zT (key:=key) k r
  simp only[ig]
  cases hk:k == x.1 with
  | true=>exact⟨x,rfl,hk,by simp[getM,hk],rfl,λv c=>by simp[bV,hk,cO]⟩
  | false =>
   simp only[aba,if_false]
   cases hi:ig k r with
   | some i =>
    rw[hi] at a
    obtain⟨y,h1,b,d,e,f⟩:=a
    refine⟨y,by simpa using h1,b,by simpa [getM,hk] using d,by simpa [cO] using e,λv c=>?_⟩
    obtain⟨g1,g2⟩:=f v c
    exact⟨by simp only[cO] at g1 ⊢;simp[bV,hk,g1],by simp[bV,hk,g2]⟩
   | none =>
    rw[hi] at a
    refine⟨by simpa [getM,hk] using a.1,λv c=>?_⟩
    obtain⟨g1,g2⟩:=a.2 v c
    exact⟨by simp only[cO] at g1 ⊢;simp[bV,hk,g1],by simp[bV,hk,g2]⟩
section
variable {P:Program} {T:Env} {H:View} {κ:Type} [BEq κ] {key:κ->Value} {kt et t ty:TypeId}
theorem Cd {K:V->View->Prop} {w:cX (T,H,K)} {x i:Operand} {z:V} {id c:Nat} {m:cZ κ} {k:κ} (hm:fc P t=some (kt,et)) (d:zeroV P et=some z) (hk:Dq P kt key)
  (e:ev T x=.mp id) (hi:ev T i=.val (key k)) (hH:H id=.map (cO key m) c) (h:K ((getM m k).getD z) H):jI P (.lookup t x i false) ty T H K w:=by
 intro n _
 have f:=AW hk k (cO key m).isEmpty m
 have a:=zT (key:=key) k m
 refine⟨(getM m k).getD z,.none,[id],?_,h⟩
 simp only[sI,cH,oper,fS,hm,d,e,hi,hH,f]
 cases b:ig k m with
 | some j =>
  rw[b] at a
  obtain⟨y,h1,o,g,l,_⟩:=a
  simp[l,g]
 | none =>
  rw[b] at a
  simp[a.1]
theorem WC {K:V->View->Prop} {w:cX (T,H,K)} {x i:Operand} {z:V} {id c:Nat} {m:cZ κ} {k:κ} (hm:fc P t=some (kt,et)) (d:zeroV P et=some z) (hk:Dq P kt key)
  (e:ev T x=.mp id) (hi:ev T i=.val (key k)) (hH:H id=.map (cO key m) c) (h:K (.bf [(getM m k).getD z,.val (.bool (getM m k).isSome)]) H):jI P (.lookup t x i true) ty T H K w:=by
 intro n _
 have f:=AW hk k (cO key m).isEmpty m
 have a:=zT (key:=key) k m
 refine⟨_,.none,[id],?_,h⟩
 simp only[sI,cH,oper,fS,hm,d,e,hi,hH,f]
 cases b:ig k m with
 | some j =>
  rw[b] at a
  obtain⟨y,h1,o,g,l,_⟩:=a
  simp[l,g]
 | none =>
  rw[b] at a
  simp[a.1]
theorem UY (hk:Dq P kt key) (k a:κ) (h:(k == a)=true):sameKey (.val (key a)) (.val (key k))=true:=by
 simp only[sameKey,dJ];exact hk.bits _ _ h
theorem yj {K:V->View->Prop} {w:cX (T,H,K)} {x i y:Operand} {id c:Nat} {m:cZ κ} {k:κ} {v:V} (hm:fc P t=some (kt,et)) (hk:Dq P kt key)
  (d:ev T x=.mp id) (hi:ev T i=.val (key k)) (e:ev T y=v) (hH:H id=.map (cO key m) c)
  (h:∀ g,K .any (H.set id (.map (cO key (bV k v c m)) g))):jI P (.mapUpdate t x i y) ty T H K w:=by
 intro n _
 have a:=AW hk k false m
 have b:=zT (key:=key) k m
 cases f:ig k m with
 | some j =>
  rw[f] at b a
  obtain⟨z,h1,l,q,o,p⟩:=b
  refine⟨.any,.fU id (.map ((cO key m).set j (.val (key k),v,z.2.2)) c),[id],?_,?_⟩
  .simp only[sI,cH,oper,hU,hm,d,hi,e,hH,a,o,UY hk k z.1 l,if_true]
  .rw[(p v c).1];exact h c
 | none =>
  rw[f] at b a
  refine⟨.any,.fU id (.map (cO key m ++ [(.val (key k),v,c)]) (c+1)),[id],?_,?_⟩
  .simp only[sI,cH,oper,hU,hm,d,hi,e,hH,a]
  .rw[(b.2 v c).1];exact h (c+1)
theorem XT {P:Program} {T:Env} {H:View} {t ty:TypeId} {x i y:Operand} {K:V->View->Prop} {w:cX (T,H,K)} : jI P (.insert t x i y) ty T H K w=jI P (.mapUpdate t x i y) ty T H K w:=propext Iff.rfl
omit [BEq κ] in
theorem Yy {K:V->View->Prop} {w:cX (T,H,K)} {x:Operand} {id c:Nat} {m:cZ κ} (hm:fc P t=some (kt,et)) (d:ev T x=.mp id) (hH:H id=.map (cO key m) c) (h:K (gG m.length) H) :
  jI P (.call { callee:=.builtin .len,args:=#[x],argTypes:=#[t] }) ty T H K w:=by
 intro n _
 have hu:∃ a b,P.underlying t=some (.map a b):=by
  unfold fc at hm
  split at hm
  .rename_i a b h1;exact⟨a,b,h1⟩
  .simp at hm
 obtain⟨a,b,hu⟩:=hu
 refine⟨gG m.length,.none,[id],?_,h⟩
 have e:(cO key m).length=m.length:=by simp[cO]
 simp only[sI,cH,oper,ab8,aaN,aa8,wY,hu,d,hH,e]
 simp[hu,d,hH,e,wY]
end
theorem ry {κ:Type} [BEq κ] [LawfulBEq κ] (k a:κ) (v:V) (c:Nat):∀ m:cZ κ,getM (bV k v c m) a=if a == k then some v else getM m a
 | []=>by
  by_cases h:a=k
  .subst h;simp[bV,getM]
  .simp[bV,getM,h]
 | x :: r=>by
  have b:=ry k a v c r
  simp only[bV]
  by_cases hk:k=x.1
  .by_cases h:a=k
   .subst h;simp[hk,getM]
   .have:¬ a=x.1:=λe=>h (e.trans hk.symm)
    simp[hk,getM,this]
  .simp only[abB,hk,if_false]
   by_cases h:a=x.1
   .have:¬ a=k:=λe=>hk (e.symm.trans h)
    simp[getM,h]
    subst h
    simp[this]
   .simp only[getM,List.find?_cons,beq_eq_false_iff_ne.2 h] at b ⊢
    exact b
def fe {κ β:Type} [BEq κ] (a:List (κ × β)) (k:κ):Option β:=(a.find? λx=>k == x.1).map (·.2)
def lB {κ β:Type} [BEq κ] (k:κ) (v:β):List (κ × β)->List (κ × β)
 | []=>[(k,v)]
 | x :: r=>if k == x.1 then (k,v) :: r else x :: lB k v r
def qc {κ β:Type} (encV:β->V):List (κ × β)->cZ κ->Prop
 | [],[]=>True
 | x :: a,y :: m=>y.1=x.1/\y.2.1=encV x.2/\qc encV a m
 | _,_=>False
theorem qc.get {κ β:Type} [BEq κ] {encV:β->V} (k:κ):∀ {a:List (κ × β)} {m:cZ κ},qc encV a m->getM m k=(fe a k).map encV
 | [],[],_=>rfl
 | x :: a,y :: m,⟨h1,c,d⟩=>by
  have b:=qc.get k d
  simp only[getM,fe,List.find?_cons,h1] at b ⊢
  cases k == x.1 with
  | true=>simp[c]
  | false=>simpa using b
theorem qc.put {κ β:Type} [BEq κ] {encV:β->V} (k:κ) (v:β) (c:Nat):∀ {a:List (κ × β)} {m:cZ κ},qc encV a m->qc encV (lB k v a) (bV k (encV v) c m)
 | [],[],_=>⟨rfl,rfl,trivial⟩
 | x :: a,y :: m,⟨h1,d,b⟩=>by
  have e:=qc.put k v c b
  simp only[lB,bV,h1]
  cases k == x.1 with
  | true=>exact⟨rfl,rfl,b⟩
  | false=>exact⟨h1,d,e⟩
theorem qc.len {κ β:Type} {encV:β->V} : ∀ {a:List (κ × β)} {m:cZ κ},qc encV a m->m.length=a.length
 | [],[],_=>rfl
 | x :: a,y :: m,⟨_,_,b⟩=>by simp[qc.len b]
theorem Kc {κ β:Type} [BEq κ] [LawfulBEq κ] (k b:κ) (v:β):∀ a:List (κ × β),fe (lB k v a) b=if b == k then some v else fe a b
 | []=>by
  by_cases h:b=k
  .subst h;simp[lB,fe]
  .simp[lB,fe,h]
 | x :: r=>by
  have c:=Kc k b v r
  simp only[lB]
  by_cases hk:k=x.1
  .by_cases h:b=k
   .subst h;simp[hk,fe]
   .have:¬ b=x.1:=λe=>h (e.trans hk.symm)
    simp[hk,fe,this]
  .simp only[abB,hk,if_false]
   by_cases h:b=x.1
   .have:¬ b=k:=λe=>hk (e.symm.trans h)
    simp[fe,h]
    subst h
    simp[this]
   .simp only[fe,List.find?_cons,beq_eq_false_iff_ne.2 h] at c ⊢
    exact c
def EY (n k:Nat) (J:Nat->Env->View->Prop) (T:Env) (H:View):Prop:=∃ i,i+k=n/\J i T H
theorem ba.up {P:Program} {T:Env} {H:View} {c:SC} {Q:Exit->Env->View->Prop} {v:cX (T,H,Q)} (n:Nat) (J:Nat->Env->View->Prop) (d:J 0 T H)
  (f:∀ i k T H,i+k=n->J i T H->wS P c T H λe a H'=>C5 e (∃ b,b < k/\EY n b J a H') (Q e a H')):ba P c T H Q v :=
 ba.intro (λk T H=>EY n k J T H) n ⟨0,by omega,d⟩ λk T H ⟨i,hk,g⟩=>f i k T H hk g
theorem aG {n i k:Nat} {J:Nat->Env->View->Prop} {T:Env} {H:View} (hk:i+k=n) (b:i < n) (c:J (i+1) T H):∃ a,a < k/\EY n a J T H:=⟨k - 1,by omega,i+1,by omega,c⟩
def owner:V->Option Nat
 | .sl id _ _ _=>some id
 | _=>none
def aT (H:View) (u:V) (sz:Nat) (es:List (List V)):Prop :=
 (es=[]/\∃ k,u=.emp k)∨(∃ n,u=.sl n 0 es.length sz/\H n=.arr sz es)
theorem aT.nil {H:View} {sz k:Nat} : aT H (.emp k) sz []:=.inl ⟨rfl,k,rfl⟩
theorem aT.len {H:View} {u:V} {sz:Nat} {es:List (List V)} (h:aT H u sz es):cT u=some es.length:=by
 rcases h with ⟨rfl,k,rfl⟩ | ⟨n,rfl,_⟩ <;> rfl
theorem aT.live {H:View} {u:V} {sz:Nat} {es:List (List V)} (h:aT H u sz es) {id:Nat} (a:owner u=some id):H id=.arr sz es/\u=.sl id 0 es.length sz:=by
 rcases h with ⟨rfl,k,rfl⟩ | ⟨n,rfl,b⟩
 .simp[owner] at a
 .simp[owner] at a;subst a;exact⟨b,rfl⟩
theorem aT.keep {H H':View} {u:V} {sz:Nat} {es:List (List V)} (h:aT H u sz es) (hk:∀ id,owner u=some id->H' id=H id):aT H' u sz es:=by
 rcases h with ⟨rfl,k,rfl⟩ | ⟨n,rfl,a⟩
 .exact .inl ⟨rfl,k,rfl⟩
 .exact .inr ⟨n,rfl,by rw[hk n rfl];exact a⟩
theorem aT.fresh {H:View} {u:V} {sz m:Nat} {es:List (List V)} {o:dG} (h:aT H u sz es) (hm:H m=.dead):aT (H.set m o) u sz es :=
 h.keep λid a=>by
  have:=(h.live a).1
  have e:id≠m:=by rintro rfl;rw[hm] at this;simp at this
  simp[View.set,e]
theorem aT.ne {H:View} {u:V} {sz m:Nat} {es:List (List V)} (h:aT H u sz es) (hm:H m=.dead):owner u≠some m:=λe=>by
 have:=(h.live e).1;rw[hm] at this;simp at this
theorem aT.other {H:View} {u:V} {sz m:Nat} {es:List (List V)} {o:dG} (h:aT H u sz es) (hm:owner u≠some m):aT (H.set m o) u sz es :=
 h.keep λid a=>by
  have e:id≠m:=by rintro rfl;exact hm a
  simp[View.set,e]
theorem aT.new {H:View} {n sz:Nat} {es:List (List V)} : aT (H.set n (.arr sz es)) (.sl n 0 es.length sz) sz es:=.inr ⟨n,rfl,by simp[View.set]⟩
theorem bz {H:View} {m z sz:Nat} {e:List V} : bR (View.set H m (.arr z [e])) (.sl m 0 1 sz)=some ([e],[m]):=by
 simp[bR,View.set]
def Left (H H':View) (u u':V):Prop:=∀ id,H id≠.dead->owner u≠some id->H' id=H id/\owner u'≠some id
theorem wc {sz bytes:Nat} {u:V} {es xs:List (List V)} {H:View} {K:V->View->Prop} {w:cX (H,K)} (d:aT H u sz es) (h:xs≠[]) (b:(xs.all λe=>e.length == sz && e.all aI)=true)
  (g:(es.length+xs.length) * bytes < aC) (c:es.length+xs.length < aC) (hk:∀ f H',aT H' f sz (es ++ xs)->Left H H' u f->K f H'):lK sz bytes u xs H K w:=by
 have he:xs.isEmpty=false:=by cases xs with | nil=>exact absurd rfl h | cons=>rfl
 rcases d with ⟨rfl,k,rfl⟩ | ⟨n,rfl,i⟩
 .rw[AG _ _ _ _ _ _ _ he]
  refine⟨b,⟨by simpa using g,by simpa using c⟩,λm hm=>hk _ _ ?_ ?_⟩
  .exact .inr ⟨m,rfl,by simp[View.set]⟩
  .intro id a _
   have e:id≠m:=by rintro rfl;exact a hm
   exact⟨by simp[View.set,e],by simp[owner,Ne.symm e]⟩
 .rw[rB _ _ _ _ _ _ _ _ _ _ he,i]
  refine⟨b,⟨by simp,rfl,g,c⟩,λm hm=>hk _ _ ?_ ?_⟩
  .refine .inr ⟨m,by simp,by simp[View.set]⟩
  .intro id a d
   have e:id≠m:=by rintro rfl;exact a hm
   have j:id≠n:=by rintro rfl;exact d rfl
   exact⟨by simp[View.set,e,j],by simp[owner,Ne.symm e]⟩
theorem Left.refl {H:View} {u:V} : Left H H u u:=λ_ _ h=>⟨rfl,h⟩
theorem gF {sz bytes:Nat} {u:V} {es xs:List (List V)} {H:View} {K:V->View->Prop} {w:cX (H,K)} (a:aT H u sz es) (b:(xs.all λe=>e.length == sz && e.all aI)=true)
  (f:(es.length+xs.length) * bytes < aC) (c:es.length+xs.length < aC) (hk:∀ d H',aT H' d sz (es ++ xs)->Left H H' u d->K d H'):lK sz bytes u xs H K w:=by
 cases xs with
 | nil =>
  have:=hk u H (by simpa using a) .refl
  rcases a with ⟨rfl,k,rfl⟩ | ⟨n,rfl,g⟩
  .exact this
  .exact this
 | cons x xs=>exact wc a (by simp) b f c hk
theorem cR.own {H:View} {u:V} {sz:Nat} {es:List (List V)} (h:aT H u sz es) (a:∀ e∈es,∀ v∈e,Tree v):cR H u (.aU es):=by
 rcases h with ⟨rfl,k,rfl⟩ | ⟨n,rfl,b⟩
 .exact λh _=>.emp k
 .have:=cR.sl (off:=0) (len:=es.length) (esz:=sz) b (by simp) a
  rwa [abP,aaS (by simp)] at this
theorem cM.own {h:aE} {u:V} {sz:Nat} {es:List (List V)} {es':List (List V)} (b:aT h.view u sz es) (a:es'.length=es.length) (hi:∀ i,i < es.length->(es'.getD i []).length=(es.getD i []).length)
  (c:∀ i j,i < es.length->j < (es'.getD i []).length->cM h ((es.getD i []).getD j .any) ((es'.getD i []).getD j .any)):cM h u (.aU es'):=by
 rcases b with ⟨rfl,k,rfl⟩ | ⟨n,rfl,d⟩
 .have:es'=[]:=abU.1 (by simpa using a)
  subst this
  exact .emp k
 .exact .sl n 0 es.length sz sz es es' d (by simp) a (λi h=>by rw[abq];exact hi i h) (λi j h1 e=>by rw[abq];exact c i j h1 e)
theorem cM.Jh {h:aE} {α:Type} {u:V} {sz:Nat} {l:List α} {f:α->Value} (b:aT h.view u sz (l.map λx=>[V.val (f x)])):cM h u (.aU (l.map λx=>[V.val (f x)])):=by
 refine cM.own b rfl (λi _=>rfl) (λi j hi a=>?_)
 simp only[aaJ] at hi
 have e:(l.map λx=>[V.val (f x)]).getD i []=[V.val (f l[i])]:=by simp[aaA,hi]
 rw[e] at a ⊢
 have:j=0:=by simp at a;omega
 subst this
 exact .val _
def c8 (H H':View) (r:V):Prop:=∀ id,H id≠.dead->H' id=H id/\owner r≠some id
theorem c8.emp {H:View} {k:Nat} : c8 H H (.emp k):=λ_ _=>⟨rfl,by simp[owner]⟩
theorem c8.new {H:View} {n a b c:Nat} {o:dG} (f:H n=.dead):c8 H (H.set n o) (.sl n a b c):=λid d=>by
 have e:id≠n:=by rintro rfl;exact d f
 exact⟨by simp[View.set,e],by simp[owner,Ne.symm e]⟩
theorem aT.left {H H':View} {u b x:V} {sz:Nat} {es:List (List V)} (h:aT H x sz es) (c:Left H H' u b) (d:∀ id,owner x=some id->owner u≠some id):aT H' x sz es :=
 h.keep λid a=>(c id (by rw[(h.live a).1];simp) (d id a)).1
theorem aT.Yl {H H':View} {x r:V} {sz:Nat} {es:List (List V)} (h:aT H x sz es) (b:c8 H H' r):aT H' x sz es :=
 h.keep λid a=>(b id (by rw[(h.live a).1];simp)).1
theorem set_set {H:View} {n:Nat} {a b:dG} : View.set (View.set H n a) n b=View.set H n b:=by
 funext id;simp only[View.set];split <;> rfl
theorem cq {m b:Nat} {o x:dG} (h:(if m=b then o else x)=.dead) (a:o≠.dead):m≠b/\x=.dead:=by
 split at h
 .exact absurd h a
 .rename_i e;exact⟨e,h⟩
theorem cm {z:Nat} {es:List (List V)} : dG.arr z es≠.dead:=by simp
def qm (H:View):List V->List V->Prop
 | [],[]=>True
 | v :: vs,t :: ts=>cR H v t/\qm H vs ts
 | _,_=>False
theorem qm.len {H:View} : ∀ {vs a:List V},qm H vs a->a.length=vs.length
 | [],[],_=>rfl
 | _ :: _,_ :: _,h=>by simp[qm.len h.2]
theorem qm.get {H:View} : ∀ {vs a:List V},qm H vs a->∀ i,i < vs.length->cR H (vs.getD i .any) (a.getD i .any)
 | [],[],_,i,hi=>by simp at hi
 | _ :: _,_ :: _,h,0,_=>h.1
 | _ :: _,_ :: _,h,i+1,hi=>qm.get h.2 i (by simpa using hi)
theorem ax.B5 {P:Program} {q:Bool} {f:FuncId} {H:View} {vs b:List V} {K:V->View->Prop} {v:cX (H,K)} {t:V} (d:az P f b t) (a:ed P f=true) (e:Bq t) (c:qm H vs b) (hk:K t H):ax P q f vs H K v :=
 ax.borrow d a e c.len c.get hk
theorem ax.ub {P:Program} {q:Bool} {f:FuncId} {H:View} {vs b:List V} {K:V->View->Prop} {v:cX (H,K)} {t:V} (d:cK P f b t) (a:ed P f=true) (c:qm H vs b) (hk:K t H):ax P q f vs H K v :=
 ax.x5 d a c.len c.get hk
theorem cR.box {H:View} {q z:Nat} {e:List V} (a:H q=.arr z [e]) (b:∀ v∈e,Tree v):cR H (.ptr q 0 0) (.aL e 0):=by
 rintro h rfl
 refine .ptr q 0 0 z [e] e a (by simp) (by simp) (λk hk=>?_)
 simp only[abE]
 have c:e.getD k .any=e[k]:=by simp[aaA,hk]
 rw[c]
 exact .tree _ (b _ (aaL _))
theorem aT.sl {H:View} {u:V} {sz:Nat} {es:List (List V)} (h:aT H u sz es) (a:0 < es.length):∃ n,u=.sl n 0 es.length sz/\H n=.arr sz es:=by
 rcases h with ⟨rfl,_⟩ | h
 .simp at a
 .exact h
abbrev dH:=V × Nat × List (List V)
def bq (H:View) (L:List dH):Prop:=(∀ x∈L,aT H x.1 x.2.1 x.2.2)/\(L.filterMap λx=>owner x.1).Nodup
theorem bq.nil {H:View} : bq H []:=⟨λx a=>by simp at a,by simp⟩
theorem bq.head {H:View} {x:dH} {L:List dH} (h:bq H (x :: L)):aT H x.1 x.2.1 x.2.2:=h.1 x (by simp)
theorem bq.tail {H:View} {x:dH} {L:List dH} (h:bq H (x :: L)):bq H L:=by
 refine⟨λy a=>h.1 y (by simp[a]),?_⟩
 have:=h.2
 simp only[abZ] at this
 split at this
 .exact this
 .exact(abK.1 this).2
theorem bq.perm {H:View} {L a:List dH} (h:bq H L) (p:L.Perm a):bq H a :=
 ⟨λx b=>h.1 x (p.mem_iff.2 b),(p.filterMap _).nodup_iff.1 h.2⟩
theorem uz {α:Type} : ∀ (L:List α) (k:Nat) (hk:k < L.length),L.Perm (L[k] :: L.eraseIdx k)
 | x :: L,0,_=>.refl _
 | x :: L,k+1,hk=>by
  have:=uz L k (by simpa using hk)
  exact(this.cons x).trans (.swap _ _ _)
theorem bq.at {H:View} {L:List dH} (h:bq H L) (k:Nat) (hk:k < L.length):bq H (L[k] :: L.eraseIdx k) :=
 h.perm (uz L k hk)
theorem bq.obj {H:View} {n k sz:Nat} {es:List (List V)} {L:List dH} (h:bq H ((.sl n 0 k sz,sz,es) :: L)) (a:es≠[]):H n=.arr sz es/\k=es.length:=by
 rcases h.head with ⟨e,_⟩ | ⟨m,e,hm⟩
 .exact absurd e a
 .simp only[V.sl.injEq] at e
  obtain⟨rfl,_,rfl,_⟩:=e
  exact⟨hm,rfl⟩
theorem bq.off {H:View} {x:dH} {L:List dH} (h:bq H (x :: L)) {id:Nat} (a:owner x.1=some id):∀ y∈L,owner y.1≠some id:=by
 intro y b e
 have:=h.2
 simp only[abZ,a,abK,abY,not_exists,not_and] at this
 exact this.1 y b e
theorem bq.live {H:View} {x:dH} {L:List dH} (h:bq H L) (b:x∈L) {id:Nat} (a:owner x.1=some id):H id≠.dead:=by
 rw[((h.1 x b).live a).1];simp
theorem bq.keep {H H':View} {L:List dH} (h:bq H L) (hk:∀ x∈L,∀ id,owner x.1=some id->H' id=H id):bq H' L :=
 ⟨λx a=>(h.1 x a).keep (hk x a),h.2⟩
theorem bq.new {H:View} {L:List dH} (h:bq H L) {n:Nat} (b:H n=.dead) (sz:Nat) (es:List (List V)):bq (H.set n (.arr sz es)) ((.sl n 0 es.length sz,sz,es) :: L):=by
 refine⟨λx a=>?_,?_⟩
 .rcases aaT.1 a with rfl | a
  .exact .new
  .exact(h.1 x a).fresh b
 .simp only[abZ,owner,abK,abY,not_exists,not_and]
  exact⟨λx a e=>h.live a e b,h.2⟩
theorem bq.Gr {H H':View} {L:List dH} (h:bq H L) {u:V} {sz:Nat} {es:List (List V)} (c:aT H' u sz es) (b:c8 H H' u):bq H' ((u,sz,es) :: L):=by
 refine⟨λx a=>?_,?_⟩
 .rcases aaT.1 a with rfl | a
  .exact c
  .exact(h.1 x a).Yl b
 .cases hu:owner u with
  | none=>simp only[abZ,hu];exact h.2
  | some id =>
   simp only[abZ,hu,abK,abY,not_exists,not_and]
   exact⟨λx a e=>(b id (h.live a e)).2 hu,h.2⟩
theorem bq.fresh {H:View} {L:List dH} (h:bq H L) {n:Nat} (a:H n=.dead) {o:dG} : bq (H.set n o) L :=
 ⟨λx b=>(h.1 x b).fresh a,h.2⟩
theorem bq.put {H:View} {L:List dH} {n k sz:Nat} {es es':List (List V)} (h:bq H ((.sl n 0 k sz,sz,es) :: L)) (b:es'.length=es.length) (hk:k=es.length):bq (H.set n (.arr sz es')) ((.sl n 0 k sz,sz,es') :: L):=by
 refine⟨λx a=>?_,by simpa [abZ,owner] using h.2⟩
 rcases aaT.1 a with rfl | a
 .exact .inr ⟨n,by simp[b,hk],by simp[View.set]⟩
 .exact(h.1 x (by simp[a])).other (h.off rfl x a)
theorem bq.left {H H':View} {L:List dH} {u c:V} {sz:Nat} {es es':List (List V)} (h:bq H ((u,sz,es) :: L)) (j:aT H' c sz es') (g:Left H H' u c):bq H' ((c,sz,es') :: L):=by
 have b:∀ x∈L,∀ id,owner x.1=some id->owner u≠some id:=λx a id d hu=>h.off hu x a d
 refine⟨λx a=>?_,?_⟩
 .rcases aaT.1 a with rfl | a
  .exact j
  .exact(h.1 x (by simp[a])).left g (b x a)
 .have i:=h.tail.2
  cases hu:owner c with
  | none=>simp only[abZ,hu];exact i
  | some id =>
   simp only[abZ,hu,abK,abY,not_exists,not_and]
   refine⟨λx a e=>?_,i⟩
   have f:=h.tail.live a e
   exact(g id f (b x a id e)).2 hu
theorem b6 {sz bytes:Nat} {u:V} {es xs:List (List V)} {L:List dH} {H:View} {K:V->View->Prop} {w:cX (H,K)} (d:bq H ((u,sz,es) :: L)) (b:(xs.all λe=>e.length == sz && e.all aI)=true)
  (g:(es.length+xs.length) * bytes < aC) (c:es.length+xs.length < aC) (hk:∀ a H',bq H' ((a,sz,es ++ xs) :: L)->Left H H' u a->K a H'):lK sz bytes u xs H K w :=
 gF d.head b g c λa H' h1 f=>hk a H' (d.left h1 f) f
theorem bq.stay {H H':View} {L:List dH} (h:bq H L) (b:∀ id,H id≠.dead->H' id=H id):bq H' L :=
 h.keep λx c _ a=>b _ (h.live c a)
theorem bq.emp {H:View} {L:List dH} (h:bq H L) {k sz:Nat} : bq H ((.emp k,sz,[]) :: L):=by
 refine⟨λx a=>?_,by simpa [abZ,owner] using h.2⟩
 rcases aaT.1 a with rfl | a
 .exact .nil
 .exact h.1 x a
theorem aT.cells {H:View} {u:V} {sz:Nat} {es:List (List V)} (h:aT H u sz es):V.cells u=[u]:=by
 rcases h with ⟨rfl,k,rfl⟩ | ⟨n,rfl,_⟩ <;> rfl
theorem aT.fL {H:View} {u:V} {sz:Nat} {es:List (List V)} (h:aT H u sz es):aI u=true:=by
 rcases h with ⟨rfl,k,rfl⟩ | ⟨n,rfl,_⟩ <;> rfl
theorem bq.Ni {H:View} {L:List dH} (h:bq H L) (i j:Nat) {a e s1 b k2 s2 t1 t2:Nat} {f g:List (List V)} (hi:L[i]?=some (.sl a 0 e s1,t1,f)) (k:L[j]?=some (.sl b 0 k2 s2,t2,g)) (c:i≠j):a≠b:=by
 rintro rfl
 obtain⟨d,hi⟩:=aaR.1 hi
 have h1:=h.at i d
 rw[hi] at h1
 exact h1.off (id:=a) rfl _ (List.mem_eraseIdx_iff_getElem?.2 ⟨j,c.symm,k⟩) rfl
theorem DQ {α:Type} {a b c:α} {l:List α} : (a :: b :: c :: l).Perm (b :: c :: a :: l):=(List.Perm.swap _ _ _).trans ((List.Perm.swap _ _ _).cons _)
theorem bq.own {H:View} {L:List dH} (h:bq H L) (i:Nat) {u:V} {sz:Nat} {es:List (List V)} (hi:L[i]?=some (u,sz,es)):aT H u sz es:=h.1 _ (aaI hi)
theorem bq.is {H:View} {L:List dH} (h:bq H L) (i:Nat) {n k sz:Nat} {es:List (List V)} (hi:L[i]?=some (.sl n 0 k sz,sz,es)) (a:0 < es.length):H n=.arr sz es:=by
 obtain⟨m,e,hm⟩:=(h.own i hi).sl a
 simp only[V.sl.injEq] at e
 rw[e.1];exact hm
theorem bq.I5 {H:View} {L:List dH} (h:bq H L) {b c:Nat} {es:List (V × V × Nat)} (a:H b=.map es c):∀ x∈L,owner x.1≠some b:=λx d e=>by
 have:=((h.1 x d).live e).1
 rw[a] at this;simp at this
theorem bq.Ew {H:View} {L:List dH} (h:bq H L) {b c:Nat} {es:List (V × V × Nat)} (d:H b=.map es c) {o:dG} : bq (H.set b o) L :=
 ⟨λx a=>(h.1 x a).other (h.I5 d x a),h.2⟩
theorem Left.map {H H':View} {u d:V} {b c:Nat} {es:List (V × V × Nat)} {sz:Nat} {xs:List (List V)} (f:Left H H' u d) (g:aT H u sz xs) (a:H b=.map es c):H' b=.map es c:=by
 rw[(f b (by rw[a];simp) (λe=>by have:=(g.live e).1;rw[a] at this;simp at this)).1,a]
theorem El {H:View} {L:List dH} (h:bq H L) (i:Nat) {n k sz b c:Nat} {xs:List (List V)} {es:List (V × V × Nat)} (hi:L[i]?=some (.sl n 0 k sz,sz,xs)) (a:H b=.map es c):n≠b:=by
 rintro rfl
 exact h.I5 a _ (aaI hi) rfl
theorem ax.GJ {P:Program} {f:FuncId} {vs:List V} {H:View} {K:V->View->Prop} {w:cX (H,K)} {sz:Nat} {es:List (List V)} (b:aw P f vs H λr H'=>aT H' r sz es/\c8 H H' r) (hk:∀ r H',aT H' r sz es->c8 H H' r->K r H'):ax P true f vs H K w:=by
 unfold ax
 simp only[if_true]
 exact(b.mono λr H' h=>⟨λid a=>(h.2 id a).1,hk r H' h.1 h.2⟩).OV
def AO:SC :=
 ae [ab [aQ 20 .lss 19 18],bX 20 (.exit 0),.block 1 (ae [ab [aa 21 19,aa 3 21],ab [aa 22 0,aa 23 3,((some 24),.op (.jm (.tmp 22) (.tmp 23))),bk 25 224 [24],c9 26 25],bb 26 (ae [ab [bB 2 false],.ret])]),ab [aF 27 .add 19 1,aa 19 27]]
def Ed:SF:=⟨ae [ab [bB 2 false],ae [.region false [⟨none,[aa 4 0,((some 5),.op (.Ae .eql (.tmp 4) (.val (.val (.string ⟨#[]⟩))))),aa 6 5]⟩,⟨(some (6,false)),[aa 7 0,((some 8),.op (.rN (.tmp 7))),aF 9 .gtr 8 20]⟩,⟨none,[cy 10 6 9,aa 11 10]⟩,⟨(some (11,false)),[aa 12 0,((some 13),.op (.jm (.tmp 12) (.val (.val (.int .i64 0))))),bk 14 223 [13],c9 15 14]⟩,⟨none,[cy 16 11 15]⟩],bb 16 (ae [ab [bB 2 false],.ret])],ae [ab [aa 17 0,((some 18),.op (.rN (.tmp 17))),aR 19 0],bZ 0 AO],ab [bB 2 true],.ret],
 [.tmp 2],28⟩
theorem IT:aP Tryz.prog 158 []=some Ed:=by kernel_rfl
def Ah:SF:=⟨ae [ab [aR 2 0,aR 3 0],ab [aR 4 2],.block 0 (ae [ab [aa 6 0,aN 7 6,aF 8 .lss 7 2,aa 5 8],.cond (.tmp 5) (ae [ab [aR 2 0,aR 3 4],.ret]) (ae [ab [aa 10 0,((some 11),.op (.idx 1 (.tmp 10) (.val (.val (.int .i64 1))))),ak 12 11,bk 13 296 [12],aa 9 13],bX 9 (ae [ab [aa 15 0,((some 16),.op (.idx 1 (.tmp 15) (.val (.val (.int .i64 1))))),ak 17 16,((some 18),.op (.arith .neq (.tmp 17) (.val (.val (.int .u8 92))))),aa 14 18],.cond (.tmp 14) (ae [ab [aR 2 0,aR 3 3],.ret]) (ae [ab [aa 20 0,aN 21 20,aF 22 .lss 21 3,aa 19 22],.cond (.tmp 19) (ae [ab [aR 2 0,aR 3 4],.ret]) (ae [ab [aa 24 0,((some 25),.op (.idx 1 (.tmp 24) (.val (.val (.int .i64 2))))),ak 26 25,bk 27 297 [26],c9 28 27,aa 23 28],.cond (.tmp 23) (ae [ab [aR 2 0,aR 3 3],.ret]) (ab [aR 4 3])])])])])]),ae [ab [aa 29 0,aN 30 29,aa 31 4,aQ 32 .leq 30 31],bb 32 (ae [ab [aR 2 0,aR 3 4],.ret])],ae [ab [aa 33 0,aa 34 4,aO 35 1 33 34,ak 36 35,((some 37),.op (.arith .neq (.tmp 36) (.val (.val (.int .u8 39)))))],bb 37 (ae [ab [aR 2 0,aR 3 3],.ret])],ab [aa 38 4,aF 39 .add 38 1,aa 2 39,aR 3 0],.ret],
 [.tmp 2,.tmp 3],40⟩
theorem DE:aP Tryz.prog 287 []=some Ah:=by kernel_rfl
def tB:SF:=⟨ae [ab [bB 2 false],ae [.region false [⟨none,[aa 5 0,((some 6),.op (.Ae .eql (.tmp 5) (.val (.val (.string ⟨#[]⟩))))),aa 7 6]⟩,⟨(some (7,false)),[aa 8 0,((some 9),.op (.jm (.tmp 8) (.val (.val (.int .i64 0))))),((some 10),.op (.arith .neq (.tmp 9) (.val (.val (.int .u8 39)))))]⟩,⟨none,[cy 11 7 10]⟩],bb 11 (ae [ab [bB 2 false],.ret])],ab [aa 13 0,((some 14),.op (.gV (.tmp 13))),bk 15 287 [14],aa 12 15,dr 16 0 12,dr 17 1 12,aa 3 16,aa 4 17],.region false [⟨none,[aa 18 4,aF 19 .eql 18 0,aa 20 19]⟩,⟨(some (20,true)),[aa 21 3,aa 22 0,((some 23),.op (.rN (.tmp 22))),aQ 24 .eql 21 23]⟩,⟨none,[eO 25 20 24,aa 2 25]⟩],.ret],
 [.tmp 2],26⟩
theorem Dv:aP Tryz.prog 267 [14]=some tB:=by kernel_rfl
def CK:SF:=⟨ae [ab [bB 2 false],.region false [⟨none,[aa 3 0,bk 4 158 [3],aa 5 4]⟩,⟨(some (5,false)),[aa 6 0,bk 7 267 [6]]⟩,⟨none,[cy 8 5 7,aa 2 8]⟩],.ret],
 [.tmp 2],9⟩
theorem GW:aP Tryz.prog 217 []=some CK:=by kernel_rfl
def Ac:SF:=⟨ae [ab [bB 2 false],ab [aa 3 0,bk 4 158 [3],c9 5 4,aa 2 5],.ret],
 [.tmp 2],6⟩
theorem DW:aP Tryz.prog 157 []=some Ac:=by kernel_rfl
theorem AF (s:ByteArray):jT s ⟨#[]⟩=decide ((gp s).length=0):=by
 unfold jT
 rw[<-fF]
 have:(s.data.toList == ([]:List UInt8))=decide (s.data.toList.length=0):=by
  cases s.data.toList <;> rfl
 show (s.data.toList == ([]:List UInt8))=_
 rw[this]
 rfl
theorem U7 (s:ByteArray) (H:View):aw Tryz.prog 158 [gs s] H λr _=>r=gb (gZ (gp s)):=by
 refine aw.of mixed IT ?_
 repeat' (first | ((first|apply aj.dec|apply aj.eq|apply aj.ne|apply aj.split)<;>intro)|(simp(disch:=omega)only[↓wr,seval,wq,Ed,fF,AF]))
 .rename_i h
  congr 2;simp[gZ,h]
 .rename_i h1 h
  congr 2;simp[gZ,show ¬ (gp s).length<=20 by omega]
 .rename_i h1 p
  cases e:gp s with
  | nil=>simp[e] at h1
  | cons c l =>
   have f:=λd (g:d∈c :: l)=>Is (s:=s) (c:=d) (by rw[e];exact g)
   have j:=f c (by simp)
   repeat' (first | ((first|apply aj.dec|apply aj.eq|apply aj.ne|apply aj.split)<;>intro)|(simp(disch:=omega)only[↓wr,seval,wq,e,aa5,fF]))
   refine ax.pure (zB vJ OR c j.1 j.2) ?_
   repeat' (first | ((first|apply aj.dec|apply aj.eq|apply aj.ne|apply aj.split)<;>intro)|(simp(disch:=omega)only[↓wr,seval,wq,e,aa5,fF]))
   .rename_i q
    rw[e] at h1 p
    refine ba.intro (λk T H'=>∃ i:Nat,i+k=(c :: l).length/\((c :: l).take i).all qa=true/\T 0=gs s/\T 18=gi (c :: l).length/\T 19=gi i) (c :: l).length ?_ ?_
    .exact⟨0,by omega,by simp,rfl,rfl,rfl⟩
    .rintro k T H' ⟨i,hk,hi,n,a,b⟩
     simp(disch:=omega)only[↓wr,seval,wq,AO,n,a,b,fF,e]
     apply aj.dec<;>intro t
     .simp only[aaN] at t hk p
      have o:(c :: l)[i]?=some ((c :: l)[i]'(by simp;omega)):=aaB (by simp;omega)
      have hm:(c :: l)[i]'(by simp;omega)∈c :: l:=aaL _
      generalize (c :: l)[i]'(by simp;omega)=d at o hm
      have m:=f d hm
      simp(disch:=omega)only[↓wr,seval,wq,n,a,b,fF,e,o]
      refine ax.pure (zB vJ Q9 d m.1 m.2) ?_
      repeat' (first | ((first|apply aj.dec|apply aj.eq|apply aj.ne|apply aj.split)<;>intro)|(simp(disch:=omega)only[↓wr,seval,wq,n,a,b,fF,e,o]))
      .rename_i g
       refine⟨k - 1,by omega,i+1,by omega,?_,by first | rfl | exact⟨rfl,rfl⟩⟩
       rw[aa3,o]
       simp only[Option.toList_some,List.all_append,hi,abQ,g,List.all_nil,Bool.and_self]
      .rename_i g
       congr 2
       have:(c :: l).all qa=false:=by
        rw[List.all_eq_false];exact⟨d,hm,by simp[g]⟩
       simp only[gZ,this,acy]
     .simp(disch:=omega)only[↓wr,seval,wq,n,a,b]
      simp only[aaN] at t hk p
      rw[aaS (by simp;omega)] at hi
      congr 2
      simp only[gZ,hi,aaN]
      simp[q];omega
   .rename_i q
    congr 2;simp[gZ,q]
theorem KT (s:ByteArray):az Tryz.prog 158 [gs s] (gb (gZ (gp s))):=az.val (rP s) (U7 s)
def me (l:List Int):Int × Int :=
 if B0 (l.getD 1 0)=true then (2,0) else if l.getD 1 0≠92 then (0,3) else if l.length < 3 then (0,4) else if GB (l.getD 2 0)=true then (3,0) else (0,3)
def od (l:List Int):Int × Int :=
 if l.length < 2 then (0,4) else if (me l).2≠0 then (0,(me l).2) else if (l.length:Int)<=(me l).1 then (0,4) else if l.getD (me l).1.toNat 0≠39 then (0,3) else ((me l).1+1,0)
theorem RD {l:List Int} {n:Int} (a:me l=(n,0)) (b:¬ l.length < 2):od l=if (l.length:Int)<=n then (0,4) else if l.getD n.toNat 0≠39 then (0,3) else (n+1,0):=by
 rw[od,aaD b,a];simp
theorem Kb {l:List Int} {e:Int} (a:me l=(0,e)) (he:e≠0) (b:¬ l.length < 2):od l=(0,e):=by
 rw[od,aaD b,a];simp[he]
theorem OL (l:List Int) (hr:∀ c∈l,0<=c/\c<=255) (H:View):aw Tryz.prog 287 [.aU (l.map λx=>[gy x])] H λr _=>r=.bf [gi (od l).1,gi (od l).2]:=by
 refine aw.of mixed DE ?_
 simp(disch:=omega)only[↓wr,seval,wq,Ah]
 apply aj.dec<;>intro h
 .simp(disch:=omega)only[↓wr,seval,wq]
  rw[od,aaF (by omega)]
 .have h1:l[1]?=some (l[1]'(by omega)):=aaB (by omega)
  have g1:l.getD 1 0=l[1]'(by omega):=by simp[aaA,h1]
  have m1:l[1]'(by omega)∈l:=aaL _
  generalize l[1]'(by omega)=b at h1 g1 m1
  have o:=hr b m1
  simp(disch:=omega)only[↓wr,seval,wq,aaE,h1]
  refine ax.pure (zB vJ Su b o.1 o.2) ?_
  simp(disch:=omega)only[↓wr,seval,wq]
  apply aj.split<;>intro hp
  .have p:me l=(2,0):=by rw[me,aaF (by rw[g1];exact hp)]
   simp(disch:=omega)only[↓wr,seval,wq]
   have a:=RD p (by omega)
   apply aj.dec<;>intro m
   .simp(disch:=omega)only[↓wr,seval,wq]
    rw[a,aaF (by omega)]
   .rw[aaD (by omega)] at a
    have g:l[2]?=some (l[2]'(by omega)):=aaB (by omega)
    have g2:l.getD (2:Int).toNat 0=l[2]'(by omega):=by simp[aaA,g]
    generalize l[2]'(by omega)=c at g g2
    rw[g2] at a
    simp(disch:=omega)only[↓wr,seval,wq,aaE,g]
    apply aj.ne<;>intro i
    .simp(disch:=omega)only[↓wr,seval,wq]
     rw[a,aaF i]
    .simp(disch:=omega)only[↓wr,↓reduceIte,wq,Nat.reduceEqDiff,Nat.reduceAdd,Nat.reduceLT,Nat.reduceLeDiff,Int.reduceNeg,Int.reduceToNat,reduceCtorEq]
     rw[a,aaD (λq=>q i)]
  .simp(disch:=omega)only[↓wr,seval,wq,aaE,h1]
   apply aj.ne<;>intro k
   .simp(disch:=omega)only[↓wr,seval,wq]
    rw[Kb (e:=3) (by rw[me,aaD (by rw[g1,hp];simp),aaF (by rw[g1];exact k)]) (by simp) (by omega)]
   .simp(disch:=omega)only[↓wr,seval,wq]
    apply aj.dec<;>intro s
    .simp(disch:=omega)only[↓wr,seval,wq]
     rw[Kb (e:=4) (by rw[me,aaD (by rw[g1,hp];simp),aaD (by rw[g1];exact λq=>q k),aaF (by omega)]) (by simp) (by omega)]
    .have g:l[2]?=some (l[2]'(by omega)):=aaB (by omega)
     have g2:l.getD 2 0=l[2]'(by omega):=by simp[aaA,g]
     have m2:l[2]'(by omega)∈l:=aaL _
     generalize l[2]'(by omega)=c at g g2 m2
     have j:=hr c m2
     have f:me l=if GB c=true then (3,0) else (0,3):=by rw[me,aaD (by rw[g1,hp];simp),aaD (by rw[g1];exact λq=>q k),aaD (by omega),g2]
     simp(disch:=omega)only[↓wr,seval,wq,aaE,g]
     refine ax.pure (zB vJ Xn c j.1 j.2) ?_
     simp(disch:=omega)only[↓wr,seval,wq]
     apply aj.split<;>intro he
     .rw[aaF he] at f
      have a:=RD f (by omega)
      simp(disch:=omega)only[↓wr,seval,wq]
      apply aj.dec<;>intro m
      .simp(disch:=omega)only[↓wr,seval,wq]
       rw[a,aaF (by omega)]
      .rw[aaD (by omega)] at a
       have n:l[3]?=some (l[3]'(by omega)):=aaB (by omega)
       have g3:l.getD (3:Int).toNat 0=l[3]'(by omega):=by simp[aaA,n]
       generalize l[3]'(by omega)=d at n g3
       rw[g3] at a
       simp(disch:=omega)only[↓wr,seval,wq,aaE,n]
       apply aj.ne<;>intro i
       .simp(disch:=omega)only[↓wr,seval,wq]
        rw[a,aaF i]
       .simp(disch:=omega)only[↓wr,↓reduceIte,wq,Nat.reduceEqDiff,Nat.reduceAdd,Nat.reduceLT,Nat.reduceLeDiff,Int.reduceNeg,Int.reduceToNat,reduceCtorEq]
        rw[a,aaD (λq=>q i)]
     .rw[aaD (by rw[he];simp)] at f
      simp(disch:=omega)only[↓wr,seval,wq]
      rw[Kb f (by simp) (by omega)]
end Gv
