/-
  Part 7 of the proof: what the machine does and what the functions answer.
  Conditions: those that each lemma names.
-/
import Derived.Test.YtiophifnkakjgaaGreatSGzB8F
set_option linter.unusedSimpArgs false
set_option linter.unusedVariables false
set_option maxRecDepth 100000
set_option maxHeartbeats 20000000
namespace Gv
open Go Go.Proofs
section
variable {P:Program} {n:Nat} {all:List Oper}
def iJ (h:aC) (e:ES):Prop:=e.V=h.view/\e.n=h.length
def Calm (e e':ES) (h h':aC):Prop:=h.length<=h'.length/\(∀ id,id < h.length->¬ id∈e'.w->h'.view id=h.view id/\¬ id∈e.w)
theorem Calm.trans {a b c:ES} {h1 e f:aC} (x:Calm a b h1 e) (y:Calm b c e f):Calm a c h1 f :=
 ⟨Vl x.1 y.1,λid d hw =>
  let ⟨g,d1⟩:=y.2 id (U4 d x.1) hw
  let ⟨h,d2⟩:=x.2 id d d1
  ⟨g.trans h,d2⟩⟩
theorem Calm.refl (e:ES) (h:aC):Calm e e h h:=⟨UF _,λ_ _ hw=>⟨rfl,hw⟩⟩
def kD (P:Program) (call:iq):Prop:=∀ g vs e v e' h,call g vs e=some (v,e')->iJ h e ->
 dE P g=true/\∃ h',bK P g vs h v h'/\iJ h' e'/\(∀ id,id < h.length->¬ id∈e'.w->h'.view id=h.view id)/\∀ id,id∈e'.w->id < h.length
def wb (P:Program) (run:xj):Prop:=∀ (n:Nat) (fz:List Nat) (c:Code) (sc:DC),jn P n fz c=some sc->n<=8000->∀ (e e':ES) (r:Exit) (h:aC),run sc e=some (r,e')->iJ h e ->
 ∃ h',cZ P n c e.T h r e'.T h'/\iJ h' e'/\Calm e e' h h'/\∀ c0,c=.loop c0->pZ P n c0 e.T h r e'.T h'
theorem Om {h:aC} {e:ES} {d:Option Nat} {v:V} (he:iJ h e):iJ h (e.put d v):=by cases d <;> exact he
theorem Qw {e:ES} {d:Option Nat} {v:V} : (e.put d v).w=e.w:=by cases d <;> rfl
theorem PR {h:aC} {e e':ES} {b:aC} {d:Option Nat} {v:V} (x:Calm e e' h b):Calm e (e'.put d v) h b:=⟨x.1,λid a hw=>x.2 id a (by rw[Qw] at hw;exact hw)⟩
theorem CB {a:Nat} (h:Nat.ble a 8000=true):a+1 < 2 ^ 13:=by
 have:=Nat.le_of_ble_eq_true h
 omega
theorem QW {h:aC} {e e':ES} {v v':V} {eff:bp} {rd:List Nat} {c:Rec} (he:iJ h e) (a:Gt v eff rd e=some (v',e',c)) :
  v'=v/\e'.T=e.T/\e'.V=eff.view h.view h.length/\e'.n=(eff.apply h).length/\c=⟨rd,eff.wr,false,h.length,(eff.apply h).length⟩/\e'.w=eff.wr ++ e.w:=by
 obtain⟨h1,b⟩:=he
 unfold Gt at a
 cases eff with
 | none =>
  simp only[Uw,UA] at a
  obtain⟨rfl,rfl,rfl⟩:=a
  exact⟨rfl,rfl,h1,b,by rw[b];rfl,rfl⟩
 | new o =>
  simp only at a
  split at a
  .rename_i d
   simp only[Uw,UA] at a
   obtain⟨rfl,rfl,rfl⟩:=a
   refine⟨rfl,rfl,?_,by simp[gG,b],by simp[gG,b,bp.wr],rfl⟩
   funext k
   simp only[ES.V,bp.view,View.set]
   rw[cE.nq _ _ _ _ _ _ (CB d),b]
   have:=congrFun h1 k
   simp only[ES.V] at this
   rw[this]
  .simp at a
 | fi id o =>
  simp only at a
  split at a
  .rename_i d
   simp only[Uw,UA] at a
   obtain⟨rfl,rfl,rfl⟩:=a
   refine⟨rfl,rfl,?_,by simp[gG,b],by simp[gG,b,bp.wr],rfl⟩
   funext k
   simp only[ES.V,bp.view,View.set]
   rw[cE.nq _ _ _ _ _ _ (CB d)]
   have:=congrFun h1 k
   simp only[ES.V] at this
   rw[this]
  .simp at a
 | eU id o =>
  simp only at a
  split at a
  .rename_i f g
   simp only[Uw,UA] at a
   obtain⟨rfl,rfl,rfl⟩:=a
   refine⟨rfl,rfl,?_,by simp[gG,b],by simp[gG,b,bp.wr],rfl⟩
   funext k
   simp only[ES.V,bp.view,View.set]
   rw[cE.nq _ _ _ _ _ _ (CB f),cE.nq _ _ _ _ _ _ (CB g),b]
   have:=congrFun h1 k
   simp only[ES.V] at this
   rw[this]
  .simp at a
theorem Se {o:Oper} {e e':ES} {h:aC} {s:SI} {v:V} {c:Rec} (i:dx n all e.T o=some true) (j:∀ v eff rd,sI P s e.T h.view h.length=some (v,eff,rd)->ca P o e.T h.view h.length=some (v,eff,rd))
  (he:iJ h e) (b:Nf P s e=some (v,e',c)):∃ d,dP P n all o e.T h v d c.rd c.wr c.call/\iJ d e'/\e'.T=e.T/\Calm e e' h d/\kC (s9 P s) c.rd c.wr c.call h.length d.length/\c.lo=h.length/\c.hi=d.length:=by
 unfold Nf at b
 rw[KI,he.1,he.2] at b
 split at b
 .rename_i v0 eff rd f
  obtain⟨rfl,g1,g2,g3,rfl,g5⟩:=QW he b
  have g:=j _ _ _ f
  have st:=dP.op (P:=P) (n:=n) (all:=all) i g
  refine⟨eff.apply h,st,⟨?_,g3⟩,g1,⟨tq st,λid a hw=>?_⟩,⟨λk=>?_,λh1=>?_⟩,rfl,rfl⟩
  .rw[lq (λid a=>(mM g id a).1)];exact g2
  .rw[g5] at hw
   simp only[UR,not_or] at hw
   exact⟨rv st a hw.1,hw.2⟩
  .obtain⟨rfl,rfl⟩:=(rR f).1 k
   exact⟨rfl,rfl,rfl,rfl⟩
  .rcases UZ (s9 P s) 1 with l | l
   .obtain⟨rfl,rfl⟩:=(rR f).1 (by omega);rfl
   .exact(rR f).2 (by omega)
 .simp at b
theorem S7 {call:iq} (j:kD P call) {q:Fz} {o:Oper} {e e':ES} {h:aC} {v:V} {c:Rec} (r:dx n all e.T o=some true) (he:iJ h e) (a:eB P call (mz P q o) e=some (v,e',c)) :
  ∃ k,dP P n all o e.T h v k c.rd c.wr c.call/\iJ k e'/\e'.T=e.T/\Calm e e' h k/\kC (iS P false (mz P q o)) c.rd c.wr c.call h.length k.length/\c.lo=h.length/\c.hi=k.length:=by
 rcases zV P q o with ⟨f,args,C,m,i | i⟩ | ⟨t,x,m,i⟩ | ⟨s,d,x,m,u,i⟩ | i
 rotate_left
 .rw[i] at a
  simp[eB] at a
 rotate_right
 .rw[i] at a ⊢
  simp only[eB,MG] at a
  split at a
  .rename_i g first cap A
   rw[By] at a
   rw[SX.cL] at A
   split at a
   .rename_i v0 G D
    obtain⟨l,k,hr,p,B,w⟩:=j _ _ _ _ _ _ D he
    simp only[Uw,UA] at a
    obtain⟨rfl,rfl,rfl⟩:=a
    exact⟨k,.call r m A l hr B w,p,rfl,⟨hr.1,λid y hw=>by
     simp only[UR,not_or] at hw
     exact⟨B id y hw.1,hw.2⟩⟩,QB (by simp[iS]),he.2,p.2⟩
   .simp at a
  .simp at a
 .rw[i] at a ⊢
  simp only[eB,Nf,KI,sI,SX.cL] at a
  split at a
  .rename_i v0 eff rd b
   split at b
   .rename_i l
    simp only[Uw,UA] at b
    obtain⟨rfl,rfl,rfl⟩:=b
    simp only[Gt,Uw,UA] at a
    obtain⟨rfl,rfl,rfl⟩:=a
    exact⟨h,.js r m l,he,rfl,Calm.refl _ _,⟨λ_=>⟨rfl,rfl,rfl,rfl⟩,λ_=>rfl⟩,he.2,he.2⟩
   .simp at b
  .simp at a
 .rw[i] at a ⊢
  obtain⟨ty,h1,E,F⟩:=zW u
  simp only[eB,Nf,KI,sI,SX.cL] at a
  split at a
  .rename_i v0 eff rd b
   split at b
   .rename_i st z
    simp only[Uw,UA] at b
    obtain⟨rfl,rfl,rfl⟩:=b
    simp only[Gt,Uw,UA] at a
    obtain⟨rfl,rfl,rfl⟩:=a
    exact⟨h,.gg r m h1 E F z,he,rfl,Calm.refl _ _,⟨λ_=>⟨rfl,rfl,rfl,rfl⟩,λ_=>rfl⟩,he.2,he.2⟩
   .simp at b
  .simp at a
 .rw[i] at a ⊢
  exact Se (s:=yO P q.fr (comp P o)) r (λv eff rd b=>JX (J8 b)) he a
theorem RU {o:Oper} (a:rL n o=true) (b:n<=8000):∀ t,o.dst=some t->t < 8000:=by
 intro t c
 unfold rL at a
 rw[c] at a
 have:t < n:=by simpa using a
 exact U4 this b
theorem RK {c:Rec} {a b:Nat} (h1:c.lo=a) (d:c.hi=b):c=⟨c.rd,c.wr,c.call,a,b⟩:=by cases c;subst h1;subst d;rfl
theorem HI {call:iq} (i:kD P call) (N:n<=8000) {S:Fz} (g:Option (Nat × Bool)):∀ (l:List (Option Nat × SB)) (os:List Oper) (e e':ES) (h:aC) (a u:List Rec),
  dG P n all S os=some (l.map λ(d,b)=>⟨d,g,b⟩)->(∀ d w,g=some (d,w)->e.T d=.val (.bool w)/\(l.all λx=>x.1 != some d)=true)->iJ h e->JF P call l a e=some (e',u) ->
  ∃ f z,u=a ++ f/\Tr P n all os e.T h f e'.T z/\iJ z e'/\Calm e e' h z/\fV P false (l.map λ(d,b)=>⟨d,g,b⟩) f
 | [],os,e,e',h,a,u,A,B,he,k=>by
  have:=lh A;subst this
  simp only[JF,Uw,UA] at k;obtain⟨rfl,rfl⟩:=k
  exact⟨[],h,by simp,.nil,he,Calm.refl _ _,.nil⟩
 | (d,b) :: l,os,e,e',h,a,u,A,B,he,k=>by
  obtain⟨o,r,rfl,h1,U⟩:=l8 A
  obtain⟨O,j,q,s⟩:=sW h1
  simp only at j q s
  have C:dx n all e.T o=some true:=by
   cases g with
   | none=>exact A0 s
   | some p =>
    obtain⟨D,w⟩:=p
    have:=(k8 (T:=e.T) s).1 w (B D w rfl).1
    rw[this];simp
  simp only[JF] at k
  rw[q] at k
  split at k
  .rename_i v Q c V
   obtain⟨E,st,F,G,H,W,I,J⟩:=S7 i C he V
   have m:(Q.put d v).T=e.T.put o.dst v:=by
    rw[ES.QC (by rw[j];exact RU O N),G,j]
   obtain⟨f,K,X,R,L,y,M⟩:=HI i N g l r (Q.put d v) e' E _ u U (λD w eq=>by
    have:=B D w eq
    simp only[VL,UJ,bne_iff_ne,ne_eq] at this
    refine⟨?_,this.2.2⟩
    rw[<-this.1,m,<-j]
    cases d with
    | none=>rfl
    | some t=>simp only[Env.put];rw[Ux];intro e;subst e;exact this.2.1 rfl) (Om F) k
   rw[m] at R
   refine⟨_,K,?_,.cons st O R,L,(PR H).trans y,M.cons (by rw[q];exact W)⟩
   rw[X,Vs,<-RK I J];rfl
  .simp at k
theorem FR {E:Fz} (C:n<=8000) (d:Nat) (w:Bool) (h:aC):∀ (l:List (Option Nat × SB)) (os:List Oper) (e e':ES) (a m:List Rec),
  dG P n all E os=some (l.map λ(g,b)=>⟨g,some (d,w),b⟩)->(e.T d=.val (.bool !w)∨e.T d=.aY [])->(l.all λx=>x.1 != some d)=true->iJ h e->wa l a e=(e',m) ->
  ∃ c,m=a ++ c/\Tr P n all os e.T h c e'.T h/\iJ h e'/\e'.w=e.w/\fV P false (l.map λ(g,b)=>⟨g,some (d,w),b⟩) c
 | [],os,e,e',a,m,u,j,s,he,p=>by
  have:=lh u;subst this
  simp only[wa,UA] at p;obtain⟨rfl,rfl⟩:=p
  exact⟨[],by simp,.nil,he,rfl,.nil⟩
 | (g,b) :: l,os,e,e',a,m,u,j,s,he,p=>by
  obtain⟨o,r,rfl,h1,F⟩:=l8 u
  obtain⟨q,f,v,k⟩:=sW h1
  simp only at f v k
  have y:dx n all e.T o=some false:=by
   rcases j with j | j
   .rw[(k8 (T:=e.T) k).1 _ j];cases w <;> rfl
   .exact(k8 (T:=e.T) k).2 j
  simp only[VL,UJ,bne_iff_ne,ne_eq] at s
  have i:(e.put g (.aY [])).T=e.T.put o.dst (.aY []):=by
   rw[ES.QC (by rw[f];exact RU q C),f]
  simp only[wa] at p
  obtain⟨c,G,D,z,A,B⟩:=FR C d w h l r (e.put g (.aY [])) e' _ m F (by
   have:(e.put g (.aY [])).T d=e.T d:=by
    rw[i,<-f]
    cases g with
    | none=>rfl
    | some t=>simp only[Env.put];rw[Ux];intro e;subst e;exact s.1 rfl
   rw[this];exact j) s.2 (Om he) p
  rw[i] at D
  refine⟨_,?_,Tr.cons (.skip y) q D,z,by rw[A,Qw],B.cons (r:=⟨[],[],false,h.length,h.length⟩) ⟨λ_=>⟨rfl,rfl,rfl,rfl⟩,λ_=>rfl⟩⟩
  rw[G,Vs,Qt,he.2];rfl
theorem Et {j:Fz} (k:n<=8000) {d:Nat} {w:Bool} {h:aC} {l:List (Option Nat × SB)} {os:List Oper} {e e':ES} {a f:List Rec}
  (m:dG P n all j os=some (l.map λ(g,b)=>⟨g,some (d,w),b⟩)) (o:e.T d=.val (.bool !w)∨e.T d=.aY []) (p:(l.all λx=>x.1 != some d)=true) (he:iJ h e) (q:wa l a e=(e',f)) :
  ∃ c i,f=a ++ c/\Tr P n all os e.T h c e'.T i/\iJ i e'/\Calm e e' h i/\fV P false (l.map λ(g,b)=>⟨g,some (d,w),b⟩) c:=by
 obtain⟨c,h1,r,s,t,u⟩:=FR k d w h l os e e' a f m o p he q
 exact⟨c,h,h1,r,s,⟨UF _,λid _ hw=>⟨rfl,by rw[t] at hw;exact hw⟩⟩,u⟩
theorem SS {call:iq} (i:kD P call) (m:n<=8000) {s:Fz} {g:SG} {os:List Oper} {e e':ES} {h:aC} {a o:List Rec} (k:dG P n all s os=some g.flat) (c:tB g=true) (he:iJ h e) (f:eG P call g a e=some (e',o)) :
  ∃ j q,o=a ++ j/\Tr P n all os e.T h j e'.T q/\iJ q e'/\Calm e e' h q/\fV P false g.flat j:=by
 unfold eG at f
 unfold SG.flat at k ⊢
 unfold tB at c
 split at f
 .rename_i r
  rw[r] at k ⊢
  exact HI i m none g.ops os e e' h a o k (λd w e=>by simp at e) he f
 .rename_i d want r
  rw[r] at k c ⊢
  simp only at c
  unfold L4 at f
  split at f
  .rename_i b p
   split at f
   .rename_i l
    simp only[Uw] at f
    have e':b = !want:=by cases b <;> cases want <;> simp_all
    subst e'
    exact Et m k (.inl p) c he f
   .rename_i l
    have e':b=want:=by cases b <;> cases want <;> simp_all
    subst e'
    exact HI i m (some (d,b)) g.ops os e _ h a o k (λt w e=>by simp at e;obtain⟨rfl,rfl⟩:=e;exact⟨p,c⟩) he f
  .rename_i p
   simp only[Uw] at f
   exact Et m k (.inr p) c he f
  .simp at f
theorem MM {call:iq} (b:kD P call) (z:n<=8000) {A:Fz} : ∀ (gs:List SG) (os:List Oper) (e e':ES) (h:aC) (a i:List Rec),dG P n all A os=some (kq gs)->gs.all tB=true->iJ h e->L3 P call gs a e=some (e',i) ->
  ∃ c k,i=a ++ c/\Tr P n all os e.T h c e'.T k/\iJ k e'/\Calm e e' h k/\fV P false (kq gs) c
 | [],os,e,e',h,a,i,j,_,he,d=>by
  have:=lh j;subst this
  simp only[L3,Uw,UA] at d;obtain⟨rfl,rfl⟩:=d
  exact⟨[],h,by simp,.nil,he,Calm.refl _ _,.nil⟩
 | g :: gs,os,e,e',h,a,i,j,f,he,d=>by
  simp only[kq,U2,List.flatten_cons] at j ⊢
  simp only[VL,UJ] at f
  obtain⟨F,B,rfl,h1,C⟩:=q9 j
  simp only[L3] at d
  split at d
  .rename_i D E l
   obtain⟨G,m,o,p,q,r,s⟩:=SS b z h1 f.1 he l
   obtain⟨H,t,u,v,w,x,y⟩:=MM b z gs B D e' m E i C f.2 q d
   exact⟨_,t,by rw[u,o,Vs],p.append v,w,r.trans x,s.append y⟩
  .simp at d
theorem Ow {ls:List Nat} {i k x y:Nat} (a:i < k) (b:ls[i]?=some x) (c:ls[k]?=some y) (d:ordered (fF all []) i k=false) (h:¬ (x=0∨y=0∨(x<=1/\y<=1))):(i,k)∈A7 all ls:=by
 unfold A7
 simp only[List.mem_flatten,U0]
 refine⟨_,⟨(x,i),by rw[Vo];exact b,rfl⟩,?_⟩
 simp only[U0,Vu]
 refine⟨(y,k),⟨by rw[Vo];exact c,?_⟩,rfl⟩
 simp only[a,decide_true,d,Wn,Vt,Wd,Bool.or_eq_false_iff,beq_eq_false_iff_ne,Bool.and_eq_false_iff,Vz]
 omega
theorem O3 {ls:List Nat} {d:List Rec} (h:ND d (A7 all ls)=true) (v:ls.length=d.length) (hr:∀ (i x:Nat) (r:Rec),ls[i]?=some x->d[i]?=some r->kC x r.rd r.wr r.call r.lo r.hi):tK all d:=by
 intro i k a b l m n t
 have hi:i < d.length:=(UI.1 m).1
 have hk:k < d.length:=(UI.1 n).1
 have j:ls[i]?=some (ls[i]'(by omega)):=Uv (by omega)
 have o:ls[k]?=some (ls[k]'(by omega)):=Uv (by omega)
 generalize ls[i]'(by omega)=x at j
 generalize ls[k]'(by omega)=y at o
 have q:=hr i _ a j m
 have s:=hr k _ b o n
 by_cases f:x=0∨y=0∨(x<=1/\y<=1)
 .rcases f with h1 | h1 | h1
  .obtain⟨g,e,p,u⟩:=q.1 h1
   exact⟨λid c=>by simp[e] at c,λid _=>by simp[g],λf=>by simp[p] at f,λ_=>e,λid _ j=>by omega⟩
  .obtain⟨g,e,p,u⟩:=s.1 h1
   exact⟨λid _=>by simp[g],λid c=>by simp[e] at c,λ_=>e,λf=>by simp[p] at f,λid c=>by simp[e] at c⟩
  .have g:=q.2 h1.1
   have e:=s.2 h1.2
   exact⟨λid c=>by simp[g] at c,λid c=>by simp[e] at c,λ_=>e,λ_=>g,λid c=>by simp[e] at c⟩
 .have:=U3.1 h _ (Ow l j o t f)
  simp only[m,n] at this
  exact LR this
theorem QV (hm:P.follows .mixedOrders=true) {call:iq} (g:kD P call) (D:n<=8000) {y:List Nat} {id:Nat} {ops:Array Oper} {draw:Bool} {z:DC} {run:xj} {e e':ES} {r:Exit} {h:aC}
  (c:FP P n y ops.toList draw=some z) (he:iJ h e) (a:mj P call run z e=some (r,e')) :
  ∃ f,cZ P n (.region id ops draw) e.T h r e'.T f/\iJ f e'/\Calm e e' h f:=by
 unfold FP at c
 split at c
 .simp at c
 .rename_i l E
  split at c
  .simp at c
  .rename_i j
   have j:(group l).all tB=true:=by simpa using j
   have p:dG P n ops.toList ⟨y,false⟩ ops.toList=some (kq (group l)):=by rw[gu];exact E
   have key:∀ q,mj P call run (.region q (group l)) e=some (r,e')->(draw=true->lY ops.toList=true/\q=A7 ops.toList (l.map λs=>iS P false s.b)) ->
     ∃ f,cZ P n (.region id ops draw) e.T h r e'.T f/\iJ f e'/\Calm e e' h f:=by
    intro q a t
    simp only[mj,Jj] at a
    split at a
    .rename_i F d u
     split at a
     .rename_i m
      simp only[Uw,UA] at a
      obtain⟨rfl,rfl⟩:=a
      obtain⟨A,f,B,C,hk,v,k⟩:=MM g D (group l) ops.toList e F h [] d p j he u
      simp only[Vk] at B
      subst B
      rw[gu] at k
      refine⟨f,?_,hk,v⟩
      cases o:draw with
      | false=>simpa using HG (id:=id) C
      | true =>
       obtain⟨h1,rfl⟩:=t o
       have w:tK ops.toList d:=O3 m (by simpa using k.1) (λi x r a hr=>by
        simp only[Uy,UD] at a
        obtain⟨s,G,rfl⟩:=a
        exact k.2 i s r G hr)
       simpa using yb hm (id:=id) C h1 w
     .simp at a
    .simp at a
   split at c
   .rename_i o
    split at c
    .rename_i H
     simp at c;subst c
     exact key _ a (λ_=>⟨H,rfl⟩)
    .simp at c
   .rename_i o
    simp at c;subst c
    exact key _ a (λe=>absurd e o)
theorem PN (hm:P.follows .mixedOrders=true) {call:iq} (q:kD P call) {run:xj} (f:wb P run):wb P (mj P call run):=by
 intro n p c I k o e e' r h g he
 cases c with
 | skip =>
  simp[jn] at k;subst k
  simp only[mj,N0,Uw,UA] at g
  obtain⟨rfl,rfl⟩:=g
  exact⟨h,.skip,he,Calm.refl _ _,λ_ h=>by simp at h⟩
 | region id ops draw =>
  obtain⟨G,a,b,d⟩:=QV (id:=id) hm q o k he g
  exact⟨G,a,b,d,λ_ h=>by simp at h⟩
 | seq x y =>
  simp only[jn] at k
  split at k
  .rename_i a b h1 B
   simp at k;subst k
   simp only[mj,R5] at g
   split at g
   .rename_i s m
    obtain⟨i,l,j,c1,w⟩:=f n p x a h1 o e s .normal h m he
    obtain⟨t,E,u,c2,F⟩:=f n p y b B o s e' r i g j
    exact⟨t,l.seq E,u,c1.trans c2,λ_ h=>by simp at h⟩
   .rename_i v
    obtain⟨i,l,j,c1,w⟩:=f n p x a h1 o e e' r h g he
    refine⟨i,l.JR (λe=>?_),j,c1,λ_ h=>by simp at h⟩
    subst e
    exact absurd g (v e')
  .simp at k
 | cond J x y =>
  simp only[jn] at k
  split at k
  .rename_i a b h1 B
   simp at k;subst k
   simp only[mj,QH,SX.cL] at g
   split at g
   .rename_i C
    obtain⟨i,l,j,c1,w⟩:=f n p x a h1 o e e' r h g he
    exact⟨i,.cond C l,j,c1,λ_ h=>by simp at h⟩
   .rename_i C
    obtain⟨i,l,j,c1,w⟩:=f n p y b B o e e' r h g he
    exact⟨i,.cond C l,j,c1,λ_ h=>by simp at h⟩
   .simp at g
  .simp at k
 | block id c =>
  simp only[jn,UD] at k
  obtain⟨a,h1,rfl⟩:=k
  simp only[mj,MZ] at g
  split at g
  .rename_i H s m
   simp only[Uw,UA] at g
   obtain⟨rfl,rfl⟩:=g
   obtain⟨i,l,j,c1,w⟩:=f n p c a h1 o e s H h m he
   exact⟨i,l.block,j,c1,λ_ h=>by simp at h⟩
  .simp at g
 | loop c =>
  have D:=k
  simp only[jn,UD] at k
  obtain⟨a,h1,rfl⟩:=k
  simp only[mj,Qs] at g
  split at g
  .rename_i s m
   obtain⟨i,l,j,c1,w⟩:=f n p c a h1 o e s .normal h m he
   obtain⟨t,E,u,c2,F⟩:=f n p (.loop c) (.loop a) D o s e' r i g j
   have z:=pZ.step l (F c rfl)
   exact⟨t,.loop z,u,c1.trans c2,λc0 A=>by simp only[Code.loop.injEq] at A;subst A;exact z⟩
  .rename_i v
   obtain⟨i,l,j,c1,w⟩:=f n p c a h1 o e e' r h g he
   have z:=pZ.out l (λe=>by subst e;exact absurd g (v e'))
   exact⟨i,.loop z,j,c1,λc0 A=>by simp only[Code.loop.injEq] at A;subst A;exact z⟩
 | exit id =>
  simp[jn] at k;subst k
  simp only[mj,Uw,UA] at g
  obtain⟨rfl,rfl⟩:=g
  exact⟨h,.exit,he,Calm.refl _ _,λ_ h=>by simp at h⟩
 | ret =>
  simp[jn] at k;subst k
  simp only[mj,Uw,UA] at g
  obtain⟨rfl,rfl⟩:=g
  exact⟨h,.ret,he,Calm.refl _ _,λ_ h=>by simp at h⟩
 | _=>simp[jn] at k
theorem EE:∀ (vs:List V) (i:Nat) (t:cE V),i+vs.length<=8000->∀ k,(na vs i t).get .any k=if i<=k/\k < i+vs.length then vs.getD (k - i) .any else t.get .any k
 | [],i,t,h,k=>by
  rw[na,Ux (by simp only[UU];omega)]
 | v :: vs,i,t,h,k=>by
  simp only[UE] at h
  rw[na,EE vs (i+1) _ (by omega),cE.nq _ _ _ _ _ _ (by simp only[deep];omega)]
  simp only[UE]
  by_cases h1:k=i
  .subst h1;rw[Ux (by omega),Uz rfl,Uz (by omega)];simp
  .by_cases a:i+1<=k/\k < i+1+vs.length
   .rw[Uz a,Uz (by omega)]
    have:k - i=(k - (i+1))+1:=by omega
    rw[this];rfl
   .rw[Ux a,Ux h1,Ux (by omega)]
theorem Iq (vs:List V) (h:vs.length<=8000):(na vs 0 .nil).get .any=lx vs:=by
 funext k
 rw[EE vs 0 .nil (by omega)]
 simp only[lx,VG,true_and,Vm,Nat.sub_zero]
 split
 .rfl
 .rename_i hk
  rw[Uu,U6 (by omega)];rfl
theorem RA {e:ES} {h:aC} {r:ResultVar} {rest:List ResultVar} {l:List SR} (he:iJ h e) (c:fI P (r :: rest)=some l):∃ s d,l=s :: d/\fI P rest=some d/\∀ v,PD s e=some v->sK P e.T h r=some v:=by
 cases r with
 | tmp t =>
  simp only[fI,UD] at c
  obtain⟨d,h1,rfl⟩:=c
  exact⟨.tmp t,d,rfl,h1,λv b=>b⟩
 | cell a t =>
  simp only[fI] at c
  split at c
  .rename_i k d h1 m
   simp at c;subst c
   refine⟨.cell a k,d,rfl,m,λv b=>?_⟩
   simp only[PD] at b
   simp only[sK,mw,wj h1]
   rw[he.1] at b
   split at b
   .rename_i id i j f
    split at b
    .rename_i es hH
     split at b
     .rename_i g
      rw[f];simp only[hH];rw[Uz g,b];rfl
     .simp at b
    .simp at b
   .rename_i e j f
    rw[f];simp only;rw[b];rfl
   .simp at b
  .simp at c
theorem GS {e:ES} {h:aC} (he:iJ h e):∀ (rs:List ResultVar) (l:List SR) (vs:List V),fI P rs=some l->wW l e=some vs->lW P e.T h rs=some vs
 | [],l,vs,a,hw=>by simp[fI] at a;subst a;simp[wW] at hw;subst hw;rfl
 | r :: rest,l,vs,a,hw=>by
  obtain⟨s,d,rfl,h1,f⟩:=RA (e:=e) (h:=h) he a
  simp only[wW] at hw
  split at hw
  .rename_i v b g c
   simp at hw;subst hw
   simp[lW,f v g,GS he rest d b h1 c]
  .simp at hw
def p0 (P:Program) (tab:List (FuncId × DF)):Prop:=∀ p∈tab,∃ fz,Hs P p.1 fz=some p.2
def sA (P:Program) (ext:yJ):Prop:=∀ g vs H t,ext g vs H=some t->dE P g=true/\∀ h:aC,h.view=H->bK P g vs h t h
theorem FM {q:List (FuncId × DF)} {ext:yJ} (N:p0 P q) (z:sA P ext) {run:xj} (s:wb P run):kD P (Ff P q ext run):=by
 intro g vs e v e' h b he
 unfold Ff at b
 split at b
 .rename_i t u
  simp only[Uw,UA] at b
  obtain⟨rfl,rfl⟩:=b
  obtain⟨h1,C⟩:=z _ _ _ _ u
  exact⟨h1,h,C h he.1.symm,he,λ_ _ _=>rfl,λ_ hw=>by simp at hw⟩
 .split at b
  .rename_i A F K
   have x:=List.mem_of_find?_eq_some K
   have D:A=g:=by
    have:=List.find?_some K
    exact V9 this
   subst D
   obtain⟨O,k⟩:=N _ x
   simp only at k
   unfold Hs at k
   split at k
   .rename_i fn E
    split at k
    .rename_i c Q
     split at k
     .rename_i M rs h1 C R
      simp at k;subst k
      refine⟨R,?_⟩
      unfold R6 at b
      split at b
      .rename_i hlen B
       have hlen:=Nat.le_of_ble_eq_true hlen
       have B:=Nat.le_of_ble_eq_true B
       simp only at hlen B
       unfold R4 at b
       split at b
       .rename_i v1 d f
        simp only[Uw,UA] at b
        obtain⟨rfl,rfl⟩:=b
        unfold Sv at f
        have go:∀ (r:Exit) (p:ES),(r=.ret∨r=.normal)->run M ⟨na vs 0 .nil,e.H,e.n,[]⟩=some (r,p)->(wW rs p).map (λvs=>(wg vs,p))=some (v1,d) ->
          ∃ i,bK P A vs h v1 i/\iJ i d/\(∀ id,id < h.length->¬ id∈d.w->i.view id=h.view id):=by
         intro r p hr j o
         simp only[UD,UA] at o
         obtain⟨G,I,rfl,rfl⟩:=o
         obtain⟨i,z,y,J,_⟩:=s fn.ntmps O c M h1 B _ p r h j he
         have S:(ES.T ⟨na vs 0 .nil,e.H,e.n,[]⟩)=lx vs:=Iq vs (by omega)
         rw[S] at z
         refine⟨i,bK.Ja E Q hlen z (by rcases hr with rfl | rfl <;> simp) ?_,y,λid m hw=>(J.2 id m hw).1⟩
         unfold KJ
         rw[GS y _ _ _ C I]
         cases G with
         | nil=>rfl
         | cons a l=>cases l <;> rfl
        have done:(∃ i,bK P A vs h v1 i/\iJ i d/\(∀ id,id < h.length->¬ id∈d.w->i.view id=h.view id)) ->
          ∃ i,bK P A vs h v1 i/\iJ i ⟨d.L,d.H,d.n,d.w.filter λid=>Nat.blt id e.n⟩/\(∀ id,id < h.length->¬ id∈d.w.filter (λid=>Nat.blt id e.n)->i.view id=h.view id)/\∀ id,id∈d.w.filter (λid=>Nat.blt id e.n)->id < h.length:=by
         rintro⟨i,U,k2,V⟩
         refine⟨i,U,k2,λid m hw=>V id m (λhm=>hw ?_),λid hw=>?_⟩
         .rw[Vu]
          exact⟨hm,by rw[he.2];exact Nat.ble_eq_true_of_le m⟩
         .rw[Vu] at hw
          have:=Nat.le_of_ble_eq_true hw.2
          rw[he.2] at this;exact this
        split at f
        .rename_i p j;exact done (go _ _ (.inl rfl) j f)
        .rename_i p j;exact done (go _ _ (.inr rfl) j f)
        .simp at f
       .simp at b
      .simp at b
     .simp at k
    .simp at k
   .simp at k
  .simp at b
theorem Jm (hm:P.follows .mixedOrders=true) {a:List (FuncId × DF)} {ext:yJ} (b:p0 P a) (d:sA P ext):∀ k,wb P (Ge P a ext k)
 | 0=>λn g c i j l e e' r h hr he=>by simp[Ge] at hr
 | k+1=>by
  have f:=Jm hm b d k
  have:=PN hm (FM b d f) f
  exact this
end
inductive dz (h:aC):V->V->Prop
 | val (v:Value):dz h (.val v) (.val v)
 | emp (k:Nat):dz h (.emp k) (.aQ [])
 | sl (id off len esz z:Nat) (es es':List (List V)):h.view id=.arr z es->off+len<=es.length->es'.length=len ->
  (∀ i,i < len->(es'.getD i []).length=(es.getD (off+i) []).length) ->
  (∀ i j,i < len->j < (es'.getD i []).length->dz h ((es.getD (off+i) []).getD j .any) ((es'.getD i []).getD j .any))->dz h (.sl id off len esz) (.aQ es')
 | agg (cs cs':List V):cs'.length=cs.length->(∀ i,i < cs.length->dz h (cs.getD i .any) (cs'.getD i .any))->dz h (.agg cs) (.agg cs')
 | aY (cs cs':List V):cs'.length=cs.length->(∀ i,i < cs.length->dz h (cs.getD i .any) (cs'.getD i .any))->dz h (.aY cs) (.aY cs')
theorem RE {h:aC} {Z:Nat->Prop} {μ B:Mu} {F:View} {hp:Array Obj} (hr:gZ Z μ hp (cat h F)) {v t:V} (fr:dz h v t):∀ {x:Value},ay Z μ hp v x->ay (jk μ) B hp t x:=by
 have l:∀ id,h.view id≠.dead->cat h F id=h.view id:=λid D=>by simp only[cat];rw[Uz (ie D)]
 induction fr with
 | val v=>intro x d;cases d with | val _ s=>exact .val _ s
 | emp k=>intro x d;cases d with | emp _ a=>exact .iu a 0 (λ_=>rfl)
 | sl id off len esz z es es' hH hle hlen E _ m =>
  intro x d
  cases d with
  | oX _ _ _ a =>
   have:es'=[]:=VY.1 hlen
   subst this
   exact .iu a 0 (λ_=>rfl)
  | sl _ _ _ _ b o0 cap c e f hm C J K =>
   have o:=hr.obj id
   rw[l id (by rw[hH];simp),hH] at o
   obtain⟨rfl,_,G,H⟩:=o b o0 esz hm
   have d:∀ i,∃ ci:Nat->Value,∀ j,j < esz->i < len->cellAt hp b (o0+off * esz+i * esz+j)=some (ci j)/\ay Z μ hp ((es.getD (off+i) []).getD j .any) (ci j):=by
    intro i
    by_cases hi:i < len
    .obtain⟨ci,u⟩:=nO (n:=esz) (p:=λj x=>cellAt hp b (o0+off * esz+i * esz+j)=some x/\ay Z μ hp ((es.getD (off+i) []).getD j .any) x) (λj g=>by
      obtain⟨x,d,s⟩:=H (off+i) j (by omega) g
      rw[Vd,<-VR] at d
      exact⟨x,d,s⟩)
     exact⟨ci,λj g _=>u j g⟩
    .exact⟨λ_=>undef,λj _ h=>absurd h hi⟩
   obtain⟨I,q⟩:=Classical.axiomOfChoice d
   have r:∀ i,i < es'.length->(es'.getD i []).length=esz:=λi hi=>by rw[E i (by omega)];exact G _ (by omega)
   have:=ay.aQ (Z:=jk μ) (μ:=B) (hp:=hp) es' b (o0+off * esz) esz cap I ⟨id,o0,esz,hm⟩ (by omega) r
    (λi j hi g=>(q i j g (by omega)).1) (λi j hi g=>m i j (by omega) (by rw[r i hi];exact g) (q i j g (by omega)).2)
   rw[hlen] at this
   exact this
 | agg cs w hlen _ m =>
  intro x d
  cases d with
  | agg _ y h1 A=>exact .agg _ _ (by omega) (λi hi=>m i (by omega) (A i (by omega)))
 | aY cs w hlen _ m =>
  intro x d
  cases d with
  | aY _ y h1 A=>exact .aY _ _ (by omega) (λi hi=>m i (by omega) (A i (by omega)))
def b6 (P:Program) (f:FuncId) (vs:List V) (t:V):Prop :=
 ∀ Z μ (w:World) (xs:List Value),fT Z μ w.heap vs xs->(∀ b,Z b->b < w.heap.size) ->
  Calls P f xs.toArray w λe w'=>∃ x Z',e=.returned x/\(∀ ν,ay Z' ν w'.heap t x)/\eO w w'/\(∀ b,Z' b->w.heap.size<=b/\b < w'.heap.size)/\fY w.heap w'.heap (λ_=>False)
theorem b6.pure {P:Program} {f:FuncId} {vs:List V} {t:V} (h:b6 P f vs t):az P f vs t:=by
 intro Z μ w xs a d
 refine(h Z μ w xs a d).mono ?_
 rintro e w' ⟨x,g,rfl,i,j,c,k⟩
 exact⟨x,λb=>Z b∨g b,rfl,λl=>(i l).mono ⟨λ_ h=>.inr h,λ_ _=>rfl,λ_ _ h=>h,fE.refl _⟩,j,λ_ h=>.inl h,λb m=>m.imp id (c b),k⟩
theorem b6.wK {P:Program} {f:FuncId} {vs:List V} {r t:V} {k:aC} (m:∀ v∈vs,Tree v) (n:bK P f vs [] r k) (p:dz k r t):b6 P f vs t:=by
 intro Z μ w xs a q
 have c:fT Z (λ_=>none) w.heap vs xs:=⟨a.1,λi hi=>vU (a.2 i hi) (by
  simp only[Uu,Uv hi,UM]
  exact m _ (UC _))⟩
 have g:gZ Z (λ_=>none) w.heap (cat [] λ_=>.dead):=by
  rw[CW]
  exact⟨λ_=>trivial,λi j b o s y z _ h=>by simp at h,λid b o s h=>by simp at h,q,λid b o s h=>by simp at h⟩
 refine(n.2 Z _ _ w xs c g (λ_ _ _=>rfl)).mono ?_
 rintro e w' ⟨x,A,μ',rfl,u,l,hex,_⟩
 refine⟨x,jk μ',rfl,λB=>RE l p u,hex.same,?_,λb d _=>hex.frame b d (by rintro⟨_,_,_,h⟩;simp at h)⟩
 rintro b ⟨id,o,s,d⟩
 rcases hex.BP _ _ _ _ d with h1 | ⟨_,h1 | ⟨_,_,_,h1⟩⟩
 .simp at h1
 .exact⟨h1,l.lt _ _ _ _ d⟩
 .simp at h1
theorem b6.of {P:Program} {f:FuncId} {vs:List V} {t:V} (b:∀ v∈vs,Tree v) (h:av P f vs (λ_=>.dead) λr H'=>∀ a:aC,a.view=H'->dz a r t):b6 P f vs t:=by
 obtain⟨r,a,c,_,d⟩:=h.2 [] EF
 exact b6.wK b c (d a rfl)
theorem bK.uU {P:Program} {f:FuncId} {j vs:List V} {t:V} {h:aC} (v:b6 P f j t) (y:j.length=vs.length)
  (l:∀ i,i < vs.length->Fr h (vs.getD i .any) (j.getD i .any)):bK P f vs h t h:=by
 refine⟨UF _,λZ μ F w xs c hr m=>?_⟩
 have n:fT (λb=>Z b∨jk μ b) μ w.heap j xs:=⟨by rw[y,c.1],λi hi=>A5 hr (l i (by omega)) (c.2 i (by omega))⟩
 have p:∀ b,(Z b∨jk μ b)->b < w.heap.size:=by
  rintro b (a | ⟨id,o,s,a⟩)
  .exact hr.cO b a
  .exact hr.lt _ _ _ _ a
 refine(v _ μ w xs n p).mono ?_
 rintro e w' ⟨x,u,rfl,z,q,d,k⟩
 have hm:gN Z (λb=>Z b∨u b) μ μ w.heap w'.heap:=⟨λ_ h=>.inl h,λb a=>k b (hr.cO b a) (λx=>x),λ_ _ h=>h,k.qO⟩
 refine⟨x,λb=>Z b∨u b,μ,rfl,(z μ).mono ⟨λ_ h=>.inr h,λ_ _=>rfl,λ_ _ h=>h,fE.refl _⟩,⟨λid=>(hr.obj id).mono hm rfl (λb o s g=>k b (hr.lt _ _ _ _ g) (λx=>x)),hr.inj,λid b o s g=>U4 (hr.lt _ _ _ _ g) q.size,λb a=>?_,λid b o s g r=>?_⟩,
  ⟨q,hm,λb a _=>k b a (λx=>x),λb a=>a.imp id (λh=>(d b h).1),λ_ _ _ _ h=>.inl h⟩,λ_ _=>rfl⟩
 .rcases a with a | a
  .exact U4 (hr.cO b a) q.size
  .exact(d b a).2
 .rcases r with a | a
  .exact hr.gH _ _ _ _ g a
  .have:=hr.lt _ _ _ _ g;have:=(d b a).1;omega
theorem aw.uU {P:Program} {q:Bool} {f:FuncId} {H:View} {vs c:List V} {K:V->View->Prop} {v:cG (H,K)} {t:V} (d:b6 P f c t) (a:dE P f=true) (g:c.length=vs.length)
  (b:∀ i,i < vs.length->cm H (vs.getD i .any) (c.getD i .any)) (hk:K t H):aw P q f vs H K v:=by
 unfold aw
 cases q with
 | true=>exact⟨a,λh e=>⟨t,h,bK.uU d g (λi hi=>b i hi h e),λ_ _=>rfl,e ▸ hk⟩⟩
 | false =>
  refine⟨a,?_⟩
  rintro h rfl
  exact⟨t,h,bK.uU d g (λi hi=>b i hi h rfl),.refl _,hk⟩
noncomputable def ot (fz:V->Option V):List V->Option (List V)
 | []=>some []
 | v :: l=>match fz v,ot fz l with
  | some a,some b=>some (a :: b)
  | _,_=>none
noncomputable def CJ (fz:V->Option V):List (List V)->Option (List (List V))
 | []=>some []
 | v :: l=>match ot fz v,CJ fz l with
  | some a,some b=>some (a :: b)
  | _,_=>none
noncomputable def xW (H:View):Nat->V->Option V
 | 0,_=>none
 | k+1,v=>match v with
  | .val x=>some (.val x)
  | .emp _=>some (.aQ [])
  | .sl id off len _=>match H id with
   | .arr _ es=>if off+len<=es.length then (CJ (xW H k) ((es.drop off).take len)).map .aQ else none
   | _=>none
  | .agg cs=>(ot (xW H k) cs).map .agg
  | .aY cs=>(ot (xW H k) cs).map .aY
  | _=>none
theorem ic {d:V->Option V} : ∀ (l c:List V),ot d l=some c->c.length=l.length/\∀ i,i < l.length->d (l.getD i .any)=some (c.getD i .any)
 | [],c,h=>by simp only[ot,Uw] at h;subst h;exact⟨rfl,λi hi=>by simp at hi⟩
 | v :: l,c,h=>by
  simp only[ot] at h
  split at h
  .rename_i a b h1 e
   simp only[Uw] at h;subst h
   obtain⟨g1,g2⟩:=ic l b e
   refine⟨by simp[g1],λi hi=>?_⟩
   cases i with
   | zero=>exact h1
   | succ i=>exact g2 i (by simpa using hi)
  .simp at h
theorem Dt {d:V->Option V} : ∀ (l c:List (List V)),CJ d l=some c->c.length=l.length/\∀ i,i < l.length->ot d (l.getD i [])=some (c.getD i [])
 | [],c,h=>by simp only[CJ,Uw] at h;subst h;exact⟨rfl,λi hi=>by simp at hi⟩
 | v :: l,c,h=>by
  simp only[CJ] at h
  split at h
  .rename_i a b h1 e
   simp only[Uw] at h;subst h
   obtain⟨g1,g2⟩:=Dt l b e
   refine⟨by simp[g1],λi hi=>?_⟩
   cases i with
   | zero=>exact h1
   | succ i=>exact g2 i (by simpa using hi)
  .simp at h
theorem Jf (h:aC):∀ (k:Nat) (v t:V),xW h.view k v=some t->dz h v t
 | 0,v,t,a=>by simp[xW] at a
 | k+1,v,t,a=>by
  have b:=Jf h k
  simp only[xW] at a
  split at a
  .simp only[Uw] at a;subst a;exact .val _
  .simp only[Uw] at a;subst a;exact .emp _
  .rename_i id off len esz
   split at a
   .rename_i z es hH
    split at a
    .rename_i hle
     simp only[UD] at a
     obtain⟨es',he,rfl⟩:=a
     obtain⟨g1,g2⟩:=Dt _ _ he
     have hlen:es'.length=len:=by rw[g1];simp;omega
     have d:∀ i,i < len->((es.drop off).take len).getD i []=es.getD (off+i) []:=λi hi=>by
      simp[Uu,VO,hi]
     have g3:∀ i,i < len->ot (xW h.view k) (es.getD (off+i) [])=some (es'.getD i []):=λi hi=>by
      rw[<-d i hi];exact g2 i (by rw[<-g1,hlen];exact hi)
     exact .sl id off len esz z es es' hH hle hlen (λi hi=>(ic _ _ (g3 i hi)).1) (λi j hi e=>b _ _ ((ic _ _ (g3 i hi)).2 j (by rw[<-(ic _ _ (g3 i hi)).1];exact e)))
    .simp at a
   .simp at a
  .simp only[UD] at a
   obtain⟨l,c,rfl⟩:=a
   obtain⟨g1,g2⟩:=ic _ _ c
   exact .agg _ _ g1 (λi hi=>b _ _ (g2 i hi))
  .simp only[UD] at a
   obtain⟨l,c,rfl⟩:=a
   obtain⟨g1,g2⟩:=ic _ _ c
   exact .aY _ _ g1 (λi hi=>b _ _ (g2 i hi))
  .simp at a
noncomputable def QM:Option (V × ES)->Option V
 | some (v,e)=>xW e.V 50 v
 | none=>none
noncomputable def rT (P:Program) (tab:List (FuncId × DF)) (ext:yJ) (f:FuncId) (vs:List V):Option V :=
 QM (Ff P tab ext (Ge P tab ext 100000) f vs ⟨.nil,.nil,0,[]⟩)
theorem oA {P:Program} (hm:P.follows .mixedOrders=true) {a:List (FuncId × DF)} {ext:yJ} (c:p0 P a) (d:sA P ext) {f:FuncId} {vs:List V} {t:V} (b:∀ v∈vs,Tree v) (h:rT P a ext f vs=some t) :
  b6 P f vs t:=by
 unfold rT QM at h
 split at h
 .rename_i v e hr
  obtain⟨h1,g,i,j,_⟩:=FM c d (Jm hm c d 100000) f vs _ v e [] hr ⟨by funext k;rfl,rfl⟩
  rw[j.1] at h
  exact b6.wK b i (Jf g 50 v t h)
 .simp at h
def vB (P:Program) (fs:List (FuncId × List Nat)):List (FuncId × DF):=fs.filterMap λf=>(Hs P f.1 f.2).map (f.1,·)
theorem sD (P:Program) (a:List (FuncId × List Nat)):p0 P (vB P a):=by
 intro p hp
 unfold vB at hp
 obtain⟨f,_,h⟩:=VD.1 hp
 simp only[UD] at h
 obtain⟨d,h1,rfl⟩:=h
 exact⟨f.2,h1⟩
structure ag.cX (g:ag):Prop where
 au:g.au.length<=24
 lp:1<=g.aj.length
 aj:g.aj.length<=16
 Uf:1<=g.rules.length
 rules:g.rules.length<=40
 oh:0<=g.start
 start:g.start < g.aj.length
 left:∀ r∈g.rules,0<=r.left/\r.left < g.aj.length
 right:∀ r∈g.rules,r.right.length<=6
 sym:∀ r∈g.rules,∀ s∈r.right,dI g s=true
 prec:∀ r∈g.rules,-1<=r.prec/\r.prec < g.au.length
theorem EU {g:ag} : ∀ (l:List bb) (top:Int),jw g l top=true->top<=(g.aj.length:Int) - 1/\∀ r∈l,0<=r.left/\r.left < g.aj.length/\jj g r=true
 | [],top,h=>by simp[jw] at h;exact⟨by omega,λr hr=>by simp at hr⟩
 | r :: l,top,h=>by
  simp only[jw,UJ,UN] at h
  obtain⟨⟨⟨h1,d⟩,a⟩,b⟩:=h
  obtain⟨e,k2⟩:=EU l _ b
  have f:r.left<=(if r.left > top then r.left else top):=by split <;> omega
  have i:top<=(if r.left > top then r.left else top):=by split <;> omega
  refine⟨by omega,λc hr=>?_⟩
  rcases UO.1 hr with rfl | hr
  .exact⟨h1,by omega,a⟩
  .exact k2 c hr
theorem b4 {g:ag} (h:bV g=true):g.cX:=by
 simp only[bV,ly,lU,UJ,UN] at h
 obtain⟨⟨⟨⟨⟨⟨⟨h1,_⟩,⟨b,c⟩,_⟩,d⟩,e⟩,f⟩,i⟩,j⟩:=h
 have k:=(EU _ _ j).2
 have a:∀ r∈g.rules,r.right.length<=6/\-1<=r.prec/\r.prec < g.au.length/\∀ s∈r.right,dI g s=true:=λr hr=>by
  have:=(k r hr).2.2
  simp only[jj,UJ,UN,U3,pB] at this
  exact⟨this.1.1.1,this.1.1.2,this.1.2,λs l=>(this.2 s l).1⟩
 exact⟨h1,b,c,d,e,f,i,λr hr=>⟨(k r hr).1,(k r hr).2.1⟩,λr hr=>(a r hr).1,λr hr=>(a r hr).2.2.2,λr hr=>⟨(a r hr).2.1,(a r hr).2.2.1⟩⟩
theorem ag.cX.neg {g:ag} (h:g.cX) {r:bb} (hr:r∈g.rules) {s:Int} (a:s∈r.right) (b:s < 0) : -1 - s < g.aj.length:=by
 have:=h.sym r hr s a
 simp only[dI] at this
 rw[Ux (by omega)] at this
 simpa using this
theorem FL (l:List Int) (is:List Bool) (t:Bool) (b:aL l) (c:∀ s∈l,bO s/\(s < 0->-1 - s < is.length)):az Tryz.prog 95 [encI l,cD is,gb t] (gb (ga l is t)) :=
 az.val (by
  intro v a;simp at a
  rcases a with rfl | rfl | rfl
  .exact bQ _
  .exact jH _
  .exact .val _) (λH=>(Sx l is t b c H).mono λr H' h=>h.1)
abbrev dq (is:List Bool):List (List V):=is.map λx=>[gb x]
theorem yX {h:aC} {id:Nat} {is:List Bool} (b:h.view id=.arr 1 (dq is)):dz h (.sl id 0 is.length 1) (cD is):=by
 refine .sl id 0 is.length 1 1 (dq is) _ b (by simp) (by simp) (λi hi=>by simp) (λi j hi a=>?_)
 rw[Vm]
 have e:(dq is).getD i []=[gb is[i]]:=by simp[Uu,hi]
 rw[e] at a ⊢
 have:j=0:=by simp at a;omega
 subst this
 exact .val _
theorem Bm {H:View} {id n:Nat} {is:List Bool} (b:H id=.arr 1 (dq is)) (c:n=is.length):cm H (.sl id 0 n 1) (cD is):=by
 have d:∀ e∈dq is,∀ v∈e,Tree v:=by
  intro e he v b
  obtain⟨a,_,rfl⟩:=U0.1 he
  rw[Vq] at b
  subst b
  exact .val _
 have:=cm.sl (off:=0) (len:=n) (esz:=1) b (by simp[c]) d
 rwa [Vv,UK (by simp[c])] at this
theorem kT {is:List Bool} {i:Nat} (h:i < is.length):(dq is).getD i []=[gb is[i]]:=by simp[Uu,h]
theorem kY (is:List Bool) (i:Nat) (b:Bool):(dq is).set i [gb b]=dq (is.set i b):=by simp[List.map_set]
theorem yN (n:Nat) (b:Bool):List.replicate n [gb b]=dq (List.replicate n b):=by simp
def iter {α:Type} (f:α->α):Nat->α->α
 | 0,x=>x
 | n+1,x=>iter f n (f x)
def iF (t:Bool) (is:List Bool) (r:bb):List Bool:=if ga r.right is t=true then is.set r.left.toNat true else is
def nu (g:ag) (t:Bool) (is:List Bool):List Bool:=g.rules.foldl (iF t) is
def cI (g:ag):List Bool:=List.replicate g.aj.length false
def bD (g:ag) (t:Bool):List Bool:=if bV g=true then iter (nu g t) g.aj.length (cI g) else []
theorem Lv (t:Bool) (is:List Bool) (r:bb):(iF t is r).length=is.length:=by unfold iF;split <;> simp
def mS:SC :=
 ae [ae [ab [aa 22 7,al 23 2 2,ak 24 23,aM 25 24,aR 26 .lss 22 25],bX 26 (.exit 2)],.block 3 (ae [ab [al 29 2 2,ak 30 29,aa 31 7,aO 32 3 30 31,al 33 1 32,ak 34 33,aa 35 5,aa 36 1,aX 37 95 [34,35,36]],ba 37 (ab [aa 38 5,al 39 2 2,ak 40 39,aa 41 7,aO 42 3 40 41,al 43 0 42,ak 44 43,aO 45 1 38 44,(none,.op (.store 1 (.tmp 45) (.val (.val (.bool true)))))])]),ab [aa 27 7,aG 28 .add 27 1,aa 7 28]]
def nk:SC :=
 ae [ae [ab [aa 15 6,al 16 1 2,ak 17 16,aM 18 17,aR 19 .lss 15 18],bX 19 (.exit 0)],.block 1 (ae [ab [aN 7 0],bY 2 mS]),ab [aa 20 6,aG 21 .add 20 1,aa 6 21]]
def pt:SF:=⟨ae [ab [cw 2 0,bI 4 1],ae [ab [aS 8 4 2,aX 9 50 [8],c7 10 9],ba 10 (ae [ab [bI 4 1],.ret])],ab [al 11 1 2,ak 12 11,aM 13 12,((some 14),.op (.make 1 1 [(.val (.bool false))] (.tmp 13) (.tmp 13))),aa 5 14],ae [ab [aN 6 0],bY 0 nk],ab [aa 46 5,aa 4 46],.ret],
 [.tmp 4],47⟩
theorem tR:aH Tryz.prog 165 [2]=some pt:=by kernel_rfl
def kP:SF:=⟨ae [ab [cw 1 0,bI 2 1],ab [aS 3 4 1,rf 4 165 [(.tmp 3),(.val (.val (.bool true)))],aa 2 4],.ret],
 [.tmp 2],5⟩
theorem qE:aH Tryz.prog 93 [1]=some kP:=by kernel_rfl
theorem Pj (g:ag) (t:Bool):∀ v∈[V.agg (af g),gb t],Tree v:=by
 intro v a;simp at a
 rcases a with rfl | rfl
 .exact bZ _ (cz g)
 .exact .val _
theorem PS (g:ag) (C:g.Ok) (t:Bool) (H:View):av Tryz.prog 165 [.agg (af g),gb t] H λr H'=>∀ w:aC,w.view=H'->dz w r (cD (bD g t)):=by
 refine av.of mixed tR ?_
 simp(disch:=omega)only[↓wr,seval,wq,pt,af,encS]
 refine aw.pure (lB g C) ?_
 repeat' (first | ((first|apply ai.dec|apply ai.eq|apply ai.ne|apply ai.split)<;>intro)|(simp(disch:=omega)only[↓wr,seval,wq,af,encS]))
 .rename_i hr
  have u:=b4 hr
  obtain⟨E,F⟩:=And.intro u.lp u.aj
  refine⟨⟨by omega,by unfold aB;omega,by unfold aB;omega⟩,λP=>by omega,λ_ m hm=>?_⟩
  try simp(disch:=omega)only[↓wr,seval,wq,af,encS]
  refine aV.intro (λk T H'=>∃ (i:Nat) (is:List Bool),i+k=g.aj.length/\is.length=g.aj.length/\iter (nu g t) k is=iter (nu g t) g.aj.length (cI g)/\T 1=gb t/\T 2=.aJ (af g) 0/\T 5=.sl m 0 g.aj.length 1/\H' m=.arr 1 (dq is)/\T 6=gi i) g.aj.length ?_ ?_
  .refine⟨0,cI g,by omega,by simp[cI],rfl,?_⟩
   simp(disch:=omega)only[↓wr,↓reduceIte,wq,Nat.reduceEqDiff,Nat.reduceAdd,Nat.reduceLT,Nat.reduceLeDiff,Int.reduceNeg,Int.reduceToNat,reduceCtorEq,af,encS]
   exact⟨by rw[yN];rfl,rfl⟩
  .rintro k T H' ⟨i,is,hk,hlen,hi,f1,f2,f5,y,f6⟩
   simp(disch:=omega)only[↓wr,seval,wq,nk,f1,f2,f5,f6,af,encS]
   apply ai.dec<;>intro G
   .simp(disch:=omega)only[↓wr,seval,wq,f1,f2,f5,f6,af,encS]
    refine aV.intro (λx T H'=>∃ (j:Nat) (a:List Bool),j+x=g.rules.length/\a.length=g.aj.length/\(g.rules.drop j).foldl (iF t) a=nu g t is/\T 1=gb t/\T 2=.aJ (af g) 0/\T 5=.sl m 0 g.aj.length 1/\H' m=.arr 1 (dq a)/\T 6=gi i/\T 7=gi j) g.rules.length ?_ ?_
    .refine⟨0,is,by omega,hlen,rfl,?_⟩
     simp(disch:=omega)only[↓wr,↓reduceIte,wq,Nat.reduceEqDiff,Nat.reduceAdd,Nat.reduceLT,Nat.reduceLeDiff,Int.reduceNeg,Int.reduceToNat,reduceCtorEq,f1,f2,f5,f6,y,af,encS]
     rfl
    .rintro x Q I ⟨j,a,J,b,d,h,l,n,em,o,p⟩
     simp(disch:=omega)only[↓wr,seval,wq,mS,h,l,n,o,p,af]
     apply ai.dec<;>intro K
     .have hle:=u.rules
      have e:g.rules[j]?=some (g.rules[j]'(by omega)):=Uv (by omega)
      rw[dW (show j < g.rules.length by omega)] at d
      have c:g.rules[j]'(by omega)∈g.rules:=UC _
      generalize g.rules[j]'(by omega)=r at e d c
      simp only[Vf] at d
      obtain⟨L,M⟩:=u.left r c
      obtain⟨_,_,z,A⟩:=C.ax r c
      have v:=FL r.right a t z (λs D=>⟨A s D,λN=>by have:=u.neg c D N;omega⟩)
      simp(disch:=omega)only[↓wr,seval,wq,h,l,n,o,p,af,encS,aI,Uy,e,UH]
      refine aw.borrow v (by kernel_rfl) (.val _) rfl (λq O=>?_) ?_
      .match q,O with
       | 0,_=>exact cm.tree (bQ _)
       | 1,_=>exact Bm em b.symm
       | 2,_=>exact cm.tree (.val _)
      .simp(disch:=omega)only[↓wr,seval,wq,h,l,n,o,p,af,encS,aI,Uy,e,UH]
       apply ai.split<;>intro B
       .have f:iF t a r=a.set r.left.toNat true:=by rw[iF,Uz B]
        simp(disch:=omega)only[↓wr,seval,wq,h,l,n,o,p,em,af,encS,aI,Uy,e,UH,kT (show r.left.toNat < a.length by omega)]
        rw[f] at d
        exact⟨by omega,by omega,x - 1,by omega,j+1,a.set r.left.toNat true,by omega,by simp[b],d,by rw[kY],rfl⟩
       .have f:iF t a r=a:=by rw[iF,Ux (by rw[B];simp)]
        rw[f] at d
        simp(disch:=omega)only[↓wr,seval,wq,h,l,n,o,p]
        exact⟨x - 1,by omega,j+1,a,by omega,b,d,by first | rfl | exact⟨rfl,rfl⟩ | exact⟨em,rfl⟩ | exact⟨rfl,em,rfl⟩⟩
     .rw[US (by omega),Wi] at d
      simp(disch:=omega)only[↓wr,seval,wq,h,l,n,o,p]
      obtain⟨q,rfl⟩:∃ q,k=q+1:=⟨k - 1,by omega⟩
      exact⟨q,by omega,i+1,a,by omega,b,by rw[d];exact hi,rfl,em,rfl⟩
   .simp(disch:=omega)only[↓wr,seval,wq,f1,f2,f5,f6,y]
    have:k=0:=by omega
    subst this
    rintro w rfl
    simp only[bD,Uz hr,<-hi,iter]
    rw[<-hlen]
    exact yX y
 .rename_i hr
  rintro w rfl
  simp only[bD,hr]
  exact .emp 1
theorem Qo (g:ag) (a:g.Ok) (t:Bool):b6 Tryz.prog 165 [.agg (af g),gb t] (cD (bD g t)):=b6.of (Pj g t) (PS g a t _)
theorem Bo (g:ag) (a:g.Ok) (H:View):av Tryz.prog 93 [.agg (af g)] H λr H'=>r=cD (bD g true)/\H'=H:=by
 refine av.of mixed qE ?_
 simp(disch:=omega)only[↓wr,seval,wq,kP,af,encS]
 refine aw.pure (Qo g a true).pure ?_
 simp(disch:=omega)only[↓wr,seval,wq,af,encS]
theorem te (g:ag) (a:g.Ok):az Tryz.prog 93 [.agg (af g)] (cD (bD g true)) :=
 az.of (dO g) ((Bo g a _).mono λr H' h b _=>by rw[h.1];exact .tree _ (jH _))
def mark (is:List Bool) (s:Int):List Bool:=if s < 0 then is.set (-1 - s).toNat true else is
def gW (p is:List Bool) (r:bb):List Bool:=if (is.getD r.left.toNat false && ga r.right p true)=true then r.right.foldl mark is else is
def qn (g:ag) (p is:List Bool):List Bool:=g.rules.foldl (gW p) is
def cr (g:ag):List Bool:=if bV g=true then iter (qn g (bD g true)) g.aj.length ((cI g).set g.start.toNat true) else []
theorem Qp (is:List Bool) (s:Int):(mark is s).length=is.length:=by unfold mark;split <;> simp
theorem DQ:∀ (l:List Int) (is:List Bool),(l.foldl mark is).length=is.length
 | [],_=>rfl
 | s :: l,is=>by rw[Vf,DQ l,Qp]
theorem Md (p is:List Bool) (r:bb):(gW p is r).length=is.length:=by unfold gW;split <;> simp[DQ]
theorem Aw {f:List Bool->List Bool} (a:∀ is,(f is).length=is.length):∀ (n:Nat) (is:List Bool),(iter f n is).length=is.length
 | 0,_=>rfl
 | n+1,is=>by rw[iter,Aw a n,a]
theorem Ab {α:Type} {f:List Bool->α->List Bool} (a:∀ is x,(f is x).length=is.length):∀ (l:List α) (is:List Bool),(l.foldl f is).length=is.length
 | [],_=>rfl
 | x :: l,is=>by rw[Vf,Ab a l,a]
theorem mc {g:ag} (h:bV g=true) (t:Bool):(bD g t).length=g.aj.length:=by
 have a:∀ is,(nu g t is).length=is.length:=λis=>Ab (Lv t) _ _
 rw[bD,Uz h,Aw a]
 simp[cI]
def ko:SC :=
 ae [ae [.region false [⟨none,[aa 41 8,al 42 1 7,ak 43 42,aM 44 43,aR 45 .lss 41 44,aa 46 45]⟩,⟨(some (46,true)),[aa 47 4,al 48 0 7,ak 49 48,aO 50 1 47 49,ak 51 50]⟩,⟨none,[eu 52 46 51,aa 53 52]⟩,⟨(some (53,true)),[al 54 1 7,ak 55 54,aa 56 3,rf 57 95 [(.tmp 55),(.tmp 56),(.val (.val (.bool true)))]]⟩,⟨none,[eu 58 53 57]⟩],bX 58 (.exit 4)],.block 5 (ae [ab [al 61 1 7,ak 62 61,aa 63 8,aO 64 1 62 63,ak 65 64,aG 66 .lss 65 0],ba 66 (ab [aa 67 4,al 68 1 7,ak 69 68,aa 70 8,aO 71 1 69 70,ak 72 71,((some 73),.op (.arith .sub (.val (.val (.int .i64 (-1)))) (.tmp 72))),aO 74 1 67 73,(none,.op (.store 1 (.tmp 74) (.val (.val (.bool true)))))])]),ab [aa 59 8,aG 60 .add 59 1,aa 8 60]]
def kz:SC :=
 ae [ae [ab [aa 29 6,al 30 2 1,ak 31 30,aM 32 31,aR 33 .lss 29 32],bX 33 (.exit 2)],.block 3 (ae [ab [al 36 2 1,ak 37 36,aa 38 6,aO 39 3 37 38,aS 40 3 39,((some 7),.op (.alloc [(.val (.int .i64 0)),(.emp 1),(.val (.int .i64 0))])),cg 3 7 40],ab [aN 8 0],bY 4 ko]),ab [aa 34 6,aG 35 .add 34 1,aa 6 35]]
def kr:SC :=
 ae [ae [ab [aa 22 5,al 23 1 1,ak 24 23,aM 25 24,aR 26 .lss 22 25],bX 26 (.exit 0)],.block 1 (ae [ab [aN 6 0],bY 2 kz]),ab [aa 27 5,aG 28 .add 27 1,aa 5 28]]
def lK:SF:=⟨ae [ab [cw 1 0,bI 2 1],ae [ab [aS 9 4 1,aX 10 50 [9],c7 11 10],ba 11 (ae [ab [bI 2 1],.ret])],ab [aS 12 4 1,aX 13 93 [12],aa 3 13],ab [al 14 1 1,ak 15 14,aM 16 15,((some 17),.op (.make 1 1 [(.val (.bool false))] (.tmp 16) (.tmp 16))),aa 4 17],ab [aa 18 4,al 19 3 1,ak 20 19,aO 21 1 18 20,(none,.op (.store 1 (.tmp 21) (.val (.val (.bool true)))))],ae [ab [aN 5 0],bY 0 kr],ab [aa 75 4,aa 2 75],.ret],
 [.tmp 2],76⟩
theorem qX:aH Tryz.prog 94 [1]=some lK:=by kernel_rfl
theorem Ph {l:List Bool} {i j:Nat} (h:l.getD j false=true):(l.set i true).getD j false=true:=by
 simp only[Uu,VA] at h ⊢
 by_cases e:i=j
 .subst e
  by_cases hi:i < l.length
  .simp[hi]
  .rw[U6 (by omega)] at h;simp at h
 .rw[Ux e];exact h
theorem Qb {H:View} {m n:Nat} {o:dB} (hm:H m=o) (a:H n=.dead) (b:o≠.dead):m≠n:=by rintro rfl;exact b (hm.symm.trans a)
theorem CX (g:ag) (Y:g.Ok) (H:View):av Tryz.prog 94 [.agg (af g)] H λr H'=>∀ X:aC,X.view=H'->dz X r (cD (cr g)):=by
 refine av.of mixed qX ?_
 simp(disch:=omega)only[↓wr,seval,wq,lK,af,encS]
 refine aw.pure (lB g Y) ?_
 repeat' (first | ((first|apply ai.dec|apply ai.eq|apply ai.ne|apply ai.split)<;>intro)|(simp(disch:=omega)only[↓wr,seval,wq,af,encS]))
 .rename_i hr
  have y:=b4 hr
  obtain⟨a8,bd⟩:=And.intro y.lp y.aj
  refine aw.pure (te g Y) ?_
  have Z:=mc hr true
  have n:cr g=iter (qn g (bD g true)) g.aj.length ((cI g).set g.start.toNat true):=by rw[cr,Uz hr]
  generalize bD g true=p at Z n
  have o:=y.oh
  have a6:=y.start
  have I:List.replicate g.aj.length [V.val (Value.bool false)]=dq (cI g):=yN _ _
  have an:(cI g).length=g.aj.length:=by simp[cI]
  simp(disch:=omega)only[↓wr,seval,wq,af,encS]
  refine⟨⟨by omega,by unfold aB;omega,by unfold aB;omega⟩,λhz=>by omega,λ_ m hm=>?_⟩
  rw[I]
  have aq:(dq (cI g)).getD g.start.toNat []=[gb ((cI g)[g.start.toNat]'(by omega))]:=kT (by omega)
  simp(disch:=omega)only[↓wr,seval,wq,af,encS,kT (show g.start.toNat < (cI g).length by omega),kY,UB]
  refine⟨by omega,by omega,?_⟩
  refine aV.intro (λk T H'=>∃ (i:Nat) (is:List Bool),i+k=g.aj.length/\is.length=g.aj.length/\iter (qn g p) k is=cr g/\T 1=.aJ (af g) 0/\T 3=cD p/\T 4=.sl m 0 g.aj.length 1/\H' m=.arr 1 (dq is)/\T 5=gi i) g.aj.length ?_ ?_
  .refine⟨0,(cI g).set g.start.toNat true,by omega,by simp[an],n.symm,?_⟩
   simp(disch:=omega)only[↓wr,↓reduceIte,wq,Nat.reduceEqDiff,Nat.reduceAdd,Nat.reduceLT,Nat.reduceLeDiff,Int.reduceNeg,Int.reduceToNat,reduceCtorEq,af,encS]
   rw[aq]
   exact⟨by rw[<-kY];rfl,rfl⟩
  .rintro k T H' ⟨i,is,hk,hlen,hi,f1,f3,f4,fm,f5⟩
   simp(disch:=omega)only[↓wr,seval,wq,kr,f1,f3,f4,f5,af,encS]
   apply ai.dec<;>intro hc
   .simp(disch:=omega)only[↓wr,seval,wq,f1,f3,f4,f5,af,encS]
    refine aV.intro (λJ T H'=>∃ (j:Nat) (d:List Bool),j+J=g.rules.length/\d.length=g.aj.length/\(g.rules.drop j).foldl (gW p) d=qn g p is/\T 1=.aJ (af g) 0/\T 3=cD p/\T 4=.sl m 0 g.aj.length 1/\H' m=.arr 1 (dq d)/\T 5=gi i/\T 6=gi j) g.rules.length ?_ ?_
    .refine⟨0,is,by omega,hlen,rfl,?_⟩
     simp(disch:=omega)only[↓wr,seval,wq,f1,f3,f4,f5,fm,af,encS]
     first | done | exact⟨rfl,rfl⟩ | rfl
    .rintro J T' bl ⟨j,d,bn,t,C,K,L,M,em,N,O⟩
     simp(disch:=omega)only[↓wr,seval,wq,kz,K,L,M,N,O,af]
     apply ai.dec<;>intro hd
     .have hle:=y.rules
      have P:g.rules[j]?=some (g.rules[j]'(by omega)):=Uv (by omega)
      rw[dW (show j < g.rules.length by omega)] at C
      have f:g.rules[j]'(by omega)∈g.rules:=UC _
      generalize g.rules[j]'(by omega)=r at P C f
      simp only[Vf] at C
      obtain⟨br,bs⟩:=y.left r f
      obtain⟨_,_,ar,Q⟩:=Y.ax r f
      have bx:=y.right r f
      have R:=FL r.right p true ar (λs hs=>⟨Q s hs,λhn=>by have:=y.neg f hs hn;omega⟩)
      simp(disch:=omega)only[↓wr,seval,wq,K,L,M,N,O,af,encS,aI,encI,Uy,P,UH]
      intro b hb
      have S:m≠b:=Qb em hb (by simp)
      try simp(disch:=omega)only[↓wr,seval,wq,K,L,M,N,O,af,encS,aI,encI]
      refine aV.intro (λq T H'=>∃ (a:Nat) (c:List Bool),a+q=r.right.length/\c.length=g.aj.length/\(r.right.drop a).foldl mark c=r.right.foldl mark d/\((a=0/\c=d)∨((d.getD r.left.toNat false && ga r.right p true)=true/\c.getD r.left.toNat false=true)) /\
       T 1=.aJ (af g) 0/\T 3=cD p/\T 4=.sl m 0 g.aj.length 1/\H' m=.arr 1 (dq c)/\T 5=gi i/\T 6=gi j/\T 7=.ptr b 0 0/\H' b=.arr 3 [aI r]/\T 8=gi a) r.right.length ?_ ?_
      .refine⟨0,d,by omega,t,rfl,.inl ⟨rfl,rfl⟩,?_⟩
       simp(disch:=omega)only[↓wr,↓reduceIte,wq,Nat.reduceEqDiff,Nat.reduceAdd,Nat.reduceLT,Nat.reduceLeDiff,Int.reduceNeg,Int.reduceToNat,reduceCtorEq,K,L,M,N,O,em,S,af,encS,aI]
       exact⟨rfl,rfl⟩
      .rintro q T3 H3 ⟨a,c,hq,e,w,h,d1,d3,d4,z,d5,d6,d7,x,d8⟩
       simp(disch:=omega)only[↓wr,seval,wq,ko,d1,d3,d4,d5,d6,d7,d8,x,aI,encI]
       have U:c[r.left.toNat]?=some (c[r.left.toNat]'(by omega)):=Uv (by omega)
       have l:c.getD r.left.toNat false=c[r.left.toNat]'(by omega):=by simp[Uu,U]
       have A:=kT (show r.left.toNat < c.length by omega)
       have W:(d.getD r.left.toNat false && ga r.right p true)=false->gW p d r=c:=λG=>by
        rcases h with ⟨_,rfl⟩ | ⟨h1,_⟩
        .rw[gW,G];rfl
        .rw[G] at h1;simp at h1
       generalize c[r.left.toNat]'(by omega)=tl at U l A
       apply ai.dec<;>intro ht
       .have D:r.right[a]?=some (r.right[a]'(by omega)):=Uv (by omega)
        rw[dW (show a < r.right.length by omega)] at w
        have E:r.right[a]'(by omega)∈r.right:=UC _
        generalize r.right[a]'(by omega)=s at D w E
        simp only[Vf] at w
        have a1:=Q s E
        simp(disch:=omega)only[↓wr,seval,wq,d1,d3,d4,d5,d6,d7,d8,x,z,aI,encI,A,UB]
        refine⟨by omega,by omega,?_⟩
        apply ai.split<;>intro u
        .simp(disch:=omega)only[↓wr,seval,wq,d1,d3,d4,d5,d6,d7,d8,x,z,aI,encI,A,UB]
         refine aw.pure R ?_
         simp(disch:=omega)only[↓wr,seval,wq,d1,d3,d4,d5,d6,d7,d8,x,z,aI,encI]
         apply ai.split<;>intro F
         .simp(disch:=omega)only[↓wr,seval,wq,d1,d3,d4,d5,d6,d7,d8,x,z,aI,encI,Uy,D,UH]
          have G:(d.getD r.left.toNat false && ga r.right p true)=true/\c.getD r.left.toNat false=true:=by
           rcases h with ⟨_,rfl⟩ | h1
           .exact⟨by rw[l,u,F];rfl,by rw[l,u]⟩
           .exact h1
          apply ai.dec<;>intro B
          .have b0:=y.neg f E B
           have a7:=a1.1
           have v:mark c s=c.set (-1 - s).toNat true:=by rw[mark,Uz B]
           simp(disch:=omega)only[↓wr,seval,wq,d1,d3,d4,d5,d6,d7,d8,x,z,aI,encI,Uy,D,UH,kT (show (-1 - s).toNat < c.length by omega),UB,S.symm]
           rw[v] at w
           exact⟨by omega,by omega,q - 1,by omega,a+1,c.set (-1 - s).toNat true,by omega,by simp[e],w,.inr ⟨G.1,Ph G.2⟩,by rw[kY],by first | rfl | exact⟨rfl,rfl⟩⟩
          .have v:mark c s=c:=by rw[mark,Ux B]
           rw[v] at w
           simp(disch:=omega)only[↓wr,seval,wq,d1,d3,d4,d5,d6,d7,d8,x,z]
           exact⟨q - 1,by omega,a+1,c,by omega,e,w,.inr G,by first | rfl | exact⟨rfl,rfl⟩ | exact⟨rfl,rfl,rfl⟩⟩
         .simp(disch:=omega)only[↓wr,seval,wq,d1,d3,d4,d5,d6,d7,d8,x,z,aI,encI]
          have o:=W (by rw[F,Bool.and_false])
          exact⟨J - 1,by omega,j+1,c,by omega,e,by rw[<-o];exact C,rfl,rfl,rfl⟩
        .simp(disch:=omega)only[↓wr,seval,wq,d1,d3,d4,d5,d6,d7,d8,x,z,aI,encI,A,UB]
         have o:gW p d r=c:=by
          rcases h with ⟨_,rfl⟩ | ⟨_,h1⟩
          .rw[gW,l,u];rfl
          .rw[l,u] at h1;simp at h1
         exact⟨J - 1,by omega,j+1,c,by omega,e,by rw[<-o];exact C,rfl,rfl,rfl⟩
       .simp(disch:=omega)only[↓wr,seval,wq,d1,d3,d4,d5,d6,d7,d8,x,z,aI,encI]
        rw[US (by omega),Wi] at w
        have o:gW p d r=c:=by
         rcases h with ⟨h0,rfl⟩ | ⟨h1,_⟩
         .unfold gW
          split
          .exact w.symm
          .rfl
         .rw[gW,Uz h1];exact w.symm
        exact⟨J - 1,by omega,j+1,c,by omega,e,by rw[<-o];exact C,rfl,rfl,rfl⟩
     .rw[US (by omega),Wi] at C
      simp(disch:=omega)only[↓wr,seval,wq,K,L,M,N,O]
      obtain⟨q,rfl⟩:∃ q,k=q+1:=⟨k - 1,by omega⟩
      exact⟨q,by omega,i+1,d,by omega,t,by rw[C];exact hi,rfl,em,rfl⟩
   .simp(disch:=omega)only[↓wr,seval,wq,f1,f3,f4,f5,fm]
    have:k=0:=by omega
    subst this
    rintro X rfl
    simp only[<-hi,iter]
    rw[<-hlen]
    exact yX fm
 .rename_i hr
  rintro X rfl
  simp only[cr,hr]
  exact .emp 1
theorem CF (g:ag) (a:g.Ok):b6 Tryz.prog 94 [.agg (af g)] (cD (cr g)):=b6.of (dO g) (CX g a _)
noncomputable def xD:List (FuncId × DF):=vB Tryz.prog [(224,[]),(223,[]),(296,[]),(297,[])]
theorem sX:p0 Tryz.prog xD:=sD _ _
theorem Kw (P:Program):sA P (λ_ _ _=>none):=λ_ _ _ _ h=>by simp at h
def Sy (o:Option V) (b:Bool):Bool:=match o with
 | some (.val (.bool c))=>c == b
 | _=>false
theorem Sh {o:Option V} {b:Bool} (h:Sy o b=true):o=some (gb b):=by
 unfold Sy at h
 split at h
 .rw[Vr] at h;rw[h]
 .simp at h
noncomputable def yA (tab:List (FuncId × DF)) (f:FuncId) (p:Int->Bool):Bool:=(List.range 256).all λc=>Sy (rT Tryz.prog tab (λ_ _ _=>none) f [gy (c:Int)]) (p (c:Int))
theorem vC {a:List (FuncId × DF)} (d:p0 Tryz.prog a) {f:FuncId} {p:Int->Bool} (h:yA a f p=true) (c:Int) (e:0<=c) (h1:c<=255):az Tryz.prog f [gy c] (gb (p c)):=by
 have:=U3.1 h c.toNat (by simp;omega)
 rw[show ((c.toNat:Nat):Int)=c by omega] at this
 exact(oA mixed d (Kw _) (by intro v b;simp at b;subst b;exact .val _) (Sh this)).pure
def yE (c:Int):Bool:=decide (32<=c) && decide (c<=126) && c != 39 && c != 92
def CU (c:Int):Bool:=c == 110 || c == 116 || c == 92 || c == 39
theorem KP:yA xD 223 vd=true:=by kernel_rfl
theorem OI:yA xD 224 oF=true:=by kernel_rfl
theorem Na:yA xD 296 yE=true:=by kernel_rfl
theorem Rp:yA xD 297 CU=true:=by kernel_rfl
theorem Ee {s:ByteArray} {c:Int} (h:c∈fG s):0<=c/\c<=255:=by
 unfold fG at h
 obtain⟨b,_,rfl⟩:=U0.1 h
 have:=b.toNat_lt
 omega
theorem Ms (s:ByteArray):gD s=(fG s).map λx=>[gy x]:=by simp[gD,fG]
noncomputable def JM:List (FuncId × DF):=vB Tryz.prog [(44,[]),(87,[]),(145,[]),(207,[]),(255,[]),(256,[]),(257,[]),(258,[]),(286,[]),(208,[]),(259,[]),(209,[]),(234,[]),(233,[]),(232,[]),(260,[]),(261,[]),(262,[]),(146,[]),(213,[]),(212,[]),(263,[]),(264,[]),(211,[]),(214,[]),(210,[]),(88,[1]),(149,[3]),(169,[]),(172,[]),(151,[4]),(216,[4]),(150,[2]),(170,[2]),(266,[3]),(147,[]),(215,[5]),(265,[]),(148,[])]
theorem Kr:p0 Tryz.prog JM:=sD _ _
def GN (l:List Int):V:=.aQ (l.map λx=>[gy x])
theorem MQ (l:List Int):Tree (GN l):=eM _ _ λx _ v a=>by simp at a;subst a;exact .val _
def zh (g:ag):V:=.aY [.agg (af g),.val (.complex .f64 0 0),gi 0]
theorem QR {l:List Int} {g:ag} (h:rT Tryz.prog JM (λ_ _ _=>none) 44 [GN l]=some (zh g)):b6 Tryz.prog 44 [GN l] (zh g) :=
 oA mixed Kr (Kw _) (by intro v a;simp at a;subst a;exact MQ _) h
abbrev cB (κ:Type):=List (κ × V × Nat)
def cn {κ:Type} (key:κ->Value) (m:cB κ):List (V × V × Nat):=m.map λx=>(.val (key x.1),x.2.1,x.2.2)
def getM {κ:Type} [BEq κ] (m:cB κ) (k:κ):Option V:=(m.find? λx=>k == x.1).map (·.2.1)
def bL {κ:Type} [BEq κ] (k:κ) (v:V) (c:Nat):cB κ->cB κ
 | []=>[(k,v,c)]
 | x :: r=>if k == x.1 then (k,v,x.2.2) :: r else x :: bL k v c r
structure AI {κ:Type} [BEq κ] (P:Program) (kt:TypeId) (key:κ->Value):Prop where
 ty:∃ d,P.underlying kt=some d/\(∀ a b,Instr.sameNow d (key a) (key b)=some (a == b))/\(∀ a e,bg P (Instr.checkKey e 10000 kt (key a))=some ())
 bits:∀ a b,(a == b)=true->Instr.sameBits 10000 (key b) (key a)=true
theorem u6 {κ:Type} (key:κ->Value):∀ m:cB κ,gX (cn key m)=some (m.map λx=>{ key:=key x.1,val:=.nilFunc,born:=x.2.2 })
 | []=>rfl
 | x :: r=>by
  have:=u6 key r
  simp only[cn] at this
  simp[cn,gX,c8,this]
def gF {κ:Type} [BEq κ] (k:κ):cB κ->Option Nat
 | []=>none
 | x :: r=>if k == x.1 then some 0 else (gF k r).map (·+1)
theorem zy {κ:Type} [BEq κ] {key:κ->Value} {d:TypeDesc} (h:∀ a b,Instr.sameNow d (key a) (key b)=some (a == b)) (k:κ):∀ (m:cB κ) (i:Nat),
  Instr.findNow d (key k) (m.map λx=>{ key:=key x.1,val:=.nilFunc,born:=x.2.2 }) i=some ((gF k m).map λj=>(i+j,.nilFunc))
 | [],i=>rfl
 | x :: r,i=>by
  simp only[U2,Instr.findNow,h,gF]
  cases hk:k == x.1 with
  | true=>simp
  | false =>
   simp only[zy h k r (i+1),UX,if_false,Option.map_map]
   congr 2
   funext j
   simp only[Function.comp]
   congr 1
   omega
theorem yI {κ:Type} [BEq κ] {P:Program} {kt:TypeId} {key:κ->Value} (h:AI P kt key) (k:κ) (e:Bool) (m:cB κ):ml P kt (.val (key k)) e (cn key m)=some (gF k m):=by
 obtain⟨d,a,b,c⟩:=h.ty
 have hu:bg P (underlying kt)=some d:=dK a
 simp only[ml,c8,u6,aW,c,U7]
 have:bg P (Instr.findKey kt (key k) (m.map λx=>{ key:=key x.1,val:=.nilFunc,born:=x.2.2 }))=some ((gF k m).map λj=>(0+j,.nilFunc)):=by
  unfold Instr.findKey
  rw[aW,hu,U7,zy b]
  rfl
 rw[this]
 cases gF k m with
 | none=>rfl
 | some j=>simp
theorem AP {P:Program} {kt:TypeId} {d:TypeDesc} (h:P.underlying kt=some d) (a:match d with | .int _ | .string | .bool=>True | _=>False) (e:Bool) (n:Nat) (v:Value):bg P (Instr.checkKey e (n+1) kt v)=some ():=by
 unfold Instr.checkKey
 rw[aW,dK h,U7]
 cases d <;> first | exact a.elim | rfl
theorem kU {P:Program} {kt:TypeId} (k:IntKind) (h:P.underlying kt=some (.int k)):AI P kt (Value.int k) where
 ty:=⟨_,h,λa b=>by simp[Instr.sameNow],λa e=>AP h trivial e 9999 _⟩
 bits:=λa b c=>by
  have:a=b:=by simpa using c
  subst this
  simp[Instr.sameBits]
theorem vV {κ:Type} [BEq κ] {key:κ->Value} (k:κ):∀ m:cB κ,match gF k m with
  | some i=>∃ x,m[i]?=some x/\(k == x.1)=true/\getM m k=some x.2.1/\(cn key m)[i]?=some (.val (key x.1),x.2.1,x.2.2)/\∀ v c,(cn key m).set i (.val (key k),v,x.2.2)=cn key (bL k v c m)/\(bL k v c m).length=m.length
  | none=>getM m k=none/\∀ v c,cn key m ++ [(.val (key k),v,c)]=cn key (bL k v c m)/\(bL k v c m).length=m.length+1
 | []=>⟨rfl,λv c=>⟨rfl,rfl⟩⟩
 | x :: r=>by
  have a:=vV (key:=key) k r
  simp only[gF]
  cases hk:k == x.1 with
  | true=>exact⟨x,rfl,hk,by simp[getM,hk],rfl,λv c=>by simp[bL,hk,cn]⟩
  | false =>
   simp only[UX,if_false]
   cases hi:gF k r with
   | some i =>
    rw[hi] at a
    obtain⟨y,h1,b,d,e,f⟩:=a
    refine⟨y,by simpa using h1,b,by simpa [getM,hk] using d,by simpa [cn] using e,λv c=>?_⟩
    obtain⟨g1,g2⟩:=f v c
    exact⟨by simp only[cn] at g1 ⊢;simp[bL,hk,g1],by simp[bL,hk,g2]⟩
   | none =>
    rw[hi] at a
    refine⟨by simpa [getM,hk] using a.1,λv c=>?_⟩
    obtain⟨g1,g2⟩:=a.2 v c
    exact⟨by simp only[cn] at g1 ⊢;simp[bL,hk,g1],by simp[bL,hk,g2]⟩
section
variable {P:Program} {T:Env} {H:View} {κ:Type} [BEq κ] {key:κ->Value} {kt et t ty:TypeId}
theorem zg {K:V->View->Prop} {w:cG (T,H,K)} {x i:Operand} {z:V} {id c:Nat} {m:cB κ} {k:κ} (hm:ez P t=some (kt,et)) (d:zeroV P et=some z) (hk:AI P kt key)
  (e:ev T x=.mp id) (hi:ev T i=.val (key k)) (hH:H id=.map (cn key m) c) (h:K ((getM m k).getD z) H):iW P (.lookup t x i false) ty T H K w:=by
 intro n _
 have f:=yI hk k (cn key m).isEmpty m
 have a:=vV (key:=key) k m
 refine⟨(getM m k).getD z,.none,[id],?_,h⟩
 simp only[sI,ca,oper,fa,hm,d,e,hi,hH,f]
 cases b:gF k m with
 | some j =>
  rw[b] at a
  obtain⟨y,h1,o,g,l,_⟩:=a
  simp[l,g]
 | none =>
  rw[b] at a
  simp[a.1]
theorem QK {K:V->View->Prop} {w:cG (T,H,K)} {x i:Operand} {z:V} {id c:Nat} {m:cB κ} {k:κ} (hm:ez P t=some (kt,et)) (d:zeroV P et=some z) (hk:AI P kt key)
  (e:ev T x=.mp id) (hi:ev T i=.val (key k)) (hH:H id=.map (cn key m) c) (h:K (.aY [(getM m k).getD z,.val (.bool (getM m k).isSome)]) H):iW P (.lookup t x i true) ty T H K w:=by
 intro n _
 have f:=yI hk k (cn key m).isEmpty m
 have a:=vV (key:=key) k m
 refine⟨_,.none,[id],?_,h⟩
 simp only[sI,ca,oper,fa,hm,d,e,hi,hH,f]
 cases b:gF k m with
 | some j =>
  rw[b] at a
  obtain⟨y,h1,o,g,l,_⟩:=a
  simp[l,g]
 | none =>
  rw[b] at a
  simp[a.1]
theorem Qk (hk:AI P kt key) (k a:κ) (h:(k == a)=true):sameKey (.val (key a)) (.val (key k))=true:=by
 simp only[sameKey,c8];exact hk.bits _ _ h
theorem uL {K:V->View->Prop} {w:cG (T,H,K)} {x i y:Operand} {id c:Nat} {m:cB κ} {k:κ} {v:V} (hm:ez P t=some (kt,et)) (hk:AI P kt key)
  (d:ev T x=.mp id) (hi:ev T i=.val (key k)) (e:ev T y=v) (hH:H id=.map (cn key m) c)
  (h:∀ g,K .any (H.set id (.map (cn key (bL k v c m)) g))):iW P (.mapUpdate t x i y) ty T H K w:=by
 intro n _
 have a:=yI hk k false m
 have b:=vV (key:=key) k m
 cases f:gF k m with
 | some j =>
  rw[f] at b a
  obtain⟨z,h1,l,q,o,p⟩:=b
  refine⟨.any,.fi id (.map ((cn key m).set j (.val (key k),v,z.2.2)) c),[id],?_,?_⟩
  .simp only[sI,ca,oper,gw,hm,d,hi,e,hH,a,o,Qk hk k z.1 l,if_true]
  .rw[(p v c).1];exact h c
 | none =>
  rw[f] at b a
  refine⟨.any,.fi id (.map (cn key m ++ [(.val (key k),v,c)]) (c+1)),[id],?_,?_⟩
  .simp only[sI,ca,oper,gw,hm,d,hi,e,hH,a]
  .rw[(b.2 v c).1];exact h (c+1)
theorem Sq {P:Program} {T:Env} {H:View} {t ty:TypeId} {x i y:Operand} {K:V->View->Prop} {w:cG (T,H,K)} : iW P (.insert t x i y) ty T H K w=iW P (.mapUpdate t x i y) ty T H K w:=propext Iff.rfl
omit [BEq κ] in
theorem R1 {K:V->View->Prop} {w:cG (T,H,K)} {x:Operand} {id c:Nat} {m:cB κ} (hm:ez P t=some (kt,et)) (d:ev T x=.mp id) (hH:H id=.map (cn key m) c) (h:K (fO m.length) H) :
  iW P (.call { callee:=.builtin .len,args:=#[x],argTypes:=#[t] }) ty T H K w:=by
 intro n _
 have hu:∃ a b,P.underlying t=some (.map a b):=by
  unfold ez at hm
  split at hm
  .rename_i a b h1;exact⟨a,b,h1⟩
  .simp at hm
 obtain⟨a,b,hu⟩:=hu
 refine⟨fO m.length,.none,[id],?_,h⟩
 have e:(cn key m).length=m.length:=by simp[cn]
 simp only[sI,ca,oper,VJ,UE,UU,tI,hu,d,hH,e]
 simp[hu,d,hH,e,tI]
end
theorem pI {κ:Type} [BEq κ] [LawfulBEq κ] (k a:κ) (v:V) (c:Nat):∀ m:cB κ,getM (bL k v c m) a=if a == k then some v else getM m a
 | []=>by
  by_cases h:a=k
  .subst h;simp[bL,getM]
  .simp[bL,getM,h]
 | x :: r=>by
  have b:=pI k a v c r
  simp only[bL]
  by_cases hk:k=x.1
  .by_cases h:a=k
   .subst h;simp[hk,getM]
   .have:¬ a=x.1:=λe=>h (e.trans hk.symm)
    simp[hk,getM,this]
  .simp only[Vr,hk,if_false]
   by_cases h:a=x.1
   .have:¬ a=k:=λe=>hk (e.symm.trans h)
    simp[getM,h]
    subst h
    simp[this]
   .simp only[getM,Wm,beq_eq_false_iff_ne.2 h] at b ⊢
    exact b
def eA {κ β:Type} [BEq κ] (a:List (κ × β)) (k:κ):Option β:=(a.find? λx=>k == x.1).map (·.2)
def kf {κ β:Type} [BEq κ] (k:κ) (v:β):List (κ × β)->List (κ × β)
 | []=>[(k,v)]
 | x :: r=>if k == x.1 then (k,v) :: r else x :: kf k v r
def oD {κ β:Type} (encV:β->V):List (κ × β)->cB κ->Prop
 | [],[]=>True
 | x :: a,y :: m=>y.1=x.1/\y.2.1=encV x.2/\oD encV a m
 | _,_=>False
theorem oD.get {κ β:Type} [BEq κ] {encV:β->V} (k:κ):∀ {a:List (κ × β)} {m:cB κ},oD encV a m->getM m k=(eA a k).map encV
 | [],[],_=>rfl
 | x :: a,y :: m,⟨h1,c,d⟩=>by
  have b:=oD.get k d
  simp only[getM,eA,Wm,h1] at b ⊢
  cases k == x.1 with
  | true=>simp[c]
  | false=>simpa using b
theorem oD.put {κ β:Type} [BEq κ] {encV:β->V} (k:κ) (v:β) (c:Nat):∀ {a:List (κ × β)} {m:cB κ},oD encV a m->oD encV (kf k v a) (bL k (encV v) c m)
 | [],[],_=>⟨rfl,rfl,trivial⟩
 | x :: a,y :: m,⟨h1,d,b⟩=>by
  have e:=oD.put k v c b
  simp only[kf,bL,h1]
  cases k == x.1 with
  | true=>exact⟨rfl,rfl,b⟩
  | false=>exact⟨h1,d,e⟩
theorem oD.len {κ β:Type} {encV:β->V} : ∀ {a:List (κ × β)} {m:cB κ},oD encV a m->m.length=a.length
 | [],[],_=>rfl
 | x :: a,y :: m,⟨_,_,b⟩=>by simp[oD.len b]
theorem Hq {κ β:Type} [BEq κ] [LawfulBEq κ] (k b:κ) (v:β):∀ a:List (κ × β),eA (kf k v a) b=if b == k then some v else eA a b
 | []=>by
  by_cases h:b=k
  .subst h;simp[kf,eA]
  .simp[kf,eA,h]
 | x :: r=>by
  have c:=Hq k b v r
  simp only[kf]
  by_cases hk:k=x.1
  .by_cases h:b=k
   .subst h;simp[hk,eA]
   .have:¬ b=x.1:=λe=>h (e.trans hk.symm)
    simp[hk,eA,this]
  .simp only[Vr,hk,if_false]
   by_cases h:b=x.1
   .have:¬ b=k:=λe=>hk (e.symm.trans h)
    simp[eA,h]
    subst h
    simp[this]
   .simp only[eA,Wm,beq_eq_false_iff_ne.2 h] at c ⊢
    exact c
def D3 (n k:Nat) (J:Nat->Env->View->Prop) (T:Env) (H:View):Prop:=∃ i,i+k=n/\J i T H
theorem aV.up {P:Program} {T:Env} {H:View} {c:SC} {Q:Exit->Env->View->Prop} {v:cG (T,H,Q)} (n:Nat) (J:Nat->Env->View->Prop) (d:J 0 T H)
  (f:∀ i k T H,i+k=n->J i T H->wS P c T H λe a H'=>zU e (∃ b,b < k/\D3 n b J a H') (Q e a H')):aV P c T H Q v :=
 aV.intro (λk T H=>D3 n k J T H) n ⟨0,by omega,d⟩ λk T H ⟨i,hk,g⟩=>f i k T H hk g
theorem aD {n i k:Nat} {J:Nat->Env->View->Prop} {T:Env} {H:View} (hk:i+k=n) (b:i < n) (c:J (i+1) T H):∃ a,a < k/\D3 n a J T H:=⟨k - 1,by omega,i+1,by omega,c⟩
def owner:V->Option Nat
 | .sl id _ _ _=>some id
 | _=>none
def aK (H:View) (u:V) (sz:Nat) (es:List (List V)):Prop :=
 (es=[]/\∃ k,u=.emp k)∨(∃ n,u=.sl n 0 es.length sz/\H n=.arr sz es)
theorem aK.nil {H:View} {sz k:Nat} : aK H (.emp k) sz []:=.inl ⟨rfl,k,rfl⟩
theorem aK.len {H:View} {u:V} {sz:Nat} {es:List (List V)} (h:aK H u sz es):cd u=some es.length:=by
 rcases h with ⟨rfl,k,rfl⟩ | ⟨n,rfl,_⟩ <;> rfl
theorem aK.live {H:View} {u:V} {sz:Nat} {es:List (List V)} (h:aK H u sz es) {id:Nat} (a:owner u=some id):H id=.arr sz es/\u=.sl id 0 es.length sz:=by
 rcases h with ⟨rfl,k,rfl⟩ | ⟨n,rfl,b⟩
 .simp[owner] at a
 .simp[owner] at a;subst a;exact⟨b,rfl⟩
theorem aK.keep {H H':View} {u:V} {sz:Nat} {es:List (List V)} (h:aK H u sz es) (hk:∀ id,owner u=some id->H' id=H id):aK H' u sz es:=by
 rcases h with ⟨rfl,k,rfl⟩ | ⟨n,rfl,a⟩
 .exact .inl ⟨rfl,k,rfl⟩
 .exact .inr ⟨n,rfl,by rw[hk n rfl];exact a⟩
theorem aK.fresh {H:View} {u:V} {sz m:Nat} {es:List (List V)} {o:dB} (h:aK H u sz es) (hm:H m=.dead):aK (H.set m o) u sz es :=
 h.keep λid a=>by
  have:=(h.live a).1
  have e:id≠m:=by rintro rfl;rw[hm] at this;simp at this
  simp[View.set,e]
theorem aK.ne {H:View} {u:V} {sz m:Nat} {es:List (List V)} (h:aK H u sz es) (hm:H m=.dead):owner u≠some m:=λe=>by
 have:=(h.live e).1;rw[hm] at this;simp at this
theorem aK.other {H:View} {u:V} {sz m:Nat} {es:List (List V)} {o:dB} (h:aK H u sz es) (hm:owner u≠some m):aK (H.set m o) u sz es :=
 h.keep λid a=>by
  have e:id≠m:=by rintro rfl;exact hm a
  simp[View.set,e]
theorem aK.new {H:View} {n sz:Nat} {es:List (List V)} : aK (H.set n (.arr sz es)) (.sl n 0 es.length sz) sz es:=.inr ⟨n,rfl,by simp[View.set]⟩
theorem bH {H:View} {m z sz:Nat} {e:List V} : bC (View.set H m (.arr z [e])) (.sl m 0 1 sz)=some ([e],[m]):=by
 simp[bC,View.set]
def Left (H H':View) (u u':V):Prop:=∀ id,H id≠.dead->owner u≠some id->H' id=H id/\owner u'≠some id
theorem tt {sz bytes:Nat} {u:V} {es xs:List (List V)} {H:View} {K:V->View->Prop} {w:cG (H,K)} (d:aK H u sz es) (h:xs≠[]) (b:(xs.all λe=>e.length == sz && e.all aF)=true)
  (g:(es.length+xs.length) * bytes < aB) (c:es.length+xs.length < aB) (hk:∀ f H',aK H' f sz (es ++ xs)->Left H H' u f->K f H'):mr sz bytes u xs H K w:=by
 have he:xs.isEmpty=false:=by cases xs with | nil=>exact absurd rfl h | cons=>rfl
 rcases d with ⟨rfl,k,rfl⟩ | ⟨n,rfl,i⟩
 .rw[sZ _ _ _ _ _ _ _ he]
  refine⟨b,⟨by simpa using g,by simpa using c⟩,λm hm=>hk _ _ ?_ ?_⟩
  .exact .inr ⟨m,rfl,by simp[View.set]⟩
  .intro id a _
   have e:id≠m:=by rintro rfl;exact a hm
   exact⟨by simp[View.set,e],by simp[owner,Ne.symm e]⟩
 .rw[sO _ _ _ _ _ _ _ _ _ _ he,i]
  refine⟨b,⟨by simp,rfl,g,c⟩,λm hm=>hk _ _ ?_ ?_⟩
  .refine .inr ⟨m,by simp,by simp[View.set]⟩
  .intro id a d
   have e:id≠m:=by rintro rfl;exact a hm
   have j:id≠n:=by rintro rfl;exact d rfl
   exact⟨by simp[View.set,e,j],by simp[owner,Ne.symm e]⟩
theorem Left.refl {H:View} {u:V} : Left H H u u:=λ_ _ h=>⟨rfl,h⟩
theorem eo {sz bytes:Nat} {u:V} {es xs:List (List V)} {H:View} {K:V->View->Prop} {w:cG (H,K)} (a:aK H u sz es) (b:(xs.all λe=>e.length == sz && e.all aF)=true)
  (f:(es.length+xs.length) * bytes < aB) (c:es.length+xs.length < aB) (hk:∀ d H',aK H' d sz (es ++ xs)->Left H H' u d->K d H'):mr sz bytes u xs H K w:=by
 cases xs with
 | nil =>
  have:=hk u H (by simpa using a) .refl
  rcases a with ⟨rfl,k,rfl⟩ | ⟨n,rfl,g⟩
  .exact this
  .exact this
 | cons x xs=>exact tt a (by simp) b f c hk
theorem cm.own {H:View} {u:V} {sz:Nat} {es:List (List V)} (h:aK H u sz es) (a:∀ e∈es,∀ v∈e,Tree v):cm H u (.aQ es):=by
 rcases h with ⟨rfl,k,rfl⟩ | ⟨n,rfl,b⟩
 .exact λh _=>.emp k
 .have:=cm.sl (off:=0) (len:=es.length) (esz:=sz) b (by simp) a
  rwa [Vv,UK (by simp)] at this
theorem dz.own {h:aC} {u:V} {sz:Nat} {es:List (List V)} {es':List (List V)} (b:aK h.view u sz es) (a:es'.length=es.length) (hi:∀ i,i < es.length->(es'.getD i []).length=(es.getD i []).length)
  (c:∀ i j,i < es.length->j < (es'.getD i []).length->dz h ((es.getD i []).getD j .any) ((es'.getD i []).getD j .any)):dz h u (.aQ es'):=by
 rcases b with ⟨rfl,k,rfl⟩ | ⟨n,rfl,d⟩
 .have:es'=[]:=VY.1 (by simpa using a)
  subst this
  exact .emp k
 .exact .sl n 0 es.length sz sz es es' d (by simp) a (λi h=>by rw[Vm];exact hi i h) (λi j h1 e=>by rw[Vm];exact c i j h1 e)
theorem dz.KS {h:aC} {α:Type} {u:V} {sz:Nat} {l:List α} {f:α->Value} (b:aK h.view u sz (l.map λx=>[V.val (f x)])):dz h u (.aQ (l.map λx=>[V.val (f x)])):=by
 refine dz.own b rfl (λi _=>rfl) (λi j hi a=>?_)
 simp only[UB] at hi
 have e:(l.map λx=>[V.val (f x)]).getD i []=[V.val (f l[i])]:=by simp[Uu,hi]
 rw[e] at a ⊢
 have:j=0:=by simp at a;omega
 subst this
 exact .val _
def b3 (H H':View) (r:V):Prop:=∀ id,H id≠.dead->H' id=H id/\owner r≠some id
theorem b3.emp {H:View} {k:Nat} : b3 H H (.emp k):=λ_ _=>⟨rfl,by simp[owner]⟩
theorem b3.new {H:View} {n a b c:Nat} {o:dB} (f:H n=.dead):b3 H (H.set n o) (.sl n a b c):=λid d=>by
 have e:id≠n:=by rintro rfl;exact d f
 exact⟨by simp[View.set,e],by simp[owner,Ne.symm e]⟩
theorem aK.left {H H':View} {u b x:V} {sz:Nat} {es:List (List V)} (h:aK H x sz es) (c:Left H H' u b) (d:∀ id,owner x=some id->owner u≠some id):aK H' x sz es :=
 h.keep λid a=>(c id (by rw[(h.live a).1];simp) (d id a)).1
theorem aK.MK {H H':View} {x r:V} {sz:Nat} {es:List (List V)} (h:aK H x sz es) (b:b3 H H' r):aK H' x sz es :=
 h.keep λid a=>(b id (by rw[(h.live a).1];simp)).1
theorem set_set {H:View} {n:Nat} {a b:dB} : View.set (View.set H n a) n b=View.set H n b:=by
 funext id;simp only[View.set];split <;> rfl
theorem bU {m b:Nat} {o x:dB} (h:(if m=b then o else x)=.dead) (a:o≠.dead):m≠b/\x=.dead:=by
 split at h
 .exact absurd h a
 .rename_i e;exact⟨e,h⟩
theorem bR {z:Nat} {es:List (List V)} : dB.arr z es≠.dead:=by simp
def pV (H:View):List V->List V->Prop
 | [],[]=>True
 | v :: vs,t :: ts=>cm H v t/\pV H vs ts
 | _,_=>False
theorem pV.len {H:View} : ∀ {vs a:List V},pV H vs a->a.length=vs.length
 | [],[],_=>rfl
 | _ :: _,_ :: _,h=>by simp[pV.len h.2]
theorem pV.get {H:View} : ∀ {vs a:List V},pV H vs a->∀ i,i < vs.length->cm H (vs.getD i .any) (a.getD i .any)
 | [],[],_,i,hi=>by simp at hi
 | _ :: _,_ :: _,h,0,_=>h.1
 | _ :: _,_ :: _,h,i+1,hi=>pV.get h.2 i (by simpa using hi)
theorem aw.G7 {P:Program} {q:Bool} {f:FuncId} {H:View} {vs b:List V} {K:V->View->Prop} {v:cG (H,K)} {t:V} (d:az P f b t) (a:dE P f=true) (e:wC t) (c:pV H vs b) (hk:K t H):aw P q f vs H K v :=
 aw.borrow d a e c.len c.get hk
theorem aw.j0 {P:Program} {q:Bool} {f:FuncId} {H:View} {vs b:List V} {K:V->View->Prop} {v:cG (H,K)} {t:V} (d:b6 P f b t) (a:dE P f=true) (c:pV H vs b) (hk:K t H):aw P q f vs H K v :=
 aw.uU d a c.len c.get hk
theorem cm.box {H:View} {q z:Nat} {e:List V} (a:H q=.arr z [e]) (b:∀ v∈e,Tree v):cm H (.ptr q 0 0) (.aJ e 0):=by
 rintro h rfl
 refine .ptr q 0 0 z [e] e a (by simp) (by simp) (λk hk=>?_)
 simp only[Vx]
 have c:e.getD k .any=e[k]:=by simp[Uu,hk]
 rw[c]
 exact .tree _ (b _ (UC _))
theorem aK.sl {H:View} {u:V} {sz:Nat} {es:List (List V)} (h:aK H u sz es) (a:0 < es.length):∃ n,u=.sl n 0 es.length sz/\H n=.arr sz es:=by
 rcases h with ⟨rfl,_⟩ | h
 .simp at a
 .exact h
abbrev dN:=V × Nat × List (List V)
def bc (H:View) (L:List dN):Prop:=(∀ x∈L,aK H x.1 x.2.1 x.2.2)/\(L.filterMap λx=>owner x.1).Nodup
theorem bc.nil {H:View} : bc H []:=⟨λx a=>by simp at a,by simp⟩
theorem bc.head {H:View} {x:dN} {L:List dN} (h:bc H (x :: L)):aK H x.1 x.2.1 x.2.2:=h.1 x (by simp)
theorem bc.tail {H:View} {x:dN} {L:List dN} (h:bc H (x :: L)):bc H L:=by
 refine⟨λy a=>h.1 y (by simp[a]),?_⟩
 have:=h.2
 simp only[Vy] at this
 split at this
 .exact this
 .exact(Vp.1 this).2
theorem bc.perm {H:View} {L a:List dN} (h:bc H L) (p:L.Perm a):bc H a :=
 ⟨λx b=>h.1 x (p.mem_iff.2 b),(p.filterMap _).nodup_iff.1 h.2⟩
theorem rU {α:Type} : ∀ (L:List α) (k:Nat) (hk:k < L.length),L.Perm (L[k] :: L.eraseIdx k)
 | x :: L,0,_=>.refl _
 | x :: L,k+1,hk=>by
  have:=rU L k (by simpa using hk)
  exact(this.cons x).trans (.swap _ _ _)
theorem bc.at {H:View} {L:List dN} (h:bc H L) (k:Nat) (hk:k < L.length):bc H (L[k] :: L.eraseIdx k) :=
 h.perm (rU L k hk)
theorem bc.obj {H:View} {n k sz:Nat} {es:List (List V)} {L:List dN} (h:bc H ((.sl n 0 k sz,sz,es) :: L)) (a:es≠[]):H n=.arr sz es/\k=es.length:=by
 rcases h.head with ⟨e,_⟩ | ⟨m,e,hm⟩
 .exact absurd e a
 .simp only[V.sl.injEq] at e
  obtain⟨rfl,_,rfl,_⟩:=e
  exact⟨hm,rfl⟩
theorem bc.off {H:View} {x:dN} {L:List dN} (h:bc H (x :: L)) {id:Nat} (a:owner x.1=some id):∀ y∈L,owner y.1≠some id:=by
 intro y b e
 have:=h.2
 simp only[Vy,a,Vp,VD,not_exists,not_and] at this
 exact this.1 y b e
theorem bc.live {H:View} {x:dN} {L:List dN} (h:bc H L) (b:x∈L) {id:Nat} (a:owner x.1=some id):H id≠.dead:=by
 rw[((h.1 x b).live a).1];simp
theorem bc.keep {H H':View} {L:List dN} (h:bc H L) (hk:∀ x∈L,∀ id,owner x.1=some id->H' id=H id):bc H' L :=
 ⟨λx a=>(h.1 x a).keep (hk x a),h.2⟩
theorem bc.new {H:View} {L:List dN} (h:bc H L) {n:Nat} (b:H n=.dead) (sz:Nat) (es:List (List V)):bc (H.set n (.arr sz es)) ((.sl n 0 es.length sz,sz,es) :: L):=by
 refine⟨λx a=>?_,?_⟩
 .rcases UO.1 a with rfl | a
  .exact .new
  .exact(h.1 x a).fresh b
 .simp only[Vy,owner,Vp,VD,not_exists,not_and]
  exact⟨λx a e=>h.live a e b,h.2⟩
theorem bc.Af {H H':View} {L:List dN} (h:bc H L) {u:V} {sz:Nat} {es:List (List V)} (c:aK H' u sz es) (b:b3 H H' u):bc H' ((u,sz,es) :: L):=by
 refine⟨λx a=>?_,?_⟩
 .rcases UO.1 a with rfl | a
  .exact c
  .exact(h.1 x a).MK b
 .cases hu:owner u with
  | none=>simp only[Vy,hu];exact h.2
  | some id =>
   simp only[Vy,hu,Vp,VD,not_exists,not_and]
   exact⟨λx a e=>(b id (h.live a e)).2 hu,h.2⟩
theorem bc.fresh {H:View} {L:List dN} (h:bc H L) {n:Nat} (a:H n=.dead) {o:dB} : bc (H.set n o) L :=
 ⟨λx b=>(h.1 x b).fresh a,h.2⟩
theorem bc.put {H:View} {L:List dN} {n k sz:Nat} {es es':List (List V)} (h:bc H ((.sl n 0 k sz,sz,es) :: L)) (b:es'.length=es.length) (hk:k=es.length):bc (H.set n (.arr sz es')) ((.sl n 0 k sz,sz,es') :: L):=by
 refine⟨λx a=>?_,by simpa [Vy,owner] using h.2⟩
 rcases UO.1 a with rfl | a
 .exact .inr ⟨n,by simp[b,hk],by simp[View.set]⟩
 .exact(h.1 x (by simp[a])).other (h.off rfl x a)
theorem bc.left {H H':View} {L:List dN} {u c:V} {sz:Nat} {es es':List (List V)} (h:bc H ((u,sz,es) :: L)) (j:aK H' c sz es') (g:Left H H' u c):bc H' ((c,sz,es') :: L):=by
 have b:∀ x∈L,∀ id,owner x.1=some id->owner u≠some id:=λx a id d hu=>h.off hu x a d
 refine⟨λx a=>?_,?_⟩
 .rcases UO.1 a with rfl | a
  .exact j
  .exact(h.1 x (by simp[a])).left g (b x a)
 .have i:=h.tail.2
  cases hu:owner c with
  | none=>simp only[Vy,hu];exact i
  | some id =>
   simp only[Vy,hu,Vp,VD,not_exists,not_and]
   refine⟨λx a e=>?_,i⟩
   have f:=h.tail.live a e
   exact(g id f (b x a id e)).2 hu
theorem cx {sz bytes:Nat} {u:V} {es xs:List (List V)} {L:List dN} {H:View} {K:V->View->Prop} {w:cG (H,K)} (d:bc H ((u,sz,es) :: L)) (b:(xs.all λe=>e.length == sz && e.all aF)=true)
  (g:(es.length+xs.length) * bytes < aB) (c:es.length+xs.length < aB) (hk:∀ a H',bc H' ((a,sz,es ++ xs) :: L)->Left H H' u a->K a H'):mr sz bytes u xs H K w :=
 eo d.head b g c λa H' h1 f=>hk a H' (d.left h1 f) f
theorem bc.stay {H H':View} {L:List dN} (h:bc H L) (b:∀ id,H id≠.dead->H' id=H id):bc H' L :=
 h.keep λx c _ a=>b _ (h.live c a)
theorem bc.emp {H:View} {L:List dN} (h:bc H L) {k sz:Nat} : bc H ((.emp k,sz,[]) :: L):=by
 refine⟨λx a=>?_,by simpa [Vy,owner] using h.2⟩
 rcases UO.1 a with rfl | a
 .exact .nil
 .exact h.1 x a
theorem aK.cells {H:View} {u:V} {sz:Nat} {es:List (List V)} (h:aK H u sz es):V.cells u=[u]:=by
 rcases h with ⟨rfl,k,rfl⟩ | ⟨n,rfl,_⟩ <;> rfl
theorem aK.er {H:View} {u:V} {sz:Nat} {es:List (List V)} (h:aK H u sz es):aF u=true:=by
 rcases h with ⟨rfl,k,rfl⟩ | ⟨n,rfl,_⟩ <;> rfl
theorem bc.J3 {H:View} {L:List dN} (h:bc H L) (i j:Nat) {a e s1 b k2 s2 t1 t2:Nat} {f g:List (List V)} (hi:L[i]?=some (.sl a 0 e s1,t1,f)) (k:L[j]?=some (.sl b 0 k2 s2,t2,g)) (c:i≠j):a≠b:=by
 rintro rfl
 obtain⟨d,hi⟩:=UI.1 hi
 have h1:=h.at i d
 rw[hi] at h1
 exact h1.off (id:=a) rfl _ (List.mem_eraseIdx_iff_getElem?.2 ⟨j,c.symm,k⟩) rfl
theorem FZ {α:Type} {a b c:α} {l:List α} : (a :: b :: c :: l).Perm (b :: c :: a :: l):=(List.Perm.swap _ _ _).trans ((List.Perm.swap _ _ _).cons _)
theorem bc.own {H:View} {L:List dN} (h:bc H L) (i:Nat) {u:V} {sz:Nat} {es:List (List V)} (hi:L[i]?=some (u,sz,es)):aK H u sz es:=h.1 _ (UL hi)
theorem bc.is {H:View} {L:List dN} (h:bc H L) (i:Nat) {n k sz:Nat} {es:List (List V)} (hi:L[i]?=some (.sl n 0 k sz,sz,es)) (a:0 < es.length):H n=.arr sz es:=by
 obtain⟨m,e,hm⟩:=(h.own i hi).sl a
 simp only[V.sl.injEq] at e
 rw[e.1];exact hm
theorem bc.Fi {H:View} {L:List dN} (h:bc H L) {b c:Nat} {es:List (V × V × Nat)} (a:H b=.map es c):∀ x∈L,owner x.1≠some b:=λx d e=>by
 have:=((h.1 x d).live e).1
 rw[a] at this;simp at this
theorem bc.BO {H:View} {L:List dN} (h:bc H L) {b c:Nat} {es:List (V × V × Nat)} (d:H b=.map es c) {o:dB} : bc (H.set b o) L :=
 ⟨λx a=>(h.1 x a).other (h.Fi d x a),h.2⟩
theorem Left.map {H H':View} {u d:V} {b c:Nat} {es:List (V × V × Nat)} {sz:Nat} {xs:List (List V)} (f:Left H H' u d) (g:aK H u sz xs) (a:H b=.map es c):H' b=.map es c:=by
 rw[(f b (by rw[a];simp) (λe=>by have:=(g.live e).1;rw[a] at this;simp at this)).1,a]
theorem Bc {H:View} {L:List dN} (h:bc H L) (i:Nat) {n k sz b c:Nat} {xs:List (List V)} {es:List (V × V × Nat)} (hi:L[i]?=some (.sl n 0 k sz,sz,xs)) (a:H b=.map es c):n≠b:=by
 rintro rfl
 exact h.Fi a _ (UL hi) rfl
theorem aw.Dr {P:Program} {f:FuncId} {vs:List V} {H:View} {K:V->View->Prop} {w:cG (H,K)} {sz:Nat} {es:List (List V)} (b:av P f vs H λr H'=>aK H' r sz es/\b3 H H' r) (hk:∀ r H',aK H' r sz es->b3 H H' r->K r H'):aw P true f vs H K w:=by
 unfold aw
 simp only[if_true]
 exact(b.mono λr H' h=>⟨λid a=>(h.2 id a).1,hk r H' h.1 h.2⟩).LK
def yu:SC :=
 ae [ab [aR 20 .lss 19 18],bX 20 (.exit 0),.block 1 (ae [ab [aa 21 19,aa 3 21],ab [aa 22 0,aa 23 3,((some 24),.op (.im (.tmp 22) (.tmp 23))),aX 25 224 [24],c7 26 25],ba 26 (ae [ab [bq 2 false],.ret])]),ab [aG 27 .add 19 1,aa 19 27]]
def Bl:SF:=⟨ae [ab [bq 2 false],ae [.region false [⟨none,[aa 4 0,((some 5),.op (.xg .eql (.tmp 4) (.val (.val (.string ⟨#[]⟩))))),aa 6 5]⟩,⟨(some (6,false)),[aa 7 0,((some 8),.op (.pN (.tmp 7))),aG 9 .gtr 8 20]⟩,⟨none,[cM 10 6 9,aa 11 10]⟩,⟨(some (11,false)),[aa 12 0,((some 13),.op (.im (.tmp 12) (.val (.val (.int .i64 0))))),aX 14 223 [13],c7 15 14]⟩,⟨none,[cM 16 11 15]⟩],ba 16 (ae [ab [bq 2 false],.ret])],ae [ab [aa 17 0,((some 18),.op (.pN (.tmp 17))),aN 19 0],bY 0 yu],ab [bq 2 true],.ret],
 [.tmp 2],28⟩
theorem E4:aH Tryz.prog 158 []=some Bl:=by kernel_rfl
def wZ:SF:=⟨ae [ab [aN 2 0,aN 3 0],ab [aN 4 2],.block 0 (ae [ab [aa 6 0,aM 7 6,aG 8 .lss 7 2,aa 5 8],.cond (.tmp 5) (ae [ab [aN 2 0,aN 3 4],.ret]) (ae [ab [aa 10 0,((some 11),.op (.idx 1 (.tmp 10) (.val (.val (.int .i64 1))))),ak 12 11,aX 13 296 [12],aa 9 13],bX 9 (ae [ab [aa 15 0,((some 16),.op (.idx 1 (.tmp 15) (.val (.val (.int .i64 1))))),ak 17 16,((some 18),.op (.arith .neq (.tmp 17) (.val (.val (.int .u8 92))))),aa 14 18],.cond (.tmp 14) (ae [ab [aN 2 0,aN 3 3],.ret]) (ae [ab [aa 20 0,aM 21 20,aG 22 .lss 21 3,aa 19 22],.cond (.tmp 19) (ae [ab [aN 2 0,aN 3 4],.ret]) (ae [ab [aa 24 0,((some 25),.op (.idx 1 (.tmp 24) (.val (.val (.int .i64 2))))),ak 26 25,aX 27 297 [26],c7 28 27,aa 23 28],.cond (.tmp 23) (ae [ab [aN 2 0,aN 3 3],.ret]) (ab [aN 4 3])])])])])]),ae [ab [aa 29 0,aM 30 29,aa 31 4,aR 32 .leq 30 31],ba 32 (ae [ab [aN 2 0,aN 3 4],.ret])],ae [ab [aa 33 0,aa 34 4,aO 35 1 33 34,ak 36 35,((some 37),.op (.arith .neq (.tmp 36) (.val (.val (.int .u8 39)))))],ba 37 (ae [ab [aN 2 0,aN 3 3],.ret])],ab [aa 38 4,aG 39 .add 38 1,aa 2 39,aN 3 0],.ret],
 [.tmp 2,.tmp 3],40⟩
theorem Au:aH Tryz.prog 287 []=some wZ:=by kernel_rfl
def ra:SF:=⟨ae [ab [bq 2 false],ae [.region false [⟨none,[aa 5 0,((some 6),.op (.xg .eql (.tmp 5) (.val (.val (.string ⟨#[]⟩))))),aa 7 6]⟩,⟨(some (7,false)),[aa 8 0,((some 9),.op (.im (.tmp 8) (.val (.val (.int .i64 0))))),((some 10),.op (.arith .neq (.tmp 9) (.val (.val (.int .u8 39)))))]⟩,⟨none,[cM 11 7 10]⟩],ba 11 (ae [ab [bq 2 false],.ret])],ab [aa 13 0,((some 14),.op (.gg (.tmp 13))),aX 15 287 [14],aa 12 15,du 16 0 12,du 17 1 12,aa 3 16,aa 4 17],.region false [⟨none,[aa 18 4,aG 19 .eql 18 0,aa 20 19]⟩,⟨(some (20,true)),[aa 21 3,aa 22 0,((some 23),.op (.pN (.tmp 22))),aR 24 .eql 21 23]⟩,⟨none,[eu 25 20 24,aa 2 25]⟩],.ret],
 [.tmp 2],26⟩
theorem Ac:aH Tryz.prog 267 [14]=some ra:=by kernel_rfl
def zD:SF:=⟨ae [ab [bq 2 false],.region false [⟨none,[aa 3 0,aX 4 158 [3],aa 5 4]⟩,⟨(some (5,false)),[aa 6 0,aX 7 267 [6]]⟩,⟨none,[cM 8 5 7,aa 2 8]⟩],.ret],
 [.tmp 2],9⟩
theorem CQ:aH Tryz.prog 217 []=some zD:=by kernel_rfl
def xx:SF:=⟨ae [ab [bq 2 false],ab [aa 3 0,aX 4 158 [3],c7 5 4,aa 2 5],.ret],
 [.tmp 2],6⟩
theorem Ad:aH Tryz.prog 157 []=some xx:=by kernel_rfl
theorem yY (s:ByteArray):iV s ⟨#[]⟩=decide ((fG s).length=0):=by
 unfold iV
 rw[<-eR]
 have:(s.data.toList == ([]:List UInt8))=decide (s.data.toList.length=0):=by
  cases s.data.toList <;> rfl
 show (s.data.toList == ([]:List UInt8))=_
 rw[this]
 rfl
theorem OZ (s:ByteArray) (H:View):av Tryz.prog 158 [gs s] H λr _=>r=gb (gI (fG s)):=by
 refine av.of mixed E4 ?_
 repeat' (first | ((first|apply ai.dec|apply ai.eq|apply ai.ne|apply ai.split)<;>intro)|(simp(disch:=omega)only[↓wr,seval,wq,Bl,eR,yY]))
 .rename_i h
  congr 2;simp[gI,h]
 .rename_i h1 h
  congr 2;simp[gI,show ¬ (fG s).length<=20 by omega]
 .rename_i h1 p
  cases e:fG s with
  | nil=>simp[e] at h1
  | cons c l =>
   have f:=λd (g:d∈c :: l)=>Ee (s:=s) (c:=d) (by rw[e];exact g)
   have j:=f c (by simp)
   repeat' (first | ((first|apply ai.dec|apply ai.eq|apply ai.ne|apply ai.split)<;>intro)|(simp(disch:=omega)only[↓wr,seval,wq,e,U1,eR]))
   refine aw.pure (vC sX KP c j.1 j.2) ?_
   repeat' (first | ((first|apply ai.dec|apply ai.eq|apply ai.ne|apply ai.split)<;>intro)|(simp(disch:=omega)only[↓wr,seval,wq,e,U1,eR]))
   .rename_i q
    rw[e] at h1 p
    refine aV.intro (λk T H'=>∃ i:Nat,i+k=(c :: l).length/\((c :: l).take i).all oF=true/\T 0=gs s/\T 18=gi (c :: l).length/\T 19=gi i) (c :: l).length ?_ ?_
    .exact⟨0,by omega,by simp,rfl,rfl,rfl⟩
    .rintro k T H' ⟨i,hk,hi,n,a,b⟩
     simp(disch:=omega)only[↓wr,seval,wq,yu,n,a,b,eR,e]
     apply ai.dec<;>intro t
     .simp only[UE] at t hk p
      have o:(c :: l)[i]?=some ((c :: l)[i]'(by simp;omega)):=Uv (by simp;omega)
      have hm:(c :: l)[i]'(by simp;omega)∈c :: l:=UC _
      generalize (c :: l)[i]'(by simp;omega)=d at o hm
      have m:=f d hm
      simp(disch:=omega)only[↓wr,seval,wq,n,a,b,eR,e,o]
      refine aw.pure (vC sX OI d m.1 m.2) ?_
      repeat' (first | ((first|apply ai.dec|apply ai.eq|apply ai.ne|apply ai.split)<;>intro)|(simp(disch:=omega)only[↓wr,seval,wq,n,a,b,eR,e,o]))
      .rename_i g
       refine⟨k - 1,by omega,i+1,by omega,?_,by first | rfl | exact⟨rfl,rfl⟩⟩
       rw[UW,o]
       simp only[Option.toList_some,List.all_append,hi,VL,g,List.all_nil,Bool.and_self]
      .rename_i g
       congr 2
       have:(c :: l).all oF=false:=by
        rw[List.all_eq_false];exact⟨d,hm,by simp[g]⟩
       simp only[gI,this,Bool.and_false]
     .simp(disch:=omega)only[↓wr,seval,wq,n,a,b]
      simp only[UE] at t hk p
      rw[UK (by simp;omega)] at hi
      congr 2
      simp only[gI,hi,UE]
      simp[q];omega
   .rename_i q
    congr 2;simp[gI,q]
theorem Fq (s:ByteArray):az Tryz.prog 158 [gs s] (gb (gI (fG s))):=az.val (pO s) (OZ s)
def kB (l:List Int):Int × Int :=
 if yE (l.getD 1 0)=true then (2,0) else if l.getD 1 0≠92 then (0,3) else if l.length < 3 then (0,4) else if CU (l.getD 2 0)=true then (3,0) else (0,3)
def mC (l:List Int):Int × Int :=
 if l.length < 2 then (0,4) else if (kB l).2≠0 then (0,(kB l).2) else if (l.length:Int)<=(kB l).1 then (0,4) else if l.getD (kB l).1.toNat 0≠39 then (0,3) else ((kB l).1+1,0)
theorem Ot {l:List Int} {n:Int} (a:kB l=(n,0)) (b:¬ l.length < 2):mC l=if (l.length:Int)<=n then (0,4) else if l.getD n.toNat 0≠39 then (0,3) else (n+1,0):=by
 rw[mC,Ux b,a];simp
theorem F0 {l:List Int} {e:Int} (a:kB l=(0,e)) (he:e≠0) (b:¬ l.length < 2):mC l=(0,e):=by
 rw[mC,Ux b,a];simp[he]
theorem LC (l:List Int) (hr:∀ c∈l,0<=c/\c<=255) (H:View):av Tryz.prog 287 [.aQ (l.map λx=>[gy x])] H λr _=>r=.aY [gi (mC l).1,gi (mC l).2]:=by
 refine av.of mixed Au ?_
 simp(disch:=omega)only[↓wr,seval,wq,wZ]
 apply ai.dec<;>intro h
 .simp(disch:=omega)only[↓wr,seval,wq]
  rw[mC,Uz (by omega)]
 .have h1:l[1]?=some (l[1]'(by omega)):=Uv (by omega)
  have g1:l.getD 1 0=l[1]'(by omega):=by simp[Uu,h1]
  have m1:l[1]'(by omega)∈l:=UC _
  generalize l[1]'(by omega)=b at h1 g1 m1
  have o:=hr b m1
  simp(disch:=omega)only[↓wr,seval,wq,Uy,h1]
  refine aw.pure (vC sX Na b o.1 o.2) ?_
  simp(disch:=omega)only[↓wr,seval,wq]
  apply ai.split<;>intro hp
  .have p:kB l=(2,0):=by rw[kB,Uz (by rw[g1];exact hp)]
   simp(disch:=omega)only[↓wr,seval,wq]
   have a:=Ot p (by omega)
   apply ai.dec<;>intro m
   .simp(disch:=omega)only[↓wr,seval,wq]
    rw[a,Uz (by omega)]
   .rw[Ux (by omega)] at a
    have g:l[2]?=some (l[2]'(by omega)):=Uv (by omega)
    have g2:l.getD (2:Int).toNat 0=l[2]'(by omega):=by simp[Uu,g]
    generalize l[2]'(by omega)=c at g g2
    rw[g2] at a
    simp(disch:=omega)only[↓wr,seval,wq,Uy,g]
    apply ai.ne<;>intro i
    .simp(disch:=omega)only[↓wr,seval,wq]
     rw[a,Uz i]
    .simp(disch:=omega)only[↓wr,↓reduceIte,wq,Nat.reduceEqDiff,Nat.reduceAdd,Nat.reduceLT,Nat.reduceLeDiff,Int.reduceNeg,Int.reduceToNat,reduceCtorEq]
     rw[a,Ux (λq=>q i)]
  .simp(disch:=omega)only[↓wr,seval,wq,Uy,h1]
   apply ai.ne<;>intro k
   .simp(disch:=omega)only[↓wr,seval,wq]
    rw[F0 (e:=3) (by rw[kB,Ux (by rw[g1,hp];simp),Uz (by rw[g1];exact k)]) (by simp) (by omega)]
   .simp(disch:=omega)only[↓wr,seval,wq]
    apply ai.dec<;>intro s
    .simp(disch:=omega)only[↓wr,seval,wq]
     rw[F0 (e:=4) (by rw[kB,Ux (by rw[g1,hp];simp),Ux (by rw[g1];exact λq=>q k),Uz (by omega)]) (by simp) (by omega)]
    .have g:l[2]?=some (l[2]'(by omega)):=Uv (by omega)
     have g2:l.getD 2 0=l[2]'(by omega):=by simp[Uu,g]
     have m2:l[2]'(by omega)∈l:=UC _
     generalize l[2]'(by omega)=c at g g2 m2
     have j:=hr c m2
     have f:kB l=if CU c=true then (3,0) else (0,3):=by rw[kB,Ux (by rw[g1,hp];simp),Ux (by rw[g1];exact λq=>q k),Ux (by omega),g2]
     simp(disch:=omega)only[↓wr,seval,wq,Uy,g]
     refine aw.pure (vC sX Rp c j.1 j.2) ?_
     simp(disch:=omega)only[↓wr,seval,wq]
     apply ai.split<;>intro he
     .rw[Uz he] at f
      have a:=Ot f (by omega)
      simp(disch:=omega)only[↓wr,seval,wq]
      apply ai.dec<;>intro m
      .simp(disch:=omega)only[↓wr,seval,wq]
       rw[a,Uz (by omega)]
      .rw[Ux (by omega)] at a
       have n:l[3]?=some (l[3]'(by omega)):=Uv (by omega)
       have g3:l.getD (3:Int).toNat 0=l[3]'(by omega):=by simp[Uu,n]
       generalize l[3]'(by omega)=d at n g3
       rw[g3] at a
       simp(disch:=omega)only[↓wr,seval,wq,Uy,n]
       apply ai.ne<;>intro i
       .simp(disch:=omega)only[↓wr,seval,wq]
        rw[a,Uz i]
       .simp(disch:=omega)only[↓wr,↓reduceIte,wq,Nat.reduceEqDiff,Nat.reduceAdd,Nat.reduceLT,Nat.reduceLeDiff,Int.reduceNeg,Int.reduceToNat,reduceCtorEq]
        rw[a,Ux (λq=>q i)]
     .rw[Ux (by rw[he];simp)] at f
      simp(disch:=omega)only[↓wr,seval,wq]
      rw[F0 f (by simp) (by omega)]
end Gv
