/-
  Part 7 of the proof: what the machine does and what the functions answer.
  Conditions: those that each lemma names.
-/
import Derived.Test.YtiophifnkakjgaaGreatSGzB6F
set_option linter.unusedSimpArgs false
set_option linter.unusedVariables false
set_option maxRecDepth 100000
set_option maxHeartbeats 20000000
namespace Gv
open Go Go.Proofs
section
variable {P:Program} {n:Nat} {all:List Oper}
def iB (h:aB) (e:ES):Prop:=e.V=h.view/\e.n=h.length
def Calm (e e':ES) (h h':aB):Prop:=h.length<=h'.length/\(∀ id,id < h.length->¬ id∈e'.w->h'.view id=h.view id/\¬ id∈e.w)
theorem Calm.trans {a b c:ES} {h1 e f:aB} (x:Calm a b h1 e) (y:Calm b c e f):Calm a c h1 f :=
 ⟨VU x.1 y.1,λid d hw =>
  let ⟨g,d1⟩:=y.2 id (VB d x.1) hw
  let ⟨h,d2⟩:=x.2 id d d1
  ⟨g.trans h,d2⟩⟩
theorem Calm.refl (e:ES) (h:aB):Calm e e h h:=⟨Vh _,λ_ _ hw=>⟨rfl,hw⟩⟩
def kh (P:Program) (call:ib):Prop:=∀ g vs e v e' h,call g vs e=some (v,e')->iB h e ->
 di P g=true/\∃ h',cw P g vs h v h'/\iB h' e'/\(∀ id,id < h.length->¬ id∈e'.w->h'.view id=h.view id)/\∀ id,id∈e'.w->id < h.length
def wA (P:Program) (run:w7):Prop:=∀ (n:Nat) (fz:List Nat) (c:Code) (sc:DC),iR P n fz c=some sc->n<=8000->∀ (e e':ES) (r:Exit) (h:aB),run sc e=some (r,e')->iB h e ->
 ∃ h',cU P n c e.T h r e'.T h'/\iB h' e'/\Calm e e' h h'/\∀ c0,c=.loop c0->pL P n c0 e.T h r e'.T h'
theorem MM {h:aB} {e:ES} {d:Option Nat} {v:V} (he:iB h e):iB h (e.put d v):=by cases d <;> exact he
theorem QH {e:ES} {d:Option Nat} {v:V} : (e.put d v).w=e.w:=by cases d <;> rfl
theorem PV {h:aB} {e e':ES} {b:aB} {d:Option Nat} {v:V} (x:Calm e e' h b):Calm e (e'.put d v) h b:=⟨x.1,λid a hw=>x.2 id a (by rw[QH] at hw;exact hw)⟩
theorem BW {a:Nat} (h:Nat.ble a 8000=true):a+1 < 2 ^ 13:=by
 have:=Nat.le_of_ble_eq_true h
 omega
theorem Rf {h:aB} {e e':ES} {v i:V} {aA:bk} {rd:List Nat} {c:Rec} (he:iB h e) (a:Hk v aA rd e=some (i,e',c)) :
  i=v/\e'.T=e.T/\e'.V=aA.view h.view h.length/\e'.n=(aA.apply h).length/\c=⟨rd,aA.wr,false,h.length,(aA.apply h).length⟩/\e'.w=aA.wr ++ e.w:=by
 obtain⟨h1,b⟩:=he
 unfold Hk at a
 cases aA with
 | none =>
  simp only[U7,Vb] at a
  obtain⟨rfl,rfl,rfl⟩:=a
  exact⟨rfl,rfl,h1,b,by rw[b];rfl,rfl⟩
 | new o =>
  simp only at a
  split at a
  .rename_i d
   simp only[U7,Vb] at a
   obtain⟨rfl,rfl,rfl⟩:=a
   refine⟨rfl,rfl,?_,by simp[fZ,b],by simp[fZ,b,bk.wr],rfl⟩
   funext k
   simp only[ES.V,bk.view,View.set]
   rw[cz.mW _ _ _ _ _ _ (BW d),b]
   have:=congrFun h1 k
   simp only[ES.V] at this
   rw[this]
  .simp at a
 | fj id o =>
  simp only at a
  split at a
  .rename_i d
   simp only[U7,Vb] at a
   obtain⟨rfl,rfl,rfl⟩:=a
   refine⟨rfl,rfl,?_,by simp[fZ,b],by simp[fZ,b,bk.wr],rfl⟩
   funext k
   simp only[ES.V,bk.view,View.set]
   rw[cz.mW _ _ _ _ _ _ (BW d)]
   have:=congrFun h1 k
   simp only[ES.V] at this
   rw[this]
  .simp at a
 | ee id o =>
  simp only at a
  split at a
  .rename_i f g
   simp only[U7,Vb] at a
   obtain⟨rfl,rfl,rfl⟩:=a
   refine⟨rfl,rfl,?_,by simp[fZ,b],by simp[fZ,b,bk.wr],rfl⟩
   funext k
   simp only[ES.V,bk.view,View.set]
   rw[cz.mW _ _ _ _ _ _ (BW f),cz.mW _ _ _ _ _ _ (BW g),b]
   have:=congrFun h1 k
   simp only[ES.V] at this
   rw[this]
  .simp at a
theorem Sm {o:Oper} {e e':ES} {h:aB} {s:SI} {v:V} {c:Rec} (i:dg n all e.T o=some true) (j:∀ v aA rd,sI P s e.T h.view h.length=some (v,aA,rd)->bZ P o e.T h.view h.length=some (v,aA,rd))
  (he:iB h e) (b:Mv P s e=some (v,e',c)):∃ d,dz P n all o e.T h v d c.rd c.wr c.call/\iB d e'/\e'.T=e.T/\Calm e e' h d/\kA (sF P s) c.rd c.wr c.call h.length d.length/\c.lo=h.length/\c.hi=d.length:=by
 unfold Mv at b
 rw[LH,he.1,he.2] at b
 split at b
 .rename_i v0 aA rd f
  obtain⟨rfl,g1,g2,g3,rfl,g5⟩:=Rf he b
  have g:=j _ _ _ f
  have st:=dz.op (P:=P) (n:=n) (all:=all) i g
  refine⟨aA.apply h,st,⟨?_,g3⟩,g1,⟨sR st,λid a hw=>?_⟩,⟨λk=>?_,λh1=>?_⟩,rfl,rfl⟩
  .rw[k5 (λid a=>(mr g id a).1)];exact g2
  .rw[g5] at hw
   simp only[VK,not_or] at hw
   exact⟨q5 st a hw.1,hw.2⟩
  .obtain⟨rfl,rfl⟩:=(rz f).1 k
   exact⟨rfl,rfl,rfl,rfl⟩
  .rcases Vw (sF P s) 1 with l | l
   .obtain⟨rfl,rfl⟩:=(rz f).1 (by omega);rfl
   .exact(rz f).2 (by omega)
 .simp at b
theorem Tz {call:ib} (j:kh P call) {q:Fz} {o:Oper} {e e':ES} {h:aB} {v:V} {c:Rec} (r:dg n all e.T o=some true) (he:iB h e) (a:eB P call (lV P q o) e=some (v,e',c)) :
  ∃ k,dz P n all o e.T h v k c.rd c.wr c.call/\iB k e'/\e'.T=e.T/\Calm e e' h k/\kA (iF P false (lV P q o)) c.rd c.wr c.call h.length k.length/\c.lo=h.length/\c.hi=k.length:=by
 rcases zy P q o with ⟨f,args,C,m,i | i⟩ | ⟨t,x,m,i⟩ | ⟨s,d,x,m,u,i⟩ | i
 rotate_left
 .rw[i] at a
  simp[eB] at a
 rotate_right
 .rw[i] at a ⊢
  simp only[eB,No] at a
  split at a
  .rename_i g first cap A
   rw[AE] at a
   rw[SX.cI] at A
   split at a
   .rename_i v0 G D
    obtain⟨l,k,hr,p,B,w⟩:=j _ _ _ _ _ _ D he
    simp only[U7,Vb] at a
    obtain⟨rfl,rfl,rfl⟩:=a
    exact⟨k,.call r m A l hr B w,p,rfl,⟨hr.1,λid y hw=>by
     simp only[VK,not_or] at hw
     exact⟨B id y hw.1,hw.2⟩⟩,QN (by simp[iF]),he.2,p.2⟩
   .simp at a
  .simp at a
 .rw[i] at a ⊢
  simp only[eB,Mv,LH,sI,SX.cI] at a
  split at a
  .rename_i v0 aA rd b
   split at b
   .rename_i l
    simp only[U7,Vb] at b
    obtain⟨rfl,rfl,rfl⟩:=b
    simp only[Hk,U7,Vb] at a
    obtain⟨rfl,rfl,rfl⟩:=a
    exact⟨h,.iZ r m l,he,rfl,Calm.refl _ _,⟨λ_=>⟨rfl,rfl,rfl,rfl⟩,λ_=>rfl⟩,he.2,he.2⟩
   .simp at b
  .simp at a
 .rw[i] at a ⊢
  obtain⟨ty,h1,E,F⟩:=zL u
  simp only[eB,Mv,LH,sI,SX.cI] at a
  split at a
  .rename_i v0 aA rd b
   split at b
   .rename_i st z
    simp only[U7,Vb] at b
    obtain⟨rfl,rfl,rfl⟩:=b
    simp only[Hk,U7,Vb] at a
    obtain⟨rfl,rfl,rfl⟩:=a
    exact⟨h,.fJ r m h1 E F z,he,rfl,Calm.refl _ _,⟨λ_=>⟨rfl,rfl,rfl,rfl⟩,λ_=>rfl⟩,he.2,he.2⟩
   .simp at b
  .simp at a
 .rw[i] at a ⊢
  exact Sm (s:=yR P q.fr (comp P o)) r (λv aA rd b=>JS (JZ b)) he a
theorem SJ {o:Oper} (a:q9 n o=true) (b:n<=8000):∀ t,o.dst=some t->t < 8000:=by
 intro t c
 unfold q9 at a
 rw[c] at a
 have:t < n:=by simpa using a
 exact VB this b
theorem Ro {c:Rec} {a b:Nat} (h1:c.lo=a) (d:c.hi=b):c=⟨c.rd,c.wr,c.call,a,b⟩:=by cases c;subst h1;subst d;rfl
theorem GW {call:ib} (i:kh P call) (N:n<=8000) {S:Fz} (g:Option (Nat × Bool)):∀ (l:List (Option Nat × SB)) (os:List Oper) (e e':ES) (h:aB) (a u:List Rec),
  dq P n all S os=some (l.map λ(d,b)=>⟨d,g,b⟩)->(∀ d w,g=some (d,w)->e.T d=.val (.bool w)/\(l.all λx=>x.1 != some d)=true)->iB h e->JN P call l a e=some (e',u) ->
  ∃ f z,u=a ++ f/\Tr P n all os e.T h f e'.T z/\iB z e'/\Calm e e' h z/\fI P false (l.map λ(d,b)=>⟨d,g,b⟩) f
 | [],os,e,e',h,a,u,A,B,he,k=>by
  have:=kM A;subst this
  simp only[JN,U7,Vb] at k;obtain⟨rfl,rfl⟩:=k
  exact⟨[],h,by simp,.nil,he,Calm.refl _ _,.nil⟩
 | (d,b) :: l,os,e,e',h,a,u,A,B,he,k=>by
  obtain⟨o,r,rfl,h1,U⟩:=lC A
  obtain⟨O,j,q,s⟩:=sO h1
  simp only at j q s
  have C:dg n all e.T o=some true:=by
   cases g with
   | none=>exact AV s
   | some p =>
    obtain⟨D,w⟩:=p
    have:=(kU (T:=e.T) s).1 w (B D w rfl).1
    rw[this];simp
  simp only[JN] at k
  rw[q] at k
  split at k
  .rename_i v Q c V
   obtain⟨E,st,F,G,H,W,I,J⟩:=Tz i C he V
   have m:(Q.put d v).T=e.T.put o.dst v:=by
    rw[ES.QX (by rw[j];exact SJ O N),G,j]
   obtain⟨f,K,X,R,L,y,M⟩:=GW i N g l r (Q.put d v) e' E _ u U (λD w eq=>by
    have:=B D w eq
    simp only[Wb,Vd,Xe,ne_eq] at this
    refine⟨?_,this.2.2⟩
    rw[<-this.1,m,<-j]
    cases d with
    | none=>rfl
    | some t=>simp only[Env.put];rw[U8];intro e;subst e;exact this.2.1 rfl) (MM F) k
   rw[m] at R
   refine⟨_,K,?_,.cons st O R,L,(PV H).trans y,M.cons (by rw[q];exact W)⟩
   rw[X,VR,<-Ro I J];rfl
  .simp at k
theorem Gh {E:Fz} (C:n<=8000) (d:Nat) (w:Bool) (h:aB):∀ (l:List (Option Nat × SB)) (os:List Oper) (e e':ES) (a m:List Rec),
  dq P n all E os=some (l.map λ(g,b)=>⟨g,some (d,w),b⟩)->(e.T d=.val (.bool !w)∨e.T d=.bm [])->(l.all λx=>x.1 != some d)=true->iB h e->v8 l a e=(e',m) ->
  ∃ c,m=a ++ c/\Tr P n all os e.T h c e'.T h/\iB h e'/\e'.w=e.w/\fI P false (l.map λ(g,b)=>⟨g,some (d,w),b⟩) c
 | [],os,e,e',a,m,u,j,s,he,p=>by
  have:=kM u;subst this
  simp only[v8,Vb] at p;obtain⟨rfl,rfl⟩:=p
  exact⟨[],by simp,.nil,he,rfl,.nil⟩
 | (g,b) :: l,os,e,e',a,m,u,j,s,he,p=>by
  obtain⟨o,r,rfl,h1,F⟩:=lC u
  obtain⟨q,f,v,k⟩:=sO h1
  simp only at f v k
  have y:dg n all e.T o=some false:=by
   rcases j with j | j
   .rw[(kU (T:=e.T) k).1 _ j];cases w <;> rfl
   .exact(kU (T:=e.T) k).2 j
  simp only[Wb,Vd,Xe,ne_eq] at s
  have i:(e.put g (.bm [])).T=e.T.put o.dst (.bm []):=by
   rw[ES.QX (by rw[f];exact SJ q C),f]
  simp only[v8] at p
  obtain⟨c,G,D,z,A,B⟩:=Gh C d w h l r (e.put g (.bm [])) e' _ m F (by
   have:(e.put g (.bm [])).T d=e.T d:=by
    rw[i,<-f]
    cases g with
    | none=>rfl
    | some t=>simp only[Env.put];rw[U8];intro e;subst e;exact s.1 rfl
   rw[this];exact j) s.2 (MM he) p
  rw[i] at D
  refine⟨_,?_,Tr.cons (.skip y) q D,z,by rw[A,QH],B.cons (r:=⟨[],[],false,h.length,h.length⟩) ⟨λ_=>⟨rfl,rfl,rfl,rfl⟩,λ_=>rfl⟩⟩
  rw[G,VR,Q0,he.2];rfl
theorem D3 {j:Fz} (k:n<=8000) {d:Nat} {w:Bool} {h:aB} {l:List (Option Nat × SB)} {os:List Oper} {e e':ES} {a f:List Rec}
  (m:dq P n all j os=some (l.map λ(g,b)=>⟨g,some (d,w),b⟩)) (o:e.T d=.val (.bool !w)∨e.T d=.bm []) (p:(l.all λx=>x.1 != some d)=true) (he:iB h e) (q:v8 l a e=(e',f)) :
  ∃ c i,f=a ++ c/\Tr P n all os e.T h c e'.T i/\iB i e'/\Calm e e' h i/\fI P false (l.map λ(g,b)=>⟨g,some (d,w),b⟩) c:=by
 obtain⟨c,h1,r,s,t,u⟩:=Gh k d w h l os e e' a f m o p he q
 exact⟨c,h,h1,r,s,⟨Vh _,λid _ hw=>⟨rfl,by rw[t] at hw;exact hw⟩⟩,u⟩
theorem TC {call:ib} (i:kh P call) (m:n<=8000) {s:Fz} {g:SG} {os:List Oper} {e e':ES} {h:aB} {a o:List Rec} (k:dq P n all s os=some g.flat) (c:tx g=true) (he:iB h e) (f:eG P call g a e=some (e',o)) :
  ∃ j q,o=a ++ j/\Tr P n all os e.T h j e'.T q/\iB q e'/\Calm e e' h q/\fI P false g.flat j:=by
 unfold eG at f
 unfold SG.flat at k ⊢
 unfold tx at c
 split at f
 .rename_i r
  rw[r] at k ⊢
  exact GW i m none g.ops os e e' h a o k (λd w e=>by simp at e) he f
 .rename_i d want r
  rw[r] at k c ⊢
  simp only at c
  unfold Nz at f
  split at f
  .rename_i b p
   split at f
   .rename_i l
    simp only[U7] at f
    have e':b = !want:=by cases b <;> cases want <;> simp_all
    subst e'
    exact D3 m k (.inl p) c he f
   .rename_i l
    have e':b=want:=by cases b <;> cases want <;> simp_all
    subst e'
    exact GW i m (some (d,b)) g.ops os e _ h a o k (λt w e=>by simp at e;obtain⟨rfl,rfl⟩:=e;exact⟨p,c⟩) he f
  .rename_i p
   simp only[U7] at f
   exact D3 m k (.inr p) c he f
  .simp at f
theorem L1 {call:ib} (b:kh P call) (z:n<=8000) {A:Fz} : ∀ (gs:List SG) (os:List Oper) (e e':ES) (h:aB) (a i:List Rec),dq P n all A os=some (j3 gs)->gs.all tx=true->iB h e->MI P call gs a e=some (e',i) ->
  ∃ c k,i=a ++ c/\Tr P n all os e.T h c e'.T k/\iB k e'/\Calm e e' h k/\fI P false (j3 gs) c
 | [],os,e,e',h,a,i,j,_,he,d=>by
  have:=kM j;subst this
  simp only[MI,U7,Vb] at d;obtain⟨rfl,rfl⟩:=d
  exact⟨[],h,by simp,.nil,he,Calm.refl _ _,.nil⟩
 | g :: gs,os,e,e',h,a,i,j,f,he,d=>by
  simp only[j3,VF,List.flatten_cons] at j ⊢
  simp only[Wb,Vd] at f
  obtain⟨F,B,rfl,h1,C⟩:=qO j
  simp only[MI] at d
  split at d
  .rename_i D E l
   obtain⟨G,m,o,p,q,r,s⟩:=TC b z h1 f.1 he l
   obtain⟨H,t,u,v,w,x,y⟩:=L1 b z gs B D e' m E i C f.2 q d
   exact⟨_,t,by rw[u,o,VR],p.append v,w,r.trans x,s.append y⟩
  .simp at d
theorem Om {ls:List Nat} {i k x y:Nat} (a:i < k) (b:ls[i]?=some x) (c:ls[k]?=some y) (d:ordered (fo all []) i k=false) (h:¬ (x=0∨y=0∨(x<=1/\y<=1))):(i,k)∈BA all ls:=by
 unfold BA
 simp only[List.mem_flatten,Vv]
 refine⟨_,⟨(x,i),by rw[V7];exact b,rfl⟩,?_⟩
 simp only[Vv,VV]
 refine⟨(y,k),⟨by rw[V7];exact c,?_⟩,rfl⟩
 simp only[a,decide_true,d,Xa,V3,Xc,Bool.or_eq_false_iff,beq_eq_false_iff_ne,Bool.and_eq_false_iff,WA]
 omega
theorem Pu {ls:List Nat} {d:List Rec} (h:MP d (BA all ls)=true) (v:ls.length=d.length) (hr:∀ (i x:Nat) (r:Rec),ls[i]?=some x->d[i]?=some r->kA x r.rd r.wr r.call r.lo r.hi):tP all d:=by
 intro i k a b l m n t
 have hi:i < d.length:=(Vf.1 m).1
 have hk:k < d.length:=(Vf.1 n).1
 have j:ls[i]?=some (ls[i]'(by omega)):=U6 (by omega)
 have o:ls[k]?=some (ls[k]'(by omega)):=U6 (by omega)
 generalize ls[i]'(by omega)=x at j
 generalize ls[k]'(by omega)=y at o
 have q:=hr i _ a j m
 have s:=hr k _ b o n
 by_cases f:x=0∨y=0∨(x<=1/\y<=1)
 .rcases f with h1 | h1 | h1
  .obtain⟨g,e,p,u⟩:=q.1 h1
   exact⟨λid c=>by simp[e] at c,λid _=>by simp[g],λf=>by simp[p] at f,λ_=>e,λid _ j=>by omega⟩
  .obtain⟨g,e,p,u⟩:=s.1 h1
   exact⟨λid _=>by simp[g],λid c=>by simp[e] at c,λ_=>e,λf=>by simp[p] at f,λid c=>by simp[e] at c⟩
  .have g:=q.2 h1.1
   have e:=s.2 h1.2
   exact⟨λid c=>by simp[g] at c,λid c=>by simp[e] at c,λ_=>e,λ_=>g,λid c=>by simp[e] at c⟩
 .have:=Vr.1 h _ (Om l j o t f)
  simp only[m,n] at this
  exact NV this
theorem RX (hm:P.follows .mixedOrders=true) {call:ib} (g:kh P call) (D:n<=8000) {y:List Nat} {id:Nat} {ops:Array Oper} {draw:Bool} {z:DC} {run:w7} {e e':ES} {r:Exit} {h:aB}
  (c:G8 P n y ops.toList draw=some z) (he:iB h e) (a:lZ P call run z e=some (r,e')) :
  ∃ f,cU P n (.region id ops draw) e.T h r e'.T f/\iB f e'/\Calm e e' h f:=by
 unfold G8 at c
 split at c
 .simp at c
 .rename_i l E
  split at c
  .simp at c
  .rename_i j
   have j:(group l).all tx=true:=by simpa using j
   have p:dq P n ops.toList ⟨y,false⟩ ops.toList=some (j3 (group l)):=by rw[fT];exact E
   have key:∀ q,lZ P call run (.region q (group l)) e=some (r,e')->(draw=true->lL ops.toList=true/\q=BA ops.toList (l.map λs=>iF P false s.b)) ->
     ∃ f,cU P n (.region id ops draw) e.T h r e'.T f/\iB f e'/\Calm e e' h f:=by
    intro q a t
    simp only[lZ,J2] at a
    split at a
    .rename_i F d u
     split at a
     .rename_i m
      simp only[U7,Vb] at a
      obtain⟨rfl,rfl⟩:=a
      obtain⟨A,f,B,C,hk,v,k⟩:=L1 g D (group l) ops.toList e F h [] d p j he u
      simp only[Wp] at B
      subst B
      rw[fT] at k
      refine⟨f,?_,hk,v⟩
      cases o:draw with
      | false=>simpa using FJ (id:=id) C
      | true =>
       obtain⟨h1,rfl⟩:=t o
       have w:tP ops.toList d:=Pu m (by simpa using k.1) (λi x r a hr=>by
        simp only[U9,Vk] at a
        obtain⟨s,G,rfl⟩:=a
        exact k.2 i s r G hr)
       simpa using xF hm (id:=id) C h1 w
     .simp at a
    .simp at a
   split at c
   .rename_i o
    split at c
    .rename_i H
     simp at c;subst c
     exact key _ a (λ_=>⟨H,rfl⟩)
    .simp at c
   .rename_i o
    simp at c;subst c
    exact key _ a (λe=>absurd e o)
theorem Qe (hm:P.follows .mixedOrders=true) {call:ib} (q:kh P call) {run:w7} (f:wA P run):wA P (lZ P call run):=by
 intro n p c J k o e e' r h g he
 cases c with
 | skip =>
  simp[iR] at k;subst k
  simp only[lZ,NJ,U7,Vb] at g
  obtain⟨rfl,rfl⟩:=g
  exact⟨h,.skip,he,Calm.refl _ _,λ_ h=>by simp at h⟩
 | region id ops draw =>
  obtain⟨G,a,b,d⟩:=RX (id:=id) hm q o k he g
  exact⟨G,a,b,d,λ_ h=>by simp at h⟩
 | seq x y =>
  simp only[iR] at k
  split at k
  .rename_i a b h1 B
   simp at k;subst k
   simp only[lZ,SY] at g
   split at g
   .rename_i s m
    obtain⟨i,l,j,c1,w⟩:=f n p x a h1 o e s .normal h m he
    obtain⟨t,E,u,c2,F⟩:=f n p y b B o s e' r i g j
    exact⟨t,l.seq E,u,c1.trans c2,λ_ h=>by simp at h⟩
   .rename_i v
    obtain⟨i,l,j,c1,w⟩:=f n p x a h1 o e e' r h g he
    refine⟨i,l.Jz (λe=>?_),j,c1,λ_ h=>by simp at h⟩
    subst e
    exact absurd g (v e')
  .simp at k
 | cond K x y =>
  simp only[iR] at k
  split at k
  .rename_i a b h1 B
   simp at k;subst k
   simp only[lZ,QQ,SX.cI] at g
   split at g
   .rename_i C
    obtain⟨i,l,j,c1,w⟩:=f n p x a h1 o e e' r h g he
    exact⟨i,.cond C l,j,c1,λ_ h=>by simp at h⟩
   .rename_i C
    obtain⟨i,l,j,c1,w⟩:=f n p y b B o e e' r h g he
    exact⟨i,.cond C l,j,c1,λ_ h=>by simp at h⟩
   .simp at g
  .simp at k
 | block id c =>
  simp only[iR,Vk] at k
  obtain⟨a,h1,rfl⟩:=k
  simp only[lZ,NO] at g
  split at g
  .rename_i H s m
   simp only[U7,Vb] at g
   obtain⟨rfl,rfl⟩:=g
   obtain⟨i,l,j,c1,w⟩:=f n p c a h1 o e s H h m he
   exact⟨i,l.block,j,c1,λ_ h=>by simp at h⟩
  .simp at g
 | loop c =>
  have D:=k
  simp only[iR,Vk] at k
  obtain⟨a,h1,rfl⟩:=k
  simp only[lZ,QE] at g
  split at g
  .rename_i s m
   obtain⟨i,l,j,c1,w⟩:=f n p c a h1 o e s .normal h m he
   obtain⟨t,E,u,c2,F⟩:=f n p (.loop c) (.loop a) D o s e' r i g j
   have z:=pL.step l (F c rfl)
   exact⟨t,.loop z,u,c1.trans c2,λI A=>by simp only[Code.loop.injEq] at A;subst A;exact z⟩
  .rename_i v
   obtain⟨i,l,j,c1,w⟩:=f n p c a h1 o e e' r h g he
   have z:=pL.out l (λe=>by subst e;exact absurd g (v e'))
   exact⟨i,.loop z,j,c1,λI A=>by simp only[Code.loop.injEq] at A;subst A;exact z⟩
 | exit id =>
  simp[iR] at k;subst k
  simp only[lZ,U7,Vb] at g
  obtain⟨rfl,rfl⟩:=g
  exact⟨h,.exit,he,Calm.refl _ _,λ_ h=>by simp at h⟩
 | ret =>
  simp[iR] at k;subst k
  simp only[lZ,U7,Vb] at g
  obtain⟨rfl,rfl⟩:=g
  exact⟨h,.ret,he,Calm.refl _ _,λ_ h=>by simp at h⟩
 | _=>simp[iR] at k
theorem EJ:∀ (vs:List V) (i:Nat) (t:cz V),i+vs.length<=8000->∀ k,(mB vs i t).get .any k=if i<=k/\k < i+vs.length then vs.getD (k - i) .any else t.get .any k
 | [],i,t,h,k=>by
  rw[mB,U8 (by simp only[Vy];omega)]
 | v :: vs,i,t,h,k=>by
  simp only[Vm] at h
  rw[mB,EJ vs (i+1) _ (by omega),cz.mW _ _ _ _ _ _ (by simp only[deep];omega)]
  simp only[Vm]
  by_cases h1:k=i
  .subst h1;rw[U8 (by omega),Va rfl,Va (by omega)];simp
  .by_cases a:i+1<=k/\k < i+1+vs.length
   .rw[Va a,Va (by omega)]
    have:k - i=(k - (i+1))+1:=by omega
    rw[this];rfl
   .rw[U8 a,U8 h1,U8 (by omega)]
theorem Is (vs:List V) (h:vs.length<=8000):(mB vs 0 .nil).get .any=kP vs:=by
 funext k
 rw[EJ vs 0 .nil (by omega)]
 simp only[kP,We,true_and,V2,Nat.sub_zero]
 split
 .rfl
 .rename_i hk
  rw[U5,Vx (by omega)];rfl
theorem RO {e:ES} {h:aB} {r:ResultVar} {rest:List ResultVar} {l:List SR} (he:iB h e) (c:fu P (r :: rest)=some l):∃ s d,l=s :: d/\fu P rest=some d/\∀ v,O3 s e=some v->sd P e.T h r=some v:=by
 cases r with
 | tmp t =>
  simp only[fu,Vk] at c
  obtain⟨d,h1,rfl⟩:=c
  exact⟨.tmp t,d,rfl,h1,λv b=>b⟩
 | cell a t =>
  simp only[fu] at c
  split at c
  .rename_i k d h1 m
   simp at c;subst c
   refine⟨.cell a k,d,rfl,m,λv b=>?_⟩
   simp only[O3] at b
   simp only[sd,l0,vW h1]
   rw[he.1] at b
   split at b
   .rename_i id i j f
    split at b
    .rename_i es hH
     split at b
     .rename_i g
      rw[f];simp only[hH];rw[Va g,b];rfl
     .simp at b
    .simp at b
   .rename_i e j f
    rw[f];simp only;rw[b];rfl
   .simp at b
  .simp at c
theorem GO {e:ES} {h:aB} (he:iB h e):∀ (rs:List ResultVar) (l:List SR) (vs:List V),fu P rs=some l->vM l e=some vs->lR P e.T h rs=some vs
 | [],l,vs,a,hw=>by simp[fu] at a;subst a;simp[vM] at hw;subst hw;rfl
 | r :: rest,l,vs,a,hw=>by
  obtain⟨s,d,rfl,h1,f⟩:=RO (e:=e) (h:=h) he a
  simp only[vM] at hw
  split at hw
  .rename_i v b g c
   simp at hw;subst hw
   simp[lR,f v g,GO he rest d b h1 c]
  .simp at hw
def wx (P:Program) (tab:List (FuncId × DF)):Prop:=∀ p∈tab,∃ fz,FI P p.1 fz=some p.2
def vC (P:Program) (ext:zX):Prop:=∀ g vs H t,ext g vs H=some t->di P g=true/\∀ h:aB,h.view=H->cw P g vs h t h
theorem FZ {q:List (FuncId × DF)} {ext:zX} (N:wx P q) (z:vC P ext) {run:w7} (s:wA P run):kh P (E2 P q ext run):=by
 intro g vs e v e' h b he
 unfold E2 at b
 split at b
 .rename_i t u
  simp only[U7,Vb] at b
  obtain⟨rfl,rfl⟩:=b
  obtain⟨h1,C⟩:=z _ _ _ _ u
  exact⟨h1,h,C h he.1.symm,he,λ_ _ _=>rfl,λ_ hw=>by simp at hw⟩
 .split at b
  .rename_i A F K
   have x:=List.mem_of_find?_eq_some K
   have D:A=g:=by
    have:=List.find?_some K
    exact Nat.eq_of_beq_eq_true this
   subst D
   obtain⟨O,k⟩:=N _ x
   simp only at k
   unfold FI at k
   split at k
   .rename_i fn E
    split at k
    .rename_i c Q
     split at k
     .rename_i M rs h1 C R
      simp at k;subst k
      refine⟨R,?_⟩
      unfold SD at b
      split at b
      .rename_i hlen B
       have hlen:=Nat.le_of_ble_eq_true hlen
       have B:=Nat.le_of_ble_eq_true B
       simp only at hlen B
       unfold Sq at b
       split at b
       .rename_i v1 d f
        simp only[U7,Vb] at b
        obtain⟨rfl,rfl⟩:=b
        unfold Si at f
        have go:∀ (r:Exit) (p:ES),(r=.ret∨r=.normal)->run M ⟨mB vs 0 .nil,e.H,e.n,[]⟩=some (r,p)->(vM rs p).map (λvs=>(vz vs,p))=some (v1,d) ->
          ∃ i,cw P A vs h v1 i/\iB i d/\(∀ id,id < h.length->¬ id∈d.w->i.view id=h.view id):=by
         intro r p hr j o
         simp only[Vk,Vb] at o
         obtain⟨G,I,rfl,rfl⟩:=o
         obtain⟨i,z,y,J,_⟩:=s fn.ntmps O c M h1 B _ p r h j he
         have S:(ES.T ⟨mB vs 0 .nil,e.H,e.n,[]⟩)=kP vs:=Is vs (by omega)
         rw[S] at z
         refine⟨i,cw.JI E Q hlen z (by rcases hr with rfl | rfl <;> simp) ?_,y,λid m hw=>(J.2 id m hw).1⟩
         unfold LX
         rw[GO y _ _ _ C I]
         cases G with
         | nil=>rfl
         | cons a l=>cases l <;> rfl
        have done:(∃ i,cw P A vs h v1 i/\iB i d/\(∀ id,id < h.length->¬ id∈d.w->i.view id=h.view id)) ->
          ∃ i,cw P A vs h v1 i/\iB i ⟨d.L,d.H,d.n,d.w.filter λid=>Nat.blt id e.n⟩/\(∀ id,id < h.length->¬ id∈d.w.filter (λid=>Nat.blt id e.n)->i.view id=h.view id)/\∀ id,id∈d.w.filter (λid=>Nat.blt id e.n)->id < h.length:=by
         rintro⟨i,U,k2,V⟩
         refine⟨i,U,k2,λid m hw=>V id m (λhm=>hw ?_),λid hw=>?_⟩
         .rw[VV]
          exact⟨hm,by rw[he.2];exact Nat.ble_eq_true_of_le m⟩
         .rw[VV] at hw
          have:=Nat.le_of_ble_eq_true hw.2
          rw[he.2] at this;exact this
        split at f
        .rename_i p j;exact done (go _ _ (.inl rfl) j f)
        .rename_i p j;exact done (go _ _ (.inr rfl) j f)
        .simp at f
       .simp at b
      .simp at b
     .simp at k
    .simp at k
   .simp at k
  .simp at b
theorem I0 (hm:P.follows .mixedOrders=true) {a:List (FuncId × DF)} {ext:zX} (b:wx P a) (d:vC P ext):∀ k,wA P (Fi P a ext k)
 | 0=>λn g c i j l e e' r h hr he=>by simp[Fi] at hr
 | k+1=>by
  have f:=I0 hm b d k
  have:=Qe hm (FZ b d f) f
  exact this
end
inductive cM (h:aB):V->V->Prop
 | val (v:Value):cM h (.val v) (.val v)
 | emp (k:Nat):cM h (.emp k) (.aS [])
 | sl (id off len esz z:Nat) (es es':List (List V)):h.view id=.arr z es->off+len<=es.length->es'.length=len ->
  (∀ i,i < len->(es'.getD i []).length=(es.getD (off+i) []).length) ->
  (∀ i j,i < len->j < (es'.getD i []).length->cM h ((es.getD (off+i) []).getD j .any) ((es'.getD i []).getD j .any))->cM h (.sl id off len esz) (.aS es')
 | agg (cs cs':List V):cs'.length=cs.length->(∀ i,i < cs.length->cM h (cs.getD i .any) (cs'.getD i .any))->cM h (.agg cs) (.agg cs')
 | bm (cs cs':List V):cs'.length=cs.length->(∀ i,i < cs.length->cM h (cs.getD i .any) (cs'.getD i .any))->cM h (.bm cs) (.bm cs')
theorem R7 {h:aB} {Z:Nat->Prop} {μ B:Mu} {F:View} {hp:Array Obj} (hr:im Z μ hp (cat h F)) {v t:V} (fr:cM h v t):∀ {x:Value},ax Z μ hp v x->ax (jM μ) B hp t x:=by
 have l:∀ id,h.view id≠.dead->cat h F id=h.view id:=λid D=>by simp only[cat];rw[Va (jD D)]
 induction fr with
 | val v=>intro x d;cases d with | val _ s=>exact .val _ s
 | emp k=>intro x d;cases d with | emp _ a=>exact .hU a 0 (λ_=>rfl)
 | sl id off len esz z es es' hH hle hlen E _ m =>
  intro x d
  cases d with
  | qB _ _ _ a =>
   have:es'=[]:=WB.1 hlen
   subst this
   exact .hU a 0 (λ_=>rfl)
  | sl _ _ _ _ b o0 cap c e f hm C J K =>
   have o:=hr.obj id
   rw[l id (by rw[hH];simp),hH] at o
   obtain⟨rfl,_,G,H⟩:=o b o0 esz hm
   have d:∀ i,∃ ci:Nat->Value,∀ j,j < esz->i < len->cellAt hp b (o0+off * esz+i * esz+j)=some (ci j)/\ax Z μ hp ((es.getD (off+i) []).getD j .any) (ci j):=by
    intro i
    by_cases hi:i < len
    .obtain⟨ci,u⟩:=nI (n:=esz) (p:=λj x=>cellAt hp b (o0+off * esz+i * esz+j)=some x/\ax Z μ hp ((es.getD (off+i) []).getD j .any) x) (λj g=>by
      obtain⟨x,d,s⟩:=H (off+i) j (by omega) g
      rw[VO,<-WV] at d
      exact⟨x,d,s⟩)
     exact⟨ci,λj g _=>u j g⟩
    .exact⟨λ_=>undef,λj _ h=>absurd h hi⟩
   obtain⟨I,q⟩:=Classical.axiomOfChoice d
   have r:∀ i,i < es'.length->(es'.getD i []).length=esz:=λi hi=>by rw[E i (by omega)];exact G _ (by omega)
   have:=ax.aS (Z:=jM μ) (μ:=B) (hp:=hp) es' b (o0+off * esz) esz cap I ⟨id,o0,esz,hm⟩ (by omega) r
    (λi j hi g=>(q i j g (by omega)).1) (λi j hi g=>m i j (by omega) (by rw[r i hi];exact g) (q i j g (by omega)).2)
   rw[hlen] at this
   exact this
 | agg cs w hlen _ m =>
  intro x d
  cases d with
  | agg _ y h1 A=>exact .agg _ _ (by omega) (λi hi=>m i (by omega) (A i (by omega)))
 | bm cs w hlen _ m =>
  intro x d
  cases d with
  | bm _ y h1 A=>exact .bm _ _ (by omega) (λi hi=>m i (by omega) (A i (by omega)))
def cx (P:Program) (f:FuncId) (vs:List V) (t:V):Prop :=
 ∀ Z μ (w:World) (xs:List Value),gu Z μ w.heap vs xs->(∀ b,Z b->b < w.heap.size) ->
  Calls P f xs.toArray w λe w'=>∃ x Z',e=.returned x/\(∀ ν,ax Z' ν w'.heap t x)/\ey w w'/\(∀ b,Z' b->w.heap.size<=b/\b < w'.heap.size)/\fG w.heap w'.heap (λ_=>False)
theorem cx.pure {P:Program} {f:FuncId} {vs:List V} {t:V} (h:cx P f vs t):ay P f vs t:=by
 intro Z μ w xs a d
 refine(h Z μ w xs a d).mono ?_
 rintro e w' ⟨x,g,rfl,i,j,c,k⟩
 exact⟨x,λb=>Z b∨g b,rfl,λl=>(i l).mono ⟨λ_ h=>.inr h,λ_ _=>rfl,λ_ _ h=>h,fk.refl _⟩,j,λ_ h=>.inl h,λb m=>m.imp id (c b),k⟩
theorem cx.vN {P:Program} {f:FuncId} {vs:List V} {r t:V} {k:aB} (m:∀ v∈vs,Tree v) (n:cw P f vs [] r k) (p:cM k r t):cx P f vs t:=by
 intro Z μ w xs a q
 have c:gu Z (λ_=>none) w.heap vs xs:=⟨a.1,λi hi=>As (a.2 i hi) (by
  simp only[U5,U6 hi,Vo]
  exact m _ (Vg _))⟩
 have g:im Z (λ_=>none) w.heap (cat [] λ_=>.dead):=by
  rw[JY]
  exact⟨λ_=>trivial,λi j b o s y z _ h=>by simp at h,λid b o s h=>by simp at h,q,λid b o s h=>by simp at h⟩
 refine(n.2 Z _ _ w xs c g (λ_ _ _=>rfl)).mono ?_
 rintro e w' ⟨x,A,μ',rfl,u,l,hex,_⟩
 refine⟨x,jM μ',rfl,λB=>R7 l p u,hex.same,?_,λb d _=>hex.frame b d (by rintro⟨_,_,_,h⟩;simp at h)⟩
 rintro b ⟨id,o,s,d⟩
 rcases hex.AX _ _ _ _ d with h1 | ⟨_,h1 | ⟨_,_,_,h1⟩⟩
 .simp at h1
 .exact⟨h1,l.lt _ _ _ _ d⟩
 .simp at h1
theorem cx.of {P:Program} {f:FuncId} {vs:List V} {t:V} (b:∀ v∈vs,Tree v) (h:aw P f vs (λ_=>.dead) λr H'=>∀ a:aB,a.view=H'->cM a r t):cx P f vs t:=by
 obtain⟨r,a,c,_,d⟩:=h.2 [] EK
 exact cx.vN b c (d a rfl)
theorem cw.yX {P:Program} {f:FuncId} {j vs:List V} {t:V} {h:aB} (v:cx P f j t) (y:j.length=vs.length)
  (l:∀ i,i < vs.length->Fr h (vs.getD i .any) (j.getD i .any)):cw P f vs h t h:=by
 refine⟨Vh _,λZ μ F w xs c hr m=>?_⟩
 have n:gu (λb=>Z b∨jM μ b) μ w.heap j xs:=⟨by rw[y,c.1],λi hi=>Gs hr (l i (by omega)) (c.2 i (by omega))⟩
 have p:∀ b,(Z b∨jM μ b)->b < w.heap.size:=by
  rintro b (a | ⟨id,o,s,a⟩)
  .exact hr.cQ b a
  .exact hr.lt _ _ _ _ a
 refine(v _ μ w xs n p).mono ?_
 rintro e w' ⟨x,u,rfl,z,q,d,k⟩
 have hm:gz Z (λb=>Z b∨u b) μ μ w.heap w'.heap:=⟨λ_ h=>.inl h,λb a=>k b (hr.cQ b a) (λx=>x),λ_ _ h=>h,k.qw⟩
 refine⟨x,λb=>Z b∨u b,μ,rfl,(z μ).mono ⟨λ_ h=>.inr h,λ_ _=>rfl,λ_ _ h=>h,fk.refl _⟩,⟨λid=>(hr.obj id).mono hm rfl (λb o s g=>k b (hr.lt _ _ _ _ g) (λx=>x)),hr.inj,λid b o s g=>VB (hr.lt _ _ _ _ g) q.size,λb a=>?_,λid b o s g r=>?_⟩,
  ⟨q,hm,λb a _=>k b a (λx=>x),λb a=>a.imp id (λh=>(d b h).1),λ_ _ _ _ h=>.inl h⟩,λ_ _=>rfl⟩
 .rcases a with a | a
  .exact VB (hr.cQ b a) q.size
  .exact(d b a).2
 .rcases r with a | a
  .exact hr.gO _ _ _ _ g a
  .have:=hr.lt _ _ _ _ g;have:=(d b a).1;omega
theorem av.yX {P:Program} {q:Bool} {f:FuncId} {H:View} {vs c:List V} {K:V->View->Prop} {v:cP (H,K)} {t:V} (d:cx P f c t) (a:di P f=true) (g:c.length=vs.length)
  (b:∀ i,i < vs.length->dh H (vs.getD i .any) (c.getD i .any)) (hk:K t H):av P q f vs H K v:=by
 unfold av
 cases q with
 | true=>exact⟨a,λh e=>⟨t,h,cw.yX d g (λi hi=>b i hi h e),λ_ _=>rfl,e ▸ hk⟩⟩
 | false =>
  refine⟨a,?_⟩
  rintro h rfl
  exact⟨t,h,cw.yX d g (λi hi=>b i hi h rfl),.refl _,hk⟩
noncomputable def wy (fz:V->Option V):List V->Option (List V)
 | []=>some []
 | v :: l=>match fz v,wy fz l with
  | some a,some b=>some (a :: b)
  | _,_=>none
noncomputable def Hy (fz:V->Option V):List (List V)->Option (List (List V))
 | []=>some []
 | v :: l=>match wy fz v,Hy fz l with
  | some a,some b=>some (a :: b)
  | _,_=>none
noncomputable def yQ (H:View):Nat->V->Option V
 | 0,_=>none
 | k+1,v=>match v with
  | .val x=>some (.val x)
  | .emp _=>some (.aS [])
  | .sl id off len _=>match H id with
   | .arr _ es=>if off+len<=es.length then (Hy (yQ H k) ((es.drop off).take len)).map .aS else none
   | _=>none
  | .agg cs=>(wy (yQ H k) cs).map .agg
  | .bm cs=>(wy (yQ H k) cs).map .bm
  | _=>none
theorem rE {d:V->Option V} : ∀ (l c:List V),wy d l=some c->c.length=l.length/\∀ i,i < l.length->d (l.getD i .any)=some (c.getD i .any)
 | [],c,h=>by simp only[wy,U7] at h;subst h;exact⟨rfl,λi hi=>by simp at hi⟩
 | v :: l,c,h=>by
  simp only[wy] at h
  split at h
  .rename_i a b h1 e
   simp only[U7] at h;subst h
   obtain⟨g1,g2⟩:=rE l b e
   refine⟨by simp[g1],λi hi=>?_⟩
   cases i with
   | zero=>exact h1
   | succ i=>exact g2 i (by simpa using hi)
  .simp at h
theorem Kh {d:V->Option V} : ∀ (l c:List (List V)),Hy d l=some c->c.length=l.length/\∀ i,i < l.length->wy d (l.getD i [])=some (c.getD i [])
 | [],c,h=>by simp only[Hy,U7] at h;subst h;exact⟨rfl,λi hi=>by simp at hi⟩
 | v :: l,c,h=>by
  simp only[Hy] at h
  split at h
  .rename_i a b h1 e
   simp only[U7] at h;subst h
   obtain⟨g1,g2⟩:=Kh l b e
   refine⟨by simp[g1],λi hi=>?_⟩
   cases i with
   | zero=>exact h1
   | succ i=>exact g2 i (by simpa using hi)
  .simp at h
theorem Kf (h:aB):∀ (k:Nat) (v t:V),yQ h.view k v=some t->cM h v t
 | 0,v,t,a=>by simp[yQ] at a
 | k+1,v,t,a=>by
  have b:=Kf h k
  simp only[yQ] at a
  split at a
  .simp only[U7] at a;subst a;exact .val _
  .simp only[U7] at a;subst a;exact .emp _
  .rename_i id off len esz
   split at a
   .rename_i z es hH
    split at a
    .rename_i hle
     simp only[Vk] at a
     obtain⟨es',he,rfl⟩:=a
     obtain⟨g1,g2⟩:=Kh _ _ he
     have hlen:es'.length=len:=by rw[g1];simp;omega
     have d:∀ i,i < len->((es.drop off).take len).getD i []=es.getD (off+i) []:=λi hi=>by
      simp[U5,Wo,hi]
     have g3:∀ i,i < len->wy (yQ h.view k) (es.getD (off+i) [])=some (es'.getD i []):=λi hi=>by
      rw[<-d i hi];exact g2 i (by rw[<-g1,hlen];exact hi)
     exact .sl id off len esz z es es' hH hle hlen (λi hi=>(rE _ _ (g3 i hi)).1) (λi j hi e=>b _ _ ((rE _ _ (g3 i hi)).2 j (by rw[<-(rE _ _ (g3 i hi)).1];exact e)))
    .simp at a
   .simp at a
  .simp only[Vk] at a
   obtain⟨l,c,rfl⟩:=a
   obtain⟨g1,g2⟩:=rE _ _ c
   exact .agg _ _ g1 (λi hi=>b _ _ (g2 i hi))
  .simp only[Vk] at a
   obtain⟨l,c,rfl⟩:=a
   obtain⟨g1,g2⟩:=rE _ _ c
   exact .bm _ _ g1 (λi hi=>b _ _ (g2 i hi))
  .simp at a
noncomputable def Q2:Option (V × ES)->Option V
 | some (v,e)=>yQ e.V 50 v
 | none=>none
noncomputable def zp (P:Program) (tab:List (FuncId × DF)) (ext:zX) (f:FuncId) (vs:List V):Option V :=
 Q2 (E2 P tab ext (Fi P tab ext 100000) f vs ⟨.nil,.nil,0,[]⟩)
theorem BZ {P:Program} (hm:P.follows .mixedOrders=true) {a:List (FuncId × DF)} {ext:zX} (c:wx P a) (d:vC P ext) {f:FuncId} {vs:List V} {t:V} (b:∀ v∈vs,Tree v) (h:zp P a ext f vs=some t) :
  cx P f vs t:=by
 unfold zp Q2 at h
 split at h
 .rename_i v e hr
  obtain⟨h1,g,i,j,_⟩:=FZ c d (I0 hm c d 100000) f vs _ v e [] hr ⟨by funext k;rfl,rfl⟩
  rw[j.1] at h
  exact cx.vN b i (Kf g 50 v t h)
 .simp at h
def E1 (P:Program) (fs:List (FuncId × List Nat)):List (FuncId × DF):=fs.filterMap λf=>(FI P f.1 f.2).map (f.1,·)
theorem HH (P:Program) (a:List (FuncId × List Nat)):wx P (E1 P a):=by
 intro p hp
 unfold E1 at hp
 obtain⟨f,_,h⟩:=Wz.1 hp
 simp only[Vk] at h
 obtain⟨d,h1,rfl⟩:=h
 exact⟨f.2,h1⟩
structure ae.de (g:ae):Prop where
 ai:g.ai.length<=24
 sX:1<=g.ao.length
 ao:g.ao.length<=16
 UH:1<=g.rules.length
 rules:g.rules.length<=40
 ic:0<=g.start
 start:g.start < g.ao.length
 left:∀ r∈g.rules,0<=r.left/\r.left < g.ao.length
 right:∀ r∈g.rules,r.right.length<=6
 sym:∀ r∈g.rules,∀ s∈r.right,gB g s=true
 prec:∀ r∈g.rules,-1<=r.prec/\r.prec < g.ai.length
theorem yO {g:ae} : ∀ (l:List aN) (top:Int),gC g l top=true->top<=(g.ao.length:Int) - 1/\∀ r∈l,0<=r.left/\r.left < g.ao.length/\ig g r=true
 | [],top,h=>by simp[gC] at h;exact⟨by omega,λr hr=>by simp at hr⟩
 | r :: l,top,h=>by
  simp only[gC,Vd,Vj] at h
  obtain⟨⟨⟨h1,d⟩,a⟩,b⟩:=h
  obtain⟨e,k2⟩:=yO l _ b
  have f:r.left<=(if r.left > top then r.left else top):=by split <;> omega
  have i:top<=(if r.left > top then r.left else top):=by split <;> omega
  refine⟨by omega,λc hr=>?_⟩
  rcases Vq.1 hr with rfl | hr
  .exact⟨h1,by omega,a⟩
  .exact k2 c hr
theorem aK {g:ae} (h:aO g=true):g.de:=by
 simp only[aO,jH,kp,Vd,Vj] at h
 obtain⟨⟨⟨⟨⟨⟨⟨h1,_⟩,⟨b,c⟩,_⟩,d⟩,e⟩,f⟩,i⟩,j⟩:=h
 have k:=(yO _ _ j).2
 have a:∀ r∈g.rules,r.right.length<=6/\-1<=r.prec/\r.prec < g.ai.length/\∀ s∈r.right,gB g s=true:=λr hr=>by
  have:=(k r hr).2.2
  simp only[ig,Vd,Vj,Vr,l8] at this
  exact⟨this.1.1.1,this.1.1.2,this.1.2,λs l=>(this.2 s l).1⟩
 exact⟨h1,b,c,d,e,f,i,λr hr=>⟨(k r hr).1,(k r hr).2.1⟩,λr hr=>(a r hr).1,λr hr=>(a r hr).2.2.2,λr hr=>⟨(a r hr).2.1,(a r hr).2.2.1⟩⟩
theorem ae.de.neg {g:ae} (h:g.de) {r:aN} (hr:r∈g.rules) {s:Int} (a:s∈r.right) (b:s < 0) : -1 - s < g.ao.length:=by
 have:=h.sym r hr s a
 simp only[gB] at this
 rw[U8 (by omega)] at this
 simpa using this
theorem GD (l:List Int) (is:List Bool) (t:Bool) (b:aH l) (c:∀ s∈l,bD s/\(s < 0->-1 - s < is.length)):ay Tryz.prog 95 [encI l,bK is,gb t] (gb (cp l is t)) :=
 ay.val (by
  intro v a;simp at a
  rcases a with rfl | rfl | rfl
  .exact eM _
  .exact fY _
  .exact .val _) (λH=>(SA l is t b c H).mono λr H' h=>h.1)
abbrev fb (is:List Bool):List (List V):=is.map λx=>[gb x]
theorem yz {h:aB} {id:Nat} {is:List Bool} (b:h.view id=.arr 1 (fb is)):cM h (.sl id 0 is.length 1) (bK is):=by
 refine .sl id 0 is.length 1 1 (fb is) _ b (by simp) (by simp) (λi hi=>by simp) (λi j hi a=>?_)
 rw[V2]
 have e:(fb is).getD i []=[gb is[i]]:=by simp[U5,hi]
 rw[e] at a ⊢
 have:j=0:=by simp at a;omega
 subst this
 exact .val _
theorem AW {H:View} {id n:Nat} {is:List Bool} (b:H id=.arr 1 (fb is)) (c:n=is.length):dh H (.sl id 0 n 1) (bK is):=by
 have d:∀ e∈fb is,∀ v∈e,Tree v:=by
  intro e he v b
  obtain⟨a,_,rfl⟩:=Vv.1 he
  rw[Wh] at b
  subst b
  exact .val _
 have:=dh.sl (off:=0) (len:=n) (esz:=1) b (by simp[c]) d
 rwa [Wm,Vn (by simp[c])] at this
theorem kj {is:List Bool} {i:Nat} (h:i < is.length):(fb is).getD i []=[gb is[i]]:=by simp[U5,h]
theorem ke (is:List Bool) (i:Nat) (b:Bool):(fb is).set i [gb b]=fb (is.set i b):=by simp[List.map_set]
theorem yG (n:Nat) (b:Bool):List.replicate n [gb b]=fb (List.replicate n b):=by simp
def iter {α:Type} (f:α->α):Nat->α->α
 | 0,x=>x
 | n+1,x=>iter f n (f x)
def dw (t:Bool) (is:List Bool) (r:aN):List Bool:=if cp r.right is t=true then is.set r.left.toNat true else is
def ja (g:ae) (t:Bool) (is:List Bool):List Bool:=g.rules.foldl (dw t) is
def bV (g:ae):List Bool:=List.replicate g.ao.length false
def ak (g:ae) (t:Bool):List Bool:=if aO g=true then iter (ja g t) g.ao.length (bV g) else []
theorem Lq (t:Bool) (is:List Bool) (r:aN):(dw t is r).length=is.length:=by unfold dw;split <;> simp
def mH:SC :=
 af [af [ab [aa 22 7,au 23 2 2,aj 24 23,aP 25 24,aV 26 .lss 22 25],bW 26 (.exit 2)],.block 3 (af [ab [au 29 2 2,aj 30 29,aa 31 7,aM 32 3 30 31,au 33 1 32,aj 34 33,aa 35 5,aa 36 1,ba 37 95 [34,35,36]],bg 37 (ab [aa 38 5,au 39 2 2,aj 40 39,aa 41 7,aM 42 3 40 41,au 43 0 42,aj 44 43,aM 45 1 38 44,(none,.op (.store 1 (.tmp 45) (.val (.val (.bool true)))))])]),ab [aa 27 7,aE 28 .add 27 1,aa 7 28]]
def mL:SC :=
 af [af [ab [aa 15 6,au 16 1 2,aj 17 16,aP 18 17,aV 19 .lss 15 18],bW 19 (.exit 0)],.block 1 (af [ab [aT 7 0],bX 2 mH]),ab [aa 20 6,aE 21 .add 20 1,aa 6 21]]
def oF:SF:=⟨af [ab [cd 2 0,ct 4 1],af [ab [aU 8 4 2,ba 9 50 [8],cb 10 9],bg 10 (af [ab [ct 4 1],.ret])],ab [au 11 1 2,aj 12 11,aP 13 12,((some 14),.op (.make 1 1 [(.val (.bool false))] (.tmp 13) (.tmp 13))),aa 5 14],af [ab [aT 6 0],bX 0 mL],ab [aa 46 5,aa 4 46],.ret],
 [.tmp 4],47⟩
theorem tM:aQ Tryz.prog 165 [2]=some oF:=by kernel_rfl
def lx:SF:=⟨af [ab [cd 1 0,ct 2 1],ab [aU 3 4 1,oE 4 165 [(.tmp 3),(.val (.val (.bool false)))],aa 2 4],.ret],
 [.tmp 2],5⟩
theorem rq:aQ Tryz.prog 230 [1]=some lx:=by kernel_rfl
def kD:SF:=⟨af [ab [cd 1 0,ct 2 1],ab [aU 3 4 1,oE 4 165 [(.tmp 3),(.val (.val (.bool true)))],aa 2 4],.ret],
 [.tmp 2],5⟩
theorem qg:aQ Tryz.prog 93 [1]=some kD:=by kernel_rfl
theorem PZ (g:ae) (t:Bool):∀ v∈[V.agg (ag g),gb t],Tree v:=by
 intro v a;simp at a
 rcases a with rfl | rfl
 .exact bz _ (bE g)
 .exact .val _
theorem Pr (g:ae) (C:g.Ok) (t:Bool) (H:View):aw Tryz.prog 165 [.agg (ag g),gb t] H λr H'=>∀ w:aB,w.view=H'->cM w r (bK (ak g t)):=by
 refine aw.of mixed tM ?_
 simp(disch:=omega)only[↓wr,seval,wq,oF,ag,encS]
 refine av.pure (gK g C) ?_
 repeat' (first | ((first|apply ah.dec|apply ah.eq|apply ah.ne|apply ah.split)<;>intro)|(simp(disch:=omega)only[↓wr,seval,wq,ag,encS]))
 .rename_i hr
  have u:=aK hr
  obtain⟨E,F⟩:=And.intro u.sX u.ao
  refine⟨⟨by omega,by unfold aD;omega,by unfold aD;omega⟩,λP=>by omega,λ_ m hm=>?_⟩
  try simp(disch:=omega)only[↓wr,seval,wq,ag,encS]
  refine bc.intro (λk T H'=>∃ (i:Nat) (is:List Bool),i+k=g.ao.length/\is.length=g.ao.length/\iter (ja g t) k is=iter (ja g t) g.ao.length (bV g)/\T 1=gb t/\T 2=.aF (ag g) 0/\T 5=.sl m 0 g.ao.length 1/\H' m=.arr 1 (fb is)/\T 6=gi i) g.ao.length ?_ ?_
  .refine⟨0,bV g,by omega,by simp[bV],rfl,?_⟩
   simp(disch:=omega)only[↓wr,↓reduceIte,wq,Nat.reduceEqDiff,Nat.reduceAdd,Nat.reduceLT,Nat.reduceLeDiff,Int.reduceNeg,Int.reduceToNat,reduceCtorEq,ag,encS]
   exact⟨by rw[yG];rfl,rfl⟩
  .rintro k T H' ⟨i,is,hk,hlen,hi,f1,f2,f5,y,f6⟩
   simp(disch:=omega)only[↓wr,seval,wq,mL,f1,f2,f5,f6,ag,encS]
   apply ah.dec<;>intro G
   .simp(disch:=omega)only[↓wr,seval,wq,f1,f2,f5,f6,ag,encS]
    refine bc.intro (λx T H'=>∃ (j:Nat) (a:List Bool),j+x=g.rules.length/\a.length=g.ao.length/\(g.rules.drop j).foldl (dw t) a=ja g t is/\T 1=gb t/\T 2=.aF (ag g) 0/\T 5=.sl m 0 g.ao.length 1/\H' m=.arr 1 (fb a)/\T 6=gi i/\T 7=gi j) g.rules.length ?_ ?_
    .refine⟨0,is,by omega,hlen,rfl,?_⟩
     simp(disch:=omega)only[↓wr,↓reduceIte,wq,Nat.reduceEqDiff,Nat.reduceAdd,Nat.reduceLT,Nat.reduceLeDiff,Int.reduceNeg,Int.reduceToNat,reduceCtorEq,f1,f2,f5,f6,y,ag,encS]
     rfl
    .rintro x Q I ⟨j,a,J,b,d,h,l,n,em,o,p⟩
     simp(disch:=omega)only[↓wr,seval,wq,mH,h,l,n,o,p,ag]
     apply ah.dec<;>intro K
     .have hle:=u.rules
      have e:g.rules[j]?=some (g.rules[j]'(by omega)):=U6 (by omega)
      rw[e9 (show j < g.rules.length by omega)] at d
      have c:g.rules[j]'(by omega)∈g.rules:=Vg _
      generalize g.rules[j]'(by omega)=r at e d c
      simp only[VC] at d
      obtain⟨L,M⟩:=u.left r c
      obtain⟨_,_,z,A⟩:=C.al r c
      have v:=GD r.right a t z (λs D=>⟨A s D,λN=>by have:=u.neg c D N;omega⟩)
      simp(disch:=omega)only[↓wr,seval,wq,h,l,n,o,p,ag,encS,aW,U9,e,Ve]
      refine av.borrow v (by kernel_rfl) (.val _) rfl (λq O=>?_) ?_
      .match q,O with
       | 0,_=>exact dh.tree (eM _)
       | 1,_=>exact AW em b.symm
       | 2,_=>exact dh.tree (.val _)
      .simp(disch:=omega)only[↓wr,seval,wq,h,l,n,o,p,ag,encS,aW,U9,e,Ve]
       apply ah.split<;>intro B
       .have f:dw t a r=a.set r.left.toNat true:=by rw[dw,Va B]
        simp(disch:=omega)only[↓wr,seval,wq,h,l,n,o,p,em,ag,encS,aW,U9,e,Ve,kj (show r.left.toNat < a.length by omega)]
        rw[f] at d
        exact⟨by omega,by omega,x - 1,by omega,j+1,a.set r.left.toNat true,by omega,by simp[b],d,by rw[ke],rfl⟩
       .have f:dw t a r=a:=by rw[dw,U8 (by rw[B];simp)]
        rw[f] at d
        simp(disch:=omega)only[↓wr,seval,wq,h,l,n,o,p]
        exact⟨x - 1,by omega,j+1,a,by omega,b,d,by first | rfl | exact⟨rfl,rfl⟩ | exact⟨em,rfl⟩ | exact⟨rfl,em,rfl⟩⟩
     .rw[VA (by omega),WL] at d
      simp(disch:=omega)only[↓wr,seval,wq,h,l,n,o,p]
      obtain⟨q,rfl⟩:∃ q,k=q+1:=⟨k - 1,by omega⟩
      exact⟨q,by omega,i+1,a,by omega,b,by rw[d];exact hi,rfl,em,rfl⟩
   .simp(disch:=omega)only[↓wr,seval,wq,f1,f2,f5,f6,y]
    have:k=0:=by omega
    subst this
    rintro w rfl
    simp only[ak,Va hr,<-hi,iter]
    rw[<-hlen]
    exact yz y
 .rename_i hr
  rintro w rfl
  simp only[ak,hr]
  exact .emp 1
theorem FB (g:ae) (a:g.Ok) (t:Bool):cx Tryz.prog 165 [.agg (ag g),gb t] (bK (ak g t)):=cx.of (PZ g t) (Pr g a t _)
theorem EZ (g:ae) (a:g.Ok) (H:View):aw Tryz.prog 230 [.agg (ag g)] H λr H'=>r=bK (ak g false)/\H'=H:=by
 refine aw.of mixed rq ?_
 simp(disch:=omega)only[↓wr,seval,wq,lx,ag,encS]
 refine av.pure (FB g a false).pure ?_
 simp(disch:=omega)only[↓wr,seval,wq,ag,encS]
theorem w8 (g:ae) (a:g.Ok):ay Tryz.prog 230 [.agg (ag g)] (bK (ak g false)) :=
 ay.of (eP g) ((EZ g a _).mono λr H' h b _=>by rw[h.1];exact .tree _ (fY _))
theorem BI (g:ae) (a:g.Ok) (H:View):aw Tryz.prog 93 [.agg (ag g)] H λr H'=>r=bK (ak g true)/\H'=H:=by
 refine aw.of mixed qg ?_
 simp(disch:=omega)only[↓wr,seval,wq,kD,ag,encS]
 refine av.pure (FB g a true).pure ?_
 simp(disch:=omega)only[↓wr,seval,wq,ag,encS]
theorem tu (g:ae) (a:g.Ok):ay Tryz.prog 93 [.agg (ag g)] (bK (ak g true)) :=
 ay.of (eP g) ((BI g a _).mono λr H' h b _=>by rw[h.1];exact .tree _ (fY _))
def mark (is:List Bool) (s:Int):List Bool:=if s < 0 then is.set (-1 - s).toNat true else is
def fB (p is:List Bool) (r:aN):List Bool:=if (is.getD r.left.toNat false && cp r.right p true)=true then r.right.foldl mark is else is
def ot (g:ae) (p is:List Bool):List Bool:=g.rules.foldl (fB p) is
def bp (g:ae):List Bool:=if aO g=true then iter (ot g (ak g true)) g.ao.length ((bV g).set g.start.toNat true) else []
theorem P0 (is:List Bool) (s:Int):(mark is s).length=is.length:=by unfold mark;split <;> simp
theorem Ew:∀ (l:List Int) (is:List Bool),(l.foldl mark is).length=is.length
 | [],_=>rfl
 | s :: l,is=>by rw[VC,Ew l,P0]
theorem Oc (p is:List Bool) (r:aN):(fB p is r).length=is.length:=by unfold fB;split <;> simp[Ew]
theorem Ae {f:List Bool->List Bool} (a:∀ is,(f is).length=is.length):∀ (n:Nat) (is:List Bool),(iter f n is).length=is.length
 | 0,_=>rfl
 | n+1,is=>by rw[iter,Ae a n,a]
theorem Ap {α:Type} {f:List Bool->α->List Bool} (a:∀ is x,(f is x).length=is.length):∀ (l:List α) (is:List Bool),(l.foldl f is).length=is.length
 | [],_=>rfl
 | x :: l,is=>by rw[VC,Ap a l,a]
theorem fi {g:ae} (h:aO g=true) (t:Bool):(ak g t).length=g.ao.length:=by
 have a:∀ is,(ja g t is).length=is.length:=λis=>Ap (Lq t) _ _
 rw[ak,Va h,Ae a]
 simp[bV]
def jX:SC :=
 af [af [.region false [⟨none,[aa 41 8,au 42 1 7,aj 43 42,aP 44 43,aV 45 .lss 41 44,aa 46 45]⟩,⟨(some (46,true)),[aa 47 4,au 48 0 7,aj 49 48,aM 50 1 47 49,aj 51 50]⟩,⟨none,[c8 52 46 51,aa 53 52]⟩,⟨(some (53,true)),[au 54 1 7,aj 55 54,aa 56 3,oE 57 95 [(.tmp 55),(.tmp 56),(.val (.val (.bool true)))]]⟩,⟨none,[c8 58 53 57]⟩],bW 58 (.exit 4)],.block 5 (af [ab [au 61 1 7,aj 62 61,aa 63 8,aM 64 1 62 63,aj 65 64,aE 66 .lss 65 0],bg 66 (ab [aa 67 4,au 68 1 7,aj 69 68,aa 70 8,aM 71 1 69 70,aj 72 71,((some 73),.op (.arith .sub (.val (.val (.int .i64 (-1)))) (.tmp 72))),aM 74 1 67 73,(none,.op (.store 1 (.tmp 74) (.val (.val (.bool true)))))])]),ab [aa 59 8,aE 60 .add 59 1,aa 8 60]]
def jT:SC :=
 af [af [ab [aa 29 6,au 30 2 1,aj 31 30,aP 32 31,aV 33 .lss 29 32],bW 33 (.exit 2)],.block 3 (af [ab [au 36 2 1,aj 37 36,aa 38 6,aM 39 3 37 38,aU 40 3 39,((some 7),.op (.alloc [(.val (.int .i64 0)),(.emp 1),(.val (.int .i64 0))])),cG 3 7 40],ab [aT 8 0],bX 4 jX]),ab [aa 34 6,aE 35 .add 34 1,aa 6 35]]
def jL:SC :=
 af [af [ab [aa 22 5,au 23 1 1,aj 24 23,aP 25 24,aV 26 .lss 22 25],bW 26 (.exit 0)],.block 1 (af [ab [aT 6 0],bX 2 jT]),ab [aa 27 5,aE 28 .add 27 1,aa 5 28]]
def lf:SF:=⟨af [ab [cd 1 0,ct 2 1],af [ab [aU 9 4 1,ba 10 50 [9],cb 11 10],bg 11 (af [ab [ct 2 1],.ret])],ab [aU 12 4 1,ba 13 93 [12],aa 3 13],ab [au 14 1 1,aj 15 14,aP 16 15,((some 17),.op (.make 1 1 [(.val (.bool false))] (.tmp 16) (.tmp 16))),aa 4 17],ab [aa 18 4,au 19 3 1,aj 20 19,aM 21 1 18 20,(none,.op (.store 1 (.tmp 21) (.val (.val (.bool true)))))],af [ab [aT 5 0],bX 0 jL],ab [aa 75 4,aa 2 75],.ret],
 [.tmp 2],76⟩
theorem qJ:aQ Tryz.prog 94 [1]=some lf:=by kernel_rfl
theorem Pb {l:List Bool} {i j:Nat} (h:l.getD j false=true):(l.set i true).getD j false=true:=by
 simp only[U5,Wk] at h ⊢
 by_cases e:i=j
 .subst e
  by_cases hi:i < l.length
  .simp[hi]
  .rw[Vx (by omega)] at h;simp at h
 .rw[U8 e];exact h
theorem Qf {H:View} {m n:Nat} {o:bT} (hm:H m=o) (a:H n=.dead) (b:o≠.dead):m≠n:=by rintro rfl;exact b (hm.symm.trans a)
theorem CE (g:ae) (Y:g.Ok) (H:View):aw Tryz.prog 94 [.agg (ag g)] H λr H'=>∀ X:aB,X.view=H'->cM X r (bK (bp g)):=by
 refine aw.of mixed qJ ?_
 simp(disch:=omega)only[↓wr,seval,wq,lf,ag,encS]
 refine av.pure (gK g Y) ?_
 repeat' (first | ((first|apply ah.dec|apply ah.eq|apply ah.ne|apply ah.split)<;>intro)|(simp(disch:=omega)only[↓wr,seval,wq,ag,encS]))
 .rename_i hr
  have y:=aK hr
  obtain⟨a8,bd⟩:=And.intro y.sX y.ao
  refine av.pure (tu g Y) ?_
  have Z:=fi hr true
  have n:bp g=iter (ot g (ak g true)) g.ao.length ((bV g).set g.start.toNat true):=by rw[bp,Va hr]
  generalize ak g true=p at Z n
  have o:=y.ic
  have a6:=y.start
  have I:List.replicate g.ao.length [V.val (Value.bool false)]=fb (bV g):=yG _ _
  have an:(bV g).length=g.ao.length:=by simp[bV]
  simp(disch:=omega)only[↓wr,seval,wq,ag,encS]
  refine⟨⟨by omega,by unfold aD;omega,by unfold aD;omega⟩,λhz=>by omega,λ_ m hm=>?_⟩
  rw[I]
  have aq:(fb (bV g)).getD g.start.toNat []=[gb ((bV g)[g.start.toNat]'(by omega))]:=kj (by omega)
  simp(disch:=omega)only[↓wr,seval,wq,ag,encS,kj (show g.start.toNat < (bV g).length by omega),ke,Vl]
  refine⟨by omega,by omega,?_⟩
  refine bc.intro (λk T H'=>∃ (i:Nat) (is:List Bool),i+k=g.ao.length/\is.length=g.ao.length/\iter (ot g p) k is=bp g/\T 1=.aF (ag g) 0/\T 3=bK p/\T 4=.sl m 0 g.ao.length 1/\H' m=.arr 1 (fb is)/\T 5=gi i) g.ao.length ?_ ?_
  .refine⟨0,(bV g).set g.start.toNat true,by omega,by simp[an],n.symm,?_⟩
   simp(disch:=omega)only[↓wr,↓reduceIte,wq,Nat.reduceEqDiff,Nat.reduceAdd,Nat.reduceLT,Nat.reduceLeDiff,Int.reduceNeg,Int.reduceToNat,reduceCtorEq,ag,encS]
   rw[aq]
   exact⟨by rw[<-ke];rfl,rfl⟩
  .rintro k T H' ⟨i,is,hk,hlen,hi,f1,f3,f4,fm,f5⟩
   simp(disch:=omega)only[↓wr,seval,wq,jL,f1,f3,f4,f5,ag,encS]
   apply ah.dec<;>intro hc
   .simp(disch:=omega)only[↓wr,seval,wq,f1,f3,f4,f5,ag,encS]
    refine bc.intro (λJ T H'=>∃ (j:Nat) (d:List Bool),j+J=g.rules.length/\d.length=g.ao.length/\(g.rules.drop j).foldl (fB p) d=ot g p is/\T 1=.aF (ag g) 0/\T 3=bK p/\T 4=.sl m 0 g.ao.length 1/\H' m=.arr 1 (fb d)/\T 5=gi i/\T 6=gi j) g.rules.length ?_ ?_
    .refine⟨0,is,by omega,hlen,rfl,?_⟩
     simp(disch:=omega)only[↓wr,seval,wq,f1,f3,f4,f5,fm,ag,encS]
     first | done | exact⟨rfl,rfl⟩ | rfl
    .rintro J T' bl ⟨j,d,bn,t,C,K,L,M,em,N,O⟩
     simp(disch:=omega)only[↓wr,seval,wq,jT,K,L,M,N,O,ag]
     apply ah.dec<;>intro hd
     .have hle:=y.rules
      have P:g.rules[j]?=some (g.rules[j]'(by omega)):=U6 (by omega)
      rw[e9 (show j < g.rules.length by omega)] at C
      have f:g.rules[j]'(by omega)∈g.rules:=Vg _
      generalize g.rules[j]'(by omega)=r at P C f
      simp only[VC] at C
      obtain⟨br,bs⟩:=y.left r f
      obtain⟨_,_,ar,Q⟩:=Y.al r f
      have bx:=y.right r f
      have R:=GD r.right p true ar (λs hs=>⟨Q s hs,λhn=>by have:=y.neg f hs hn;omega⟩)
      simp(disch:=omega)only[↓wr,seval,wq,K,L,M,N,O,ag,encS,aW,encI,U9,P,Ve]
      intro b hb
      have S:m≠b:=Qf em hb (by simp)
      try simp(disch:=omega)only[↓wr,seval,wq,K,L,M,N,O,ag,encS,aW,encI]
      refine bc.intro (λq T H'=>∃ (a:Nat) (c:List Bool),a+q=r.right.length/\c.length=g.ao.length/\(r.right.drop a).foldl mark c=r.right.foldl mark d/\((a=0/\c=d)∨((d.getD r.left.toNat false && cp r.right p true)=true/\c.getD r.left.toNat false=true)) /\
       T 1=.aF (ag g) 0/\T 3=bK p/\T 4=.sl m 0 g.ao.length 1/\H' m=.arr 1 (fb c)/\T 5=gi i/\T 6=gi j/\T 7=.ptr b 0 0/\H' b=.arr 3 [aW r]/\T 8=gi a) r.right.length ?_ ?_
      .refine⟨0,d,by omega,t,rfl,.inl ⟨rfl,rfl⟩,?_⟩
       simp(disch:=omega)only[↓wr,↓reduceIte,wq,Nat.reduceEqDiff,Nat.reduceAdd,Nat.reduceLT,Nat.reduceLeDiff,Int.reduceNeg,Int.reduceToNat,reduceCtorEq,K,L,M,N,O,em,S,ag,encS,aW]
       exact⟨rfl,rfl⟩
      .rintro q T3 H3 ⟨a,c,hq,e,w,h,d1,d3,d4,z,d5,d6,d7,x,d8⟩
       simp(disch:=omega)only[↓wr,seval,wq,jX,d1,d3,d4,d5,d6,d7,d8,x,aW,encI]
       have U:c[r.left.toNat]?=some (c[r.left.toNat]'(by omega)):=U6 (by omega)
       have l:c.getD r.left.toNat false=c[r.left.toNat]'(by omega):=by simp[U5,U]
       have A:=kj (show r.left.toNat < c.length by omega)
       have W:(d.getD r.left.toNat false && cp r.right p true)=false->fB p d r=c:=λG=>by
        rcases h with ⟨_,rfl⟩ | ⟨h1,_⟩
        .rw[fB,G];rfl
        .rw[G] at h1;simp at h1
       generalize c[r.left.toNat]'(by omega)=tl at U l A
       apply ah.dec<;>intro ht
       .have D:r.right[a]?=some (r.right[a]'(by omega)):=U6 (by omega)
        rw[e9 (show a < r.right.length by omega)] at w
        have E:r.right[a]'(by omega)∈r.right:=Vg _
        generalize r.right[a]'(by omega)=s at D w E
        simp only[VC] at w
        have a1:=Q s E
        simp(disch:=omega)only[↓wr,seval,wq,d1,d3,d4,d5,d6,d7,d8,x,z,aW,encI,A,Vl]
        refine⟨by omega,by omega,?_⟩
        apply ah.split<;>intro u
        .simp(disch:=omega)only[↓wr,seval,wq,d1,d3,d4,d5,d6,d7,d8,x,z,aW,encI,A,Vl]
         refine av.pure R ?_
         simp(disch:=omega)only[↓wr,seval,wq,d1,d3,d4,d5,d6,d7,d8,x,z,aW,encI]
         apply ah.split<;>intro F
         .simp(disch:=omega)only[↓wr,seval,wq,d1,d3,d4,d5,d6,d7,d8,x,z,aW,encI,U9,D,Ve]
          have G:(d.getD r.left.toNat false && cp r.right p true)=true/\c.getD r.left.toNat false=true:=by
           rcases h with ⟨_,rfl⟩ | h1
           .exact⟨by rw[l,u,F];rfl,by rw[l,u]⟩
           .exact h1
          apply ah.dec<;>intro B
          .have b0:=y.neg f E B
           have a7:=a1.1
           have v:mark c s=c.set (-1 - s).toNat true:=by rw[mark,Va B]
           simp(disch:=omega)only[↓wr,seval,wq,d1,d3,d4,d5,d6,d7,d8,x,z,aW,encI,U9,D,Ve,kj (show (-1 - s).toNat < c.length by omega),Vl,S.symm]
           rw[v] at w
           exact⟨by omega,by omega,q - 1,by omega,a+1,c.set (-1 - s).toNat true,by omega,by simp[e],w,.inr ⟨G.1,Pb G.2⟩,by rw[ke],by first | rfl | exact⟨rfl,rfl⟩⟩
          .have v:mark c s=c:=by rw[mark,U8 B]
           rw[v] at w
           simp(disch:=omega)only[↓wr,seval,wq,d1,d3,d4,d5,d6,d7,d8,x,z]
           exact⟨q - 1,by omega,a+1,c,by omega,e,w,.inr G,by first | rfl | exact⟨rfl,rfl⟩ | exact⟨rfl,rfl,rfl⟩⟩
         .simp(disch:=omega)only[↓wr,seval,wq,d1,d3,d4,d5,d6,d7,d8,x,z,aW,encI]
          have o:=W (by rw[F,W7])
          exact⟨J - 1,by omega,j+1,c,by omega,e,by rw[<-o];exact C,rfl,rfl,rfl⟩
        .simp(disch:=omega)only[↓wr,seval,wq,d1,d3,d4,d5,d6,d7,d8,x,z,aW,encI,A,Vl]
         have o:fB p d r=c:=by
          rcases h with ⟨_,rfl⟩ | ⟨_,h1⟩
          .rw[fB,l,u];rfl
          .rw[l,u] at h1;simp at h1
         exact⟨J - 1,by omega,j+1,c,by omega,e,by rw[<-o];exact C,rfl,rfl,rfl⟩
       .simp(disch:=omega)only[↓wr,seval,wq,d1,d3,d4,d5,d6,d7,d8,x,z,aW,encI]
        rw[VA (by omega),WL] at w
        have o:fB p d r=c:=by
         rcases h with ⟨h0,rfl⟩ | ⟨h1,_⟩
         .unfold fB
          split
          .exact w.symm
          .rfl
         .rw[fB,Va h1];exact w.symm
        exact⟨J - 1,by omega,j+1,c,by omega,e,by rw[<-o];exact C,rfl,rfl,rfl⟩
     .rw[VA (by omega),WL] at C
      simp(disch:=omega)only[↓wr,seval,wq,K,L,M,N,O]
      obtain⟨q,rfl⟩:∃ q,k=q+1:=⟨k - 1,by omega⟩
      exact⟨q,by omega,i+1,d,by omega,t,by rw[C];exact hi,rfl,em,rfl⟩
   .simp(disch:=omega)only[↓wr,seval,wq,f1,f3,f4,f5,fm]
    have:k=0:=by omega
    subst this
    rintro X rfl
    simp only[<-hi,iter]
    rw[<-hlen]
    exact yz fm
 .rename_i hr
  rintro X rfl
  simp only[bp,hr]
  exact .emp 1
theorem CY (g:ae) (a:g.Ok):cx Tryz.prog 94 [.agg (ag g)] (bK (bp g)):=cx.of (eP g) (CE g a _)
noncomputable def xH:List (FuncId × DF):=E1 Tryz.prog [(224,[]),(223,[]),(296,[]),(297,[])]
theorem s8:wx Tryz.prog xH:=HH _ _
theorem QF (P:Program):vC P (λ_ _ _=>none):=λ_ _ _ _ h=>by simp at h
def SQ (o:Option V) (b:Bool):Bool:=match o with
 | some (.val (.bool c))=>c == b
 | _=>false
theorem SP {o:Option V} {b:Bool} (h:SQ o b=true):o=some (gb b):=by
 unfold SQ at h
 split at h
 .rw[V8] at h;rw[h]
 .simp at h
noncomputable def xy (tab:List (FuncId × DF)) (f:FuncId) (p:Int->Bool):Bool:=(List.range 256).all λc=>SQ (zp Tryz.prog tab (λ_ _ _=>none) f [gy (c:Int)]) (p (c:Int))
theorem wz {a:List (FuncId × DF)} (d:wx Tryz.prog a) {f:FuncId} {p:Int->Bool} (h:xy a f p=true) (c:Int) (e:0<=c) (h1:c<=255):ay Tryz.prog f [gy c] (gb (p c)):=by
 have:=Vr.1 h c.toNat (by simp;omega)
 rw[show ((c.toNat:Nat):Int)=c by omega] at this
 exact(BZ mixed d (QF _) (by intro v b;simp at b;subst b;exact .val _) (SP this)).pure
def xB (c:Int):Bool:=decide (32<=c) && decide (c<=126) && c != 39 && c != 92
def Dc (c:Int):Bool:=c == 110 || c == 116 || c == 92 || c == 39
theorem K9:xy xH 223 u9=true:=by kernel_rfl
theorem Oi:xy xH 224 nA=true:=by kernel_rfl
theorem Ma:xy xH 296 xB=true:=by kernel_rfl
theorem Rp:xy xH 297 Dc=true:=by kernel_rfl
theorem Eh {s:ByteArray} {c:Int} (h:c∈fh s):0<=c/\c<=255:=by
 unfold fh at h
 obtain⟨b,_,rfl⟩:=Vv.1 h
 have:=b.toNat_lt
 omega
theorem NW (s:ByteArray):fV s=(fh s).map λx=>[gy x]:=by simp[fV,fh]
noncomputable def I3:List (FuncId × DF):=E1 Tryz.prog [(44,[]),(87,[]),(145,[]),(207,[]),(255,[]),(256,[]),(257,[]),(258,[]),(286,[]),(208,[]),(259,[]),(209,[]),(234,[]),(233,[]),(232,[]),(260,[]),(261,[]),(262,[]),(146,[]),(213,[]),(212,[]),(263,[]),(264,[]),(211,[]),(214,[]),(210,[]),(88,[1]),(149,[3]),(169,[]),(172,[]),(151,[4]),(216,[4]),(150,[2]),(170,[2]),(266,[3]),(147,[]),(215,[5]),(265,[]),(148,[])]
theorem Ln:wx Tryz.prog I3:=HH _ _
def yy (l:List Int):V:=.aS (l.map λx=>[gy x])
theorem Nx (l:List Int):Tree (yy l):=fq _ _ λx _ v a=>by simp at a;subst a;exact .val _
def mV (g:ae):V:=.bm [.agg (ag g),.val (.complex .f64 0 0),gi 0]
theorem Jx {l:List Int} {g:ae} (h:zp Tryz.prog I3 (λ_ _ _=>none) 44 [yy l]=some (mV g)):cx Tryz.prog 44 [yy l] (mV g) :=
 BZ mixed Ln (QF _) (by intro v a;simp at a;subst a;exact Nx _) h
abbrev dk (κ:Type):=List (κ × V × Nat)
def ff {κ:Type} (key:κ->Value) (m:dk κ):List (V × V × Nat):=m.map λx=>(.val (key x.1),x.2.1,x.2.2)
def getM {κ:Type} [BEq κ] (m:dk κ) (k:κ):Option V:=(m.find? λx=>k == x.1).map (·.2.1)
def cy {κ:Type} [BEq κ] (k:κ) (v:V) (c:Nat):dk κ->dk κ
 | []=>[(k,v,c)]
 | x :: r=>if k == x.1 then (k,v,x.2.2) :: r else x :: cy k v c r
structure Cx {κ:Type} [BEq κ] (P:Program) (kt:TypeId) (key:κ->Value):Prop where
 ty:∃ d,P.underlying kt=some d/\(∀ a b,Instr.sameNow d (key a) (key b)=some (a == b))/\(∀ a e,bq P (Instr.checkKey e 10000 kt (key a))=some ())
 bits:∀ a b,(a == b)=true->Instr.sameBits 10000 (key b) (key a)=true
theorem vp {κ:Type} (key:κ->Value):∀ m:dk κ,gM (ff key m)=some (m.map λx=>{ key:=key x.1,val:=.nilFunc,born:=x.2.2 })
 | []=>rfl
 | x :: r=>by
  have:=vp key r
  simp only[ff] at this
  simp[ff,gM,c7,this]
def fX {κ:Type} [BEq κ] (k:κ):dk κ->Option Nat
 | []=>none
 | x :: r=>if k == x.1 then some 0 else (fX k r).map (·+1)
theorem zM {κ:Type} [BEq κ] {key:κ->Value} {d:TypeDesc} (h:∀ a b,Instr.sameNow d (key a) (key b)=some (a == b)) (k:κ):∀ (m:dk κ) (i:Nat),
  Instr.findNow d (key k) (m.map λx=>{ key:=key x.1,val:=.nilFunc,born:=x.2.2 }) i=some ((fX k m).map λj=>(i+j,.nilFunc))
 | [],i=>rfl
 | x :: r,i=>by
  simp only[VF,Instr.findNow,h,fX]
  cases hk:k == x.1 with
  | true=>simp
  | false =>
   simp only[zM h k r (i+1),VE,if_false,Option.map_map]
   congr 2
   funext j
   simp only[Function.comp]
   congr 1
   omega
theorem xM {κ:Type} [BEq κ] {P:Program} {kt:TypeId} {key:κ->Value} (h:Cx P kt key) (k:κ) (e:Bool) (m:dk κ):lW P kt (.val (key k)) e (ff key m)=some (fX k m):=by
 obtain⟨d,a,b,c⟩:=h.ty
 have hu:bq P (underlying kt)=some d:=dG a
 simp only[lW,c7,vp,bh,c,VI]
 have:bq P (Instr.findKey kt (key k) (m.map λx=>{ key:=key x.1,val:=.nilFunc,born:=x.2.2 }))=some ((fX k m).map λj=>(0+j,.nilFunc)):=by
  unfold Instr.findKey
  rw[bh,hu,VI,zM b]
  rfl
 rw[this]
 cases fX k m with
 | none=>rfl
 | some j=>simp
theorem B2 {P:Program} {kt:TypeId} {d:TypeDesc} (h:P.underlying kt=some d) (a:match d with | .int _ | .string | .bool=>True | _=>False) (e:Bool) (n:Nat) (v:Value):bq P (Instr.checkKey e (n+1) kt v)=some ():=by
 unfold Instr.checkKey
 rw[bh,dG h,VI]
 cases d <;> first | exact a.elim | rfl
theorem qn {P:Program} {kt:TypeId} (k:IntKind) (h:P.underlying kt=some (.int k)):Cx P kt (Value.int k) where
 ty:=⟨_,h,λa b=>by simp[Instr.sameNow],λa e=>B2 h trivial e 9999 _⟩
 bits:=λa b c=>by
  have:a=b:=by simpa using c
  subst this
  simp[Instr.sameBits]
theorem wv {κ:Type} [BEq κ] {key:κ->Value} (k:κ):∀ m:dk κ,match fX k m with
  | some i=>∃ x,m[i]?=some x/\(k == x.1)=true/\getM m k=some x.2.1/\(ff key m)[i]?=some (.val (key x.1),x.2.1,x.2.2)/\∀ v c,(ff key m).set i (.val (key k),v,x.2.2)=ff key (cy k v c m)/\(cy k v c m).length=m.length
  | none=>getM m k=none/\∀ v c,ff key m ++ [(.val (key k),v,c)]=ff key (cy k v c m)/\(cy k v c m).length=m.length+1
 | []=>⟨rfl,λv c=>⟨rfl,rfl⟩⟩
 | x :: r=>by
  have a:=wv (key:=key) k r
  simp only[fX]
  cases hk:k == x.1 with
  | true=>exact⟨x,rfl,hk,by simp[getM,hk],rfl,λv c=>by simp[cy,hk,ff]⟩
  | false =>
   simp only[VE,if_false]
   cases hi:fX k r with
   | some i =>
    rw[hi] at a
    obtain⟨y,h1,b,d,e,f⟩:=a
    refine⟨y,by simpa using h1,b,by simpa [getM,hk] using d,by simpa [ff] using e,λv c=>?_⟩
    obtain⟨g1,g2⟩:=f v c
    exact⟨by simp only[ff] at g1 ⊢;simp[cy,hk,g1],by simp[cy,hk,g2]⟩
   | none =>
    rw[hi] at a
    refine⟨by simpa [getM,hk] using a.1,λv c=>?_⟩
    obtain⟨g1,g2⟩:=a.2 v c
    exact⟨by simp only[ff] at g1 ⊢;simp[cy,hk,g1],by simp[cy,hk,g2]⟩
section
variable {P:Program} {T:Env} {H:View} {κ:Type} [BEq κ] {key:κ->Value} {kt et t ty:TypeId}
theorem Fa {K:V->View->Prop} {w:cP (T,H,K)} {x i:Operand} {z:V} {id c:Nat} {m:dk κ} {k:κ} (hm:dS P t=some (kt,et)) (d:zeroV P et=some z) (hk:Cx P kt key)
  (e:ev T x=.mp id) (hi:ev T i=.val (key k)) (hH:H id=.map (ff key m) c) (h:K ((getM m k).getD z) H):pA P (.lookup t x i false) ty T H K w:=by
 intro n _
 have f:=xM hk k (ff key m).isEmpty m
 have a:=wv (key:=key) k m
 refine⟨(getM m k).getD z,.none,[id],?_,h⟩
 simp only[sI,bZ,oper,eN,hm,d,e,hi,hH,f]
 cases b:fX k m with
 | some j =>
  rw[b] at a
  obtain⟨y,h1,o,g,l,_⟩:=a
  simp[l,g]
 | none =>
  rw[b] at a
  simp[a.1]
theorem Tp {K:V->View->Prop} {w:cP (T,H,K)} {x i:Operand} {z:V} {id c:Nat} {m:dk κ} {k:κ} (hm:dS P t=some (kt,et)) (d:zeroV P et=some z) (hk:Cx P kt key)
  (e:ev T x=.mp id) (hi:ev T i=.val (key k)) (hH:H id=.map (ff key m) c) (h:K (.bm [(getM m k).getD z,.val (.bool (getM m k).isSome)]) H):pA P (.lookup t x i true) ty T H K w:=by
 intro n _
 have f:=xM hk k (ff key m).isEmpty m
 have a:=wv (key:=key) k m
 refine⟨_,.none,[id],?_,h⟩
 simp only[sI,bZ,oper,eN,hm,d,e,hi,hH,f]
 cases b:fX k m with
 | some j =>
  rw[b] at a
  obtain⟨y,h1,o,g,l,_⟩:=a
  simp[l,g]
 | none =>
  rw[b] at a
  simp[a.1]
theorem PM (hk:Cx P kt key) (k a:κ) (h:(k == a)=true):sameKey (.val (key a)) (.val (key k))=true:=by
 simp only[sameKey,c7];exact hk.bits _ _ h
theorem Gb {K:V->View->Prop} {w:cP (T,H,K)} {x i y:Operand} {id c:Nat} {m:dk κ} {k:κ} {v:V} (hm:dS P t=some (kt,et)) (hk:Cx P kt key)
  (d:ev T x=.mp id) (hi:ev T i=.val (key k)) (e:ev T y=v) (hH:H id=.map (ff key m) c)
  (h:∀ g,K .any (H.set id (.map (ff key (cy k v c m)) g))):pA P (.mapUpdate t x i y) ty T H K w:=by
 intro n _
 have a:=xM hk k false m
 have b:=wv (key:=key) k m
 cases f:fX k m with
 | some j =>
  rw[f] at b a
  obtain⟨z,h1,l,q,o,p⟩:=b
  refine⟨.any,.fj id (.map ((ff key m).set j (.val (key k),v,z.2.2)) c),[id],?_,?_⟩
  .simp only[sI,bZ,oper,fN,hm,d,hi,e,hH,a,o,PM hk k z.1 l,if_true]
  .rw[(p v c).1];exact h c
 | none =>
  rw[f] at b a
  refine⟨.any,.fj id (.map (ff key m ++ [(.val (key k),v,c)]) (c+1)),[id],?_,?_⟩
  .simp only[sI,bZ,oper,fN,hm,d,hi,e,hH,a]
  .rw[(b.2 v c).1];exact h (c+1)
omit [BEq κ] in
theorem SZ {K:V->View->Prop} {w:cP (T,H,K)} {x:Operand} {id c:Nat} {m:dk κ} (hm:dS P t=some (kt,et)) (d:ev T x=.mp id) (hH:H id=.map (ff key m) c) (h:K (cF m.length) H) :
  pA P (.call { callee:=.builtin .len,args:=#[x],argTypes:=#[t] }) ty T H K w:=by
 intro n _
 have hu:∃ a b,P.underlying t=some (.map a b):=by
  unfold dS at hm
  split at hm
  .rename_i a b h1;exact⟨a,b,h1⟩
  .simp at hm
 obtain⟨a,b,hu⟩:=hu
 refine⟨cF m.length,.none,[id],?_,h⟩
 have e:(ff key m).length=m.length:=by simp[ff]
 simp only[sI,bZ,oper,Wx,Vm,Vy,tY,hu,d,hH,e]
 simp[hu,d,hH,e,tY]
end
theorem sr {κ:Type} [BEq κ] [LawfulBEq κ] (k a:κ) (v:V) (c:Nat):∀ m:dk κ,getM (cy k v c m) a=if a == k then some v else getM m a
 | []=>by
  by_cases h:a=k
  .subst h;simp[cy,getM]
  .simp[cy,getM,h]
 | x :: r=>by
  have b:=sr k a v c r
  simp only[cy]
  by_cases hk:k=x.1
  .by_cases h:a=k
   .subst h;simp[hk,getM]
   .have:¬ a=x.1:=λe=>h (e.trans hk.symm)
    simp[hk,getM,this]
  .simp only[V8,hk,if_false]
   by_cases h:a=x.1
   .have:¬ a=k:=λe=>hk (e.symm.trans h)
    simp[getM,h]
    subst h
    simp[this]
   .simp only[getM,List.find?_cons,beq_eq_false_iff_ne.2 h] at b ⊢
    exact b
def dU {κ β:Type} [BEq κ] (a:List (κ × β)) (k:κ):Option β:=(a.find? λx=>k == x.1).map (·.2)
def jI {κ β:Type} [BEq κ] (k:κ) (v:β):List (κ × β)->List (κ × β)
 | []=>[(k,v)]
 | x :: r=>if k == x.1 then (k,v) :: r else x :: jI k v r
def nB {κ β:Type} (encV:β->V):List (κ × β)->dk κ->Prop
 | [],[]=>True
 | x :: a,y :: m=>y.1=x.1/\y.2.1=encV x.2/\nB encV a m
 | _,_=>False
theorem nB.get {κ β:Type} [BEq κ] {encV:β->V} (k:κ):∀ {a:List (κ × β)} {m:dk κ},nB encV a m->getM m k=(dU a k).map encV
 | [],[],_=>rfl
 | x :: a,y :: m,⟨h1,c,d⟩=>by
  have b:=nB.get k d
  simp only[getM,dU,List.find?_cons,h1] at b ⊢
  cases k == x.1 with
  | true=>simp[c]
  | false=>simpa using b
theorem nB.put {κ β:Type} [BEq κ] {encV:β->V} (k:κ) (v:β) (c:Nat):∀ {a:List (κ × β)} {m:dk κ},nB encV a m->nB encV (jI k v a) (cy k (encV v) c m)
 | [],[],_=>⟨rfl,rfl,trivial⟩
 | x :: a,y :: m,⟨h1,d,b⟩=>by
  have e:=nB.put k v c b
  simp only[jI,cy,h1]
  cases k == x.1 with
  | true=>exact⟨rfl,rfl,b⟩
  | false=>exact⟨h1,d,e⟩
theorem nB.len {κ β:Type} {encV:β->V} : ∀ {a:List (κ × β)} {m:dk κ},nB encV a m->m.length=a.length
 | [],[],_=>rfl
 | x :: a,y :: m,⟨_,_,b⟩=>by simp[nB.len b]
theorem Hg {κ β:Type} [BEq κ] [LawfulBEq κ] (k b:κ) (v:β):∀ a:List (κ × β),dU (jI k v a) b=if b == k then some v else dU a b
 | []=>by
  by_cases h:b=k
  .subst h;simp[jI,dU]
  .simp[jI,dU,h]
 | x :: r=>by
  have c:=Hg k b v r
  simp only[jI]
  by_cases hk:k=x.1
  .by_cases h:b=k
   .subst h;simp[hk,dU]
   .have:¬ b=x.1:=λe=>h (e.trans hk.symm)
    simp[hk,dU,this]
  .simp only[V8,hk,if_false]
   by_cases h:b=x.1
   .have:¬ b=k:=λe=>hk (e.symm.trans h)
    simp[dU,h]
    subst h
    simp[this]
   .simp only[dU,List.find?_cons,beq_eq_false_iff_ne.2 h] at c ⊢
    exact c
def BJ (n k:Nat) (J:Nat->Env->View->Prop) (T:Env) (H:View):Prop:=∃ i,i+k=n/\J i T H
theorem bc.up {P:Program} {T:Env} {H:View} {c:SC} {Q:Exit->Env->View->Prop} {v:cP (T,H,Q)} (n:Nat) (J:Nat->Env->View->Prop) (d:J 0 T H)
  (f:∀ i k T H,i+k=n->J i T H->wS P c T H λe a H'=>zu e (∃ b,b < k/\BJ n b J a H') (Q e a H')):bc P c T H Q v :=
 bc.intro (λk T H=>BJ n k J T H) n ⟨0,by omega,d⟩ λk T H ⟨i,hk,g⟩=>f i k T H hk g
theorem aI {n i k:Nat} {J:Nat->Env->View->Prop} {T:Env} {H:View} (hk:i+k=n) (b:i < n) (c:J (i+1) T H):∃ a,a < k/\BJ n a J T H:=⟨k - 1,by omega,i+1,by omega,c⟩
def owner:V->Option Nat
 | .sl id _ _ _=>some id
 | _=>none
def aZ (H:View) (u:V) (sz:Nat) (es:List (List V)):Prop :=
 (es=[]/\∃ k,u=.emp k)∨(∃ n,u=.sl n 0 es.length sz/\H n=.arr sz es)
theorem aZ.nil {H:View} {sz k:Nat} : aZ H (.emp k) sz []:=.inl ⟨rfl,k,rfl⟩
theorem aZ.len {H:View} {u:V} {sz:Nat} {es:List (List V)} (h:aZ H u sz es):dH u=some es.length:=by
 rcases h with ⟨rfl,k,rfl⟩ | ⟨n,rfl,_⟩ <;> rfl
theorem aZ.live {H:View} {u:V} {sz:Nat} {es:List (List V)} (h:aZ H u sz es) {id:Nat} (a:owner u=some id):H id=.arr sz es/\u=.sl id 0 es.length sz:=by
 rcases h with ⟨rfl,k,rfl⟩ | ⟨n,rfl,b⟩
 .simp[owner] at a
 .simp[owner] at a;subst a;exact⟨b,rfl⟩
theorem aZ.keep {H H':View} {u:V} {sz:Nat} {es:List (List V)} (h:aZ H u sz es) (hk:∀ id,owner u=some id->H' id=H id):aZ H' u sz es:=by
 rcases h with ⟨rfl,k,rfl⟩ | ⟨n,rfl,a⟩
 .exact .inl ⟨rfl,k,rfl⟩
 .exact .inr ⟨n,rfl,by rw[hk n rfl];exact a⟩
theorem aZ.fresh {H:View} {u:V} {sz m:Nat} {es:List (List V)} {o:bT} (h:aZ H u sz es) (hm:H m=.dead):aZ (H.set m o) u sz es :=
 h.keep λid a=>by
  have:=(h.live a).1
  have e:id≠m:=by rintro rfl;rw[hm] at this;simp at this
  simp[View.set,e]
theorem aZ.ne {H:View} {u:V} {sz m:Nat} {es:List (List V)} (h:aZ H u sz es) (hm:H m=.dead):owner u≠some m:=λe=>by
 have:=(h.live e).1;rw[hm] at this;simp at this
theorem aZ.other {H:View} {u:V} {sz m:Nat} {es:List (List V)} {o:bT} (h:aZ H u sz es) (hm:owner u≠some m):aZ (H.set m o) u sz es :=
 h.keep λid a=>by
  have e:id≠m:=by rintro rfl;exact hm a
  simp[View.set,e]
theorem aZ.new {H:View} {n sz:Nat} {es:List (List V)} : aZ (H.set n (.arr sz es)) (.sl n 0 es.length sz) sz es:=.inr ⟨n,rfl,by simp[View.set]⟩
theorem bt {H:View} {m z sz:Nat} {e:List V} : cm (View.set H m (.arr z [e])) (.sl m 0 1 sz)=some ([e],[m]):=by
 simp[cm,View.set]
def Left (H H':View) (u u':V):Prop:=∀ id,H id≠.dead->owner u≠some id->H' id=H id/\owner u'≠some id
theorem nd {sz bytes:Nat} {u:V} {es xs:List (List V)} {H:View} {K:V->View->Prop} {w:cP (H,K)} (d:aZ H u sz es) (g:xs≠[]) (b:(xs.all λe=>e.length == sz && e.all aJ)=true)
  (f:(es.length+xs.length) * bytes < aD) (c:es.length+xs.length < aD) (hk:∀ u' H',aZ H' u' sz (es ++ xs)->Left H H' u u'->K u' H'):k6 sz bytes u xs H K w:=by
 have he:xs.isEmpty=false:=by cases xs with | nil=>exact absurd rfl g | cons=>rfl
 rcases d with ⟨rfl,k,rfl⟩ | ⟨n,rfl,h⟩
 .rw[yJ _ _ _ _ _ _ _ he]
  refine⟨b,⟨by simpa using f,by simpa using c⟩,λm hm=>hk _ _ ?_ ?_⟩
  .exact .inr ⟨m,rfl,by simp[View.set]⟩
  .intro id a _
   have e:id≠m:=by rintro rfl;exact a hm
   exact⟨by simp[View.set,e],by simp[owner,Ne.symm e]⟩
 .rw[r5 _ _ _ _ _ _ _ _ _ _ he,h]
  refine⟨b,⟨by simp,rfl,f,c⟩,λm hm=>hk _ _ ?_ ?_⟩
  .refine .inr ⟨m,by simp,by simp[View.set]⟩
  .intro id a d
   have e:id≠m:=by rintro rfl;exact a hm
   have i:id≠n:=by rintro rfl;exact d rfl
   exact⟨by simp[View.set,e,i],by simp[owner,Ne.symm e]⟩
theorem Left.refl {H:View} {u:V} : Left H H u u:=λ_ _ h=>⟨rfl,h⟩
theorem kx {sz bytes:Nat} {u:V} {es xs:List (List V)} {H:View} {K:V->View->Prop} {w:cP (H,K)} (a:aZ H u sz es) (b:(xs.all λe=>e.length == sz && e.all aJ)=true)
  (d:(es.length+xs.length) * bytes < aD) (c:es.length+xs.length < aD) (hk:∀ u' H',aZ H' u' sz (es ++ xs)->Left H H' u u'->K u' H'):k6 sz bytes u xs H K w:=by
 cases xs with
 | nil =>
  have:=hk u H (by simpa using a) .refl
  rcases a with ⟨rfl,k,rfl⟩ | ⟨n,rfl,f⟩
  .exact this
  .exact this
 | cons x xs=>exact nd a (by simp) b d c hk
theorem dh.own {H:View} {u:V} {sz:Nat} {es:List (List V)} (h:aZ H u sz es) (a:∀ e∈es,∀ v∈e,Tree v):dh H u (.aS es):=by
 rcases h with ⟨rfl,k,rfl⟩ | ⟨n,rfl,b⟩
 .exact λh _=>.emp k
 .have:=dh.sl (off:=0) (len:=es.length) (esz:=sz) b (by simp) a
  rwa [Wm,Vn (by simp)] at this
theorem cM.own {h:aB} {u:V} {sz:Nat} {es:List (List V)} {es':List (List V)} (b:aZ h.view u sz es) (a:es'.length=es.length) (hi:∀ i,i < es.length->(es'.getD i []).length=(es.getD i []).length)
  (c:∀ i j,i < es.length->j < (es'.getD i []).length->cM h ((es.getD i []).getD j .any) ((es'.getD i []).getD j .any)):cM h u (.aS es'):=by
 rcases b with ⟨rfl,k,rfl⟩ | ⟨n,rfl,d⟩
 .have:es'=[]:=WB.1 (by simpa using a)
  subst this
  exact .emp k
 .exact .sl n 0 es.length sz sz es es' d (by simp) a (λi h=>by rw[V2];exact hi i h) (λi j h1 e=>by rw[V2];exact c i j h1 e)
theorem cM.Lk {h:aB} {α:Type} {u:V} {sz:Nat} {l:List α} {f:α->Value} (b:aZ h.view u sz (l.map λx=>[V.val (f x)])):cM h u (.aS (l.map λx=>[V.val (f x)])):=by
 refine cM.own b rfl (λi _=>rfl) (λi j hi a=>?_)
 simp only[Vl] at hi
 have e:(l.map λx=>[V.val (f x)]).getD i []=[V.val (f l[i])]:=by simp[U5,hi]
 rw[e] at a ⊢
 have:j=0:=by simp at a;omega
 subst this
 exact .val _
def fC (H H':View) (r:V):Prop:=∀ id,H id≠.dead->H' id=H id/\owner r≠some id
theorem fC.emp {H:View} {k:Nat} : fC H H (.emp k):=λ_ _=>⟨rfl,by simp[owner]⟩
theorem fC.new {H:View} {n a b c:Nat} {o:bT} (f:H n=.dead):fC H (H.set n o) (.sl n a b c):=λid d=>by
 have e:id≠n:=by rintro rfl;exact d f
 exact⟨by simp[View.set,e],by simp[owner,Ne.symm e]⟩
theorem aZ.left {H H':View} {u u' x:V} {sz:Nat} {es:List (List V)} (h:aZ H x sz es) (b:Left H H' u u') (c:∀ id,owner x=some id->owner u≠some id):aZ H' x sz es :=
 h.keep λid a=>(b id (by rw[(h.live a).1];simp) (c id a)).1
theorem aZ.Tf {H H':View} {x r:V} {sz:Nat} {es:List (List V)} (h:aZ H x sz es) (b:fC H H' r):aZ H' x sz es :=
 h.keep λid a=>(b id (by rw[(h.live a).1];simp)).1
theorem set_set {H:View} {n:Nat} {a b:bT} : View.set (View.set H n a) n b=View.set H n b:=by
 funext id;simp only[View.set];split <;> rfl
theorem bS {m b:Nat} {o x:bT} (h:(if m=b then o else x)=.dead) (a:o≠.dead):m≠b/\x=.dead:=by
 split at h
 .exact absurd h a
 .rename_i e;exact⟨e,h⟩
theorem bQ {z:Nat} {es:List (List V)} : bT.arr z es≠.dead:=by simp
def lX (H:View):List V->List V->Prop
 | [],[]=>True
 | v :: vs,t :: ts=>dh H v t/\lX H vs ts
 | _,_=>False
theorem lX.len {H:View} : ∀ {vs a:List V},lX H vs a->a.length=vs.length
 | [],[],_=>rfl
 | _ :: _,_ :: _,h=>by simp[lX.len h.2]
theorem lX.get {H:View} : ∀ {vs a:List V},lX H vs a->∀ i,i < vs.length->dh H (vs.getD i .any) (a.getD i .any)
 | [],[],_,i,hi=>by simp at hi
 | _ :: _,_ :: _,h,0,_=>h.1
 | _ :: _,_ :: _,h,i+1,hi=>lX.get h.2 i (by simpa using hi)
theorem av.xY {P:Program} {q:Bool} {f:FuncId} {H:View} {vs b:List V} {K:V->View->Prop} {v:cP (H,K)} {t:V} (d:ay P f b t) (a:di P f=true) (e:yh t) (c:lX H vs b) (hk:K t H):av P q f vs H K v :=
 av.borrow d a e c.len c.get hk
theorem av.K2 {P:Program} {q:Bool} {f:FuncId} {H:View} {vs b:List V} {K:V->View->Prop} {v:cP (H,K)} {t:V} (d:cx P f b t) (a:di P f=true) (c:lX H vs b) (hk:K t H):av P q f vs H K v :=
 av.yX d a c.len c.get hk
theorem dh.box {H:View} {q z:Nat} {e:List V} (a:H q=.arr z [e]) (b:∀ v∈e,Tree v):dh H (.ptr q 0 0) (.aF e 0):=by
 rintro h rfl
 refine .ptr q 0 0 z [e] e a (by simp) (by simp) (λk hk=>?_)
 simp only[Wc]
 have c:e.getD k .any=e[k]:=by simp[U5,hk]
 rw[c]
 exact .tree _ (b _ (Vg _))
theorem aZ.sl {H:View} {u:V} {sz:Nat} {es:List (List V)} (h:aZ H u sz es) (a:0 < es.length):∃ n,u=.sl n 0 es.length sz/\H n=.arr sz es:=by
 rcases h with ⟨rfl,_⟩ | h
 .simp at a
 .exact h
abbrev eC:=V × Nat × List (List V)
def bH (H:View) (L:List eC):Prop:=(∀ x∈L,aZ H x.1 x.2.1 x.2.2)/\(L.filterMap λx=>owner x.1).Nodup
theorem bH.nil {H:View} : bH H []:=⟨λx a=>by simp at a,by simp⟩
theorem bH.head {H:View} {x:eC} {L:List eC} (h:bH H (x :: L)):aZ H x.1 x.2.1 x.2.2:=h.1 x (by simp)
theorem bH.tail {H:View} {x:eC} {L:List eC} (h:bH H (x :: L)):bH H L:=by
 refine⟨λy a=>h.1 y (by simp[a]),?_⟩
 have:=h.2
 simp only[Ww] at this
 split at this
 .exact this
 .exact(V9.1 this).2
theorem bH.perm {H:View} {L a:List eC} (h:bH H L) (p:L.Perm a):bH H a :=
 ⟨λx b=>h.1 x (p.mem_iff.2 b),(p.filterMap _).nodup_iff.1 h.2⟩
theorem rv {α:Type} : ∀ (L:List α) (k:Nat) (hk:k < L.length),L.Perm (L[k] :: L.eraseIdx k)
 | x :: L,0,_=>.refl _
 | x :: L,k+1,hk=>by
  have:=rv L k (by simpa using hk)
  exact(this.cons x).trans (.swap _ _ _)
theorem bH.at {H:View} {L:List eC} (h:bH H L) (k:Nat) (hk:k < L.length):bH H (L[k] :: L.eraseIdx k) :=
 h.perm (rv L k hk)
theorem bH.obj {H:View} {n k sz:Nat} {es:List (List V)} {L:List eC} (h:bH H ((.sl n 0 k sz,sz,es) :: L)) (a:es≠[]):H n=.arr sz es/\k=es.length:=by
 rcases h.head with ⟨e,_⟩ | ⟨m,e,hm⟩
 .exact absurd e a
 .simp only[V.sl.injEq] at e
  obtain⟨rfl,_,rfl,_⟩:=e
  exact⟨hm,rfl⟩
theorem bH.off {H:View} {x:eC} {L:List eC} (h:bH H (x :: L)) {id:Nat} (a:owner x.1=some id):∀ y∈L,owner y.1≠some id:=by
 intro y b e
 have:=h.2
 simp only[Ww,a,V9,Wz,not_exists,not_and] at this
 exact this.1 y b e
theorem bH.live {H:View} {x:eC} {L:List eC} (h:bH H L) (b:x∈L) {id:Nat} (a:owner x.1=some id):H id≠.dead:=by
 rw[((h.1 x b).live a).1];simp
theorem bH.new {H:View} {L:List eC} (h:bH H L) {n:Nat} (b:H n=.dead) (sz:Nat) (es:List (List V)):bH (H.set n (.arr sz es)) ((.sl n 0 es.length sz,sz,es) :: L):=by
 refine⟨λx a=>?_,?_⟩
 .rcases Vq.1 a with rfl | a
  .exact .new
  .exact(h.1 x a).fresh b
 .simp only[Ww,owner,V9,Wz,not_exists,not_and]
  exact⟨λx a e=>h.live a e b,h.2⟩
theorem bH.LU {H H':View} {L:List eC} (h:bH H L) {u:V} {sz:Nat} {es:List (List V)} (c:aZ H' u sz es) (b:fC H H' u):bH H' ((u,sz,es) :: L):=by
 refine⟨λx a=>?_,?_⟩
 .rcases Vq.1 a with rfl | a
  .exact c
  .exact(h.1 x a).Tf b
 .cases hu:owner u with
  | none=>simp only[Ww,hu];exact h.2
  | some id =>
   simp only[Ww,hu,V9,Wz,not_exists,not_and]
   exact⟨λx a e=>(b id (h.live a e)).2 hu,h.2⟩
theorem bH.fresh {H:View} {L:List eC} (h:bH H L) {n:Nat} (a:H n=.dead) {o:bT} : bH (H.set n o) L :=
 ⟨λx b=>(h.1 x b).fresh a,h.2⟩
theorem bH.put {H:View} {L:List eC} {n k sz:Nat} {es es':List (List V)} (h:bH H ((.sl n 0 k sz,sz,es) :: L)) (b:es'.length=es.length) (hk:k=es.length):bH (H.set n (.arr sz es')) ((.sl n 0 k sz,sz,es') :: L):=by
 refine⟨λx a=>?_,by simpa [Ww,owner] using h.2⟩
 rcases Vq.1 a with rfl | a
 .exact .inr ⟨n,by simp[b,hk],by simp[View.set]⟩
 .exact(h.1 x (by simp[a])).other (h.off rfl x a)
theorem bH.left {H H':View} {L:List eC} {u u':V} {sz:Nat} {es es':List (List V)} (h:bH H ((u,sz,es) :: L)) (i:aZ H' u' sz es') (f:Left H H' u u'):bH H' ((u',sz,es') :: L):=by
 have b:∀ x∈L,∀ id,owner x.1=some id->owner u≠some id:=λx a id c hu=>h.off hu x a c
 refine⟨λx a=>?_,?_⟩
 .rcases Vq.1 a with rfl | a
  .exact i
  .exact(h.1 x (by simp[a])).left f (b x a)
 .have g:=h.tail.2
  cases hu:owner u' with
  | none=>simp only[Ww,hu];exact g
  | some id =>
   simp only[Ww,hu,V9,Wz,not_exists,not_and]
   refine⟨λx a e=>?_,g⟩
   have d:=h.tail.live a e
   exact(f id d (b x a id e)).2 hu
theorem cn {sz bytes:Nat} {u:V} {es xs:List (List V)} {L:List eC} {H:View} {K:V->View->Prop} {w:cP (H,K)} (c:bH H ((u,sz,es) :: L)) (a:(xs.all λe=>e.length == sz && e.all aJ)=true)
  (f:(es.length+xs.length) * bytes < aD) (b:es.length+xs.length < aD) (hk:∀ u' H',bH H' ((u',sz,es ++ xs) :: L)->Left H H' u u'->K u' H'):k6 sz bytes u xs H K w :=
 kx c.head a f b λu' H' h1 d=>hk u' H' (c.left h1 d) d
theorem bH.emp {H:View} {L:List eC} (h:bH H L) {k sz:Nat} : bH H ((.emp k,sz,[]) :: L):=by
 refine⟨λx a=>?_,by simpa [Ww,owner] using h.2⟩
 rcases Vq.1 a with rfl | a
 .exact .nil
 .exact h.1 x a
theorem aZ.cells {H:View} {u:V} {sz:Nat} {es:List (List V)} (h:aZ H u sz es):V.cells u=[u]:=by
 rcases h with ⟨rfl,k,rfl⟩ | ⟨n,rfl,_⟩ <;> rfl
theorem aZ.iG {H:View} {u:V} {sz:Nat} {es:List (List V)} (h:aZ H u sz es):aJ u=true:=by
 rcases h with ⟨rfl,k,rfl⟩ | ⟨n,rfl,_⟩ <;> rfl
theorem bH.MG {H:View} {L:List eC} (h:bH H L) (i j:Nat) {a e s1 b k2 s2 t1 t2:Nat} {f g:List (List V)} (hi:L[i]?=some (.sl a 0 e s1,t1,f)) (k:L[j]?=some (.sl b 0 k2 s2,t2,g)) (c:i≠j):a≠b:=by
 rintro rfl
 obtain⟨d,hi⟩:=Vf.1 hi
 have h1:=h.at i d
 rw[hi] at h1
 exact h1.off (id:=a) rfl _ (List.mem_eraseIdx_iff_getElem?.2 ⟨j,c.symm,k⟩) rfl
theorem CC {α:Type} {a b c:α} {l:List α} : (a :: b :: c :: l).Perm (b :: c :: a :: l):=(List.Perm.swap _ _ _).trans ((List.Perm.swap _ _ _).cons _)
theorem bH.own {H:View} {L:List eC} (h:bH H L) (i:Nat) {u:V} {sz:Nat} {es:List (List V)} (hi:L[i]?=some (u,sz,es)):aZ H u sz es:=h.1 _ (Vc hi)
theorem bH.is {H:View} {L:List eC} (h:bH H L) (i:Nat) {n k sz:Nat} {es:List (List V)} (hi:L[i]?=some (.sl n 0 k sz,sz,es)) (a:0 < es.length):H n=.arr sz es:=by
 obtain⟨m,e,hm⟩:=(h.own i hi).sl a
 simp only[V.sl.injEq] at e
 rw[e.1];exact hm
theorem bH.QO {H:View} {L:List eC} (h:bH H L) {b c:Nat} {es:List (V × V × Nat)} (a:H b=.map es c):∀ x∈L,owner x.1≠some b:=λx d e=>by
 have:=((h.1 x d).live e).1
 rw[a] at this;simp at this
theorem bH.SK {H:View} {L:List eC} (h:bH H L) {b c:Nat} {es:List (V × V × Nat)} (d:H b=.map es c) {o:bT} : bH (H.set b o) L :=
 ⟨λx a=>(h.1 x a).other (h.QO d x a),h.2⟩
theorem Left.map {H H':View} {u u':V} {b c:Nat} {es:List (V × V × Nat)} {sz:Nat} {xs:List (List V)} (d:Left H H' u u') (f:aZ H u sz xs) (a:H b=.map es c):H' b=.map es c:=by
 rw[(d b (by rw[a];simp) (λe=>by have:=(f.live e).1;rw[a] at this;simp at this)).1,a]
theorem B3 {H:View} {L:List eC} (h:bH H L) (i:Nat) {n k sz b c:Nat} {xs:List (List V)} {es:List (V × V × Nat)} (hi:L[i]?=some (.sl n 0 k sz,sz,xs)) (a:H b=.map es c):n≠b:=by
 rintro rfl
 exact h.QO a _ (Vc hi) rfl
theorem av.R3 {P:Program} {f:FuncId} {vs:List V} {H:View} {K:V->View->Prop} {w:cP (H,K)} {sz:Nat} {es:List (List V)} (b:aw P f vs H λr H'=>aZ H' r sz es/\fC H H' r) (hk:∀ r H',aZ H' r sz es->fC H H' r->K r H'):av P true f vs H K w:=by
 unfold av
 simp only[if_true]
 exact(b.mono λr H' h=>⟨λid a=>(h.2 id a).1,hk r H' h.1 h.2⟩).Qt
def xD:SC :=
 af [ab [aV 20 .lss 19 18],bW 20 (.exit 0),.block 1 (af [ab [aa 21 19,aa 3 21],ab [aa 22 0,aa 23 3,((some 24),.op (.hZ (.tmp 22) (.tmp 23))),ba 25 224 [24],cb 26 25],bg 26 (af [ab [bu 2 false],.ret])]),ab [aE 27 .add 19 1,aa 19 27]]
def Ca:SF:=⟨af [ab [bu 2 false],af [.region false [⟨none,[aa 4 0,((some 5),.op (.xR .eql (.tmp 4) (.val (.val (.string ⟨#[]⟩))))),aa 6 5]⟩,⟨(some (6,false)),[aa 7 0,((some 8),.op (.pw (.tmp 7))),aE 9 .gtr 8 20]⟩,⟨none,[bP 10 6 9,aa 11 10]⟩,⟨(some (11,false)),[aa 12 0,((some 13),.op (.hZ (.tmp 12) (.val (.val (.int .i64 0))))),ba 14 223 [13],cb 15 14]⟩,⟨none,[bP 16 11 15]⟩],bg 16 (af [ab [bu 2 false],.ret])],af [ab [aa 17 0,((some 18),.op (.pw (.tmp 17))),aT 19 0],bX 0 xD],ab [bu 2 true],.ret],
 [.tmp 2],28⟩
theorem EN:aQ Tryz.prog 158 []=some Ca:=by kernel_rfl
def xe:SF:=⟨af [ab [aT 2 0,aT 3 0],ab [aT 4 2],.block 0 (af [ab [aa 6 0,aP 7 6,aE 8 .lss 7 2,aa 5 8],.cond (.tmp 5) (af [ab [aT 2 0,aT 3 4],.ret]) (af [ab [aa 10 0,((some 11),.op (.idx 1 (.tmp 10) (.val (.val (.int .i64 1))))),aj 12 11,ba 13 296 [12],aa 9 13],bW 9 (af [ab [aa 15 0,((some 16),.op (.idx 1 (.tmp 15) (.val (.val (.int .i64 1))))),aj 17 16,((some 18),.op (.arith .neq (.tmp 17) (.val (.val (.int .u8 92))))),aa 14 18],.cond (.tmp 14) (af [ab [aT 2 0,aT 3 3],.ret]) (af [ab [aa 20 0,aP 21 20,aE 22 .lss 21 3,aa 19 22],.cond (.tmp 19) (af [ab [aT 2 0,aT 3 4],.ret]) (af [ab [aa 24 0,((some 25),.op (.idx 1 (.tmp 24) (.val (.val (.int .i64 2))))),aj 26 25,ba 27 297 [26],cb 28 27,aa 23 28],.cond (.tmp 23) (af [ab [aT 2 0,aT 3 3],.ret]) (ab [aT 4 3])])])])])]),af [ab [aa 29 0,aP 30 29,aa 31 4,aV 32 .leq 30 31],bg 32 (af [ab [aT 2 0,aT 3 4],.ret])],af [ab [aa 33 0,aa 34 4,aM 35 1 33 34,aj 36 35,((some 37),.op (.arith .neq (.tmp 36) (.val (.val (.int .u8 39)))))],bg 37 (af [ab [aT 2 0,aT 3 3],.ret])],ab [aa 38 4,aE 39 .add 38 1,aa 2 39,aT 3 0],.ret],
 [.tmp 2,.tmp 3],40⟩
theorem AD:aQ Tryz.prog 287 []=some xe:=by kernel_rfl
def qF:SF:=⟨af [ab [bu 2 false],af [.region false [⟨none,[aa 5 0,((some 6),.op (.xR .eql (.tmp 5) (.val (.val (.string ⟨#[]⟩))))),aa 7 6]⟩,⟨(some (7,false)),[aa 8 0,((some 9),.op (.hZ (.tmp 8) (.val (.val (.int .i64 0))))),((some 10),.op (.arith .neq (.tmp 9) (.val (.val (.int .u8 39)))))]⟩,⟨none,[bP 11 7 10]⟩],bg 11 (af [ab [bu 2 false],.ret])],ab [aa 13 0,((some 14),.op (.fJ (.tmp 13))),ba 15 287 [14],aa 12 15,cZ 16 0 12,cZ 17 1 12,aa 3 16,aa 4 17],.region false [⟨none,[aa 18 4,aE 19 .eql 18 0,aa 20 19]⟩,⟨(some (20,true)),[aa 21 3,aa 22 0,((some 23),.op (.pw (.tmp 22))),aV 24 .eql 21 23]⟩,⟨none,[c8 25 20 24,aa 2 25]⟩],.ret],
 [.tmp 2],26⟩
theorem zQ:aQ Tryz.prog 267 [14]=some qF:=by kernel_rfl
def zw:SF:=⟨af [ab [bu 2 false],.region false [⟨none,[aa 3 0,ba 4 158 [3],aa 5 4]⟩,⟨(some (5,false)),[aa 6 0,ba 7 267 [6]]⟩,⟨none,[bP 8 5 7,aa 2 8]⟩],.ret],
 [.tmp 2],9⟩
theorem CS:aQ Tryz.prog 217 []=some zw:=by kernel_rfl
def w6:SF:=⟨af [ab [bu 2 false],ab [aa 3 0,ba 4 158 [3],cb 5 4,aa 2 5],.ret],
 [.tmp 2],6⟩
theorem Ag:aQ Tryz.prog 157 []=some w6:=by kernel_rfl
theorem yn (s:ByteArray):jj s ⟨#[]⟩=decide ((fh s).length=0):=by
 unfold jj
 rw[<-eu]
 have:(s.data.toList == ([]:List UInt8))=decide (s.data.toList.length=0):=by
  cases s.data.toList <;> rfl
 show (s.data.toList == ([]:List UInt8))=_
 rw[this]
 rfl
theorem PT (s:ByteArray) (H:View):aw Tryz.prog 158 [gs s] H λr _=>r=gb (fP (fh s)):=by
 refine aw.of mixed EN ?_
 repeat' (first | ((first|apply ah.dec|apply ah.eq|apply ah.ne|apply ah.split)<;>intro)|(simp(disch:=omega)only[↓wr,seval,wq,Ca,eu,yn]))
 .rename_i h
  congr 2;simp[fP,h]
 .rename_i h1 h
  congr 2;simp[fP,show ¬ (fh s).length<=20 by omega]
 .rename_i h1 p
  cases e:fh s with
  | nil=>simp[e] at h1
  | cons c l =>
   have f:=λd (g:d∈c :: l)=>Eh (s:=s) (c:=d) (by rw[e];exact g)
   have j:=f c (by simp)
   repeat' (first | ((first|apply ah.dec|apply ah.eq|apply ah.ne|apply ah.split)<;>intro)|(simp(disch:=omega)only[↓wr,seval,wq,e,Vu,eu]))
   refine av.pure (wz s8 K9 c j.1 j.2) ?_
   repeat' (first | ((first|apply ah.dec|apply ah.eq|apply ah.ne|apply ah.split)<;>intro)|(simp(disch:=omega)only[↓wr,seval,wq,e,Vu,eu]))
   .rename_i q
    rw[e] at h1 p
    refine bc.intro (λk T H'=>∃ i:Nat,i+k=(c :: l).length/\((c :: l).take i).all nA=true/\T 0=gs s/\T 18=gi (c :: l).length/\T 19=gi i) (c :: l).length ?_ ?_
    .exact⟨0,by omega,by simp,rfl,rfl,rfl⟩
    .rintro k T H' ⟨i,hk,hi,n,a,b⟩
     simp(disch:=omega)only[↓wr,seval,wq,xD,n,a,b,eu,e]
     apply ah.dec<;>intro t
     .simp only[Vm] at t hk p
      have o:(c :: l)[i]?=some ((c :: l)[i]'(by simp;omega)):=U6 (by simp;omega)
      have hm:(c :: l)[i]'(by simp;omega)∈c :: l:=Vg _
      generalize (c :: l)[i]'(by simp;omega)=d at o hm
      have m:=f d hm
      simp(disch:=omega)only[↓wr,seval,wq,n,a,b,eu,e,o]
      refine av.pure (wz s8 Oi d m.1 m.2) ?_
      repeat' (first | ((first|apply ah.dec|apply ah.eq|apply ah.ne|apply ah.split)<;>intro)|(simp(disch:=omega)only[↓wr,seval,wq,n,a,b,eu,e,o]))
      .rename_i g
       refine⟨k - 1,by omega,i+1,by omega,?_,by first | rfl | exact⟨rfl,rfl⟩⟩
       rw[Vs,o]
       simp only[Option.toList_some,List.all_append,hi,Wb,g,List.all_nil,Bool.and_self]
      .rename_i g
       congr 2
       have:(c :: l).all nA=false:=by
        rw[List.all_eq_false];exact⟨d,hm,by simp[g]⟩
       simp only[fP,this,W7]
     .simp(disch:=omega)only[↓wr,seval,wq,n,a,b]
      simp only[Vm] at t hk p
      rw[Vn (by simp;omega)] at hi
      congr 2
      simp only[fP,hi,Vm]
      simp[q];omega
   .rename_i q
    congr 2;simp[fP,q]
theorem Fw (s:ByteArray):ay Tryz.prog 158 [gs s] (gb (fP (fh s))):=ay.val (oZ s) (PT s)
def kC (l:List Int):Int × Int :=
 if xB (l.getD 1 0)=true then (2,0) else if l.getD 1 0≠92 then (0,3) else if l.length < 3 then (0,4) else if Dc (l.getD 2 0)=true then (3,0) else (0,3)
def mq (l:List Int):Int × Int :=
 if l.length < 2 then (0,4) else if (kC l).2≠0 then (0,(kC l).2) else if (l.length:Int)<=(kC l).1 then (0,4) else if l.getD (kC l).1.toNat 0≠39 then (0,3) else ((kC l).1+1,0)
theorem N2 {l:List Int} {n:Int} (a:kC l=(n,0)) (b:¬ l.length < 2):mq l=if (l.length:Int)<=n then (0,4) else if l.getD n.toNat 0≠39 then (0,3) else (n+1,0):=by
 rw[mq,U8 b,a];simp
theorem Fo {l:List Int} {e:Int} (a:kC l=(0,e)) (he:e≠0) (b:¬ l.length < 2):mq l=(0,e):=by
 rw[mq,U8 b,a];simp[he]
theorem Li (l:List Int) (hr:∀ c∈l,0<=c/\c<=255) (H:View):aw Tryz.prog 287 [.aS (l.map λx=>[gy x])] H λr _=>r=.bm [gi (mq l).1,gi (mq l).2]:=by
 refine aw.of mixed AD ?_
 simp(disch:=omega)only[↓wr,seval,wq,xe]
 apply ah.dec<;>intro h
 .simp(disch:=omega)only[↓wr,seval,wq]
  rw[mq,Va (by omega)]
 .have h1:l[1]?=some (l[1]'(by omega)):=U6 (by omega)
  have g1:l.getD 1 0=l[1]'(by omega):=by simp[U5,h1]
  have m1:l[1]'(by omega)∈l:=Vg _
  generalize l[1]'(by omega)=b at h1 g1 m1
  have o:=hr b m1
  simp(disch:=omega)only[↓wr,seval,wq,U9,h1]
  refine av.pure (wz s8 Ma b o.1 o.2) ?_
  simp(disch:=omega)only[↓wr,seval,wq]
  apply ah.split<;>intro hp
  .have p:kC l=(2,0):=by rw[kC,Va (by rw[g1];exact hp)]
   simp(disch:=omega)only[↓wr,seval,wq]
   have a:=N2 p (by omega)
   apply ah.dec<;>intro m
   .simp(disch:=omega)only[↓wr,seval,wq]
    rw[a,Va (by omega)]
   .rw[U8 (by omega)] at a
    have g:l[2]?=some (l[2]'(by omega)):=U6 (by omega)
    have g2:l.getD (2:Int).toNat 0=l[2]'(by omega):=by simp[U5,g]
    generalize l[2]'(by omega)=c at g g2
    rw[g2] at a
    simp(disch:=omega)only[↓wr,seval,wq,U9,g]
    apply ah.ne<;>intro i
    .simp(disch:=omega)only[↓wr,seval,wq]
     rw[a,Va i]
    .simp(disch:=omega)only[↓wr,↓reduceIte,wq,Nat.reduceEqDiff,Nat.reduceAdd,Nat.reduceLT,Nat.reduceLeDiff,Int.reduceNeg,Int.reduceToNat,reduceCtorEq]
     rw[a,U8 (λq=>q i)]
  .simp(disch:=omega)only[↓wr,seval,wq,U9,h1]
   apply ah.ne<;>intro k
   .simp(disch:=omega)only[↓wr,seval,wq]
    rw[Fo (e:=3) (by rw[kC,U8 (by rw[g1,hp];simp),Va (by rw[g1];exact k)]) (by simp) (by omega)]
   .simp(disch:=omega)only[↓wr,seval,wq]
    apply ah.dec<;>intro s
    .simp(disch:=omega)only[↓wr,seval,wq]
     rw[Fo (e:=4) (by rw[kC,U8 (by rw[g1,hp];simp),U8 (by rw[g1];exact λq=>q k),Va (by omega)]) (by simp) (by omega)]
    .have g:l[2]?=some (l[2]'(by omega)):=U6 (by omega)
     have g2:l.getD 2 0=l[2]'(by omega):=by simp[U5,g]
     have m2:l[2]'(by omega)∈l:=Vg _
     generalize l[2]'(by omega)=c at g g2 m2
     have j:=hr c m2
     have f:kC l=if Dc c=true then (3,0) else (0,3):=by rw[kC,U8 (by rw[g1,hp];simp),U8 (by rw[g1];exact λq=>q k),U8 (by omega),g2]
     simp(disch:=omega)only[↓wr,seval,wq,U9,g]
     refine av.pure (wz s8 Rp c j.1 j.2) ?_
     simp(disch:=omega)only[↓wr,seval,wq]
     apply ah.split<;>intro he
     .rw[Va he] at f
      have a:=N2 f (by omega)
      simp(disch:=omega)only[↓wr,seval,wq]
      apply ah.dec<;>intro m
      .simp(disch:=omega)only[↓wr,seval,wq]
       rw[a,Va (by omega)]
      .rw[U8 (by omega)] at a
       have n:l[3]?=some (l[3]'(by omega)):=U6 (by omega)
       have g3:l.getD (3:Int).toNat 0=l[3]'(by omega):=by simp[U5,n]
       generalize l[3]'(by omega)=d at n g3
       rw[g3] at a
       simp(disch:=omega)only[↓wr,seval,wq,U9,n]
       apply ah.ne<;>intro i
       .simp(disch:=omega)only[↓wr,seval,wq]
        rw[a,Va i]
       .simp(disch:=omega)only[↓wr,↓reduceIte,wq,Nat.reduceEqDiff,Nat.reduceAdd,Nat.reduceLT,Nat.reduceLeDiff,Int.reduceNeg,Int.reduceToNat,reduceCtorEq]
        rw[a,U8 (λq=>q i)]
     .rw[U8 (by rw[he];simp)] at f
      simp(disch:=omega)only[↓wr,seval,wq]
      rw[Fo f (by simp) (by omega)]
end Gv
