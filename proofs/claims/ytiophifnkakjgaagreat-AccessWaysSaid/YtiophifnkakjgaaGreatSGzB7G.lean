/-
  Part 7 of the proof: what the machine does and what the functions answer.
  Conditions: those that each lemma names.
-/
import Derived.Test.YtiophifnkakjgaaGreatSGzB7F
set_option linter.unusedSimpArgs false
set_option linter.unusedVariables false
set_option maxRecDepth 100000
set_option maxHeartbeats 20000000
namespace Gv
open Go Go.Proofs
section
variable {P:Program} {n:Nat} {all:List Oper}
def iB (h:az) (e:ES):Prop:=e.V=h.view/\e.n=h.length
def Calm (e e':ES) (h h':az):Prop:=h.length<=h'.length/\(∀ id,id < h.length->¬ id∈e'.w->h'.view id=h.view id/\¬ id∈e.w)
theorem Calm.trans {a b c:ES} {h1 e f:az} (x:Calm a b h1 e) (y:Calm b c e f):Calm a c h1 f :=
 ⟨Tq x.1 y.1,λid d hw =>
  let ⟨g,d1⟩:=y.2 id (S8 d x.1) hw
  let ⟨h,d2⟩:=x.2 id d d1
  ⟨g.trans h,d2⟩⟩
theorem Calm.refl (e:ES) (h:az):Calm e e h h:=⟨Sy _,λ_ _ hw=>⟨rfl,hw⟩⟩
def kr (P:Program) (call:hX):Prop:=∀ g vs e v e' h,call g vs e=some (v,e')->iB h e ->
 dw P g=true/\∃ h',bE P g vs h v h'/\iB h' e'/\(∀ id,id < h.length->¬ id∈e'.w->h'.view id=h.view id)/\∀ id,id∈e'.w->id < h.length
def vl (P:Program) (run:vN):Prop:=∀ (n:Nat) (fz:List Nat) (c:Code) (sc:DC),iR P n fz c=some sc->n<=8000->∀ (e e':ES) (r:Exit) (h:az),run sc e=some (r,e')->iB h e ->
 ∃ h',cX P n c e.T h r e'.T h'/\iB h' e'/\Calm e e' h h'/\∀ c0,c=.loop c0->pg P n c0 e.T h r e'.T h'
theorem MC {h:az} {e:ES} {d:Option Nat} {v:V} (he:iB h e):iB h (e.put d v):=by cases d <;> exact he
theorem OV {e:ES} {d:Option Nat} {v:V} : (e.put d v).w=e.w:=by cases d <;> rfl
theorem Ot {h:az} {e e':ES} {b:az} {d:Option Nat} {v:V} (x:Calm e e' h b):Calm e (e'.put d v) h b:=⟨x.1,λid a hw=>x.2 id a (by rw[OV] at hw;exact hw)⟩
theorem zW {a:Nat} (h:Nat.ble a 8000=true):a+1 < 2 ^ 13:=by
 have:=Nat.le_of_ble_eq_true h
 omega
theorem PZ {h:az} {e e':ES} {v v':V} {eff:bh} {rd:List Nat} {c:Rec} (he:iB h e) (a:E1 v eff rd e=some (v',e',c)) :
  v'=v/\e'.T=e.T/\e'.V=eff.view h.view h.length/\e'.n=(eff.apply h).length/\c=⟨rd,eff.wr,false,h.length,(eff.apply h).length⟩/\e'.w=eff.wr ++ e.w:=by
 obtain⟨h1,b⟩:=he
 unfold E1 at a
 cases eff with
 | none =>
  simp only[Sq,Su] at a
  obtain⟨rfl,rfl,rfl⟩:=a
  exact⟨rfl,rfl,h1,b,by rw[b];rfl,rfl⟩
 | new o =>
  simp only at a
  split at a
  .rename_i d
   simp only[Sq,Su] at a
   obtain⟨rfl,rfl,rfl⟩:=a
   refine⟨rfl,rfl,?_,by simp[gn,b],by simp[gn,b,bh.wr],rfl⟩
   funext k
   simp only[ES.V,bh.view,View.set]
   rw[cr.mH _ _ _ _ _ _ (zW d),b]
   have:=congrFun h1 k
   simp only[ES.V] at this
   rw[this]
  .simp at a
 | eS id o =>
  simp only at a
  split at a
  .rename_i d
   simp only[Sq,Su] at a
   obtain⟨rfl,rfl,rfl⟩:=a
   refine⟨rfl,rfl,?_,by simp[gn,b],by simp[gn,b,bh.wr],rfl⟩
   funext k
   simp only[ES.V,bh.view,View.set]
   rw[cr.mH _ _ _ _ _ _ (zW d)]
   have:=congrFun h1 k
   simp only[ES.V] at this
   rw[this]
  .simp at a
 | eJ id o =>
  simp only at a
  split at a
  .rename_i f g
   simp only[Sq,Su] at a
   obtain⟨rfl,rfl,rfl⟩:=a
   refine⟨rfl,rfl,?_,by simp[gn,b],by simp[gn,b,bh.wr],rfl⟩
   funext k
   simp only[ES.V,bh.view,View.set]
   rw[cr.mH _ _ _ _ _ _ (zW f),cr.mH _ _ _ _ _ _ (zW g),b]
   have:=congrFun h1 k
   simp only[ES.V] at this
   rw[this]
  .simp at a
theorem Qk {o:Oper} {e e':ES} {h:az} {s:SI} {v:V} {c:Rec} (i:dt n all e.T o=some true) (j:∀ v eff rd,sI P s e.T h.view h.length=some (v,eff,rd)->bY P o e.T h.view h.length=some (v,eff,rd))
  (he:iB h e) (b:Lr P s e=some (v,e',c)):∃ d,dJ P n all o e.T h v d c.rd c.wr c.call/\iB d e'/\e'.T=e.T/\Calm e e' h d/\jZ (sr P s) c.rd c.wr c.call h.length d.length/\c.lo=h.length/\c.hi=d.length:=by
 unfold Lr at b
 rw[Jh,he.1,he.2] at b
 split at b
 .rename_i v0 eff rd f
  obtain⟨rfl,g1,g2,g3,rfl,g5⟩:=PZ he b
  have g:=j _ _ _ f
  have st:=dJ.op (P:=P) (n:=n) (all:=all) i g
  refine⟨eff.apply h,st,⟨?_,g3⟩,g1,⟨sm st,λid a hw=>?_⟩,⟨λk=>?_,λh1=>?_⟩,rfl,rfl⟩
  .rw[kE (λid a=>(lS g id a).1)];exact g2
  .rw[g5] at hw
   simp only[SS,not_or] at hw
   exact⟨qm st a hw.1,hw.2⟩
  .obtain⟨rfl,rfl⟩:=(qN f).1 k
   exact⟨rfl,rfl,rfl,rfl⟩
  .rcases SY (sr P s) 1 with l | l
   .obtain⟨rfl,rfl⟩:=(qN f).1 (by omega);rfl
   .exact(qN f).2 (by omega)
 .simp at b
theorem QW {call:hX} (j:kr P call) {q:Fz} {o:Oper} {e e':ES} {h:az} {v:V} {c:Rec} (r:dt n all e.T o=some true) (he:iB h e) (a:eB P call (lK P q o) e=some (v,e',c)) :
  ∃ k,dJ P n all o e.T h v k c.rd c.wr c.call/\iB k e'/\e'.T=e.T/\Calm e e' h k/\jZ (iq P false (lK P q o)) c.rd c.wr c.call h.length k.length/\c.lo=h.length/\c.hi=k.length:=by
 rcases yE P q o with ⟨f,args,C,m,i | i⟩ | ⟨t,x,m,i⟩ | ⟨s,d,x,m,u,i⟩ | i
 rotate_left
 .rw[i] at a
  simp[eB] at a
 rotate_right
 .rw[i] at a ⊢
  simp only[eB,L9] at a
  split at a
  .rename_i g first cap A
   rw[Aw] at a
   rw[SX.cF] at A
   split at a
   .rename_i v0 G D
    obtain⟨l,k,hr,p,B,w⟩:=j _ _ _ _ _ _ D he
    simp only[Sq,Su] at a
    obtain⟨rfl,rfl,rfl⟩:=a
    exact⟨k,.call r m A l hr B w,p,rfl,⟨hr.1,λid y hw=>by
     simp only[SS,not_or] at hw
     exact⟨B id y hw.1,hw.2⟩⟩,OY (by simp[iq]),he.2,p.2⟩
   .simp at a
  .simp at a
 .rw[i] at a ⊢
  simp only[eB,Lr,Jh,sI,SX.cF] at a
  split at a
  .rename_i v0 eff rd b
   split at b
   .rename_i l
    simp only[Sq,Su] at b
    obtain⟨rfl,rfl,rfl⟩:=b
    simp only[E1,Sq,Su] at a
    obtain⟨rfl,rfl,rfl⟩:=a
    exact⟨h,.jd r m l,he,rfl,Calm.refl _ _,⟨λ_=>⟨rfl,rfl,rfl,rfl⟩,λ_=>rfl⟩,he.2,he.2⟩
   .simp at b
  .simp at a
 .rw[i] at a ⊢
  obtain⟨ty,h1,E,F⟩:=yj u
  simp only[eB,Lr,Jh,sI,SX.cF] at a
  split at a
  .rename_i v0 eff rd b
   split at b
   .rename_i st z
    simp only[Sq,Su] at b
    obtain⟨rfl,rfl,rfl⟩:=b
    simp only[E1,Sq,Su] at a
    obtain⟨rfl,rfl,rfl⟩:=a
    exact⟨h,.fN r m h1 E F z,he,rfl,Calm.refl _ _,⟨λ_=>⟨rfl,rfl,rfl,rfl⟩,λ_=>rfl⟩,he.2,he.2⟩
   .simp at b
  .simp at a
 .rw[i] at a ⊢
  exact Qk (s:=wU P q.fr (comp P o)) r (λv eff rd b=>G7 (G4 b)) he a
theorem Qy {o:Oper} (a:qt n o=true) (b:n<=8000):∀ t,o.dst=some t->t < 8000:=by
 intro t c
 unfold qt at a
 rw[c] at a
 have:t < n:=by simpa using a
 exact S8 this b
theorem Pe {c:Rec} {a b:Nat} (h1:c.lo=a) (d:c.hi=b):c=⟨c.rd,c.wr,c.call,a,b⟩:=by cases c;subst h1;subst d;rfl
theorem FU {call:hX} (i:kr P call) (N:n<=8000) {S:Fz} (g:Option (Nat × Bool)):∀ (l:List (Option Nat × SB)) (os:List Oper) (e e':ES) (h:az) (a u:List Rec),
  dB P n all S os=some (l.map λ(d,b)=>⟨d,g,b⟩)->(∀ d w,g=some (d,w)->e.T d=.val (.bool w)/\(l.all λx=>x.1 != some d)=true)->iB h e->HU P call l a e=some (e',u) ->
  ∃ f z,u=a ++ f/\Tr P n all os e.T h f e'.T z/\iB z e'/\Calm e e' h z/\fK P false (l.map λ(d,b)=>⟨d,g,b⟩) f
 | [],os,e,e',h,a,u,A,B,he,k=>by
  have:=kx A;subst this
  simp only[HU,Sq,Su] at k;obtain⟨rfl,rfl⟩:=k
  exact⟨[],h,by simp,.nil,he,Calm.refl _ _,.nil⟩
 | (d,b) :: l,os,e,e',h,a,u,A,B,he,k=>by
  obtain⟨o,r,rfl,h1,U⟩:=k9 A
  obtain⟨O,j,q,s⟩:=rY h1
  simp only at j q s
  have C:dt n all e.T o=some true:=by
   cases g with
   | none=>exact A0 s
   | some p =>
    obtain⟨D,w⟩:=p
    have:=(kJ (T:=e.T) s).1 w (B D w rfl).1
    rw[this];simp
  simp only[HU] at k
  rw[q] at k
  split at k
  .rename_i v Q c V
   obtain⟨E,st,F,G,H,W,I,J⟩:=QW i C he V
   have m:(Q.put d v).T=e.T.put o.dst v:=by
    rw[ES.Pa (by rw[j];exact Qy O N),G,j]
   obtain⟨f,K,X,R,L,y,M⟩:=FU i N g l r (Q.put d v) e' E _ u U (λD w eq=>by
    have:=B D w eq
    simp only[TU,SE,bne_iff_ne,ne_eq] at this
    refine⟨?_,this.2.2⟩
    rw[<-this.1,m,<-j]
    cases d with
    | none=>rfl
    | some t=>simp only[Env.put];rw[Sr];intro e;subst e;exact this.2.1 rfl) (MC F) k
   rw[m] at R
   refine⟨_,K,?_,.cons st O R,L,(Ot H).trans y,M.cons (by rw[q];exact W)⟩
   rw[X,TB,<-Pe I J];rfl
  .simp at k
theorem Ew {E:Fz} (C:n<=8000) (d:Nat) (w:Bool) (h:az):∀ (l:List (Option Nat × SB)) (os:List Oper) (e e':ES) (a m:List Rec),
  dB P n all E os=some (l.map λ(g,b)=>⟨g,some (d,w),b⟩)->(e.T d=.val (.bool !w)∨e.T d=.aS [])->(l.all λx=>x.1 != some d)=true->iB h e->ug l a e=(e',m) ->
  ∃ c,m=a ++ c/\Tr P n all os e.T h c e'.T h/\iB h e'/\e'.w=e.w/\fK P false (l.map λ(g,b)=>⟨g,some (d,w),b⟩) c
 | [],os,e,e',a,m,u,j,s,he,p=>by
  have:=kx u;subst this
  simp only[ug,Su] at p;obtain⟨rfl,rfl⟩:=p
  exact⟨[],by simp,.nil,he,rfl,.nil⟩
 | (g,b) :: l,os,e,e',a,m,u,j,s,he,p=>by
  obtain⟨o,r,rfl,h1,F⟩:=k9 u
  obtain⟨q,f,v,k⟩:=rY h1
  simp only at f v k
  have y:dt n all e.T o=some false:=by
   rcases j with j | j
   .rw[(kJ (T:=e.T) k).1 _ j];cases w <;> rfl
   .exact(kJ (T:=e.T) k).2 j
  simp only[TU,SE,bne_iff_ne,ne_eq] at s
  have i:(e.put g (.aS [])).T=e.T.put o.dst (.aS []):=by
   rw[ES.Pa (by rw[f];exact Qy q C),f]
  simp only[ug] at p
  obtain⟨c,G,D,z,A,B⟩:=Ew C d w h l r (e.put g (.aS [])) e' _ m F (by
   have:(e.put g (.aS [])).T d=e.T d:=by
    rw[i,<-f]
    cases g with
    | none=>rfl
    | some t=>simp only[Env.put];rw[Sr];intro e;subst e;exact s.1 rfl
   rw[this];exact j) s.2 (MC he) p
  rw[i] at D
  refine⟨_,?_,Tr.cons (.skip y) q D,z,by rw[A,OV],B.cons (r:=⟨[],[],false,h.length,h.length⟩) ⟨λ_=>⟨rfl,rfl,rfl,rfl⟩,λ_=>rfl⟩⟩
  rw[G,TB,OZ,he.2];rfl
theorem CT {j:Fz} (k:n<=8000) {d:Nat} {w:Bool} {h:az} {l:List (Option Nat × SB)} {os:List Oper} {e e':ES} {a f:List Rec}
  (m:dB P n all j os=some (l.map λ(g,b)=>⟨g,some (d,w),b⟩)) (o:e.T d=.val (.bool !w)∨e.T d=.aS []) (p:(l.all λx=>x.1 != some d)=true) (he:iB h e) (q:ug l a e=(e',f)) :
  ∃ c i,f=a ++ c/\Tr P n all os e.T h c e'.T i/\iB i e'/\Calm e e' h i/\fK P false (l.map λ(g,b)=>⟨g,some (d,w),b⟩) c:=by
 obtain⟨c,h1,r,s,t,u⟩:=Ew k d w h l os e e' a f m o p he q
 exact⟨c,h,h1,r,s,⟨Sy _,λid _ hw=>⟨rfl,by rw[t] at hw;exact hw⟩⟩,u⟩
theorem Q2 {call:hX} (i:kr P call) (m:n<=8000) {s:Fz} {g:SG} {os:List Oper} {e e':ES} {h:az} {a o:List Rec} (k:dB P n all s os=some g.flat) (c:r5 g=true) (he:iB h e) (f:eG P call g a e=some (e',o)) :
  ∃ j q,o=a ++ j/\Tr P n all os e.T h j e'.T q/\iB q e'/\Calm e e' h q/\fK P false g.flat j:=by
 unfold eG at f
 unfold SG.flat at k ⊢
 unfold r5 at c
 split at f
 .rename_i r
  rw[r] at k ⊢
  exact FU i m none g.ops os e e' h a o k (λd w e=>by simp at e) he f
 .rename_i d want r
  rw[r] at k c ⊢
  simp only at c
  unfold KR at f
  split at f
  .rename_i b p
   split at f
   .rename_i l
    simp only[Sq] at f
    have e':b = !want:=by cases b <;> cases want <;> simp_all
    subst e'
    exact CT m k (.inl p) c he f
   .rename_i l
    have e':b=want:=by cases b <;> cases want <;> simp_all
    subst e'
    exact FU i m (some (d,b)) g.ops os e _ h a o k (λt w e=>by simp at e;obtain⟨rfl,rfl⟩:=e;exact⟨p,c⟩) he f
  .rename_i p
   simp only[Sq] at f
   exact CT m k (.inr p) c he f
  .simp at f
theorem KD {call:hX} (b:kr P call) (z:n<=8000) {A:Fz} : ∀ (gs:List SG) (os:List Oper) (e e':ES) (h:az) (a i:List Rec),dB P n all A os=some (jU gs)->gs.all r5=true->iB h e->LB P call gs a e=some (e',i) ->
  ∃ c k,i=a ++ c/\Tr P n all os e.T h c e'.T k/\iB k e'/\Calm e e' h k/\fK P false (jU gs) c
 | [],os,e,e',h,a,i,j,_,he,d=>by
  have:=kx j;subst this
  simp only[LB,Sq,Su] at d;obtain⟨rfl,rfl⟩:=d
  exact⟨[],h,by simp,.nil,he,Calm.refl _ _,.nil⟩
 | g :: gs,os,e,e',h,a,i,j,f,he,d=>by
  simp only[jU,S7,List.flatten_cons] at j ⊢
  simp only[TU,SE] at f
  obtain⟨F,B,rfl,h1,C⟩:=qa j
  simp only[LB] at d
  split at d
  .rename_i D E l
   obtain⟨G,m,o,p,q,r,s⟩:=Q2 b z h1 f.1 he l
   obtain⟨H,t,u,v,w,x,y⟩:=KD b z gs B D e' m E i C f.2 q d
   exact⟨_,t,by rw[u,o,TB],p.append v,w,r.trans x,s.append y⟩
  .simp at d
theorem MF {ls:List Nat} {i k x y:Nat} (a:i < k) (b:ls[i]?=some x) (c:ls[k]?=some y) (d:ordered (fo all []) i k=false) (h:¬ (x=0∨y=0∨(x<=1/\y<=1))):(i,k)∈zG all ls:=by
 unfold zG
 simp only[List.mem_flatten,S5]
 refine⟨_,⟨(x,i),by rw[Tw];exact b,rfl⟩,?_⟩
 simp only[S5,TD]
 refine⟨(y,k),⟨by rw[Tw];exact c,?_⟩,rfl⟩
 simp only[a,decide_true,d,Bool.false_or,TC,Ur,Bool.or_eq_false_iff,beq_eq_false_iff_ne,Bool.and_eq_false_iff,TJ]
 omega
theorem NG {ls:List Nat} {d:List Rec} (h:LI d (zG all ls)=true) (v:ls.length=d.length) (hr:∀ (i x:Nat) (r:Rec),ls[i]?=some x->d[i]?=some r->jZ x r.rd r.wr r.call r.lo r.hi):s6 all d:=by
 intro i k a b l m n t
 have hi:i < d.length:=(SH.1 m).1
 have hk:k < d.length:=(SH.1 n).1
 have j:ls[i]?=some (ls[i]'(by omega)):=Sn (by omega)
 have o:ls[k]?=some (ls[k]'(by omega)):=Sn (by omega)
 generalize ls[i]'(by omega)=x at j
 generalize ls[k]'(by omega)=y at o
 have q:=hr i _ a j m
 have s:=hr k _ b o n
 by_cases f:x=0∨y=0∨(x<=1/\y<=1)
 .rcases f with h1 | h1 | h1
  .obtain⟨g,e,p,u⟩:=q.1 h1
   exact⟨λid c=>by simp[e] at c,λid _=>by simp[g],λf=>by simp[p] at f,λ_=>e,λid _ j=>by omega⟩
  .obtain⟨g,e,p,u⟩:=s.1 h1
   exact⟨λid _=>by simp[g],λid c=>by simp[e] at c,λ_=>e,λf=>by simp[p] at f,λid c=>by simp[e] at c⟩
  .have g:=q.2 h1.1
   have e:=s.2 h1.2
   exact⟨λid c=>by simp[g] at c,λid c=>by simp[e] at c,λ_=>e,λ_=>g,λid c=>by simp[e] at c⟩
 .have:=Tc.1 h _ (MF l j o t f)
  simp only[m,n] at this
  exact Ko this
theorem PA (hm:P.follows .mixedOrders=true) {call:hX} (g:kr P call) (D:n<=8000) {y:List Nat} {id:Nat} {ops:Array Oper} {draw:Bool} {z:DC} {run:vN} {e e':ES} {r:Exit} {h:az}
  (c:Ef P n y ops.toList draw=some z) (he:iB h e) (a:lL P call run z e=some (r,e')) :
  ∃ f,cX P n (.region id ops draw) e.T h r e'.T f/\iB f e'/\Calm e e' h f:=by
 unfold Ef at c
 split at c
 .simp at c
 .rename_i l E
  split at c
  .simp at c
  .rename_i j
   have j:(group l).all r5=true:=by simpa using j
   have p:dB P n ops.toList ⟨y,false⟩ ops.toList=some (jU (group l)):=by rw[fZ];exact E
   have key:∀ q,lL P call run (.region q (group l)) e=some (r,e')->(draw=true->k8 ops.toList=true/\q=zG ops.toList (l.map λs=>iq P false s.b)) ->
     ∃ f,cX P n (.region id ops draw) e.T h r e'.T f/\iB f e'/\Calm e e' h f:=by
    intro q a t
    simp only[lL,GS] at a
    split at a
    .rename_i F d u
     split at a
     .rename_i m
      simp only[Sq,Su] at a
      obtain⟨rfl,rfl⟩:=a
      obtain⟨A,f,B,C,hk,v,k⟩:=KD g D (group l) ops.toList e F h [] d p j he u
      simp only[Ty] at B
      subst B
      rw[fZ] at k
      refine⟨f,?_,hk,v⟩
      cases o:draw with
      | false=>simpa using Em (id:=id) C
      | true =>
       obtain⟨h1,rfl⟩:=t o
       have w:s6 ops.toList d:=NG m (by simpa using k.1) (λi x r a hr=>by
        simp only[Ss,Sw] at a
        obtain⟨s,G,rfl⟩:=a
        exact k.2 i s r G hr)
       simpa using xz hm (id:=id) C h1 w
     .simp at a
    .simp at a
   split at c
   .rename_i o
    split at c
    .rename_i H
     simp at c;subst c
     exact key _ a (λ_=>⟨H,rfl⟩)
    .simp at c
   .rename_i o
    simp at c;subst c
    exact key _ a (λe=>absurd e o)
theorem Nv (hm:P.follows .mixedOrders=true) {call:hX} (q:kr P call) {run:vN} (f:vl P run):vl P (lL P call run):=by
 intro n p c I k o e e' r h g he
 cases c with
 | skip =>
  simp[iR] at k;subst k
  simp only[lL,Kx,Sq,Su] at g
  obtain⟨rfl,rfl⟩:=g
  exact⟨h,.skip,he,Calm.refl _ _,λ_ h=>by simp at h⟩
 | region id ops draw =>
  obtain⟨G,a,b,d⟩:=PA (id:=id) hm q o k he g
  exact⟨G,a,b,d,λ_ h=>by simp at h⟩
 | seq x y =>
  simp only[iR] at k
  split at k
  .rename_i a b h1 B
   simp at k;subst k
   simp only[lL,P2] at g
   split at g
   .rename_i s m
    obtain⟨i,l,j,c1,w⟩:=f n p x a h1 o e s .normal h m he
    obtain⟨t,E,u,c2,F⟩:=f n p y b B o s e' r i g j
    exact⟨t,l.seq E,u,c1.trans c2,λ_ h=>by simp at h⟩
   .rename_i v
    obtain⟨i,l,j,c1,w⟩:=f n p x a h1 o e e' r h g he
    refine⟨i,l.HR (λe=>?_),j,c1,λ_ h=>by simp at h⟩
    subst e
    exact absurd g (v e')
  .simp at k
 | cond J x y =>
  simp only[iR] at k
  split at k
  .rename_i a b h1 B
   simp at k;subst k
   simp only[lL,O1,SX.cF] at g
   split at g
   .rename_i C
    obtain⟨i,l,j,c1,w⟩:=f n p x a h1 o e e' r h g he
    exact⟨i,.cond C l,j,c1,λ_ h=>by simp at h⟩
   .rename_i C
    obtain⟨i,l,j,c1,w⟩:=f n p y b B o e e' r h g he
    exact⟨i,.cond C l,j,c1,λ_ h=>by simp at h⟩
   .simp at g
  .simp at k
 | block id c =>
  simp only[iR,Sw] at k
  obtain⟨a,h1,rfl⟩:=k
  simp only[lL,Ma] at g
  split at g
  .rename_i H s m
   simp only[Sq,Su] at g
   obtain⟨rfl,rfl⟩:=g
   obtain⟨i,l,j,c1,w⟩:=f n p c a h1 o e s H h m he
   exact⟨i,l.block,j,c1,λ_ h=>by simp at h⟩
  .simp at g
 | loop c =>
  have D:=k
  simp only[iR,Sw] at k
  obtain⟨a,h1,rfl⟩:=k
  simp only[lL,O0] at g
  split at g
  .rename_i s m
   obtain⟨i,l,j,c1,w⟩:=f n p c a h1 o e s .normal h m he
   obtain⟨t,E,u,c2,F⟩:=f n p (.loop c) (.loop a) D o s e' r i g j
   have z:=pg.step l (F c rfl)
   exact⟨t,.loop z,u,c1.trans c2,λc0 A=>by simp only[Code.loop.injEq] at A;subst A;exact z⟩
  .rename_i v
   obtain⟨i,l,j,c1,w⟩:=f n p c a h1 o e e' r h g he
   have z:=pg.out l (λe=>by subst e;exact absurd g (v e'))
   exact⟨i,.loop z,j,c1,λc0 A=>by simp only[Code.loop.injEq] at A;subst A;exact z⟩
 | exit id =>
  simp[iR] at k;subst k
  simp only[lL,Sq,Su] at g
  obtain⟨rfl,rfl⟩:=g
  exact⟨h,.exit,he,Calm.refl _ _,λ_ h=>by simp at h⟩
 | ret =>
  simp[iR] at k;subst k
  simp only[lL,Sq,Su] at g
  obtain⟨rfl,rfl⟩:=g
  exact⟨h,.ret,he,Calm.refl _ _,λ_ h=>by simp at h⟩
 | _=>simp[iR] at k
theorem Dk:∀ (vs:List V) (i:Nat) (t:cr V),i+vs.length<=8000->∀ k,(me vs i t).get .any k=if i<=k/\k < i+vs.length then vs.getD (k - i) .any else t.get .any k
 | [],i,t,h,k=>by
  rw[me,Sr (by simp only[SZ];omega)]
 | v :: vs,i,t,h,k=>by
  simp only[SA] at h
  rw[me,Dk vs (i+1) _ (by omega),cr.mH _ _ _ _ _ _ (by simp only[deep];omega)]
  simp only[SA]
  by_cases h1:k=i
  .subst h1;rw[Sr (by omega),St rfl,St (by omega)];simp
  .by_cases a:i+1<=k/\k < i+1+vs.length
   .rw[St a,St (by omega)]
    have:k - i=(k - (i+1))+1:=by omega
    rw[this];rfl
   .rw[Sr a,Sr h1,Sr (by omega)]
theorem GH (vs:List V) (h:vs.length<=8000):(me vs 0 .nil).get .any=kC vs:=by
 funext k
 rw[Dk vs 0 .nil (by omega)]
 simp only[kC,TP,true_and,Tt,Nat.sub_zero]
 split
 .rfl
 .rename_i hk
  rw[Sm,Te (by omega)];rfl
theorem Py {e:ES} {h:az} {r:ResultVar} {rest:List ResultVar} {l:List SR} (he:iB h e) (c:fu P (r :: rest)=some l):∃ s d,l=s :: d/\fu P rest=some d/\∀ v,Ow s e=some v->rA P e.T h r=some v:=by
 cases r with
 | tmp t =>
  simp only[fu,Sw] at c
  obtain⟨d,h1,rfl⟩:=c
  exact⟨.tmp t,d,rfl,h1,λv b=>b⟩
 | cell a t =>
  simp only[fu] at c
  split at c
  .rename_i k d h1 m
   simp at c;subst c
   refine⟨.cell a k,d,rfl,m,λv b=>?_⟩
   simp only[Ow] at b
   simp only[rA,lH,ue h1]
   rw[he.1] at b
   split at b
   .rename_i id i j f
    split at b
    .rename_i es hH
     split at b
     .rename_i g
      rw[f];simp only[hH];rw[St g,b];rfl
     .simp at b
    .simp at b
   .rename_i e j f
    rw[f];simp only;rw[b];rfl
   .simp at b
  .simp at c
theorem FD {e:ES} {h:az} (he:iB h e):∀ (rs:List ResultVar) (l:List SR) (vs:List V),fu P rs=some l->uN l e=some vs->lh P e.T h rs=some vs
 | [],l,vs,a,hw=>by simp[fu] at a;subst a;simp[uN] at hw;subst hw;rfl
 | r :: rest,l,vs,a,hw=>by
  obtain⟨s,d,rfl,h1,f⟩:=Py (e:=e) (h:=h) he a
  simp only[uN] at hw
  split at hw
  .rename_i v b g c
   simp at hw;subst hw
   simp[lh,f v g,FD he rest d b h1 c]
  .simp at hw
def oX (P:Program) (tab:List (FuncId × DF)):Prop:=∀ p∈tab,∃ fz,F1 P p.1 fz=some p.2
def qZ (P:Program) (ext:wE):Prop:=∀ g vs H t,ext g vs H=some t->dw P g=true/\∀ h:az,h.view=H->bE P g vs h t h
theorem EP {q:List (FuncId × DF)} {ext:wE} (N:oX P q) (z:qZ P ext) {run:vN} (s:vl P run):kr P (DJ P q ext run):=by
 intro g vs e v e' h b he
 unfold DJ at b
 split at b
 .rename_i t u
  simp only[Sq,Su] at b
  obtain⟨rfl,rfl⟩:=b
  obtain⟨h1,C⟩:=z _ _ _ _ u
  exact⟨h1,h,C h he.1.symm,he,λ_ _ _=>rfl,λ_ hw=>by simp at hw⟩
 .split at b
  .rename_i A F K
   have x:=List.mem_of_find?_eq_some K
   have D:A=g:=by
    have:=List.find?_some K
    exact Un this
   subst D
   obtain⟨O,k⟩:=N _ x
   simp only at k
   unfold F1 at k
   split at k
   .rename_i fn E
    split at k
    .rename_i c Q
     split at k
     .rename_i M rs h1 C R
      simp at k;subst k
      refine⟨R,?_⟩
      unfold QC at b
      split at b
      .rename_i hlen B
       have hlen:=Nat.le_of_ble_eq_true hlen
       have B:=Nat.le_of_ble_eq_true B
       simp only at hlen B
       unfold Qj at b
       split at b
       .rename_i v1 d f
        simp only[Sq,Su] at b
        obtain⟨rfl,rfl⟩:=b
        unfold P3 at f
        have go:∀ (r:Exit) (p:ES),(r=.ret∨r=.normal)->run M ⟨me vs 0 .nil,e.H,e.n,[]⟩=some (r,p)->(uN rs p).map (λvs=>(uK vs,p))=some (v1,d) ->
          ∃ i,bE P A vs h v1 i/\iB i d/\(∀ id,id < h.length->¬ id∈d.w->i.view id=h.view id):=by
         intro r p hr j o
         simp only[Sw,Su] at o
         obtain⟨G,I,rfl,rfl⟩:=o
         obtain⟨i,z,y,J,_⟩:=s fn.ntmps O c M h1 B _ p r h j he
         have S:(ES.T ⟨me vs 0 .nil,e.H,e.n,[]⟩)=kC vs:=GH vs (by omega)
         rw[S] at z
         refine⟨i,bE.HY E Q hlen z (by rcases hr with rfl | rfl <;> simp) ?_,y,λid m hw=>(J.2 id m hw).1⟩
         unfold JX
         rw[FD y _ _ _ C I]
         cases G with
         | nil=>rfl
         | cons a l=>cases l <;> rfl
        have done:(∃ i,bE P A vs h v1 i/\iB i d/\(∀ id,id < h.length->¬ id∈d.w->i.view id=h.view id)) ->
          ∃ i,bE P A vs h v1 i/\iB i ⟨d.L,d.H,d.n,d.w.filter λid=>Nat.blt id e.n⟩/\(∀ id,id < h.length->¬ id∈d.w.filter (λid=>Nat.blt id e.n)->i.view id=h.view id)/\∀ id,id∈d.w.filter (λid=>Nat.blt id e.n)->id < h.length:=by
         rintro⟨i,U,k2,V⟩
         refine⟨i,U,k2,λid m hw=>V id m (λhm=>hw ?_),λid hw=>?_⟩
         .rw[TD]
          exact⟨hm,by rw[he.2];exact Nat.ble_eq_true_of_le m⟩
         .rw[TD] at hw
          have:=Nat.le_of_ble_eq_true hw.2
          rw[he.2] at this;exact this
        split at f
        .rename_i p j;exact done (go _ _ (.inl rfl) j f)
        .rename_i p j;exact done (go _ _ (.inr rfl) j f)
        .simp at f
       .simp at b
      .simp at b
     .simp at k
    .simp at k
   .simp at k
  .simp at b
theorem IH (hm:P.follows .mixedOrders=true) {a:List (FuncId × DF)} {ext:wE} (b:oX P a) (d:qZ P ext):∀ k,vl P (Ex P a ext k)
 | 0=>λn g c i j l e e' r h hr he=>by simp[Ex] at hr
 | k+1=>by
  have f:=IH hm b d k
  have:=Nv hm (EP b d f) f
  exact this
end
inductive dH (h:az):V->V->Prop
 | val (v:Value):dH h (.val v) (.val v)
 | emp (k:Nat):dH h (.emp k) (.aT [])
 | sl (id off len esz z:Nat) (es es':List (List V)):h.view id=.arr z es->off+len<=es.length->es'.length=len ->
  (∀ i,i < len->(es'.getD i []).length=(es.getD (off+i) []).length) ->
  (∀ i j,i < len->j < (es'.getD i []).length->dH h ((es.getD (off+i) []).getD j .any) ((es'.getD i []).getD j .any))->dH h (.sl id off len esz) (.aT es')
 | agg (cs cs':List V):cs'.length=cs.length->(∀ i,i < cs.length->dH h (cs.getD i .any) (cs'.getD i .any))->dH h (.agg cs) (.agg cs')
 | aS (cs cs':List V):cs'.length=cs.length->(∀ i,i < cs.length->dH h (cs.getD i .any) (cs'.getD i .any))->dH h (.aS cs) (.aS cs')
theorem PH {h:az} {Z:Nat->Prop} {μ B:Mu} {F:View} {hp:Array Obj} (hr:gN Z μ hp (cat h F)) {v t:V} (fr:dH h v t):∀ {x:Value},ax Z μ hp v x->ax (iU μ) B hp t x:=by
 have l:∀ id,h.view id≠.dead->cat h F id=h.view id:=λid D=>by simp only[cat];rw[St (gX D)]
 induction fr with
 | val v=>intro x d;cases d with | val _ s=>exact .val _ s
 | emp k=>intro x d;cases d with | emp _ a=>exact .gY a 0 (λ_=>rfl)
 | sl id off len esz z es es' hH hle hlen E _ m =>
  intro x d
  cases d with
  | nT _ _ _ a =>
   have:es'=[]:=Ub.1 hlen
   subst this
   exact .gY a 0 (λ_=>rfl)
  | sl _ _ _ _ b o0 cap c e f hm C J K =>
   have o:=hr.obj id
   rw[l id (by rw[hH];simp),hH] at o
   obtain⟨rfl,_,G,H⟩:=o b o0 esz hm
   have d:∀ i,∃ ci:Nat->Value,∀ j,j < esz->i < len->cellAt hp b (o0+off * esz+i * esz+j)=some (ci j)/\ax Z μ hp ((es.getD (off+i) []).getD j .any) (ci j):=by
    intro i
    by_cases hi:i < len
    .obtain⟨ci,u⟩:=nu (n:=esz) (p:=λj x=>cellAt hp b (o0+off * esz+i * esz+j)=some x/\ax Z μ hp ((es.getD (off+i) []).getD j .any) x) (λj g=>by
      obtain⟨x,d,s⟩:=H (off+i) j (by omega) g
      rw[Ti,<-TY] at d
      exact⟨x,d,s⟩)
     exact⟨ci,λj g _=>u j g⟩
    .exact⟨λ_=>undef,λj _ h=>absurd h hi⟩
   obtain⟨I,q⟩:=Classical.axiomOfChoice d
   have r:∀ i,i < es'.length->(es'.getD i []).length=esz:=λi hi=>by rw[E i (by omega)];exact G _ (by omega)
   have:=ax.aT (Z:=iU μ) (μ:=B) (hp:=hp) es' b (o0+off * esz) esz cap I ⟨id,o0,esz,hm⟩ (by omega) r
    (λi j hi g=>(q i j g (by omega)).1) (λi j hi g=>m i j (by omega) (by rw[r i hi];exact g) (q i j g (by omega)).2)
   rw[hlen] at this
   exact this
 | agg cs w hlen _ m =>
  intro x d
  cases d with
  | agg _ y h1 A=>exact .agg _ _ (by omega) (λi hi=>m i (by omega) (A i (by omega)))
 | aS cs w hlen _ m =>
  intro x d
  cases d with
  | aS _ y h1 A=>exact .aS _ _ (by omega) (λi hi=>m i (by omega) (A i (by omega)))
def cT (P:Program) (f:FuncId) (vs:List V) (t:V):Prop :=
 ∀ Z μ (w:World) (xs:List Value),fH Z μ w.heap vs xs->(∀ b,Z b->b < w.heap.size) ->
  Calls P f xs.toArray w λe w'=>∃ x Z',e=.returned x/\(∀ ν,ax Z' ν w'.heap t x)/\ew w w'/\(∀ b,Z' b->w.heap.size<=b/\b < w'.heap.size)/\fJ w.heap w'.heap (λ_=>False)
theorem cT.pure {P:Program} {f:FuncId} {vs:List V} {t:V} (h:cT P f vs t):ay P f vs t:=by
 intro Z μ w xs a d
 refine(h Z μ w xs a d).mono ?_
 rintro e w' ⟨x,g,rfl,i,j,c,k⟩
 exact⟨x,λb=>Z b∨g b,rfl,λl=>(i l).mono ⟨λ_ h=>.inr h,λ_ _=>rfl,λ_ _ h=>h,fp.refl _⟩,j,λ_ h=>.inl h,λb m=>m.imp id (c b),k⟩
theorem cT.uo {P:Program} {f:FuncId} {vs:List V} {r t:V} {k:az} (m:∀ v∈vs,Tree v) (n:bE P f vs [] r k) (p:dH k r t):cT P f vs t:=by
 intro Z μ w xs a q
 have c:fH Z (λ_=>none) w.heap vs xs:=⟨a.1,λi hi=>uZ (a.2 i hi) (by
  simp only[Sm,Sn hi,SJ]
  exact m _ (Sx _))⟩
 have g:gN Z (λ_=>none) w.heap (cat [] λ_=>.dead):=by
  rw[BU]
  exact⟨λ_=>trivial,λi j b o s y z _ h=>by simp at h,λid b o s h=>by simp at h,q,λid b o s h=>by simp at h⟩
 refine(n.2 Z _ _ w xs c g (λ_ _ _=>rfl)).mono ?_
 rintro e w' ⟨x,A,μ',rfl,u,l,hex,_⟩
 refine⟨x,iU μ',rfl,λB=>PH l p u,hex.same,?_,λb d _=>hex.frame b d (by rintro⟨_,_,_,h⟩;simp at h)⟩
 rintro b ⟨id,o,s,d⟩
 rcases hex.Ay _ _ _ _ d with h1 | ⟨_,h1 | ⟨_,_,_,h1⟩⟩
 .simp at h1
 .exact⟨h1,l.lt _ _ _ _ d⟩
 .simp at h1
theorem cT.of {P:Program} {f:FuncId} {vs:List V} {t:V} (b:∀ v∈vs,Tree v) (h:au P f vs (λ_=>.dead) λr H'=>∀ a:az,a.view=H'->dH a r t):cT P f vs t:=by
 obtain⟨r,a,c,_,d⟩:=h.2 [] Cr
 exact cT.uo b c (d a rfl)
theorem bE.tC {P:Program} {f:FuncId} {j vs:List V} {t:V} {h:az} (v:cT P f j t) (y:j.length=vs.length)
  (l:∀ i,i < vs.length->Fr h (vs.getD i .any) (j.getD i .any)):bE P f vs h t h:=by
 refine⟨Sy _,λZ μ F w xs c hr m=>?_⟩
 have n:fH (λb=>Z b∨iU μ b) μ w.heap j xs:=⟨by rw[y,c.1],λi hi=>zx hr (l i (by omega)) (c.2 i (by omega))⟩
 have p:∀ b,(Z b∨iU μ b)->b < w.heap.size:=by
  rintro b (a | ⟨id,o,s,a⟩)
  .exact hr.cH b a
  .exact hr.lt _ _ _ _ a
 refine(v _ μ w xs n p).mono ?_
 rintro e w' ⟨x,u,rfl,z,q,d,k⟩
 have hm:gz Z (λb=>Z b∨u b) μ μ w.heap w'.heap:=⟨λ_ h=>.inl h,λb a=>k b (hr.cH b a) (λx=>x),λ_ _ h=>h,k.pN⟩
 refine⟨x,λb=>Z b∨u b,μ,rfl,(z μ).mono ⟨λ_ h=>.inr h,λ_ _=>rfl,λ_ _ h=>h,fp.refl _⟩,⟨λid=>(hr.obj id).mono hm rfl (λb o s g=>k b (hr.lt _ _ _ _ g) (λx=>x)),hr.inj,λid b o s g=>S8 (hr.lt _ _ _ _ g) q.size,λb a=>?_,λid b o s g r=>?_⟩,
  ⟨q,hm,λb a _=>k b a (λx=>x),λb a=>a.imp id (λh=>(d b h).1),λ_ _ _ _ h=>.inl h⟩,λ_ _=>rfl⟩
 .rcases a with a | a
  .exact S8 (hr.cH b a) q.size
  .exact(d b a).2
 .rcases r with a | a
  .exact hr.gw _ _ _ _ g a
  .have:=hr.lt _ _ _ _ g;have:=(d b a).1;omega
theorem av.tC {P:Program} {q:Bool} {f:FuncId} {H:View} {vs c:List V} {K:V->View->Prop} {v:cx (H,K)} {t:V} (d:cT P f c t) (a:dw P f=true) (g:c.length=vs.length)
  (b:∀ i,i < vs.length->cg H (vs.getD i .any) (c.getD i .any)) (hk:K t H):av P q f vs H K v:=by
 unfold av
 cases q with
 | true=>exact⟨a,λh e=>⟨t,h,bE.tC d g (λi hi=>b i hi h e),λ_ _=>rfl,e ▸ hk⟩⟩
 | false =>
  refine⟨a,?_⟩
  rintro h rfl
  exact⟨t,h,bE.tC d g (λi hi=>b i hi h rfl),.refl _,hk⟩
noncomputable def nr (fz:V->Option V):List V->Option (List V)
 | []=>some []
 | v :: l=>match fz v,nr fz l with
  | some a,some b=>some (a :: b)
  | _,_=>none
noncomputable def BA (fz:V->Option V):List (List V)->Option (List (List V))
 | []=>some []
 | v :: l=>match nr fz v,BA fz l with
  | some a,some b=>some (a :: b)
  | _,_=>none
noncomputable def xB (H:View):Nat->V->Option V
 | 0,_=>none
 | k+1,v=>match v with
  | .val x=>some (.val x)
  | .emp _=>some (.aT [])
  | .sl id off len _=>match H id with
   | .arr _ es=>if off+len<=es.length then (BA (xB H k) ((es.drop off).take len)).map .aT else none
   | _=>none
  | .agg cs=>(nr (xB H k) cs).map .agg
  | .aS cs=>(nr (xB H k) cs).map .aS
  | _=>none
theorem gW {d:V->Option V} : ∀ (l c:List V),nr d l=some c->c.length=l.length/\∀ i,i < l.length->d (l.getD i .any)=some (c.getD i .any)
 | [],c,h=>by simp only[nr,Sq] at h;subst h;exact⟨rfl,λi hi=>by simp at hi⟩
 | v :: l,c,h=>by
  simp only[nr] at h
  split at h
  .rename_i a b h1 e
   simp only[Sq] at h;subst h
   obtain⟨g1,g2⟩:=gW l b e
   refine⟨by simp[g1],λi hi=>?_⟩
   cases i with
   | zero=>exact h1
   | succ i=>exact g2 i (by simpa using hi)
  .simp at h
theorem BH {d:V->Option V} : ∀ (l c:List (List V)),BA d l=some c->c.length=l.length/\∀ i,i < l.length->nr d (l.getD i [])=some (c.getD i [])
 | [],c,h=>by simp only[BA,Sq] at h;subst h;exact⟨rfl,λi hi=>by simp at hi⟩
 | v :: l,c,h=>by
  simp only[BA] at h
  split at h
  .rename_i a b h1 e
   simp only[Sq] at h;subst h
   obtain⟨g1,g2⟩:=BH l b e
   refine⟨by simp[g1],λi hi=>?_⟩
   cases i with
   | zero=>exact h1
   | succ i=>exact g2 i (by simpa using hi)
  .simp at h
theorem Il (h:az):∀ (k:Nat) (v t:V),xB h.view k v=some t->dH h v t
 | 0,v,t,a=>by simp[xB] at a
 | k+1,v,t,a=>by
  have b:=Il h k
  simp only[xB] at a
  split at a
  .simp only[Sq] at a;subst a;exact .val _
  .simp only[Sq] at a;subst a;exact .emp _
  .rename_i id off len esz
   split at a
   .rename_i z es hH
    split at a
    .rename_i hle
     simp only[Sw] at a
     obtain⟨es',he,rfl⟩:=a
     obtain⟨g1,g2⟩:=BH _ _ he
     have hlen:es'.length=len:=by rw[g1];simp;omega
     have d:∀ i,i < len->((es.drop off).take len).getD i []=es.getD (off+i) []:=λi hi=>by
      simp[Sm,TW,hi]
     have g3:∀ i,i < len->nr (xB h.view k) (es.getD (off+i) [])=some (es'.getD i []):=λi hi=>by
      rw[<-d i hi];exact g2 i (by rw[<-g1,hlen];exact hi)
     exact .sl id off len esz z es es' hH hle hlen (λi hi=>(gW _ _ (g3 i hi)).1) (λi j hi e=>b _ _ ((gW _ _ (g3 i hi)).2 j (by rw[<-(gW _ _ (g3 i hi)).1];exact e)))
    .simp at a
   .simp at a
  .simp only[Sw] at a
   obtain⟨l,c,rfl⟩:=a
   obtain⟨g1,g2⟩:=gW _ _ c
   exact .agg _ _ g1 (λi hi=>b _ _ (g2 i hi))
  .simp only[Sw] at a
   obtain⟨l,c,rfl⟩:=a
   obtain⟨g1,g2⟩:=gW _ _ c
   exact .aS _ _ g1 (λi hi=>b _ _ (g2 i hi))
  .simp at a
noncomputable def O5:Option (V × ES)->Option V
 | some (v,e)=>xB e.V 50 v
 | none=>none
noncomputable def qQ (P:Program) (tab:List (FuncId × DF)) (ext:wE) (f:FuncId) (vs:List V):Option V :=
 O5 (DJ P tab ext (Ex P tab ext 100000) f vs ⟨.nil,.nil,0,[]⟩)
theorem nh {P:Program} (hm:P.follows .mixedOrders=true) {a:List (FuncId × DF)} {ext:wE} (c:oX P a) (d:qZ P ext) {f:FuncId} {vs:List V} {t:V} (b:∀ v∈vs,Tree v) (h:qQ P a ext f vs=some t) :
  cT P f vs t:=by
 unfold qQ O5 at h
 split at h
 .rename_i v e hr
  obtain⟨h1,g,i,j,_⟩:=EP c d (IH hm c d 100000) f vs _ v e [] hr ⟨by funext k;rfl,rfl⟩
  rw[j.1] at h
  exact cT.uo b i (Il g 50 v t h)
 .simp at h
def um (P:Program) (fs:List (FuncId × List Nat)):List (FuncId × DF):=fs.filterMap λf=>(F1 P f.1 f.2).map (f.1,·)
theorem qS (P:Program) (a:List (FuncId × List Nat)):oX P (um P a):=by
 intro p hp
 unfold um at hp
 obtain⟨f,_,h⟩:=TM.1 hp
 simp only[Sw] at h
 obtain⟨d,h1,rfl⟩:=h
 exact⟨f.2,h1⟩
structure af.cZ (g:af):Prop where
 ao:g.ao.length<=24
 qn:1<=g.aj.length
 aj:g.aj.length<=16
 R7:1<=g.rules.length
 rules:g.rules.length<=40
 nN:0<=g.start
 start:g.start < g.aj.length
 left:∀ r∈g.rules,0<=r.left/\r.left < g.aj.length
 right:∀ r∈g.rules,r.right.length<=6
 sym:∀ r∈g.rules,∀ s∈r.right,eo g s=true
 prec:∀ r∈g.rules,-1<=r.prec/\r.prec < g.ao.length
theorem Cn {g:af} : ∀ (l:List bk) (top:Int),iY g l top=true->top<=(g.aj.length:Int) - 1/\∀ r∈l,0<=r.left/\r.left < g.aj.length/\iS g r=true
 | [],top,h=>by simp[iY] at h;exact⟨by omega,λr hr=>by simp at hr⟩
 | r :: l,top,h=>by
  simp only[iY,SE,SN] at h
  obtain⟨⟨⟨h1,d⟩,a⟩,b⟩:=h
  obtain⟨e,k2⟩:=Cn l _ b
  have f:r.left<=(if r.left > top then r.left else top):=by split <;> omega
  have i:top<=(if r.left > top then r.left else top):=by split <;> omega
  refine⟨by omega,λc hr=>?_⟩
  rcases SM.1 hr with rfl | hr
  .exact⟨h1,by omega,a⟩
  .exact k2 c hr
theorem cD {g:af} (h:ca g=true):g.cZ:=by
 simp only[ca,kN,lk,SE,SN] at h
 obtain⟨⟨⟨⟨⟨⟨⟨h1,_⟩,⟨b,c⟩,_⟩,d⟩,e⟩,f⟩,i⟩,j⟩:=h
 have k:=(Cn _ _ j).2
 have a:∀ r∈g.rules,r.right.length<=6/\-1<=r.prec/\r.prec < g.ao.length/\∀ s∈r.right,eo g s=true:=λr hr=>by
  have:=(k r hr).2.2
  simp only[iS,SE,SN,Tc,oF] at this
  exact⟨this.1.1.1,this.1.1.2,this.1.2,λs l=>(this.2 s l).1⟩
 exact⟨h1,b,c,d,e,f,i,λr hr=>⟨(k r hr).1,(k r hr).2.1⟩,λr hr=>(a r hr).1,λr hr=>(a r hr).2.2.2,λr hr=>⟨(a r hr).2.1,(a r hr).2.2.1⟩⟩
theorem af.cZ.neg {g:af} (h:g.cZ) {r:bk} (hr:r∈g.rules) {s:Int} (a:s∈r.right) (b:s < 0) : -1 - s < g.aj.length:=by
 have:=h.sym r hr s a
 simp only[eo] at this
 rw[Sr (by omega)] at this
 simpa using this
theorem Ed (l:List Int) (is:List Bool) (t:Bool) (b:aK l) (c:∀ s∈l,bK s/\(s < 0->-1 - s < is.length)):ay Tryz.prog 95 [encI l,cq is,gb t] (gb (fQ l is t)) :=
 ay.val (by
  intro v a;simp at a
  rcases a with rfl | rfl | rfl
  .exact bU _
  .exact jg _
  .exact .val _) (λH=>(P8 l is t b c H).mono λr H' h=>h.1)
abbrev dh (is:List Bool):List (List V):=is.map λx=>[gb x]
theorem vR {h:az} {id:Nat} {is:List Bool} (b:h.view id=.arr 1 (dh is)):dH h (.sl id 0 is.length 1) (cq is):=by
 refine .sl id 0 is.length 1 1 (dh is) _ b (by simp) (by simp) (λi hi=>by simp) (λi j hi a=>?_)
 rw[Tt]
 have e:(dh is).getD i []=[gb is[i]]:=by simp[Sm,hi]
 rw[e] at a ⊢
 have:j=0:=by simp at a;omega
 subst this
 exact .val _
theorem zy {H:View} {id n:Nat} {is:List Bool} (b:H id=.arr 1 (dh is)) (c:n=is.length):cg H (.sl id 0 n 1) (cq is):=by
 have d:∀ e∈dh is,∀ v∈e,Tree v:=by
  intro e he v b
  obtain⟨a,_,rfl⟩:=S5.1 he
  rw[Tz] at b
  subst b
  exact .val _
 have:=cg.sl (off:=0) (len:=n) (esz:=1) b (by simp[c]) d
 rwa [TZ,SL (by simp[c])] at this
theorem j6 {is:List Bool} {i:Nat} (h:i < is.length):(dh is).getD i []=[gb is[i]]:=by simp[Sm,h]
theorem kb (is:List Bool) (i:Nat) (b:Bool):(dh is).set i [gb b]=dh (is.set i b):=by simp[List.map_set]
theorem wO (n:Nat) (b:Bool):List.replicate n [gb b]=dh (List.replicate n b):=by simp
def iter {α:Type} (f:α->α):Nat->α->α
 | 0,x=>x
 | n+1,x=>iter f n (f x)
def iF (t:Bool) (is:List Bool) (r:bk):List Bool:=if fQ r.right is t=true then is.set r.left.toNat true else is
def mg (g:af) (t:Bool) (is:List Bool):List Bool:=g.rules.foldl (iF t) is
def cy (g:af):List Bool:=List.replicate g.aj.length false
def bz (g:af) (t:Bool):List Bool:=if ca g=true then iter (mg g t) g.aj.length (cy g) else []
theorem I3 (t:Bool) (is:List Bool) (r:bk):(iF t is r).length=is.length:=by unfold iF;split <;> simp
def my:SC :=
 ae [ae [ab [aa 22 7,al 23 2 2,ak 24 23,aP 25 24,aU 26 .lss 22 25],cb 26 (.exit 2)],.block 3 (ae [ab [al 29 2 2,ak 30 29,aa 31 7,aZ 32 3 30 31,al 33 1 32,ak 34 33,aa 35 5,aa 36 1,bg 37 95 [34,35,36]],bf 37 (ab [aa 38 5,al 39 2 2,ak 40 39,aa 41 7,aZ 42 3 40 41,al 43 0 42,ak 44 43,aZ 45 1 38 44,(none,.op (.store 1 (.tmp 45) (.val (.val (.bool true)))))])]),ab [aa 27 7,aF 28 .add 27 1,aa 7 28]]
def mq:SC :=
 ae [ae [ab [aa 15 6,al 16 1 2,ak 17 16,aP 18 17,aU 19 .lss 15 18],cb 19 (.exit 0)],.block 1 (ae [ab [aR 7 0],cd 2 my]),ab [aa 20 6,aF 21 .add 20 1,aa 6 21]]
def oe:SF:=⟨ae [ab [cG 2 0,bQ 4 1],ae [ab [ba 8 4 2,bg 9 50 [8],dp 10 9],bf 10 (ae [ab [bQ 4 1],.ret])],ab [al 11 1 2,ak 12 11,aP 13 12,((some 14),.op (.make 1 1 [(.val (.bool false))] (.tmp 13) (.tmp 13))),aa 5 14],ae [ab [aR 6 0],cd 0 mq],ab [aa 46 5,aa 4 46],.ret],
 [.tmp 4],47⟩
theorem sY:aI Tryz.prog 165 [2]=some oe:=by kernel_rfl
def kj:SF:=⟨ae [ab [cG 1 0,bQ 2 1],ab [ba 3 4 1,qe 4 165 [(.tmp 3),(.val (.val (.bool true)))],aa 2 4],.ret],
 [.tmp 2],5⟩
theorem pv:aI Tryz.prog 93 [1]=some kj:=by kernel_rfl
theorem Oq (g:af) (t:Bool):∀ v∈[V.agg (ag g),gb t],Tree v:=by
 intro v a;simp at a
 rcases a with rfl | rfl
 .exact cn _ (cM g)
 .exact .val _
theorem OJ (g:af) (C:g.Ok) (t:Bool) (H:View):au Tryz.prog 165 [.agg (ag g),gb t] H λr H'=>∀ w:az,w.view=H'->dH w r (cq (bz g t)):=by
 refine au.of mixed sY ?_
 simp(disch:=omega)only[↓wr,seval,wq,oe,ag,encS]
 refine av.pure (qw g C) ?_
 repeat' (first | ((first|apply ai.dec|apply ai.eq|apply ai.ne|apply ai.split)<;>intro)|(simp(disch:=omega)only[↓wr,seval,wq,ag,encS]))
 .rename_i hr
  have u:=cD hr
  obtain⟨E,F⟩:=And.intro u.qn u.aj
  refine⟨⟨by omega,by unfold aC;omega,by unfold aC;omega⟩,λP=>by omega,λ_ m hm=>?_⟩
  try simp(disch:=omega)only[↓wr,seval,wq,ag,encS]
  refine aY.intro (λk T H'=>∃ (i:Nat) (is:List Bool),i+k=g.aj.length/\is.length=g.aj.length/\iter (mg g t) k is=iter (mg g t) g.aj.length (cy g)/\T 1=gb t/\T 2=.aG (ag g) 0/\T 5=.sl m 0 g.aj.length 1/\H' m=.arr 1 (dh is)/\T 6=gi i) g.aj.length ?_ ?_
  .refine⟨0,cy g,by omega,by simp[cy],rfl,?_⟩
   simp(disch:=omega)only[↓wr,↓reduceIte,wq,Nat.reduceEqDiff,Nat.reduceAdd,Nat.reduceLT,Nat.reduceLeDiff,Int.reduceNeg,Int.reduceToNat,reduceCtorEq,ag,encS]
   exact⟨by rw[wO];rfl,rfl⟩
  .rintro k T H' ⟨i,is,hk,hlen,hi,f1,f2,f5,y,f6⟩
   simp(disch:=omega)only[↓wr,seval,wq,mq,f1,f2,f5,f6,ag,encS]
   apply ai.dec<;>intro G
   .simp(disch:=omega)only[↓wr,seval,wq,f1,f2,f5,f6,ag,encS]
    refine aY.intro (λx T H'=>∃ (j:Nat) (a:List Bool),j+x=g.rules.length/\a.length=g.aj.length/\(g.rules.drop j).foldl (iF t) a=mg g t is/\T 1=gb t/\T 2=.aG (ag g) 0/\T 5=.sl m 0 g.aj.length 1/\H' m=.arr 1 (dh a)/\T 6=gi i/\T 7=gi j) g.rules.length ?_ ?_
    .refine⟨0,is,by omega,hlen,rfl,?_⟩
     simp(disch:=omega)only[↓wr,↓reduceIte,wq,Nat.reduceEqDiff,Nat.reduceAdd,Nat.reduceLT,Nat.reduceLeDiff,Int.reduceNeg,Int.reduceToNat,reduceCtorEq,f1,f2,f5,f6,y,ag,encS]
     rfl
    .rintro x Q I ⟨j,a,J,b,d,h,l,n,em,o,p⟩
     simp(disch:=omega)only[↓wr,seval,wq,my,h,l,n,o,p,ag]
     apply ai.dec<;>intro K
     .have hle:=u.rules
      have e:g.rules[j]?=some (g.rules[j]'(by omega)):=Sn (by omega)
      rw[eC (show j < g.rules.length by omega)] at d
      have c:g.rules[j]'(by omega)∈g.rules:=Sx _
      generalize g.rules[j]'(by omega)=r at e d c
      simp only[Tp] at d
      obtain⟨L,M⟩:=u.left r c
      obtain⟨_,_,z,A⟩:=C.aw r c
      have v:=Ed r.right a t z (λs D=>⟨A s D,λN=>by have:=u.neg c D N;omega⟩)
      simp(disch:=omega)only[↓wr,seval,wq,h,l,n,o,p,ag,encS,aQ,Ss,e,SD]
      refine av.borrow v (by kernel_rfl) (.val _) rfl (λq O=>?_) ?_
      .match q,O with
       | 0,_=>exact cg.tree (bU _)
       | 1,_=>exact zy em b.symm
       | 2,_=>exact cg.tree (.val _)
      .simp(disch:=omega)only[↓wr,seval,wq,h,l,n,o,p,ag,encS,aQ,Ss,e,SD]
       apply ai.split<;>intro B
       .have f:iF t a r=a.set r.left.toNat true:=by rw[iF,St B]
        simp(disch:=omega)only[↓wr,seval,wq,h,l,n,o,p,em,ag,encS,aQ,Ss,e,SD,j6 (show r.left.toNat < a.length by omega)]
        rw[f] at d
        exact⟨by omega,by omega,x - 1,by omega,j+1,a.set r.left.toNat true,by omega,by simp[b],d,by rw[kb],rfl⟩
       .have f:iF t a r=a:=by rw[iF,Sr (by rw[B];simp)]
        rw[f] at d
        simp(disch:=omega)only[↓wr,seval,wq,h,l,n,o,p]
        exact⟨x - 1,by omega,j+1,a,by omega,b,d,by first | rfl | exact⟨rfl,rfl⟩ | exact⟨em,rfl⟩ | exact⟨rfl,em,rfl⟩⟩
     .rw[S4 (by omega),List.foldl_nil] at d
      simp(disch:=omega)only[↓wr,seval,wq,h,l,n,o,p]
      obtain⟨q,rfl⟩:∃ q,k=q+1:=⟨k - 1,by omega⟩
      exact⟨q,by omega,i+1,a,by omega,b,by rw[d];exact hi,rfl,em,rfl⟩
   .simp(disch:=omega)only[↓wr,seval,wq,f1,f2,f5,f6,y]
    have:k=0:=by omega
    subst this
    rintro w rfl
    simp only[bz,St hr,<-hi,iter]
    rw[<-hlen]
    exact vR y
 .rename_i hr
  rintro w rfl
  simp only[bz,hr]
  exact .emp 1
theorem Ov (g:af) (a:g.Ok) (t:Bool):cT Tryz.prog 165 [.agg (ag g),gb t] (cq (bz g t)):=cT.of (Oq g t) (OJ g a t _)
theorem Af (g:af) (a:g.Ok) (H:View):au Tryz.prog 93 [.agg (ag g)] H λr H'=>r=cq (bz g true)/\H'=H:=by
 refine au.of mixed pv ?_
 simp(disch:=omega)only[↓wr,seval,wq,kj,ag,encS]
 refine av.pure (Ov g a true).pure ?_
 simp(disch:=omega)only[↓wr,seval,wq,ag,encS]
theorem rU (g:af) (a:g.Ok):ay Tryz.prog 93 [.agg (ag g)] (cq (bz g true)) :=
 ay.of (fa g) ((Af g a _).mono λr H' h b _=>by rw[h.1];exact .tree _ (jg _))
def mark (is:List Bool) (s:Int):List Bool:=if s < 0 then is.set (-1 - s).toNat true else is
def gI (p is:List Bool) (r:bk):List Bool:=if (is.getD r.left.toNat false && fQ r.right p true)=true then r.right.foldl mark is else is
def pM (g:af) (p is:List Bool):List Bool:=g.rules.foldl (gI p) is
def b5 (g:af):List Bool:=if ca g=true then iter (pM g (bz g true)) g.aj.length ((cy g).set g.start.toNat true) else []
theorem OI (is:List Bool) (s:Int):(mark is s).length=is.length:=by unfold mark;split <;> simp
theorem CS:∀ (l:List Int) (is:List Bool),(l.foldl mark is).length=is.length
 | [],_=>rfl
 | s :: l,is=>by rw[Tp,CS l,OI]
theorem MI (p is:List Bool) (r:bk):(gI p is r).length=is.length:=by unfold gI;split <;> simp[CS]
theorem zi {f:List Bool->List Bool} (a:∀ is,(f is).length=is.length):∀ (n:Nat) (is:List Bool),(iter f n is).length=is.length
 | 0,_=>rfl
 | n+1,is=>by rw[iter,zi a n,a]
theorem zf {α:Type} {f:List Bool->α->List Bool} (a:∀ is x,(f is x).length=is.length):∀ (l:List α) (is:List Bool),(l.foldl f is).length=is.length
 | [],_=>rfl
 | x :: l,is=>by rw[Tp,zf a l,a]
theorem lx {g:af} (h:ca g=true) (t:Bool):(bz g t).length=g.aj.length:=by
 have a:∀ is,(mg g t is).length=is.length:=λis=>zf (I3 t) _ _
 rw[bz,St h,zi a]
 simp[cy]
def jT:SC :=
 ae [ae [.region false [⟨none,[aa 41 8,al 42 1 7,ak 43 42,aP 44 43,aU 45 .lss 41 44,aa 46 45]⟩,⟨(some (46,true)),[aa 47 4,al 48 0 7,ak 49 48,aZ 50 1 47 49,ak 51 50]⟩,⟨none,[eA 52 46 51,aa 53 52]⟩,⟨(some (53,true)),[al 54 1 7,ak 55 54,aa 56 3,qe 57 95 [(.tmp 55),(.tmp 56),(.val (.val (.bool true)))]]⟩,⟨none,[eA 58 53 57]⟩],cb 58 (.exit 4)],.block 5 (ae [ab [al 61 1 7,ak 62 61,aa 63 8,aZ 64 1 62 63,ak 65 64,aF 66 .lss 65 0],bf 66 (ab [aa 67 4,al 68 1 7,ak 69 68,aa 70 8,aZ 71 1 69 70,ak 72 71,((some 73),.op (.arith .sub (.val (.val (.int .i64 (-1)))) (.tmp 72))),aZ 74 1 67 73,(none,.op (.store 1 (.tmp 74) (.val (.val (.bool true)))))])]),ab [aa 59 8,aF 60 .add 59 1,aa 8 60]]
def jM:SC :=
 ae [ae [ab [aa 29 6,al 30 2 1,ak 31 30,aP 32 31,aU 33 .lss 29 32],cb 33 (.exit 2)],.block 3 (ae [ab [al 36 2 1,ak 37 36,aa 38 6,aZ 39 3 37 38,ba 40 3 39,((some 7),.op (.alloc [(.val (.int .i64 0)),(.emp 1),(.val (.int .i64 0))])),cL 3 7 40],ab [aR 8 0],cd 4 jT]),ab [aa 34 6,aF 35 .add 34 1,aa 6 35]]
def jK:SC :=
 ae [ae [ab [aa 22 5,al 23 1 1,ak 24 23,aP 25 24,aU 26 .lss 22 25],cb 26 (.exit 0)],.block 1 (ae [ab [aR 6 0],cd 2 jM]),ab [aa 27 5,aF 28 .add 27 1,aa 5 28]]
def kW:SF:=⟨ae [ab [cG 1 0,bQ 2 1],ae [ab [ba 9 4 1,bg 10 50 [9],dp 11 10],bf 11 (ae [ab [bQ 2 1],.ret])],ab [ba 12 4 1,bg 13 93 [12],aa 3 13],ab [al 14 1 1,ak 15 14,aP 16 15,((some 17),.op (.make 1 1 [(.val (.bool false))] (.tmp 16) (.tmp 16))),aa 4 17],ab [aa 18 4,al 19 3 1,ak 20 19,aZ 21 1 18 20,(none,.op (.store 1 (.tmp 21) (.val (.val (.bool true)))))],ae [ab [aR 5 0],cd 0 jK],ab [aa 75 4,aa 2 75],.ret],
 [.tmp 2],76⟩
theorem p8:aI Tryz.prog 94 [1]=some kW:=by kernel_rfl
theorem N5 {l:List Bool} {i j:Nat} (h:l.getD j false=true):(l.set i true).getD j false=true:=by
 simp only[Sm,T0] at h ⊢
 by_cases e:i=j
 .subst e
  by_cases hi:i < l.length
  .simp[hi]
  .rw[Te (by omega)] at h;simp at h
 .rw[Sr e];exact h
theorem NR {H:View} {m n:Nat} {o:dF} (hm:H m=o) (a:H n=.dead) (b:o≠.dead):m≠n:=by rintro rfl;exact b (hm.symm.trans a)
theorem B7 (g:af) (Y:g.Ok) (H:View):au Tryz.prog 94 [.agg (ag g)] H λr H'=>∀ X:az,X.view=H'->dH X r (cq (b5 g)):=by
 refine au.of mixed p8 ?_
 simp(disch:=omega)only[↓wr,seval,wq,kW,ag,encS]
 refine av.pure (qw g Y) ?_
 repeat' (first | ((first|apply ai.dec|apply ai.eq|apply ai.ne|apply ai.split)<;>intro)|(simp(disch:=omega)only[↓wr,seval,wq,ag,encS]))
 .rename_i hr
  have y:=cD hr
  obtain⟨a8,bd⟩:=And.intro y.qn y.aj
  refine av.pure (rU g Y) ?_
  have Z:=lx hr true
  have n:b5 g=iter (pM g (bz g true)) g.aj.length ((cy g).set g.start.toNat true):=by rw[b5,St hr]
  generalize bz g true=p at Z n
  have o:=y.nN
  have a6:=y.start
  have I:List.replicate g.aj.length [V.val (Value.bool false)]=dh (cy g):=wO _ _
  have an:(cy g).length=g.aj.length:=by simp[cy]
  simp(disch:=omega)only[↓wr,seval,wq,ag,encS]
  refine⟨⟨by omega,by unfold aC;omega,by unfold aC;omega⟩,λhz=>by omega,λ_ m hm=>?_⟩
  rw[I]
  have aq:(dh (cy g)).getD g.start.toNat []=[gb ((cy g)[g.start.toNat]'(by omega))]:=j6 (by omega)
  simp(disch:=omega)only[↓wr,seval,wq,ag,encS,j6 (show g.start.toNat < (cy g).length by omega),kb,Sv]
  refine⟨by omega,by omega,?_⟩
  refine aY.intro (λk T H'=>∃ (i:Nat) (is:List Bool),i+k=g.aj.length/\is.length=g.aj.length/\iter (pM g p) k is=b5 g/\T 1=.aG (ag g) 0/\T 3=cq p/\T 4=.sl m 0 g.aj.length 1/\H' m=.arr 1 (dh is)/\T 5=gi i) g.aj.length ?_ ?_
  .refine⟨0,(cy g).set g.start.toNat true,by omega,by simp[an],n.symm,?_⟩
   simp(disch:=omega)only[↓wr,↓reduceIte,wq,Nat.reduceEqDiff,Nat.reduceAdd,Nat.reduceLT,Nat.reduceLeDiff,Int.reduceNeg,Int.reduceToNat,reduceCtorEq,ag,encS]
   rw[aq]
   exact⟨by rw[<-kb];rfl,rfl⟩
  .rintro k T H' ⟨i,is,hk,hlen,hi,f1,f3,f4,fm,f5⟩
   simp(disch:=omega)only[↓wr,seval,wq,jK,f1,f3,f4,f5,ag,encS]
   apply ai.dec<;>intro hc
   .simp(disch:=omega)only[↓wr,seval,wq,f1,f3,f4,f5,ag,encS]
    refine aY.intro (λJ T H'=>∃ (j:Nat) (d:List Bool),j+J=g.rules.length/\d.length=g.aj.length/\(g.rules.drop j).foldl (gI p) d=pM g p is/\T 1=.aG (ag g) 0/\T 3=cq p/\T 4=.sl m 0 g.aj.length 1/\H' m=.arr 1 (dh d)/\T 5=gi i/\T 6=gi j) g.rules.length ?_ ?_
    .refine⟨0,is,by omega,hlen,rfl,?_⟩
     simp(disch:=omega)only[↓wr,seval,wq,f1,f3,f4,f5,fm,ag,encS]
     first | done | exact⟨rfl,rfl⟩ | rfl
    .rintro J T' bl ⟨j,d,bn,t,C,K,L,M,em,N,O⟩
     simp(disch:=omega)only[↓wr,seval,wq,jM,K,L,M,N,O,ag]
     apply ai.dec<;>intro hd
     .have hle:=y.rules
      have P:g.rules[j]?=some (g.rules[j]'(by omega)):=Sn (by omega)
      rw[eC (show j < g.rules.length by omega)] at C
      have f:g.rules[j]'(by omega)∈g.rules:=Sx _
      generalize g.rules[j]'(by omega)=r at P C f
      simp only[Tp] at C
      obtain⟨br,bs⟩:=y.left r f
      obtain⟨_,_,ar,Q⟩:=Y.aw r f
      have bx:=y.right r f
      have R:=Ed r.right p true ar (λs hs=>⟨Q s hs,λhn=>by have:=y.neg f hs hn;omega⟩)
      simp(disch:=omega)only[↓wr,seval,wq,K,L,M,N,O,ag,encS,aQ,encI,Ss,P,SD]
      intro b hb
      have S:m≠b:=NR em hb (by simp)
      try simp(disch:=omega)only[↓wr,seval,wq,K,L,M,N,O,ag,encS,aQ,encI]
      refine aY.intro (λq T H'=>∃ (a:Nat) (c:List Bool),a+q=r.right.length/\c.length=g.aj.length/\(r.right.drop a).foldl mark c=r.right.foldl mark d/\((a=0/\c=d)∨((d.getD r.left.toNat false && fQ r.right p true)=true/\c.getD r.left.toNat false=true)) /\
       T 1=.aG (ag g) 0/\T 3=cq p/\T 4=.sl m 0 g.aj.length 1/\H' m=.arr 1 (dh c)/\T 5=gi i/\T 6=gi j/\T 7=.ptr b 0 0/\H' b=.arr 3 [aQ r]/\T 8=gi a) r.right.length ?_ ?_
      .refine⟨0,d,by omega,t,rfl,.inl ⟨rfl,rfl⟩,?_⟩
       simp(disch:=omega)only[↓wr,↓reduceIte,wq,Nat.reduceEqDiff,Nat.reduceAdd,Nat.reduceLT,Nat.reduceLeDiff,Int.reduceNeg,Int.reduceToNat,reduceCtorEq,K,L,M,N,O,em,S,ag,encS,aQ]
       exact⟨rfl,rfl⟩
      .rintro q T3 H3 ⟨a,c,hq,e,w,h,d1,d3,d4,z,d5,d6,d7,x,d8⟩
       simp(disch:=omega)only[↓wr,seval,wq,jT,d1,d3,d4,d5,d6,d7,d8,x,aQ,encI]
       have U:c[r.left.toNat]?=some (c[r.left.toNat]'(by omega)):=Sn (by omega)
       have l:c.getD r.left.toNat false=c[r.left.toNat]'(by omega):=by simp[Sm,U]
       have A:=j6 (show r.left.toNat < c.length by omega)
       have W:(d.getD r.left.toNat false && fQ r.right p true)=false->gI p d r=c:=λG=>by
        rcases h with ⟨_,rfl⟩ | ⟨h1,_⟩
        .rw[gI,G];rfl
        .rw[G] at h1;simp at h1
       generalize c[r.left.toNat]'(by omega)=tl at U l A
       apply ai.dec<;>intro ht
       .have D:r.right[a]?=some (r.right[a]'(by omega)):=Sn (by omega)
        rw[eC (show a < r.right.length by omega)] at w
        have E:r.right[a]'(by omega)∈r.right:=Sx _
        generalize r.right[a]'(by omega)=s at D w E
        simp only[Tp] at w
        have a1:=Q s E
        simp(disch:=omega)only[↓wr,seval,wq,d1,d3,d4,d5,d6,d7,d8,x,z,aQ,encI,A,Sv]
        refine⟨by omega,by omega,?_⟩
        apply ai.split<;>intro u
        .simp(disch:=omega)only[↓wr,seval,wq,d1,d3,d4,d5,d6,d7,d8,x,z,aQ,encI,A,Sv]
         refine av.pure R ?_
         simp(disch:=omega)only[↓wr,seval,wq,d1,d3,d4,d5,d6,d7,d8,x,z,aQ,encI]
         apply ai.split<;>intro F
         .simp(disch:=omega)only[↓wr,seval,wq,d1,d3,d4,d5,d6,d7,d8,x,z,aQ,encI,Ss,D,SD]
          have G:(d.getD r.left.toNat false && fQ r.right p true)=true/\c.getD r.left.toNat false=true:=by
           rcases h with ⟨_,rfl⟩ | h1
           .exact⟨by rw[l,u,F];rfl,by rw[l,u]⟩
           .exact h1
          apply ai.dec<;>intro B
          .have b0:=y.neg f E B
           have a7:=a1.1
           have v:mark c s=c.set (-1 - s).toNat true:=by rw[mark,St B]
           simp(disch:=omega)only[↓wr,seval,wq,d1,d3,d4,d5,d6,d7,d8,x,z,aQ,encI,Ss,D,SD,j6 (show (-1 - s).toNat < c.length by omega),Sv,S.symm]
           rw[v] at w
           exact⟨by omega,by omega,q - 1,by omega,a+1,c.set (-1 - s).toNat true,by omega,by simp[e],w,.inr ⟨G.1,N5 G.2⟩,by rw[kb],by first | rfl | exact⟨rfl,rfl⟩⟩
          .have v:mark c s=c:=by rw[mark,Sr B]
           rw[v] at w
           simp(disch:=omega)only[↓wr,seval,wq,d1,d3,d4,d5,d6,d7,d8,x,z]
           exact⟨q - 1,by omega,a+1,c,by omega,e,w,.inr G,by first | rfl | exact⟨rfl,rfl⟩ | exact⟨rfl,rfl,rfl⟩⟩
         .simp(disch:=omega)only[↓wr,seval,wq,d1,d3,d4,d5,d6,d7,d8,x,z,aQ,encI]
          have o:=W (by rw[F,Bool.and_false])
          exact⟨J - 1,by omega,j+1,c,by omega,e,by rw[<-o];exact C,rfl,rfl,rfl⟩
        .simp(disch:=omega)only[↓wr,seval,wq,d1,d3,d4,d5,d6,d7,d8,x,z,aQ,encI,A,Sv]
         have o:gI p d r=c:=by
          rcases h with ⟨_,rfl⟩ | ⟨_,h1⟩
          .rw[gI,l,u];rfl
          .rw[l,u] at h1;simp at h1
         exact⟨J - 1,by omega,j+1,c,by omega,e,by rw[<-o];exact C,rfl,rfl,rfl⟩
       .simp(disch:=omega)only[↓wr,seval,wq,d1,d3,d4,d5,d6,d7,d8,x,z,aQ,encI]
        rw[S4 (by omega),List.foldl_nil] at w
        have o:gI p d r=c:=by
         rcases h with ⟨h0,rfl⟩ | ⟨h1,_⟩
         .unfold gI
          split
          .exact w.symm
          .rfl
         .rw[gI,St h1];exact w.symm
        exact⟨J - 1,by omega,j+1,c,by omega,e,by rw[<-o];exact C,rfl,rfl,rfl⟩
     .rw[S4 (by omega),List.foldl_nil] at C
      simp(disch:=omega)only[↓wr,seval,wq,K,L,M,N,O]
      obtain⟨q,rfl⟩:∃ q,k=q+1:=⟨k - 1,by omega⟩
      exact⟨q,by omega,i+1,d,by omega,t,by rw[C];exact hi,rfl,em,rfl⟩
   .simp(disch:=omega)only[↓wr,seval,wq,f1,f3,f4,f5,fm]
    have:k=0:=by omega
    subst this
    rintro X rfl
    simp only[<-hi,iter]
    rw[<-hlen]
    exact vR fm
 .rename_i hr
  rintro X rfl
  simp only[b5,hr]
  exact .emp 1
theorem BX (g:af) (a:g.Ok):cT Tryz.prog 94 [.agg (ag g)] (cq (b5 g)):=cT.of (fa g) (B7 g a _)
noncomputable def wy:List (FuncId × DF):=um Tryz.prog [(224,[]),(223,[]),(296,[]),(297,[])]
theorem rZ:oX Tryz.prog wy:=qS _ _
theorem Jj (P:Program):qZ P (λ_ _ _=>none):=λ_ _ _ _ h=>by simp at h
def Qv (o:Option V) (b:Bool):Bool:=match o with
 | some (.val (.bool c))=>c == b
 | _=>false
theorem Qf {o:Option V} {b:Bool} (h:Qv o b=true):o=some (gb b):=by
 unfold Qv at h
 split at h
 .rw[TA] at h;rw[h]
 .simp at h
noncomputable def xn (tab:List (FuncId × DF)) (f:FuncId) (p:Int->Bool):Bool:=(List.range 256).all λc=>Qv (qQ Tryz.prog tab (λ_ _ _=>none) f [gy (c:Int)]) (p (c:Int))
theorem uS {a:List (FuncId × DF)} (d:oX Tryz.prog a) {f:FuncId} {p:Int->Bool} (h:xn a f p=true) (c:Int) (e:0<=c) (h1:c<=255):ay Tryz.prog f [gy c] (gb (p c)):=by
 have:=Tc.1 h c.toNat (by simp;omega)
 rw[show ((c.toNat:Nat):Int)=c by omega] at this
 exact(nh mixed d (Jj _) (by intro v b;simp at b;subst b;exact .val _) (Qf this)).pure
def xt (c:Int):Bool:=decide (32<=c) && decide (c<=126) && c != 39 && c != 92
def BW (c:Int):Bool:=c == 110 || c == 116 || c == 92 || c == 39
theorem J5:xn wy 223 tF=true:=by kernel_rfl
theorem MY:xn wy 224 nL=true:=by kernel_rfl
theorem MA:xn wy 296 xt=true:=by kernel_rfl
theorem PW:xn wy 297 BW=true:=by kernel_rfl
theorem CX {s:ByteArray} {c:Int} (h:c∈fq s):0<=c/\c<=255:=by
 unfold fq at h
 obtain⟨b,_,rfl⟩:=S5.1 h
 have:=b.toNat_lt
 omega
theorem Ng (s:ByteArray):gp s=(fq s).map λx=>[gy x]:=by simp[gp,fq]
noncomputable def IM:List (FuncId × DF):=um Tryz.prog [(44,[]),(87,[]),(145,[]),(207,[]),(255,[]),(256,[]),(257,[]),(258,[]),(286,[]),(208,[]),(259,[]),(209,[]),(234,[]),(233,[]),(232,[]),(260,[]),(261,[]),(262,[]),(146,[]),(213,[]),(212,[]),(263,[]),(264,[]),(211,[]),(214,[]),(210,[]),(88,[1]),(149,[3]),(169,[]),(172,[]),(151,[4]),(216,[4]),(150,[2]),(170,[2]),(266,[3]),(147,[]),(215,[5]),(265,[]),(148,[])]
theorem Jb:oX Tryz.prog IM:=qS _ _
def EC (l:List Int):V:=.aT (l.map λx=>[gy x])
theorem Na (l:List Int):Tree (EC l):=eY _ _ λx _ v a=>by simp at a;subst a;exact .val _
def xY (g:af):V:=.aS [.agg (ag g),.val (.complex .f64 0 0),gi 0]
theorem Pm {l:List Int} {g:af} (h:qQ Tryz.prog IM (λ_ _ _=>none) 44 [EC l]=some (xY g)):cT Tryz.prog 44 [EC l] (xY g) :=
 nh mixed Jb (Jj _) (by intro v a;simp at a;subst a;exact Na _) h
abbrev cp (κ:Type):=List (κ × V × Nat)
def b3 {κ:Type} (key:κ->Value) (m:cp κ):List (V × V × Nat):=m.map λx=>(.val (key x.1),x.2.1,x.2.2)
def getM {κ:Type} [BEq κ] (m:cp κ) (k:κ):Option V:=(m.find? λx=>k == x.1).map (·.2.1)
def bF {κ:Type} [BEq κ] (k:κ) (v:V) (c:Nat):cp κ->cp κ
 | []=>[(k,v,c)]
 | x :: r=>if k == x.1 then (k,v,x.2.2) :: r else x :: bF k v c r
structure zp {κ:Type} [BEq κ] (P:Program) (kt:TypeId) (key:κ->Value):Prop where
 ty:∃ d,P.underlying kt=some d/\(∀ a b,Instr.sameNow d (key a) (key b)=some (a == b))/\(∀ a e,aW P (Instr.checkKey e 10000 kt (key a))=some ())
 bits:∀ a b,(a == b)=true->Instr.sameBits 10000 (key b) (key a)=true
theorem tu {κ:Type} (key:κ->Value):∀ m:cp κ,gO (b3 key m)=some (m.map λx=>{ key:=key x.1,val:=.nilFunc,born:=x.2.2 })
 | []=>rfl
 | x :: r=>by
  have:=tu key r
  simp only[b3] at this
  simp[b3,gO,c5,this]
def gf {κ:Type} [BEq κ] (k:κ):cp κ->Option Nat
 | []=>none
 | x :: r=>if k == x.1 then some 0 else (gf k r).map (·+1)
theorem yx {κ:Type} [BEq κ] {key:κ->Value} {d:TypeDesc} (h:∀ a b,Instr.sameNow d (key a) (key b)=some (a == b)) (k:κ):∀ (m:cp κ) (i:Nat),
  Instr.findNow d (key k) (m.map λx=>{ key:=key x.1,val:=.nilFunc,born:=x.2.2 }) i=some ((gf k m).map λj=>(i+j,.nilFunc))
 | [],i=>rfl
 | x :: r,i=>by
  simp only[S7,Instr.findNow,h,gf]
  cases hk:k == x.1 with
  | true=>simp
  | false =>
   simp only[yx h k r (i+1),SU,if_false,Option.map_map]
   congr 2
   funext j
   simp only[Function.comp]
   congr 1
   omega
theorem vU {κ:Type} [BEq κ] {P:Program} {kt:TypeId} {key:κ->Value} (h:zp P kt key) (k:κ) (e:Bool) (m:cp κ):lE P kt (.val (key k)) e (b3 key m)=some (gf k m):=by
 obtain⟨d,a,b,c⟩:=h.ty
 have hu:aW P (underlying kt)=some d:=dE a
 simp only[lE,c5,tu,aO,c,Td]
 have:aW P (Instr.findKey kt (key k) (m.map λx=>{ key:=key x.1,val:=.nilFunc,born:=x.2.2 }))=some ((gf k m).map λj=>(0+j,.nilFunc)):=by
  unfold Instr.findKey
  rw[aO,hu,Td,yx b]
  rfl
 rw[this]
 cases gf k m with
 | none=>rfl
 | some j=>simp
theorem Av {P:Program} {kt:TypeId} {d:TypeDesc} (h:P.underlying kt=some d) (a:match d with | .int _ | .string | .bool=>True | _=>False) (e:Bool) (n:Nat) (v:Value):aW P (Instr.checkKey e (n+1) kt v)=some ():=by
 unfold Instr.checkKey
 rw[aO,dE h,Td]
 cases d <;> first | exact a.elim | rfl
theorem j8 {P:Program} {kt:TypeId} (k:IntKind) (h:P.underlying kt=some (.int k)):zp P kt (Value.int k) where
 ty:=⟨_,h,λa b=>by simp[Instr.sameNow],λa e=>Av h trivial e 9999 _⟩
 bits:=λa b c=>by
  have:a=b:=by simpa using c
  subst this
  simp[Instr.sameBits]
theorem uz {κ:Type} [BEq κ] {key:κ->Value} (k:κ):∀ m:cp κ,match gf k m with
  | some i=>∃ x,m[i]?=some x/\(k == x.1)=true/\getM m k=some x.2.1/\(b3 key m)[i]?=some (.val (key x.1),x.2.1,x.2.2)/\∀ v c,(b3 key m).set i (.val (key k),v,x.2.2)=b3 key (bF k v c m)/\(bF k v c m).length=m.length
  | none=>getM m k=none/\∀ v c,b3 key m ++ [(.val (key k),v,c)]=b3 key (bF k v c m)/\(bF k v c m).length=m.length+1
 | []=>⟨rfl,λv c=>⟨rfl,rfl⟩⟩
 | x :: r=>by
  have a:=uz (key:=key) k r
  simp only[gf]
  cases hk:k == x.1 with
  | true=>exact⟨x,rfl,hk,by simp[getM,hk],rfl,λv c=>by simp[bF,hk,b3]⟩
  | false =>
   simp only[SU,if_false]
   cases hi:gf k r with
   | some i =>
    rw[hi] at a
    obtain⟨y,h1,b,d,e,f⟩:=a
    refine⟨y,by simpa using h1,b,by simpa [getM,hk] using d,by simpa [b3] using e,λv c=>?_⟩
    obtain⟨g1,g2⟩:=f v c
    exact⟨by simp only[b3] at g1 ⊢;simp[bF,hk,g1],by simp[bF,hk,g2]⟩
   | none =>
    rw[hi] at a
    refine⟨by simpa [getM,hk] using a.1,λv c=>?_⟩
    obtain⟨g1,g2⟩:=a.2 v c
    exact⟨by simp only[b3] at g1 ⊢;simp[bF,hk,g1],by simp[bF,hk,g2]⟩
section
variable {P:Program} {T:Env} {H:View} {κ:Type} [BEq κ] {key:κ->Value} {kt et t ty:TypeId}
theorem xT {K:V->View->Prop} {w:cx (T,H,K)} {x i:Operand} {z:V} {id c:Nat} {m:cp κ} {k:κ} (hm:ef P t=some (kt,et)) (d:zeroV P et=some z) (hk:zp P kt key)
  (e:ev T x=.mp id) (hi:ev T i=.val (key k)) (hH:H id=.map (b3 key m) c) (h:K ((getM m k).getD z) H):iE P (.lookup t x i false) ty T H K w:=by
 intro n _
 have f:=vU hk k (b3 key m).isEmpty m
 have a:=uz (key:=key) k m
 refine⟨(getM m k).getD z,.none,[id],?_,h⟩
 simp only[sI,bY,oper,eQ,hm,d,e,hi,hH,f]
 cases b:gf k m with
 | some j =>
  rw[b] at a
  obtain⟨y,h1,o,g,l,_⟩:=a
  simp[l,g]
 | none =>
  rw[b] at a
  simp[a.1]
theorem OP {K:V->View->Prop} {w:cx (T,H,K)} {x i:Operand} {z:V} {id c:Nat} {m:cp κ} {k:κ} (hm:ef P t=some (kt,et)) (d:zeroV P et=some z) (hk:zp P kt key)
  (e:ev T x=.mp id) (hi:ev T i=.val (key k)) (hH:H id=.map (b3 key m) c) (h:K (.aS [(getM m k).getD z,.val (.bool (getM m k).isSome)]) H):iE P (.lookup t x i true) ty T H K w:=by
 intro n _
 have f:=vU hk k (b3 key m).isEmpty m
 have a:=uz (key:=key) k m
 refine⟨_,.none,[id],?_,h⟩
 simp only[sI,bY,oper,eQ,hm,d,e,hi,hH,f]
 cases b:gf k m with
 | some j =>
  rw[b] at a
  obtain⟨y,h1,o,g,l,_⟩:=a
  simp[l,g]
 | none =>
  rw[b] at a
  simp[a.1]
theorem NH (hk:zp P kt key) (k a:κ) (h:(k == a)=true):sameKey (.val (key a)) (.val (key k))=true:=by
 simp only[sameKey,c5];exact hk.bits _ _ h
theorem tH {K:V->View->Prop} {w:cx (T,H,K)} {x i y:Operand} {id c:Nat} {m:cp κ} {k:κ} {v:V} (hm:ef P t=some (kt,et)) (hk:zp P kt key)
  (d:ev T x=.mp id) (hi:ev T i=.val (key k)) (e:ev T y=v) (hH:H id=.map (b3 key m) c)
  (h:∀ g,K .any (H.set id (.map (b3 key (bF k v c m)) g))):iE P (.mapUpdate t x i y) ty T H K w:=by
 intro n _
 have a:=vU hk k false m
 have b:=uz (key:=key) k m
 cases f:gf k m with
 | some j =>
  rw[f] at b a
  obtain⟨z,h1,l,q,o,p⟩:=b
  refine⟨.any,.eS id (.map ((b3 key m).set j (.val (key k),v,z.2.2)) c),[id],?_,?_⟩
  .simp only[sI,bY,oper,fV,hm,d,hi,e,hH,a,o,NH hk k z.1 l,if_true]
  .rw[(p v c).1];exact h c
 | none =>
  rw[f] at b a
  refine⟨.any,.eS id (.map (b3 key m ++ [(.val (key k),v,c)]) (c+1)),[id],?_,?_⟩
  .simp only[sI,bY,oper,fV,hm,d,hi,e,hH,a]
  .rw[(b.2 v c).1];exact h (c+1)
theorem QN {P:Program} {T:Env} {H:View} {t ty:TypeId} {x i y:Operand} {K:V->View->Prop} {w:cx (T,H,K)} : iE P (.insert t x i y) ty T H K w=iE P (.mapUpdate t x i y) ty T H K w:=propext Iff.rfl
omit [BEq κ] in
theorem Qu {K:V->View->Prop} {w:cx (T,H,K)} {x:Operand} {id c:Nat} {m:cp κ} (hm:ef P t=some (kt,et)) (d:ev T x=.mp id) (hH:H id=.map (b3 key m) c) (h:K (fA m.length) H) :
  iE P (.call { callee:=.builtin .len,args:=#[x],argTypes:=#[t] }) ty T H K w:=by
 intro n _
 have hu:∃ a b,P.underlying t=some (.map a b):=by
  unfold ef at hm
  split at hm
  .rename_i a b h1;exact⟨a,b,h1⟩
  .simp at hm
 obtain⟨a,b,hu⟩:=hu
 refine⟨fA m.length,.none,[id],?_,h⟩
 have e:(b3 key m).length=m.length:=by simp[b3]
 simp only[sI,bY,oper,TS,SA,SZ,sA,hu,d,hH,e]
 simp[hu,d,hH,e,sA]
end
theorem oO {κ:Type} [BEq κ] [LawfulBEq κ] (k a:κ) (v:V) (c:Nat):∀ m:cp κ,getM (bF k v c m) a=if a == k then some v else getM m a
 | []=>by
  by_cases h:a=k
  .subst h;simp[bF,getM]
  .simp[bF,getM,h]
 | x :: r=>by
  have b:=oO k a v c r
  simp only[bF]
  by_cases hk:k=x.1
  .by_cases h:a=k
   .subst h;simp[hk,getM]
   .have:¬ a=x.1:=λe=>h (e.trans hk.symm)
    simp[hk,getM,this]
  .simp only[TA,hk,if_false]
   by_cases h:a=x.1
   .have:¬ a=k:=λe=>hk (e.symm.trans h)
    simp[getM,h]
    subst h
    simp[this]
   .simp only[getM,Uz,beq_eq_false_iff_ne.2 h] at b ⊢
    exact b
def ed {κ β:Type} [BEq κ] (a:List (κ × β)) (k:κ):Option β:=(a.find? λx=>k == x.1).map (·.2)
def jH {κ β:Type} [BEq κ] (k:κ) (v:β):List (κ × β)->List (κ × β)
 | []=>[(k,v)]
 | x :: r=>if k == x.1 then (k,v) :: r else x :: jH k v r
def mY {κ β:Type} (encV:β->V):List (κ × β)->cp κ->Prop
 | [],[]=>True
 | x :: a,y :: m=>y.1=x.1/\y.2.1=encV x.2/\mY encV a m
 | _,_=>False
theorem mY.get {κ β:Type} [BEq κ] {encV:β->V} (k:κ):∀ {a:List (κ × β)} {m:cp κ},mY encV a m->getM m k=(ed a k).map encV
 | [],[],_=>rfl
 | x :: a,y :: m,⟨h1,c,d⟩=>by
  have b:=mY.get k d
  simp only[getM,ed,Uz,h1] at b ⊢
  cases k == x.1 with
  | true=>simp[c]
  | false=>simpa using b
theorem mY.put {κ β:Type} [BEq κ] {encV:β->V} (k:κ) (v:β) (c:Nat):∀ {a:List (κ × β)} {m:cp κ},mY encV a m->mY encV (jH k v a) (bF k (encV v) c m)
 | [],[],_=>⟨rfl,rfl,trivial⟩
 | x :: a,y :: m,⟨h1,d,b⟩=>by
  have e:=mY.put k v c b
  simp only[jH,bF,h1]
  cases k == x.1 with
  | true=>exact⟨rfl,rfl,b⟩
  | false=>exact⟨h1,d,e⟩
theorem mY.len {κ β:Type} {encV:β->V} : ∀ {a:List (κ × β)} {m:cp κ},mY encV a m->m.length=a.length
 | [],[],_=>rfl
 | x :: a,y :: m,⟨_,_,b⟩=>by simp[mY.len b]
theorem EG {κ β:Type} [BEq κ] [LawfulBEq κ] (k b:κ) (v:β):∀ a:List (κ × β),ed (jH k v a) b=if b == k then some v else ed a b
 | []=>by
  by_cases h:b=k
  .subst h;simp[jH,ed]
  .simp[jH,ed,h]
 | x :: r=>by
  have c:=EG k b v r
  simp only[jH]
  by_cases hk:k=x.1
  .by_cases h:b=k
   .subst h;simp[hk,ed]
   .have:¬ b=x.1:=λe=>h (e.trans hk.symm)
    simp[hk,ed,this]
  .simp only[TA,hk,if_false]
   by_cases h:b=x.1
   .have:¬ b=k:=λe=>hk (e.symm.trans h)
    simp[ed,h]
    subst h
    simp[this]
   .simp only[ed,Uz,beq_eq_false_iff_ne.2 h] at c ⊢
    exact c
def Dm (n k:Nat) (J:Nat->Env->View->Prop) (T:Env) (H:View):Prop:=∃ i,i+k=n/\J i T H
theorem aY.up {P:Program} {T:Env} {H:View} {c:SC} {Q:Exit->Env->View->Prop} {v:cx (T,H,Q)} (n:Nat) (J:Nat->Env->View->Prop) (d:J 0 T H)
  (f:∀ i k T H,i+k=n->J i T H->wS P c T H λe a H'=>yH e (∃ b,b < k/\Dm n b J a H') (Q e a H')):aY P c T H Q v :=
 aY.intro (λk T H=>Dm n k J T H) n ⟨0,by omega,d⟩ λk T H ⟨i,hk,g⟩=>f i k T H hk g
theorem aH {n i k:Nat} {J:Nat->Env->View->Prop} {T:Env} {H:View} (hk:i+k=n) (b:i < n) (c:J (i+1) T H):∃ a,a < k/\Dm n a J T H:=⟨k - 1,by omega,i+1,by omega,c⟩
def owner:V->Option Nat
 | .sl id _ _ _=>some id
 | _=>none
def aJ (H:View) (u:V) (sz:Nat) (es:List (List V)):Prop :=
 (es=[]/\∃ k,u=.emp k)∨(∃ n,u=.sl n 0 es.length sz/\H n=.arr sz es)
theorem aJ.nil {H:View} {sz k:Nat} : aJ H (.emp k) sz []:=.inl ⟨rfl,k,rfl⟩
theorem aJ.len {H:View} {u:V} {sz:Nat} {es:List (List V)} (h:aJ H u sz es):bZ u=some es.length:=by
 rcases h with ⟨rfl,k,rfl⟩ | ⟨n,rfl,_⟩ <;> rfl
theorem aJ.live {H:View} {u:V} {sz:Nat} {es:List (List V)} (h:aJ H u sz es) {id:Nat} (a:owner u=some id):H id=.arr sz es/\u=.sl id 0 es.length sz:=by
 rcases h with ⟨rfl,k,rfl⟩ | ⟨n,rfl,b⟩
 .simp[owner] at a
 .simp[owner] at a;subst a;exact⟨b,rfl⟩
theorem aJ.keep {H H':View} {u:V} {sz:Nat} {es:List (List V)} (h:aJ H u sz es) (hk:∀ id,owner u=some id->H' id=H id):aJ H' u sz es:=by
 rcases h with ⟨rfl,k,rfl⟩ | ⟨n,rfl,a⟩
 .exact .inl ⟨rfl,k,rfl⟩
 .exact .inr ⟨n,rfl,by rw[hk n rfl];exact a⟩
theorem aJ.fresh {H:View} {u:V} {sz m:Nat} {es:List (List V)} {o:dF} (h:aJ H u sz es) (hm:H m=.dead):aJ (H.set m o) u sz es :=
 h.keep λid a=>by
  have:=(h.live a).1
  have e:id≠m:=by rintro rfl;rw[hm] at this;simp at this
  simp[View.set,e]
theorem aJ.ne {H:View} {u:V} {sz m:Nat} {es:List (List V)} (h:aJ H u sz es) (hm:H m=.dead):owner u≠some m:=λe=>by
 have:=(h.live e).1;rw[hm] at this;simp at this
theorem aJ.other {H:View} {u:V} {sz m:Nat} {es:List (List V)} {o:dF} (h:aJ H u sz es) (hm:owner u≠some m):aJ (H.set m o) u sz es :=
 h.keep λid a=>by
  have e:id≠m:=by rintro rfl;exact hm a
  simp[View.set,e]
theorem aJ.new {H:View} {n sz:Nat} {es:List (List V)} : aJ (H.set n (.arr sz es)) (.sl n 0 es.length sz) sz es:=.inr ⟨n,rfl,by simp[View.set]⟩
theorem bO {H:View} {m z sz:Nat} {e:List V} : bA (View.set H m (.arr z [e])) (.sl m 0 1 sz)=some ([e],[m]):=by
 simp[bA,View.set]
def Left (H H':View) (u u':V):Prop:=∀ id,H id≠.dead->owner u≠some id->H' id=H id/\owner u'≠some id
theorem rO {sz bytes:Nat} {u:V} {es xs:List (List V)} {H:View} {K:V->View->Prop} {w:cx (H,K)} (d:aJ H u sz es) (h:xs≠[]) (b:(xs.all λe=>e.length == sz && e.all aE)=true)
  (g:(es.length+xs.length) * bytes < aC) (c:es.length+xs.length < aC) (hk:∀ f H',aJ H' f sz (es ++ xs)->Left H H' u f->K f H'):lJ sz bytes u xs H K w:=by
 have he:xs.isEmpty=false:=by cases xs with | nil=>exact absurd rfl h | cons=>rfl
 rcases d with ⟨rfl,k,rfl⟩ | ⟨n,rfl,i⟩
 .rw[wb _ _ _ _ _ _ _ he]
  refine⟨b,⟨by simpa using g,by simpa using c⟩,λm hm=>hk _ _ ?_ ?_⟩
  .exact .inr ⟨m,rfl,by simp[View.set]⟩
  .intro id a _
   have e:id≠m:=by rintro rfl;exact a hm
   exact⟨by simp[View.set,e],by simp[owner,Ne.symm e]⟩
 .rw[ra _ _ _ _ _ _ _ _ _ _ he,i]
  refine⟨b,⟨by simp,rfl,g,c⟩,λm hm=>hk _ _ ?_ ?_⟩
  .refine .inr ⟨m,by simp,by simp[View.set]⟩
  .intro id a d
   have e:id≠m:=by rintro rfl;exact a hm
   have j:id≠n:=by rintro rfl;exact d rfl
   exact⟨by simp[View.set,e,j],by simp[owner,Ne.symm e]⟩
theorem Left.refl {H:View} {u:V} : Left H H u u:=λ_ _ h=>⟨rfl,h⟩
theorem fE {sz bytes:Nat} {u:V} {es xs:List (List V)} {H:View} {K:V->View->Prop} {w:cx (H,K)} (a:aJ H u sz es) (b:(xs.all λe=>e.length == sz && e.all aE)=true)
  (f:(es.length+xs.length) * bytes < aC) (c:es.length+xs.length < aC) (hk:∀ d H',aJ H' d sz (es ++ xs)->Left H H' u d->K d H'):lJ sz bytes u xs H K w:=by
 cases xs with
 | nil =>
  have:=hk u H (by simpa using a) .refl
  rcases a with ⟨rfl,k,rfl⟩ | ⟨n,rfl,g⟩
  .exact this
  .exact this
 | cons x xs=>exact rO a (by simp) b f c hk
theorem cg.own {H:View} {u:V} {sz:Nat} {es:List (List V)} (h:aJ H u sz es) (a:∀ e∈es,∀ v∈e,Tree v):cg H u (.aT es):=by
 rcases h with ⟨rfl,k,rfl⟩ | ⟨n,rfl,b⟩
 .exact λh _=>.emp k
 .have:=cg.sl (off:=0) (len:=es.length) (esz:=sz) b (by simp) a
  rwa [TZ,SL (by simp)] at this
theorem dH.own {h:az} {u:V} {sz:Nat} {es:List (List V)} {es':List (List V)} (b:aJ h.view u sz es) (a:es'.length=es.length) (hi:∀ i,i < es.length->(es'.getD i []).length=(es.getD i []).length)
  (c:∀ i j,i < es.length->j < (es'.getD i []).length->dH h ((es.getD i []).getD j .any) ((es'.getD i []).getD j .any)):dH h u (.aT es'):=by
 rcases b with ⟨rfl,k,rfl⟩ | ⟨n,rfl,d⟩
 .have:es'=[]:=Ub.1 (by simpa using a)
  subst this
  exact .emp k
 .exact .sl n 0 es.length sz sz es es' d (by simp) a (λi h=>by rw[Tt];exact hi i h) (λi j h1 e=>by rw[Tt];exact c i j h1 e)
theorem dH.Je {h:az} {α:Type} {u:V} {sz:Nat} {l:List α} {f:α->Value} (b:aJ h.view u sz (l.map λx=>[V.val (f x)])):dH h u (.aT (l.map λx=>[V.val (f x)])):=by
 refine dH.own b rfl (λi _=>rfl) (λi j hi a=>?_)
 simp only[Sv] at hi
 have e:(l.map λx=>[V.val (f x)]).getD i []=[V.val (f l[i])]:=by simp[Sm,hi]
 rw[e] at a ⊢
 have:j=0:=by simp at a;omega
 subst this
 exact .val _
def cw (H H':View) (r:V):Prop:=∀ id,H id≠.dead->H' id=H id/\owner r≠some id
theorem cw.emp {H:View} {k:Nat} : cw H H (.emp k):=λ_ _=>⟨rfl,by simp[owner]⟩
theorem cw.new {H:View} {n a b c:Nat} {o:dF} (f:H n=.dead):cw H (H.set n o) (.sl n a b c):=λid d=>by
 have e:id≠n:=by rintro rfl;exact d f
 exact⟨by simp[View.set,e],by simp[owner,Ne.symm e]⟩
theorem aJ.left {H H':View} {u b x:V} {sz:Nat} {es:List (List V)} (h:aJ H x sz es) (c:Left H H' u b) (d:∀ id,owner x=some id->owner u≠some id):aJ H' x sz es :=
 h.keep λid a=>(c id (by rw[(h.live a).1];simp) (d id a)).1
theorem aJ.Qn {H H':View} {x r:V} {sz:Nat} {es:List (List V)} (h:aJ H x sz es) (b:cw H H' r):aJ H' x sz es :=
 h.keep λid a=>(b id (by rw[(h.live a).1];simp)).1
theorem set_set {H:View} {n:Nat} {a b:dF} : View.set (View.set H n a) n b=View.set H n b:=by
 funext id;simp only[View.set];split <;> rfl
theorem bR {m b:Nat} {o x:dF} (h:(if m=b then o else x)=.dead) (a:o≠.dead):m≠b/\x=.dead:=by
 split at h
 .exact absurd h a
 .rename_i e;exact⟨e,h⟩
theorem bP {z:Nat} {es:List (List V)} : dF.arr z es≠.dead:=by simp
def pc (H:View):List V->List V->Prop
 | [],[]=>True
 | v :: vs,t :: ts=>cg H v t/\pc H vs ts
 | _,_=>False
theorem pc.len {H:View} : ∀ {vs a:List V},pc H vs a->a.length=vs.length
 | [],[],_=>rfl
 | _ :: _,_ :: _,h=>by simp[pc.len h.2]
theorem pc.get {H:View} : ∀ {vs a:List V},pc H vs a->∀ i,i < vs.length->cg H (vs.getD i .any) (a.getD i .any)
 | [],[],_,i,hi=>by simp at hi
 | _ :: _,_ :: _,h,0,_=>h.1
 | _ :: _,_ :: _,h,i+1,hi=>pc.get h.2 i (by simpa using hi)
theorem av.JU {P:Program} {q:Bool} {f:FuncId} {H:View} {vs b:List V} {K:V->View->Prop} {v:cx (H,K)} {t:V} (d:ay P f b t) (a:dw P f=true) (e:uL t) (c:pc H vs b) (hk:K t H):av P q f vs H K v :=
 av.borrow d a e c.len c.get hk
theorem av.lD {P:Program} {q:Bool} {f:FuncId} {H:View} {vs b:List V} {K:V->View->Prop} {v:cx (H,K)} {t:V} (d:cT P f b t) (a:dw P f=true) (c:pc H vs b) (hk:K t H):av P q f vs H K v :=
 av.tC d a c.len c.get hk
theorem cg.box {H:View} {q z:Nat} {e:List V} (a:H q=.arr z [e]) (b:∀ v∈e,Tree v):cg H (.ptr q 0 0) (.aG e 0):=by
 rintro h rfl
 refine .ptr q 0 0 z [e] e a (by simp) (by simp) (λk hk=>?_)
 simp only[TF]
 have c:e.getD k .any=e[k]:=by simp[Sm,hk]
 rw[c]
 exact .tree _ (b _ (Sx _))
theorem aJ.sl {H:View} {u:V} {sz:Nat} {es:List (List V)} (h:aJ H u sz es) (a:0 < es.length):∃ n,u=.sl n 0 es.length sz/\H n=.arr sz es:=by
 rcases h with ⟨rfl,_⟩ | h
 .simp at a
 .exact h
abbrev dG:=V × Nat × List (List V)
def bc (H:View) (L:List dG):Prop:=(∀ x∈L,aJ H x.1 x.2.1 x.2.2)/\(L.filterMap λx=>owner x.1).Nodup
theorem bc.nil {H:View} : bc H []:=⟨λx a=>by simp at a,by simp⟩
theorem bc.head {H:View} {x:dG} {L:List dG} (h:bc H (x :: L)):aJ H x.1 x.2.1 x.2.2:=h.1 x (by simp)
theorem bc.tail {H:View} {x:dG} {L:List dG} (h:bc H (x :: L)):bc H L:=by
 refine⟨λy a=>h.1 y (by simp[a]),?_⟩
 have:=h.2
 simp only[TG] at this
 split at this
 .exact this
 .exact(Tx.1 this).2
theorem bc.perm {H:View} {L a:List dG} (h:bc H L) (p:L.Perm a):bc H a :=
 ⟨λx b=>h.1 x (p.mem_iff.2 b),(p.filterMap _).nodup_iff.1 h.2⟩
theorem qM {α:Type} : ∀ (L:List α) (k:Nat) (hk:k < L.length),L.Perm (L[k] :: L.eraseIdx k)
 | x :: L,0,_=>.refl _
 | x :: L,k+1,hk=>by
  have:=qM L k (by simpa using hk)
  exact(this.cons x).trans (.swap _ _ _)
theorem bc.at {H:View} {L:List dG} (h:bc H L) (k:Nat) (hk:k < L.length):bc H (L[k] :: L.eraseIdx k) :=
 h.perm (qM L k hk)
theorem bc.obj {H:View} {n k sz:Nat} {es:List (List V)} {L:List dG} (h:bc H ((.sl n 0 k sz,sz,es) :: L)) (a:es≠[]):H n=.arr sz es/\k=es.length:=by
 rcases h.head with ⟨e,_⟩ | ⟨m,e,hm⟩
 .exact absurd e a
 .simp only[V.sl.injEq] at e
  obtain⟨rfl,_,rfl,_⟩:=e
  exact⟨hm,rfl⟩
theorem bc.off {H:View} {x:dG} {L:List dG} (h:bc H (x :: L)) {id:Nat} (a:owner x.1=some id):∀ y∈L,owner y.1≠some id:=by
 intro y b e
 have:=h.2
 simp only[TG,a,Tx,TM,not_exists,not_and] at this
 exact this.1 y b e
theorem bc.live {H:View} {x:dG} {L:List dG} (h:bc H L) (b:x∈L) {id:Nat} (a:owner x.1=some id):H id≠.dead:=by
 rw[((h.1 x b).live a).1];simp
theorem bc.keep {H H':View} {L:List dG} (h:bc H L) (hk:∀ x∈L,∀ id,owner x.1=some id->H' id=H id):bc H' L :=
 ⟨λx a=>(h.1 x a).keep (hk x a),h.2⟩
theorem bc.new {H:View} {L:List dG} (h:bc H L) {n:Nat} (b:H n=.dead) (sz:Nat) (es:List (List V)):bc (H.set n (.arr sz es)) ((.sl n 0 es.length sz,sz,es) :: L):=by
 refine⟨λx a=>?_,?_⟩
 .rcases SM.1 a with rfl | a
  .exact .new
  .exact(h.1 x a).fresh b
 .simp only[TG,owner,Tx,TM,not_exists,not_and]
  exact⟨λx a e=>h.live a e b,h.2⟩
theorem bc.Bp {H H':View} {L:List dG} (h:bc H L) {u:V} {sz:Nat} {es:List (List V)} (c:aJ H' u sz es) (b:cw H H' u):bc H' ((u,sz,es) :: L):=by
 refine⟨λx a=>?_,?_⟩
 .rcases SM.1 a with rfl | a
  .exact c
  .exact(h.1 x a).Qn b
 .cases hu:owner u with
  | none=>simp only[TG,hu];exact h.2
  | some id =>
   simp only[TG,hu,Tx,TM,not_exists,not_and]
   exact⟨λx a e=>(b id (h.live a e)).2 hu,h.2⟩
theorem bc.fresh {H:View} {L:List dG} (h:bc H L) {n:Nat} (a:H n=.dead) {o:dF} : bc (H.set n o) L :=
 ⟨λx b=>(h.1 x b).fresh a,h.2⟩
theorem bc.put {H:View} {L:List dG} {n k sz:Nat} {es es':List (List V)} (h:bc H ((.sl n 0 k sz,sz,es) :: L)) (b:es'.length=es.length) (hk:k=es.length):bc (H.set n (.arr sz es')) ((.sl n 0 k sz,sz,es') :: L):=by
 refine⟨λx a=>?_,by simpa [TG,owner] using h.2⟩
 rcases SM.1 a with rfl | a
 .exact .inr ⟨n,by simp[b,hk],by simp[View.set]⟩
 .exact(h.1 x (by simp[a])).other (h.off rfl x a)
theorem bc.left {H H':View} {L:List dG} {u c:V} {sz:Nat} {es es':List (List V)} (h:bc H ((u,sz,es) :: L)) (j:aJ H' c sz es') (g:Left H H' u c):bc H' ((c,sz,es') :: L):=by
 have b:∀ x∈L,∀ id,owner x.1=some id->owner u≠some id:=λx a id d hu=>h.off hu x a d
 refine⟨λx a=>?_,?_⟩
 .rcases SM.1 a with rfl | a
  .exact j
  .exact(h.1 x (by simp[a])).left g (b x a)
 .have i:=h.tail.2
  cases hu:owner c with
  | none=>simp only[TG,hu];exact i
  | some id =>
   simp only[TG,hu,Tx,TM,not_exists,not_and]
   refine⟨λx a e=>?_,i⟩
   have f:=h.tail.live a e
   exact(g id f (b x a id e)).2 hu
theorem c8 {sz bytes:Nat} {u:V} {es xs:List (List V)} {L:List dG} {H:View} {K:V->View->Prop} {w:cx (H,K)} (d:bc H ((u,sz,es) :: L)) (b:(xs.all λe=>e.length == sz && e.all aE)=true)
  (g:(es.length+xs.length) * bytes < aC) (c:es.length+xs.length < aC) (hk:∀ a H',bc H' ((a,sz,es ++ xs) :: L)->Left H H' u a->K a H'):lJ sz bytes u xs H K w :=
 fE d.head b g c λa H' h1 f=>hk a H' (d.left h1 f) f
theorem bc.stay {H H':View} {L:List dG} (h:bc H L) (b:∀ id,H id≠.dead->H' id=H id):bc H' L :=
 h.keep λx c _ a=>b _ (h.live c a)
theorem bc.emp {H:View} {L:List dG} (h:bc H L) {k sz:Nat} : bc H ((.emp k,sz,[]) :: L):=by
 refine⟨λx a=>?_,by simpa [TG,owner] using h.2⟩
 rcases SM.1 a with rfl | a
 .exact .nil
 .exact h.1 x a
theorem aJ.cells {H:View} {u:V} {sz:Nat} {es:List (List V)} (h:aJ H u sz es):V.cells u=[u]:=by
 rcases h with ⟨rfl,k,rfl⟩ | ⟨n,rfl,_⟩ <;> rfl
theorem aJ.eL {H:View} {u:V} {sz:Nat} {es:List (List V)} (h:aJ H u sz es):aE u=true:=by
 rcases h with ⟨rfl,k,rfl⟩ | ⟨n,rfl,_⟩ <;> rfl
theorem bc.Hc {H:View} {L:List dG} (h:bc H L) (i j:Nat) {a e s1 b k2 s2 t1 t2:Nat} {f g:List (List V)} (hi:L[i]?=some (.sl a 0 e s1,t1,f)) (k:L[j]?=some (.sl b 0 k2 s2,t2,g)) (c:i≠j):a≠b:=by
 rintro rfl
 obtain⟨d,hi⟩:=SH.1 hi
 have h1:=h.at i d
 rw[hi] at h1
 exact h1.off (id:=a) rfl _ (List.mem_eraseIdx_iff_getElem?.2 ⟨j,c.symm,k⟩) rfl
theorem Fx {α:Type} {a b c:α} {l:List α} : (a :: b :: c :: l).Perm (b :: c :: a :: l):=(List.Perm.swap _ _ _).trans ((List.Perm.swap _ _ _).cons _)
theorem bc.own {H:View} {L:List dG} (h:bc H L) (i:Nat) {u:V} {sz:Nat} {es:List (List V)} (hi:L[i]?=some (u,sz,es)):aJ H u sz es:=h.1 _ (SK hi)
theorem bc.is {H:View} {L:List dG} (h:bc H L) (i:Nat) {n k sz:Nat} {es:List (List V)} (hi:L[i]?=some (.sl n 0 k sz,sz,es)) (a:0 < es.length):H n=.arr sz es:=by
 obtain⟨m,e,hm⟩:=(h.own i hi).sl a
 simp only[V.sl.injEq] at e
 rw[e.1];exact hm
theorem bc.DT {H:View} {L:List dG} (h:bc H L) {b c:Nat} {es:List (V × V × Nat)} (a:H b=.map es c):∀ x∈L,owner x.1≠some b:=λx d e=>by
 have:=((h.1 x d).live e).1
 rw[a] at this;simp at this
theorem bc.AI {H:View} {L:List dG} (h:bc H L) {b c:Nat} {es:List (V × V × Nat)} (d:H b=.map es c) {o:dF} : bc (H.set b o) L :=
 ⟨λx a=>(h.1 x a).other (h.DT d x a),h.2⟩
theorem Left.map {H H':View} {u d:V} {b c:Nat} {es:List (V × V × Nat)} {sz:Nat} {xs:List (List V)} (f:Left H H' u d) (g:aJ H u sz xs) (a:H b=.map es c):H' b=.map es c:=by
 rw[(f b (by rw[a];simp) (λe=>by have:=(g.live e).1;rw[a] at this;simp at this)).1,a]
theorem Au {H:View} {L:List dG} (h:bc H L) (i:Nat) {n k sz b c:Nat} {xs:List (List V)} {es:List (V × V × Nat)} (hi:L[i]?=some (.sl n 0 k sz,sz,xs)) (a:H b=.map es c):n≠b:=by
 rintro rfl
 exact h.DT a _ (SK hi) rfl
theorem av.BJ {P:Program} {f:FuncId} {vs:List V} {H:View} {K:V->View->Prop} {w:cx (H,K)} {sz:Nat} {es:List (List V)} (b:au P f vs H λr H'=>aJ H' r sz es/\cw H H' r) (hk:∀ r H',aJ H' r sz es->cw H H' r->K r H'):av P true f vs H K w:=by
 unfold av
 simp only[if_true]
 exact(b.mono λr H' h=>⟨λid a=>(h.2 id a).1,hk r H' h.1 h.2⟩).Ki
def wh:SC :=
 ae [ab [aU 20 .lss 19 18],cb 20 (.exit 0),.block 1 (ae [ab [aa 21 19,aa 3 21],ab [aa 22 0,aa 23 3,((some 24),.op (.hU (.tmp 22) (.tmp 23))),bg 25 224 [24],dp 26 25],bf 26 (ae [ab [bm 2 false],.ret])]),ab [aF 27 .add 19 1,aa 19 27]]
def zQ:SF:=⟨ae [ab [bm 2 false],ae [.region false [⟨none,[aa 4 0,((some 5),.op (.vr .eql (.tmp 4) (.val (.val (.string ⟨#[]⟩))))),aa 6 5]⟩,⟨(some (6,false)),[aa 7 0,((some 8),.op (.oA (.tmp 7))),aF 9 .gtr 8 20]⟩,⟨none,[cR 10 6 9,aa 11 10]⟩,⟨(some (11,false)),[aa 12 0,((some 13),.op (.hU (.tmp 12) (.val (.val (.int .i64 0))))),bg 14 223 [13],dp 15 14]⟩,⟨none,[cR 16 11 15]⟩],bf 16 (ae [ab [bm 2 false],.ret])],ae [ab [aa 17 0,((some 18),.op (.oA (.tmp 17))),aR 19 0],cd 0 wh],ab [bm 2 true],.ret],
 [.tmp 2],28⟩
theorem Dt:aI Tryz.prog 158 []=some zQ:=by kernel_rfl
def vJ:SF:=⟨ae [ab [aR 2 0,aR 3 0],ab [aR 4 2],.block 0 (ae [ab [aa 6 0,aP 7 6,aF 8 .lss 7 2,aa 5 8],.cond (.tmp 5) (ae [ab [aR 2 0,aR 3 4],.ret]) (ae [ab [aa 10 0,((some 11),.op (.idx 1 (.tmp 10) (.val (.val (.int .i64 1))))),ak 12 11,bg 13 296 [12],aa 9 13],cb 9 (ae [ab [aa 15 0,((some 16),.op (.idx 1 (.tmp 15) (.val (.val (.int .i64 1))))),ak 17 16,((some 18),.op (.arith .neq (.tmp 17) (.val (.val (.int .u8 92))))),aa 14 18],.cond (.tmp 14) (ae [ab [aR 2 0,aR 3 3],.ret]) (ae [ab [aa 20 0,aP 21 20,aF 22 .lss 21 3,aa 19 22],.cond (.tmp 19) (ae [ab [aR 2 0,aR 3 4],.ret]) (ae [ab [aa 24 0,((some 25),.op (.idx 1 (.tmp 24) (.val (.val (.int .i64 2))))),ak 26 25,bg 27 297 [26],dp 28 27,aa 23 28],.cond (.tmp 23) (ae [ab [aR 2 0,aR 3 3],.ret]) (ab [aR 4 3])])])])])]),ae [ab [aa 29 0,aP 30 29,aa 31 4,aU 32 .leq 30 31],bf 32 (ae [ab [aR 2 0,aR 3 4],.ret])],ae [ab [aa 33 0,aa 34 4,aZ 35 1 33 34,ak 36 35,((some 37),.op (.arith .neq (.tmp 36) (.val (.val (.int .u8 39)))))],bf 37 (ae [ab [aR 2 0,aR 3 3],.ret])],ab [aa 38 4,aF 39 .add 38 1,aa 2 39,aR 3 0],.ret],
 [.tmp 2,.tmp 3],40⟩
theorem yX:aI Tryz.prog 287 []=some vJ:=by kernel_rfl
def pY:SF:=⟨ae [ab [bm 2 false],ae [.region false [⟨none,[aa 5 0,((some 6),.op (.vr .eql (.tmp 5) (.val (.val (.string ⟨#[]⟩))))),aa 7 6]⟩,⟨(some (7,false)),[aa 8 0,((some 9),.op (.hU (.tmp 8) (.val (.val (.int .i64 0))))),((some 10),.op (.arith .neq (.tmp 9) (.val (.val (.int .u8 39)))))]⟩,⟨none,[cR 11 7 10]⟩],bf 11 (ae [ab [bm 2 false],.ret])],ab [aa 13 0,((some 14),.op (.fN (.tmp 13))),bg 15 287 [14],aa 12 15,dz 16 0 12,dz 17 1 12,aa 3 16,aa 4 17],.region false [⟨none,[aa 18 4,aF 19 .eql 18 0,aa 20 19]⟩,⟨(some (20,true)),[aa 21 3,aa 22 0,((some 23),.op (.oA (.tmp 22))),aU 24 .eql 21 23]⟩,⟨none,[eA 25 20 24,aa 2 25]⟩],.ret],
 [.tmp 2],26⟩
theorem zt:aI Tryz.prog 267 [14]=some pY:=by kernel_rfl
def yF:SF:=⟨ae [ab [bm 2 false],.region false [⟨none,[aa 3 0,bg 4 158 [3],aa 5 4]⟩,⟨(some (5,false)),[aa 6 0,bg 7 267 [6]]⟩,⟨none,[cR 8 5 7,aa 2 8]⟩],.ret],
 [.tmp 2],9⟩
theorem B6:aI Tryz.prog 217 []=some yF:=by kernel_rfl
def vB:SF:=⟨ae [ab [bm 2 false],ab [aa 3 0,bg 4 158 [3],dp 5 4,aa 2 5],.ret],
 [.tmp 2],6⟩
theorem y7:aI Tryz.prog 157 []=some vB:=by kernel_rfl
theorem xI (s:ByteArray):iz s ⟨#[]⟩=decide ((fq s).length=0):=by
 unfold iz
 rw[<-eD]
 have:(s.data.toList == ([]:List UInt8))=decide (s.data.toList.length=0):=by
  cases s.data.toList <;> rfl
 show (s.data.toList == ([]:List UInt8))=_
 rw[this]
 rfl
theorem N3 (s:ByteArray) (H:View):au Tryz.prog 158 [gs s] H λr _=>r=gb (gv (fq s)):=by
 refine au.of mixed Dt ?_
 repeat' (first | ((first|apply ai.dec|apply ai.eq|apply ai.ne|apply ai.split)<;>intro)|(simp(disch:=omega)only[↓wr,seval,wq,zQ,eD,xI]))
 .rename_i h
  congr 2;simp[gv,h]
 .rename_i h1 h
  congr 2;simp[gv,show ¬ (fq s).length<=20 by omega]
 .rename_i h1 p
  cases e:fq s with
  | nil=>simp[e] at h1
  | cons c l =>
   have f:=λd (g:d∈c :: l)=>CX (s:=s) (c:=d) (by rw[e];exact g)
   have j:=f c (by simp)
   repeat' (first | ((first|apply ai.dec|apply ai.eq|apply ai.ne|apply ai.split)<;>intro)|(simp(disch:=omega)only[↓wr,seval,wq,e,S3,eD]))
   refine av.pure (uS rZ J5 c j.1 j.2) ?_
   repeat' (first | ((first|apply ai.dec|apply ai.eq|apply ai.ne|apply ai.split)<;>intro)|(simp(disch:=omega)only[↓wr,seval,wq,e,S3,eD]))
   .rename_i q
    rw[e] at h1 p
    refine aY.intro (λk T H'=>∃ i:Nat,i+k=(c :: l).length/\((c :: l).take i).all nL=true/\T 0=gs s/\T 18=gi (c :: l).length/\T 19=gi i) (c :: l).length ?_ ?_
    .exact⟨0,by omega,by simp,rfl,rfl,rfl⟩
    .rintro k T H' ⟨i,hk,hi,n,a,b⟩
     simp(disch:=omega)only[↓wr,seval,wq,wh,n,a,b,eD,e]
     apply ai.dec<;>intro t
     .simp only[SA] at t hk p
      have o:(c :: l)[i]?=some ((c :: l)[i]'(by simp;omega)):=Sn (by simp;omega)
      have hm:(c :: l)[i]'(by simp;omega)∈c :: l:=Sx _
      generalize (c :: l)[i]'(by simp;omega)=d at o hm
      have m:=f d hm
      simp(disch:=omega)only[↓wr,seval,wq,n,a,b,eD,e,o]
      refine av.pure (uS rZ MY d m.1 m.2) ?_
      repeat' (first | ((first|apply ai.dec|apply ai.eq|apply ai.ne|apply ai.split)<;>intro)|(simp(disch:=omega)only[↓wr,seval,wq,n,a,b,eD,e,o]))
      .rename_i g
       refine⟨k - 1,by omega,i+1,by omega,?_,by first | rfl | exact⟨rfl,rfl⟩⟩
       rw[S6,o]
       simp only[Option.toList_some,List.all_append,hi,TU,g,List.all_nil,Bool.and_self]
      .rename_i g
       congr 2
       have:(c :: l).all nL=false:=by
        rw[List.all_eq_false];exact⟨d,hm,by simp[g]⟩
       simp only[gv,this,Bool.and_false]
     .simp(disch:=omega)only[↓wr,seval,wq,n,a,b]
      simp only[SA] at t hk p
      rw[SL (by simp;omega)] at hi
      congr 2
      simp only[gv,hi,SA]
      simp[q];omega
   .rename_i q
    congr 2;simp[gv,q]
theorem FE (s:ByteArray):ay Tryz.prog 158 [gs s] (gb (gv (fq s))):=ay.val (oI s) (N3 s)
def jX (l:List Int):Int × Int :=
 if xt (l.getD 1 0)=true then (2,0) else if l.getD 1 0≠92 then (0,3) else if l.length < 3 then (0,4) else if BW (l.getD 2 0)=true then (3,0) else (0,3)
def lW (l:List Int):Int × Int :=
 if l.length < 2 then (0,4) else if (jX l).2≠0 then (0,(jX l).2) else if (l.length:Int)<=(jX l).1 then (0,4) else if l.getD (jX l).1.toNat 0≠39 then (0,3) else ((jX l).1+1,0)
theorem L1 {l:List Int} {n:Int} (a:jX l=(n,0)) (b:¬ l.length < 2):lW l=if (l.length:Int)<=n then (0,4) else if l.getD n.toNat 0≠39 then (0,3) else (n+1,0):=by
 rw[lW,Sr b,a];simp
theorem Gf {l:List Int} {e:Int} (a:jX l=(0,e)) (he:e≠0) (b:¬ l.length < 2):lW l=(0,e):=by
 rw[lW,Sr b,a];simp[he]
theorem IT (l:List Int) (hr:∀ c∈l,0<=c/\c<=255) (H:View):au Tryz.prog 287 [.aT (l.map λx=>[gy x])] H λr _=>r=.aS [gi (lW l).1,gi (lW l).2]:=by
 refine au.of mixed yX ?_
 simp(disch:=omega)only[↓wr,seval,wq,vJ]
 apply ai.dec<;>intro h
 .simp(disch:=omega)only[↓wr,seval,wq]
  rw[lW,St (by omega)]
 .have h1:l[1]?=some (l[1]'(by omega)):=Sn (by omega)
  have g1:l.getD 1 0=l[1]'(by omega):=by simp[Sm,h1]
  have m1:l[1]'(by omega)∈l:=Sx _
  generalize l[1]'(by omega)=b at h1 g1 m1
  have o:=hr b m1
  simp(disch:=omega)only[↓wr,seval,wq,Ss,h1]
  refine av.pure (uS rZ MA b o.1 o.2) ?_
  simp(disch:=omega)only[↓wr,seval,wq]
  apply ai.split<;>intro hp
  .have p:jX l=(2,0):=by rw[jX,St (by rw[g1];exact hp)]
   simp(disch:=omega)only[↓wr,seval,wq]
   have a:=L1 p (by omega)
   apply ai.dec<;>intro m
   .simp(disch:=omega)only[↓wr,seval,wq]
    rw[a,St (by omega)]
   .rw[Sr (by omega)] at a
    have g:l[2]?=some (l[2]'(by omega)):=Sn (by omega)
    have g2:l.getD (2:Int).toNat 0=l[2]'(by omega):=by simp[Sm,g]
    generalize l[2]'(by omega)=c at g g2
    rw[g2] at a
    simp(disch:=omega)only[↓wr,seval,wq,Ss,g]
    apply ai.ne<;>intro i
    .simp(disch:=omega)only[↓wr,seval,wq]
     rw[a,St i]
    .simp(disch:=omega)only[↓wr,↓reduceIte,wq,Nat.reduceEqDiff,Nat.reduceAdd,Nat.reduceLT,Nat.reduceLeDiff,Int.reduceNeg,Int.reduceToNat,reduceCtorEq]
     rw[a,Sr (λq=>q i)]
  .simp(disch:=omega)only[↓wr,seval,wq,Ss,h1]
   apply ai.ne<;>intro k
   .simp(disch:=omega)only[↓wr,seval,wq]
    rw[Gf (e:=3) (by rw[jX,Sr (by rw[g1,hp];simp),St (by rw[g1];exact k)]) (by simp) (by omega)]
   .simp(disch:=omega)only[↓wr,seval,wq]
    apply ai.dec<;>intro s
    .simp(disch:=omega)only[↓wr,seval,wq]
     rw[Gf (e:=4) (by rw[jX,Sr (by rw[g1,hp];simp),Sr (by rw[g1];exact λq=>q k),St (by omega)]) (by simp) (by omega)]
    .have g:l[2]?=some (l[2]'(by omega)):=Sn (by omega)
     have g2:l.getD 2 0=l[2]'(by omega):=by simp[Sm,g]
     have m2:l[2]'(by omega)∈l:=Sx _
     generalize l[2]'(by omega)=c at g g2 m2
     have j:=hr c m2
     have f:jX l=if BW c=true then (3,0) else (0,3):=by rw[jX,Sr (by rw[g1,hp];simp),Sr (by rw[g1];exact λq=>q k),Sr (by omega),g2]
     simp(disch:=omega)only[↓wr,seval,wq,Ss,g]
     refine av.pure (uS rZ PW c j.1 j.2) ?_
     simp(disch:=omega)only[↓wr,seval,wq]
     apply ai.split<;>intro he
     .rw[St he] at f
      have a:=L1 f (by omega)
      simp(disch:=omega)only[↓wr,seval,wq]
      apply ai.dec<;>intro m
      .simp(disch:=omega)only[↓wr,seval,wq]
       rw[a,St (by omega)]
      .rw[Sr (by omega)] at a
       have n:l[3]?=some (l[3]'(by omega)):=Sn (by omega)
       have g3:l.getD (3:Int).toNat 0=l[3]'(by omega):=by simp[Sm,n]
       generalize l[3]'(by omega)=d at n g3
       rw[g3] at a
       simp(disch:=omega)only[↓wr,seval,wq,Ss,n]
       apply ai.ne<;>intro i
       .simp(disch:=omega)only[↓wr,seval,wq]
        rw[a,St i]
       .simp(disch:=omega)only[↓wr,↓reduceIte,wq,Nat.reduceEqDiff,Nat.reduceAdd,Nat.reduceLT,Nat.reduceLeDiff,Int.reduceNeg,Int.reduceToNat,reduceCtorEq]
        rw[a,Sr (λq=>q i)]
     .rw[Sr (by rw[he];simp)] at f
      simp(disch:=omega)only[↓wr,seval,wq]
      rw[Gf f (by simp) (by omega)]
end Gv
