/-
  Part 7 of the proof: what the machine does and what the functions answer.
  Conditions: those that each lemma names.
-/
import Derived.Test.YtiophifnkakjgaaGreatSGzB9F
set_option linter.unusedSimpArgs false
set_option linter.unusedVariables false
set_option maxRecDepth 100000
set_option maxHeartbeats 20000000
namespace Gv
open Go Go.Proofs
section
variable {P:Program} {n:Nat} {all:List Oper}
def iL (h:aD) (e:ES):Prop:=e.V=h.view/\e.n=h.length
def Calm (e e':ES) (h h':aD):Prop:=h.length<=h'.length/\(∀ id,id < h.length->¬ id∈e'.w->h'.view id=h.view id/\¬ id∈e.w)
theorem Calm.trans {a b c:ES} {h1 e f:aD} (x:Calm a b h1 e) (y:Calm b c e f):Calm a c h1 f :=
 ⟨Wf x.1 y.1,λid d hw =>
  let ⟨g,d1⟩:=y.2 id (VY d x.1) hw
  let ⟨h,d2⟩:=x.2 id d d1
  ⟨g.trans h,d2⟩⟩
theorem Calm.refl (e:ES) (h:aD):Calm e e h h:=⟨VA _,λ_ _ hw=>⟨rfl,hw⟩⟩
def lf (P:Program) (call:iq):Prop:=∀ g vs e v e' h,call g vs e=some (v,e')->iL h e ->
 dD P g=true/\∃ h',bK P g vs h v h'/\iL h' e'/\(∀ id,id < h.length->¬ id∈e'.w->h'.view id=h.view id)/\∀ id,id∈e'.w->id < h.length
def wy (P:Program) (run:xq):Prop:=∀ (n:Nat) (fz:List Nat) (c:Code) (sc:DC),jm P n fz c=some sc->n<=8000->∀ (e e':ES) (r:Exit) (h:aD),run sc e=some (r,e')->iL h e ->
 ∃ h',c8 P n c e.T h r e'.T h'/\iL h' e'/\Calm e e' h h'/\∀ c0,c=.loop c0->qi P n c0 e.T h r e'.T h'
theorem NK {h:aD} {e:ES} {d:Option Nat} {v:V} (he:iL h e):iL h (e.put d v):=by cases d <;> exact he
theorem Ru {e:ES} {d:Option Nat} {v:V} : (e.put d v).w=e.w:=by cases d <;> rfl
theorem P2 {h:aD} {e e':ES} {b:aD} {d:Option Nat} {v:V} (x:Calm e e' h b):Calm e (e'.put d v) h b:=⟨x.1,λid a hw=>x.2 id a (by rw[Ru] at hw;exact hw)⟩
theorem B0 {a:Nat} (h:Nat.ble a 8000=true):a+1 < 2 ^ 13:=by
 have:=Nat.le_of_ble_eq_true h
 omega
theorem R6 {h:aD} {e e':ES} {v v':V} {eff:bq} {rd:List Nat} {c:Rec} (he:iL h e) (a:Gn v eff rd e=some (v',e',c)) :
  v'=v/\e'.T=e.T/\e'.V=eff.view h.view h.length/\e'.n=(eff.apply h).length/\c=⟨rd,eff.wr,false,h.length,(eff.apply h).length⟩/\e'.w=eff.wr ++ e.w:=by
 obtain⟨h1,b⟩:=he
 unfold Gn at a
 cases eff with
 | none =>
  simp only[Vr,Vv] at a
  obtain⟨rfl,rfl,rfl⟩:=a
  exact⟨rfl,rfl,h1,b,by rw[b];rfl,rfl⟩
 | new o =>
  simp only at a
  split at a
  .rename_i d
   simp only[Vr,Vv] at a
   obtain⟨rfl,rfl,rfl⟩:=a
   refine⟨rfl,rfl,?_,by simp[gD,b],by simp[gD,b,bq.wr],rfl⟩
   funext k
   simp only[ES.V,bq.view,View.set]
   rw[cG.nB _ _ _ _ _ _ (B0 d),b]
   have:=congrFun h1 k
   simp only[ES.V] at this
   rw[this]
  .simp at a
 | fe id o =>
  simp only at a
  split at a
  .rename_i d
   simp only[Vr,Vv] at a
   obtain⟨rfl,rfl,rfl⟩:=a
   refine⟨rfl,rfl,?_,by simp[gD,b],by simp[gD,b,bq.wr],rfl⟩
   funext k
   simp only[ES.V,bq.view,View.set]
   rw[cG.nB _ _ _ _ _ _ (B0 d)]
   have:=congrFun h1 k
   simp only[ES.V] at this
   rw[this]
  .simp at a
 | eU id o =>
  simp only at a
  split at a
  .rename_i f g
   simp only[Vr,Vv] at a
   obtain⟨rfl,rfl,rfl⟩:=a
   refine⟨rfl,rfl,?_,by simp[gD,b],by simp[gD,b,bq.wr],rfl⟩
   funext k
   simp only[ES.V,bq.view,View.set]
   rw[cG.nB _ _ _ _ _ _ (B0 f),cG.nB _ _ _ _ _ _ (B0 g),b]
   have:=congrFun h1 k
   simp only[ES.V] at this
   rw[this]
  .simp at a
theorem SV {o:Oper} {e e':ES} {h:aD} {s:SI} {v:V} {c:Rec} (i:dy n all e.T o=some true) (j:∀ v eff rd,sI P s e.T h.view h.length=some (v,eff,rd)->cd P o e.T h.view h.length=some (v,eff,rd))
  (he:iL h e) (b:MO P s e=some (v,e',c)):∃ d,dQ P n all o e.T h v d c.rd c.wr c.call/\iL d e'/\e'.T=e.T/\Calm e e' h d/\kM (tO P s) c.rd c.wr c.call h.length d.length/\c.lo=h.length/\c.hi=d.length:=by
 unfold MO at b
 rw[K7,he.1,he.2] at b
 split at b
 .rename_i v0 eff rd f
  obtain⟨rfl,g1,g2,g3,rfl,g5⟩:=R6 he b
  have g:=j _ _ _ f
  have st:=dQ.op (P:=P) (n:=n) (all:=all) i g
  refine⟨eff.apply h,st,⟨?_,g3⟩,g1,⟨tU st,λid a hw=>?_⟩,⟨λk=>?_,λh1=>?_⟩,rfl,rfl⟩
  .rw[lj (λid a=>(mU g id a).1)];exact g2
  .rw[g5] at hw
   simp only[VM,not_or] at hw
   exact⟨rX st a hw.1,hw.2⟩
  .obtain⟨rfl,rfl⟩:=(si f).1 k
   exact⟨rfl,rfl,rfl,rfl⟩
  .rcases VT (tO P s) 1 with l | l
   .obtain⟨rfl,rfl⟩:=(si f).1 (by omega);rfl
   .exact(si f).2 (by omega)
 .simp at b
theorem Ue {call:iq} (j:lf P call) {q:Fz} {o:Oper} {e e':ES} {h:aD} {v:V} {c:Rec} (r:dy n all e.T o=some true) (he:iL h e) (a:eB P call (mF P q o) e=some (v,e',c)) :
  ∃ k,dQ P n all o e.T h v k c.rd c.wr c.call/\iL k e'/\e'.T=e.T/\Calm e e' h k/\kM (ja P false (mF P q o)) c.rd c.wr c.call h.length k.length/\c.lo=h.length/\c.hi=k.length:=by
 rcases z7 P q o with ⟨f,args,C,m,i | i⟩ | ⟨t,x,m,i⟩ | ⟨s,d,x,m,u,i⟩ | i
 rotate_left
 .rw[i] at a
  simp[eB] at a
 rotate_right
 .rw[i] at a ⊢
  simp only[eB,Mz] at a
  split at a
  .rename_i g first cap A
   rw[CC] at a
   rw[SX.cO] at A
   split at a
   .rename_i v0 G D
    obtain⟨l,k,hr,p,B,w⟩:=j _ _ _ _ _ _ D he
    simp only[Vr,Vv] at a
    obtain⟨rfl,rfl,rfl⟩:=a
    exact⟨k,.call r m A l hr B w,p,rfl,⟨hr.1,λid y hw=>by
     simp only[VM,not_or] at hw
     exact⟨B id y hw.1,hw.2⟩⟩,Rb (by simp[ja]),he.2,p.2⟩
   .simp at a
  .simp at a
 .rw[i] at a ⊢
  simp only[eB,MO,K7,sI,SX.cO] at a
  split at a
  .rename_i v0 eff rd b
   split at b
   .rename_i l
    simp only[Vr,Vv] at b
    obtain⟨rfl,rfl,rfl⟩:=b
    simp only[Gn,Vr,Vv] at a
    obtain⟨rfl,rfl,rfl⟩:=a
    exact⟨h,.jw r m l,he,rfl,Calm.refl _ _,⟨λ_=>⟨rfl,rfl,rfl,rfl⟩,λ_=>rfl⟩,he.2,he.2⟩
   .simp at b
  .simp at a
 .rw[i] at a ⊢
  obtain⟨ty,h1,E,F⟩:=Aj u
  simp only[eB,MO,K7,sI,SX.cO] at a
  split at a
  .rename_i v0 eff rd b
   split at b
   .rename_i st z
    simp only[Vr,Vv] at b
    obtain⟨rfl,rfl,rfl⟩:=b
    simp only[Gn,Vr,Vv] at a
    obtain⟨rfl,rfl,rfl⟩:=a
    exact⟨h,.gg r m h1 E F z,he,rfl,Calm.refl _ _,⟨λ_=>⟨rfl,rfl,rfl,rfl⟩,λ_=>rfl⟩,he.2,he.2⟩
   .simp at b
  .simp at a
 .rw[i] at a ⊢
  exact SV (s:=xY P q.fr (comp P o)) r (λv eff rd b=>Ka (JR b)) he a
theorem SP {o:Oper} (a:r5 n o=true) (b:n<=8000):∀ t,o.dst=some t->t < 8000:=by
 intro t c
 unfold r5 at a
 rw[c] at a
 have:t < n:=by simpa using a
 exact VY this b
theorem RH {c:Rec} {a b:Nat} (h1:c.lo=a) (d:c.hi=b):c=⟨c.rd,c.wr,c.call,a,b⟩:=by cases c;subst h1;subst d;rfl
theorem Hy {call:iq} (i:lf P call) (N:n<=8000) {S:Fz} (g:Option (Nat × Bool)):∀ (l:List (Option Nat × SB)) (os:List Oper) (e e':ES) (h:aD) (a u:List Rec),
  dF P n all S os=some (l.map λ(d,b)=>⟨d,g,b⟩)->(∀ d w,g=some (d,w)->e.T d=.val (.bool w)/\(l.all λx=>x.1 != some d)=true)->iL h e->I9 P call l a e=some (e',u) ->
  ∃ f z,u=a ++ f/\Tr P n all os e.T h f e'.T z/\iL z e'/\Calm e e' h z/\fV P false (l.map λ(d,b)=>⟨d,g,b⟩) f
 | [],os,e,e',h,a,u,A,B,he,k=>by
  have:=lk A;subst this
  simp only[I9,Vr,Vv] at k;obtain⟨rfl,rfl⟩:=k
  exact⟨[],h,by simp,.nil,he,Calm.refl _ _,.nil⟩
 | (d,b) :: l,os,e,e',h,a,u,A,B,he,k=>by
  obtain⟨o,r,rfl,h1,U⟩:=lZ A
  obtain⟨O,j,q,s⟩:=tL h1
  simp only at j q s
  have C:dy n all e.T o=some true:=by
   cases g with
   | none=>exact B4 s
   | some p =>
    obtain⟨D,w⟩:=p
    have:=(lA (T:=e.T) s).1 w (B D w rfl).1
    rw[this];simp
  simp only[I9] at k
  rw[q] at k
  split at k
  .rename_i v Q c V
   obtain⟨E,st,F,G,H,W,I,J⟩:=Ue i C he V
   have m:(Q.put d v).T=e.T.put o.dst v:=by
    rw[ES.Re (by rw[j];exact SP O N),G,j]
   obtain⟨f,K,X,R,L,y,M⟩:=Hy i N g l r (Q.put d v) e' E _ u U (λD w eq=>by
    have:=B D w eq
    simp only[WR,VD,bne_iff_ne,ne_eq] at this
    refine⟨?_,this.2.2⟩
    rw[<-this.1,m,<-j]
    cases d with
    | none=>rfl
    | some t=>simp only[Env.put];rw[Vs];intro e;subst e;exact this.2.1 rfl) (NK F) k
   rw[m] at R
   refine⟨_,K,?_,.cons st O R,L,(P2 H).trans y,M.cons (by rw[q];exact W)⟩
   rw[X,We,<-RH I J];rfl
  .simp at k
theorem Hn {E:Fz} (C:n<=8000) (d:Nat) (w:Bool) (h:aD):∀ (l:List (Option Nat × SB)) (os:List Oper) (e e':ES) (a m:List Rec),
  dF P n all E os=some (l.map λ(g,b)=>⟨g,some (d,w),b⟩)->(e.T d=.val (.bool !w)∨e.T d=.aY [])->(l.all λx=>x.1 != some d)=true->iL h e->vT l a e=(e',m) ->
  ∃ c,m=a ++ c/\Tr P n all os e.T h c e'.T h/\iL h e'/\e'.w=e.w/\fV P false (l.map λ(g,b)=>⟨g,some (d,w),b⟩) c
 | [],os,e,e',a,m,u,j,s,he,p=>by
  have:=lk u;subst this
  simp only[vT,Vv] at p;obtain⟨rfl,rfl⟩:=p
  exact⟨[],by simp,.nil,he,rfl,.nil⟩
 | (g,b) :: l,os,e,e',a,m,u,j,s,he,p=>by
  obtain⟨o,r,rfl,h1,F⟩:=lZ u
  obtain⟨q,f,v,k⟩:=tL h1
  simp only at f v k
  have y:dy n all e.T o=some false:=by
   rcases j with j | j
   .rw[(lA (T:=e.T) k).1 _ j];cases w <;> rfl
   .exact(lA (T:=e.T) k).2 j
  simp only[WR,VD,bne_iff_ne,ne_eq] at s
  have i:(e.put g (.aY [])).T=e.T.put o.dst (.aY []):=by
   rw[ES.Re (by rw[f];exact SP q C),f]
  simp only[vT] at p
  obtain⟨c,G,D,z,A,B⟩:=Hn C d w h l r (e.put g (.aY [])) e' _ m F (by
   have:(e.put g (.aY [])).T d=e.T d:=by
    rw[i,<-f]
    cases g with
    | none=>rfl
    | some t=>simp only[Env.put];rw[Vs];intro e;subst e;exact s.1 rfl
   rw[this];exact j) s.2 (NK he) p
  rw[i] at D
  refine⟨_,?_,Tr.cons (.skip y) q D,z,by rw[A,Ru],B.cons (r:=⟨[],[],false,h.length,h.length⟩) ⟨λ_=>⟨rfl,rfl,rfl,rfl⟩,λ_=>rfl⟩⟩
  rw[G,We,Rj,he.2];rfl
theorem DZ {j:Fz} (k:n<=8000) {d:Nat} {w:Bool} {h:aD} {l:List (Option Nat × SB)} {os:List Oper} {e e':ES} {a f:List Rec}
  (m:dF P n all j os=some (l.map λ(g,b)=>⟨g,some (d,w),b⟩)) (o:e.T d=.val (.bool !w)∨e.T d=.aY []) (p:(l.all λx=>x.1 != some d)=true) (he:iL h e) (q:vT l a e=(e',f)) :
  ∃ c i,f=a ++ c/\Tr P n all os e.T h c e'.T i/\iL i e'/\Calm e e' h i/\fV P false (l.map λ(g,b)=>⟨g,some (d,w),b⟩) c:=by
 obtain⟨c,h1,r,s,t,u⟩:=Hn k d w h l os e e' a f m o p he q
 exact⟨c,h,h1,r,s,⟨VA _,λid _ hw=>⟨rfl,by rw[t] at hw;exact hw⟩⟩,u⟩
theorem TS {call:iq} (i:lf P call) (m:n<=8000) {s:Fz} {g:SG} {os:List Oper} {e e':ES} {h:aD} {a o:List Rec} (k:dF P n all s os=some g.flat) (c:tS g=true) (he:iL h e) (f:eG P call g a e=some (e',o)) :
  ∃ j q,o=a ++ j/\Tr P n all os e.T h j e'.T q/\iL q e'/\Calm e e' h q/\fV P false g.flat j:=by
 unfold eG at f
 unfold SG.flat at k ⊢
 unfold tS at c
 split at f
 .rename_i r
  rw[r] at k ⊢
  exact Hy i m none g.ops os e e' h a o k (λd w e=>by simp at e) he f
 .rename_i d want r
  rw[r] at k c ⊢
  simp only at c
  unfold Nj at f
  split at f
  .rename_i b p
   split at f
   .rename_i l
    simp only[Vr] at f
    have e':b = !want:=by cases b <;> cases want <;> simp_all
    subst e'
    exact DZ m k (.inl p) c he f
   .rename_i l
    have e':b=want:=by cases b <;> cases want <;> simp_all
    subst e'
    exact Hy i m (some (d,b)) g.ops os e _ h a o k (λt w e=>by simp at e;obtain⟨rfl,rfl⟩:=e;exact⟨p,c⟩) he f
  .rename_i p
   simp only[Vr] at f
   exact DZ m k (.inr p) c he f
  .simp at f
theorem My {call:iq} (b:lf P call) (z:n<=8000) {A:Fz} : ∀ (gs:List SG) (os:List Oper) (e e':ES) (h:aD) (a i:List Rec),dF P n all A os=some (kG gs)->gs.all tS=true->iL h e->NN P call gs a e=some (e',i) ->
  ∃ c k,i=a ++ c/\Tr P n all os e.T h c e'.T k/\iL k e'/\Calm e e' h k/\fV P false (kG gs) c
 | [],os,e,e',h,a,i,j,_,he,d=>by
  have:=lk j;subst this
  simp only[NN,Vr,Vv] at d;obtain⟨rfl,rfl⟩:=d
  exact⟨[],h,by simp,.nil,he,Calm.refl _ _,.nil⟩
 | g :: gs,os,e,e',h,a,i,j,f,he,d=>by
  simp only[kG,VX,List.flatten_cons] at j ⊢
  simp only[WR,VD] at f
  obtain⟨F,B,rfl,h1,C⟩:=rB j
  simp only[NN] at d
  split at d
  .rename_i D E l
   obtain⟨G,m,o,p,q,r,s⟩:=TS b z h1 f.1 he l
   obtain⟨H,t,u,v,w,x,y⟩:=My b z gs B D e' m E i C f.2 q d
   exact⟨_,t,by rw[u,o,We],p.append v,w,r.trans x,s.append y⟩
  .simp at d
theorem M5 {ls:List Nat} {i k x y:Nat} (a:i < k) (b:ls[i]?=some x) (c:ls[k]?=some y) (d:ordered (fE all []) i k=false) (h:¬ (x=0∨y=0∨(x<=1/\y<=1))):(i,k)∈Be all ls:=by
 unfold Be
 simp only[List.mem_flatten,VO]
 refine⟨_,⟨(x,i),by rw[Wk];exact b,rfl⟩,?_⟩
 simp only[VO,Wx]
 refine⟨(y,k),⟨by rw[Wk];exact c,?_⟩,rfl⟩
 simp only[a,decide_true,d,Xy,Wd,Xn,Bool.or_eq_false_iff,beq_eq_false_iff_ne,Bool.and_eq_false_iff,WD]
 omega
theorem Q3 {ls:List Nat} {d:List Rec} (h:Om d (Be all ls)=true) (v:ls.length=d.length) (hr:∀ (i x:Nat) (r:Rec),ls[i]?=some x->d[i]?=some r->kM x r.rd r.wr r.call r.lo r.hi):tZ all d:=by
 intro i k a b l m n t
 have hi:i < d.length:=(VC.1 m).1
 have hk:k < d.length:=(VC.1 n).1
 have j:ls[i]?=some (ls[i]'(by omega)):=Vq (by omega)
 have o:ls[k]?=some (ls[k]'(by omega)):=Vq (by omega)
 generalize ls[i]'(by omega)=x at j
 generalize ls[k]'(by omega)=y at o
 have q:=hr i _ a j m
 have s:=hr k _ b o n
 by_cases f:x=0∨y=0∨(x<=1/\y<=1)
 .rcases f with h1 | h1 | h1
  .obtain⟨g,e,p,u⟩:=q.1 h1
   exact⟨λid c=>by simp[e] at c,λid _=>by simp[g],λf=>by simp[p] at f,λ_=>e,λid _ j=>by omega⟩
  .obtain⟨g,e,p,u⟩:=s.1 h1
   exact⟨λid _=>by simp[g],λid c=>by simp[e] at c,λ_=>e,λf=>by simp[p] at f,λid c=>by simp[e] at c⟩
  .have g:=q.2 h1.1
   have e:=s.2 h1.2
   exact⟨λid c=>by simp[g] at c,λid c=>by simp[e] at c,λ_=>e,λ_=>g,λid c=>by simp[e] at c⟩
 .have:=VU.1 h _ (M5 l j o t f)
  simp only[m,n] at this
  exact Pq this
theorem St (hm:P.follows .mixedOrders=true) {call:iq} (g:lf P call) (D:n<=8000) {y:List Nat} {id:Nat} {ops:Array Oper} {draw:Bool} {z:DC} {run:xq} {e e':ES} {r:Exit} {h:aD}
  (c:Gl P n y ops.toList draw=some z) (he:iL h e) (a:mC P call run z e=some (r,e')) :
  ∃ f,c8 P n (.region id ops draw) e.T h r e'.T f/\iL f e'/\Calm e e' h f:=by
 unfold Gl at c
 split at c
 .simp at c
 .rename_i l E
  split at c
  .simp at c
  .rename_i j
   have j:(group l).all tS=true:=by simpa using j
   have p:dF P n ops.toList ⟨y,false⟩ ops.toList=some (kG (group l)):=by rw[gB];exact E
   have key:∀ q,mC P call run (.region q (group l)) e=some (r,e')->(draw=true->l8 ops.toList=true/\q=Be ops.toList (l.map λs=>ja P false s.b)) ->
     ∃ f,c8 P n (.region id ops draw) e.T h r e'.T f/\iL f e'/\Calm e e' h f:=by
    intro q a t
    simp only[mC,IZ] at a
    split at a
    .rename_i F d u
     split at a
     .rename_i m
      simp only[Vr,Vv] at a
      obtain⟨rfl,rfl⟩:=a
      obtain⟨A,f,B,C,hk,v,k⟩:=My g D (group l) ops.toList e F h [] d p j he u
      simp only[Wi] at B
      subst B
      rw[gB] at k
      refine⟨f,?_,hk,v⟩
      cases o:draw with
      | false=>simpa using HI (id:=id) C
      | true =>
       obtain⟨h1,rfl⟩:=t o
       have w:tZ ops.toList d:=Q3 m (by simpa using k.1) (λi x r a hr=>by
        simp only[Vt,Vy] at a
        obtain⟨s,G,rfl⟩:=a
        exact k.2 i s r G hr)
       simpa using yG hm (id:=id) C h1 w
     .simp at a
    .simp at a
   split at c
   .rename_i o
    split at c
    .rename_i H
     simp at c;subst c
     exact key _ a (λ_=>⟨H,rfl⟩)
    .simp at c
   .rename_i o
    simp at c;subst c
    exact key _ a (λe=>absurd e o)
theorem QR (hm:P.follows .mixedOrders=true) {call:iq} (q:lf P call) {run:xq} (f:wy P run):wy P (mC P call run):=by
 intro n p c I k o e e' r h g he
 cases c with
 | skip =>
  simp[jm] at k;subst k
  simp only[mC,Ms,Vr,Vv] at g
  obtain⟨rfl,rfl⟩:=g
  exact⟨h,.skip,he,Calm.refl _ _,λ_ h=>by simp at h⟩
 | region id ops draw =>
  obtain⟨G,a,b,d⟩:=St (id:=id) hm q o k he g
  exact⟨G,a,b,d,λ_ h=>by simp at h⟩
 | seq x y =>
  simp only[jm] at k
  split at k
  .rename_i a b h1 B
   simp at k;subst k
   simp only[mC,SM] at g
   split at g
   .rename_i s m
    obtain⟨i,l,j,c1,w⟩:=f n p x a h1 o e s .normal h m he
    obtain⟨t,E,u,c2,F⟩:=f n p y b B o s e' r i g j
    exact⟨t,l.seq E,u,c1.trans c2,λ_ h=>by simp at h⟩
   .rename_i v
    obtain⟨i,l,j,c1,w⟩:=f n p x a h1 o e e' r h g he
    refine⟨i,l.Kr (λe=>?_),j,c1,λ_ h=>by simp at h⟩
    subst e
    exact absurd g (v e')
  .simp at k
 | cond J x y =>
  simp only[jm] at k
  split at k
  .rename_i a b h1 B
   simp at k;subst k
   simp only[mC,Rq,SX.cO] at g
   split at g
   .rename_i C
    obtain⟨i,l,j,c1,w⟩:=f n p x a h1 o e e' r h g he
    exact⟨i,.cond C l,j,c1,λ_ h=>by simp at h⟩
   .rename_i C
    obtain⟨i,l,j,c1,w⟩:=f n p y b B o e e' r h g he
    exact⟨i,.cond C l,j,c1,λ_ h=>by simp at h⟩
   .simp at g
  .simp at k
 | block id c =>
  simp only[jm,Vy] at k
  obtain⟨a,h1,rfl⟩:=k
  simp only[mC,OP] at g
  split at g
  .rename_i H s m
   simp only[Vr,Vv] at g
   obtain⟨rfl,rfl⟩:=g
   obtain⟨i,l,j,c1,w⟩:=f n p c a h1 o e s H h m he
   exact⟨i,l.block,j,c1,λ_ h=>by simp at h⟩
  .simp at g
 | loop c =>
  have D:=k
  simp only[jm,Vy] at k
  obtain⟨a,h1,rfl⟩:=k
  simp only[mC,Rw] at g
  split at g
  .rename_i s m
   obtain⟨i,l,j,c1,w⟩:=f n p c a h1 o e s .normal h m he
   obtain⟨t,E,u,c2,F⟩:=f n p (.loop c) (.loop a) D o s e' r i g j
   have z:=qi.step l (F c rfl)
   exact⟨t,.loop z,u,c1.trans c2,λc0 A=>by simp only[Code.loop.injEq] at A;subst A;exact z⟩
  .rename_i v
   obtain⟨i,l,j,c1,w⟩:=f n p c a h1 o e e' r h g he
   have z:=qi.out l (λe=>by subst e;exact absurd g (v e'))
   exact⟨i,.loop z,j,c1,λc0 A=>by simp only[Code.loop.injEq] at A;subst A;exact z⟩
 | exit id =>
  simp[jm] at k;subst k
  simp only[mC,Vr,Vv] at g
  obtain⟨rfl,rfl⟩:=g
  exact⟨h,.exit,he,Calm.refl _ _,λ_ h=>by simp at h⟩
 | ret =>
  simp[jm] at k;subst k
  simp only[mC,Vr,Vv] at g
  obtain⟨rfl,rfl⟩:=g
  exact⟨h,.ret,he,Calm.refl _ _,λ_ h=>by simp at h⟩
 | _=>simp[jm] at k
theorem Eb:∀ (vs:List V) (i:Nat) (t:cG V),i+vs.length<=8000->∀ k,(nz vs i t).get .any k=if i<=k/\k < i+vs.length then vs.getD (k - i) .any else t.get .any k
 | [],i,t,h,k=>by
  rw[nz,Vs (by simp only[VS];omega)]
 | v :: vs,i,t,h,k=>by
  simp only[Vz] at h
  rw[nz,Eb vs (i+1) _ (by omega),cG.nB _ _ _ _ _ _ (by simp only[deep];omega)]
  simp only[Vz]
  by_cases h1:k=i
  .subst h1;rw[Vs (by omega),Vu rfl,Vu (by omega)];simp
  .by_cases a:i+1<=k/\k < i+1+vs.length
   .rw[Vu a,Vu (by omega)]
    have:k - i=(k - (i+1))+1:=by omega
    rw[this];rfl
   .rw[Vs a,Vs h1,Vs (by omega)]
theorem IB (vs:List V) (h:vs.length<=8000):(nz vs 0 .nil).get .any=ly vs:=by
 funext k
 rw[Eb vs 0 .nil (by omega)]
 simp only[ly,WK,true_and,Wc,Nat.sub_zero]
 split
 .rfl
 .rename_i hk
  rw[Vp,V0 (by omega)];rfl
theorem RU {e:ES} {h:aD} {r:ResultVar} {rest:List ResultVar} {l:List SR} (he:iL h e) (c:fJ P (r :: rest)=some l):∃ s d,l=s :: d/\fJ P rest=some d/\∀ v,Pu s e=some v->sL P e.T h r=some v:=by
 cases r with
 | tmp t =>
  simp only[fJ,Vy] at c
  obtain⟨d,h1,rfl⟩:=c
  exact⟨.tmp t,d,rfl,h1,λv b=>b⟩
 | cell a t =>
  simp only[fJ] at c
  split at c
  .rename_i k d h1 m
   simp at c;subst c
   refine⟨.cell a k,d,rfl,m,λv b=>?_⟩
   simp only[Pu] at b
   simp only[sL,mH,wA h1]
   rw[he.1] at b
   split at b
   .rename_i id i j f
    split at b
    .rename_i es hH
     split at b
     .rename_i g
      rw[f];simp only[hH];rw[Vu g,b];rfl
     .simp at b
    .simp at b
   .rename_i e j f
    rw[f];simp only;rw[b];rfl
   .simp at b
  .simp at c
theorem HS {e:ES} {h:aD} (he:iL h e):∀ (rs:List ResultVar) (l:List SR) (vs:List V),fJ P rs=some l->wC l e=some vs->mc P e.T h rs=some vs
 | [],l,vs,a,hw=>by simp[fJ] at a;subst a;simp[wC] at hw;subst hw;rfl
 | r :: rest,l,vs,a,hw=>by
  obtain⟨s,d,rfl,h1,f⟩:=RU (e:=e) (h:=h) he a
  simp only[wC] at hw
  split at hw
  .rename_i v b g c
   simp at hw;subst hw
   simp[mc,f v g,HS he rest d b h1 c]
  .simp at hw
def qt (P:Program) (tab:List (FuncId × DF)):Prop:=∀ p∈tab,∃ fz,Io P p.1 fz=some p.2
def so (P:Program) (ext:yF):Prop:=∀ g vs H t,ext g vs H=some t->dD P g=true/\∀ h:aD,h.view=H->bK P g vs h t h
theorem HB {q:List (FuncId × DF)} {ext:yF} (N:qt P q) (z:so P ext) {run:xq} (s:wy P run):lf P (FG P q ext run):=by
 intro g vs e v e' h b he
 unfold FG at b
 split at b
 .rename_i t u
  simp only[Vr,Vv] at b
  obtain⟨rfl,rfl⟩:=b
  obtain⟨h1,C⟩:=z _ _ _ _ u
  exact⟨h1,h,C h he.1.symm,he,λ_ _ _=>rfl,λ_ hw=>by simp at hw⟩
 .split at b
  .rename_i A F K
   have x:=List.mem_of_find?_eq_some K
   have D:A=g:=by
    have:=List.find?_some K
    exact Xj this
   subst D
   obtain⟨O,k⟩:=N _ x
   simp only at k
   unfold Io at k
   split at k
   .rename_i fn E
    split at k
    .rename_i c Q
     split at k
     .rename_i M rs h1 C R
      simp at k;subst k
      refine⟨R,?_⟩
      unfold Tu at b
      split at b
      .rename_i hlen B
       have hlen:=Nat.le_of_ble_eq_true hlen
       have B:=Nat.le_of_ble_eq_true B
       simp only at hlen B
       unfold SL at b
       split at b
       .rename_i v1 d f
        simp only[Vr,Vv] at b
        obtain⟨rfl,rfl⟩:=b
        unfold Ty at f
        have go:∀ (r:Exit) (p:ES),(r=.ret∨r=.normal)->run M ⟨nz vs 0 .nil,e.H,e.n,[]⟩=some (r,p)->(wC rs p).map (λvs=>(wu vs,p))=some (v1,d) ->
          ∃ i,bK P A vs h v1 i/\iL i d/\(∀ id,id < h.length->¬ id∈d.w->i.view id=h.view id):=by
         intro r p hr j o
         simp only[Vy,Vv] at o
         obtain⟨G,I,rfl,rfl⟩:=o
         obtain⟨i,z,y,J,_⟩:=s fn.ntmps O c M h1 B _ p r h j he
         have S:(ES.T ⟨nz vs 0 .nil,e.H,e.n,[]⟩)=ly vs:=IB vs (by omega)
         rw[S] at z
         refine⟨i,bK.JH E Q hlen z (by rcases hr with rfl | rfl <;> simp) ?_,y,λid m hw=>(J.2 id m hw).1⟩
         unfold K8
         rw[HS y _ _ _ C I]
         cases G with
         | nil=>rfl
         | cons a l=>cases l <;> rfl
        have done:(∃ i,bK P A vs h v1 i/\iL i d/\(∀ id,id < h.length->¬ id∈d.w->i.view id=h.view id)) ->
          ∃ i,bK P A vs h v1 i/\iL i ⟨d.L,d.H,d.n,d.w.filter λid=>Nat.blt id e.n⟩/\(∀ id,id < h.length->¬ id∈d.w.filter (λid=>Nat.blt id e.n)->i.view id=h.view id)/\∀ id,id∈d.w.filter (λid=>Nat.blt id e.n)->id < h.length:=by
         rintro⟨i,U,k2,V⟩
         refine⟨i,U,k2,λid m hw=>V id m (λhm=>hw ?_),λid hw=>?_⟩
         .rw[Wx]
          exact⟨hm,by rw[he.2];exact Nat.ble_eq_true_of_le m⟩
         .rw[Wx] at hw
          have:=Nat.le_of_ble_eq_true hw.2
          rw[he.2] at this;exact this
        split at f
        .rename_i p j;exact done (go _ _ (.inl rfl) j f)
        .rename_i p j;exact done (go _ _ (.inr rfl) j f)
        .simp at f
       .simp at b
      .simp at b
     .simp at k
    .simp at k
   .simp at k
  .simp at b
theorem Kc (hm:P.follows .mixedOrders=true) {a:List (FuncId × DF)} {ext:yF} (b:qt P a) (d:so P ext):∀ k,wy P (Gc P a ext k)
 | 0=>λn g c i j l e e' r h hr he=>by simp[Gc] at hr
 | k+1=>by
  have f:=Kc hm b d k
  have:=QR hm (HB b d f) f
  exact this
end
inductive dB (h:aD):V->V->Prop
 | val (v:Value):dB h (.val v) (.val v)
 | emp (k:Nat):dB h (.emp k) (.aW [])
 | sl (id off len esz z:Nat) (es es':List (List V)):h.view id=.arr z es->off+len<=es.length->es'.length=len ->
  (∀ i,i < len->(es'.getD i []).length=(es.getD (off+i) []).length) ->
  (∀ i j,i < len->j < (es'.getD i []).length->dB h ((es.getD (off+i) []).getD j .any) ((es'.getD i []).getD j .any))->dB h (.sl id off len esz) (.aW es')
 | agg (cs cs':List V):cs'.length=cs.length->(∀ i,i < cs.length->dB h (cs.getD i .any) (cs'.getD i .any))->dB h (.agg cs) (.agg cs')
 | aY (cs cs':List V):cs'.length=cs.length->(∀ i,i < cs.length->dB h (cs.getD i .any) (cs'.getD i .any))->dB h (.aY cs) (.aY cs')
theorem RM {h:aD} {Z:Nat->Prop} {μ B:Mu} {F:View} {hp:Array Obj} (hr:hX Z μ hp (cat h F)) {v t:V} (fr:dB h v t):∀ {x:Value},ay Z μ hp v x->ay (jq μ) B hp t x:=by
 have l:∀ id,h.view id≠.dead->cat h F id=h.view id:=λid D=>by simp only[cat];rw[Vu (ij D)]
 induction fr with
 | val v=>intro x d;cases d with | val _ s=>exact .val _ s
 | emp k=>intro x d;cases d with | emp _ a=>exact .im a 0 (λ_=>rfl)
 | sl id off len esz z es es' hH hle hlen E _ m =>
  intro x d
  cases d with
  | py _ _ _ a =>
   have:es'=[]:=W9.1 hlen
   subst this
   exact .im a 0 (λ_=>rfl)
  | sl _ _ _ _ b o0 cap c e f hm C J K =>
   have o:=hr.obj id
   rw[l id (by rw[hH];simp),hH] at o
   obtain⟨rfl,_,G,H⟩:=o b o0 esz hm
   have d:∀ i,∃ ci:Nat->Value,∀ j,j < esz->i < len->cellAt hp b (o0+off * esz+i * esz+j)=some (ci j)/\ay Z μ hp ((es.getD (off+i) []).getD j .any) (ci j):=by
    intro i
    by_cases hi:i < len
    .obtain⟨ci,u⟩:=oN (n:=esz) (p:=λj x=>cellAt hp b (o0+off * esz+i * esz+j)=some x/\ay Z μ hp ((es.getD (off+i) []).getD j .any) x) (λj g=>by
      obtain⟨x,d,s⟩:=H (off+i) j (by omega) g
      rw[V5,<-Ws] at d
      exact⟨x,d,s⟩)
     exact⟨ci,λj g _=>u j g⟩
    .exact⟨λ_=>undef,λj _ h=>absurd h hi⟩
   obtain⟨I,q⟩:=Classical.axiomOfChoice d
   have r:∀ i,i < es'.length->(es'.getD i []).length=esz:=λi hi=>by rw[E i (by omega)];exact G _ (by omega)
   have:=ay.aW (Z:=jq μ) (μ:=B) (hp:=hp) es' b (o0+off * esz) esz cap I ⟨id,o0,esz,hm⟩ (by omega) r
    (λi j hi g=>(q i j g (by omega)).1) (λi j hi g=>m i j (by omega) (by rw[r i hi];exact g) (q i j g (by omega)).2)
   rw[hlen] at this
   exact this
 | agg cs w hlen _ m =>
  intro x d
  cases d with
  | agg _ y h1 A=>exact .agg _ _ (by omega) (λi hi=>m i (by omega) (A i (by omega)))
 | aY cs w hlen _ m =>
  intro x d
  cases d with
  | aY _ y h1 A=>exact .aY _ _ (by omega) (λi hi=>m i (by omega) (A i (by omega)))
def ca (P:Program) (f:FuncId) (vs:List V) (t:V):Prop :=
 ∀ Z μ (w:World) (xs:List Value),fU Z μ w.heap vs xs->(∀ b,Z b->b < w.heap.size) ->
  Calls P f xs.toArray w λe w'=>∃ x Z',e=.returned x/\(∀ ν,ay Z' ν w'.heap t x)/\eN w w'/\(∀ b,Z' b->w.heap.size<=b/\b < w'.heap.size)/\fW w.heap w'.heap (λ_=>False)
theorem ca.pure {P:Program} {f:FuncId} {vs:List V} {t:V} (h:ca P f vs t):aB P f vs t:=by
 intro Z μ w xs a d
 refine(h Z μ w xs a d).mono ?_
 rintro e w' ⟨x,g,rfl,i,j,c,k⟩
 exact⟨x,λb=>Z b∨g b,rfl,λl=>(i l).mono ⟨λ_ h=>.inr h,λ_ _=>rfl,λ_ _ h=>h,fI.refl _⟩,j,λ_ h=>.inl h,λb m=>m.imp id (c b),k⟩
theorem ca.v7 {P:Program} {f:FuncId} {vs:List V} {r t:V} {k:aD} (m:∀ v∈vs,Tree v) (n:bK P f vs [] r k) (p:dB k r t):ca P f vs t:=by
 intro Z μ w xs a q
 have c:fU Z (λ_=>none) w.heap vs xs:=⟨a.1,λi hi=>wQ (a.2 i hi) (by
  simp only[Vp,Vq hi,VI]
  exact m _ (Vw _))⟩
 have g:hX Z (λ_=>none) w.heap (cat [] λ_=>.dead):=by
  rw[Dm]
  exact⟨λ_=>trivial,λi j b o s y z _ h=>by simp at h,λid b o s h=>by simp at h,q,λid b o s h=>by simp at h⟩
 refine(n.2 Z _ _ w xs c g (λ_ _ _=>rfl)).mono ?_
 rintro e w' ⟨x,A,μ',rfl,u,l,hex,_⟩
 refine⟨x,jq μ',rfl,λB=>RM l p u,hex.same,?_,λb d _=>hex.frame b d (by rintro⟨_,_,_,h⟩;simp at h)⟩
 rintro b ⟨id,o,s,d⟩
 rcases hex.CI _ _ _ _ d with h1 | ⟨_,h1 | ⟨_,_,_,h1⟩⟩
 .simp at h1
 .exact⟨h1,l.lt _ _ _ _ d⟩
 .simp at h1
theorem ca.of {P:Program} {f:FuncId} {vs:List V} {t:V} (b:∀ v∈vs,Tree v) (h:aw P f vs (λ_=>.dead) λr H'=>∀ a:aD,a.view=H'->dB a r t):ca P f vs t:=by
 obtain⟨r,a,c,_,d⟩:=h.2 [] El
 exact ca.v7 b c (d a rfl)
theorem bK.uH {P:Program} {f:FuncId} {j vs:List V} {t:V} {h:aD} (v:ca P f j t) (y:j.length=vs.length)
  (l:∀ i,i < vs.length->Fr h (vs.getD i .any) (j.getD i .any)):bK P f vs h t h:=by
 refine⟨VA _,λZ μ F w xs c hr m=>?_⟩
 have n:fU (λb=>Z b∨jq μ b) μ w.heap j xs:=⟨by rw[y,c.1],λi hi=>BJ hr (l i (by omega)) (c.2 i (by omega))⟩
 have p:∀ b,(Z b∨jq μ b)->b < w.heap.size:=by
  rintro b (a | ⟨id,o,s,a⟩)
  .exact hr.cQ b a
  .exact hr.lt _ _ _ _ a
 refine(v _ μ w xs n p).mono ?_
 rintro e w' ⟨x,u,rfl,z,q,d,k⟩
 have hm:gT Z (λb=>Z b∨u b) μ μ w.heap w'.heap:=⟨λ_ h=>.inl h,λb a=>k b (hr.cQ b a) (λx=>x),λ_ _ h=>h,k.rf⟩
 refine⟨x,λb=>Z b∨u b,μ,rfl,(z μ).mono ⟨λ_ h=>.inr h,λ_ _=>rfl,λ_ _ h=>h,fI.refl _⟩,⟨λid=>(hr.obj id).mono hm rfl (λb o s g=>k b (hr.lt _ _ _ _ g) (λx=>x)),hr.inj,λid b o s g=>VY (hr.lt _ _ _ _ g) q.size,λb a=>?_,λid b o s g r=>?_⟩,
  ⟨q,hm,λb a _=>k b a (λx=>x),λb a=>a.imp id (λh=>(d b h).1),λ_ _ _ _ h=>.inl h⟩,λ_ _=>rfl⟩
 .rcases a with a | a
  .exact VY (hr.cQ b a) q.size
  .exact(d b a).2
 .rcases r with a | a
  .exact hr.gP _ _ _ _ g a
  .have:=hr.lt _ _ _ _ g;have:=(d b a).1;omega
theorem ax.uH {P:Program} {q:Bool} {f:FuncId} {H:View} {vs c:List V} {K:V->View->Prop} {v:cL (H,K)} {t:V} (d:ca P f c t) (a:dD P f=true) (g:c.length=vs.length)
  (b:∀ i,i < vs.length->cn H (vs.getD i .any) (c.getD i .any)) (hk:K t H):ax P q f vs H K v:=by
 unfold ax
 cases q with
 | true=>exact⟨a,λh e=>⟨t,h,bK.uH d g (λi hi=>b i hi h e),λ_ _=>rfl,e ▸ hk⟩⟩
 | false =>
  refine⟨a,?_⟩
  rintro h rfl
  exact⟨t,h,bK.uH d g (λi hi=>b i hi h rfl),.refl _,hk⟩
noncomputable def pa (fz:V->Option V):List V->Option (List V)
 | []=>some []
 | v :: l=>match fz v,pa fz l with
  | some a,some b=>some (a :: b)
  | _,_=>none
noncomputable def C8 (fz:V->Option V):List (List V)->Option (List (List V))
 | []=>some []
 | v :: l=>match pa fz v,C8 fz l with
  | some a,some b=>some (a :: b)
  | _,_=>none
noncomputable def yg (H:View):Nat->V->Option V
 | 0,_=>none
 | k+1,v=>match v with
  | .val x=>some (.val x)
  | .emp _=>some (.aW [])
  | .sl id off len _=>match H id with
   | .arr _ es=>if off+len<=es.length then (C8 (yg H k) ((es.drop off).take len)).map .aW else none
   | _=>none
  | .agg cs=>(pa (yg H k) cs).map .agg
  | .aY cs=>(pa (yg H k) cs).map .aY
  | _=>none
theorem ig {d:V->Option V} : ∀ (l c:List V),pa d l=some c->c.length=l.length/\∀ i,i < l.length->d (l.getD i .any)=some (c.getD i .any)
 | [],c,h=>by simp only[pa,Vr] at h;subst h;exact⟨rfl,λi hi=>by simp at hi⟩
 | v :: l,c,h=>by
  simp only[pa] at h
  split at h
  .rename_i a b h1 e
   simp only[Vr] at h;subst h
   obtain⟨g1,g2⟩:=ig l b e
   refine⟨by simp[g1],λi hi=>?_⟩
   cases i with
   | zero=>exact h1
   | succ i=>exact g2 i (by simpa using hi)
  .simp at h
theorem Di {d:V->Option V} : ∀ (l c:List (List V)),C8 d l=some c->c.length=l.length/\∀ i,i < l.length->pa d (l.getD i [])=some (c.getD i [])
 | [],c,h=>by simp only[C8,Vr] at h;subst h;exact⟨rfl,λi hi=>by simp at hi⟩
 | v :: l,c,h=>by
  simp only[C8] at h
  split at h
  .rename_i a b h1 e
   simp only[Vr] at h;subst h
   obtain⟨g1,g2⟩:=Di l b e
   refine⟨by simp[g1],λi hi=>?_⟩
   cases i with
   | zero=>exact h1
   | succ i=>exact g2 i (by simpa using hi)
  .simp at h
theorem Jy (h:aD):∀ (k:Nat) (v t:V),yg h.view k v=some t->dB h v t
 | 0,v,t,a=>by simp[yg] at a
 | k+1,v,t,a=>by
  have b:=Jy h k
  simp only[yg] at a
  split at a
  .simp only[Vr] at a;subst a;exact .val _
  .simp only[Vr] at a;subst a;exact .emp _
  .rename_i id off len esz
   split at a
   .rename_i z es hH
    split at a
    .rename_i hle
     simp only[Vy] at a
     obtain⟨es',he,rfl⟩:=a
     obtain⟨g1,g2⟩:=Di _ _ he
     have hlen:es'.length=len:=by rw[g1];simp;omega
     have d:∀ i,i < len->((es.drop off).take len).getD i []=es.getD (off+i) []:=λi hi=>by
      simp[Vp,WT,hi]
     have g3:∀ i,i < len->pa (yg h.view k) (es.getD (off+i) [])=some (es'.getD i []):=λi hi=>by
      rw[<-d i hi];exact g2 i (by rw[<-g1,hlen];exact hi)
     exact .sl id off len esz z es es' hH hle hlen (λi hi=>(ig _ _ (g3 i hi)).1) (λi j hi e=>b _ _ ((ig _ _ (g3 i hi)).2 j (by rw[<-(ig _ _ (g3 i hi)).1];exact e)))
    .simp at a
   .simp at a
  .simp only[Vy] at a
   obtain⟨l,c,rfl⟩:=a
   obtain⟨g1,g2⟩:=ig _ _ c
   exact .agg _ _ g1 (λi hi=>b _ _ (g2 i hi))
  .simp only[Vy] at a
   obtain⟨l,c,rfl⟩:=a
   obtain⟨g1,g2⟩:=ig _ _ c
   exact .aY _ _ g1 (λi hi=>b _ _ (g2 i hi))
  .simp at a
noncomputable def Q8:Option (V × ES)->Option V
 | some (v,e)=>yg e.V 50 v
 | none=>none
noncomputable def sn (P:Program) (tab:List (FuncId × DF)) (ext:yF) (f:FuncId) (vs:List V):Option V :=
 Q8 (FG P tab ext (Gc P tab ext 100000) f vs ⟨.nil,.nil,0,[]⟩)
theorem pb {P:Program} (hm:P.follows .mixedOrders=true) {a:List (FuncId × DF)} {ext:yF} (c:qt P a) (d:so P ext) {f:FuncId} {vs:List V} {t:V} (b:∀ v∈vs,Tree v) (h:sn P a ext f vs=some t) :
  ca P f vs t:=by
 unfold sn Q8 at h
 split at h
 .rename_i v e hr
  obtain⟨h1,g,i,j,_⟩:=HB c d (Kc hm c d 100000) f vs _ v e [] hr ⟨by funext k;rfl,rfl⟩
  rw[j.1] at h
  exact ca.v7 b i (Jy g 50 v t h)
 .simp at h
def vM (P:Program) (fs:List (FuncId × List Nat)):List (FuncId × DF):=fs.filterMap λf=>(Io P f.1 f.2).map (f.1,·)
theorem sB (P:Program) (a:List (FuncId × List Nat)):qt P (vM P a):=by
 intro p hp
 unfold vM at hp
 obtain⟨f,_,h⟩:=WH.1 hp
 simp only[Vy] at h
 obtain⟨d,h1,rfl⟩:=h
 exact⟨f.2,h1⟩
structure ai.cU (g:ai):Prop where
 au:g.au.length<=24
 kC:1<=g.ak.length
 ak:g.ak.length<=16
 U8:1<=g.rules.length
 rules:g.rules.length<=40
 kT:0<=g.start
 start:g.start < g.ak.length
 left:∀ r∈g.rules,0<=r.left/\r.left < g.ak.length
 right:∀ r∈g.rules,r.right.length<=6
 sym:∀ r∈g.rules,∀ s∈r.right,dw g s=true
 prec:∀ r∈g.rules,-1<=r.prec/\r.prec < g.au.length
theorem EG {g:ai} : ∀ (l:List ba) (top:Int),jI g l top=true->top<=(g.ak.length:Int) - 1/\∀ r∈l,0<=r.left/\r.left < g.ak.length/\jn g r=true
 | [],top,h=>by simp[jI] at h;exact⟨by omega,λr hr=>by simp at hr⟩
 | r :: l,top,h=>by
  simp only[jI,VD,VH] at h
  obtain⟨⟨⟨h1,d⟩,a⟩,b⟩:=h
  obtain⟨e,k2⟩:=EG l _ b
  have f:r.left<=(if r.left > top then r.left else top):=by split <;> omega
  have i:top<=(if r.left > top then r.left else top):=by split <;> omega
  refine⟨by omega,λc hr=>?_⟩
  rcases VJ.1 hr with rfl | hr
  .exact⟨h1,by omega,a⟩
  .exact k2 c hr
theorem bX {g:ai} (h:bM g=true):g.cU:=by
 simp only[bM,lE,mf,VD,VH] at h
 obtain⟨⟨⟨⟨⟨⟨⟨h1,_⟩,⟨b,c⟩,_⟩,d⟩,e⟩,f⟩,i⟩,j⟩:=h
 have k:=(EG _ _ j).2
 have a:∀ r∈g.rules,r.right.length<=6/\-1<=r.prec/\r.prec < g.au.length/\∀ s∈r.right,dw g s=true:=λr hr=>by
  have:=(k r hr).2.2
  simp only[jn,VD,VH,VU,pX] at this
  exact⟨this.1.1.1,this.1.1.2,this.1.2,λs l=>(this.2 s l).1⟩
 exact⟨h1,b,c,d,e,f,i,λr hr=>⟨(k r hr).1,(k r hr).2.1⟩,λr hr=>(a r hr).1,λr hr=>(a r hr).2.2.2,λr hr=>⟨(a r hr).2.1,(a r hr).2.2.1⟩⟩
theorem ai.cU.neg {g:ai} (h:g.cU) {r:ba} (hr:r∈g.rules) {s:Int} (a:s∈r.right) (b:s < 0) : -1 - s < g.ak.length:=by
 have:=h.sym r hr s a
 simp only[dw] at this
 rw[Vs (by omega)] at this
 simpa using this
theorem Hh (l:List Int) (is:List Bool) (t:Bool) (b:aI l) (c:∀ s∈l,bS s/\(s < 0->-1 - s < is.length)):aB Tryz.prog 95 [encI l,b5 is,gb t] (gb (gj l is t)) :=
 aB.val (by
  intro v a;simp at a
  rcases a with rfl | rfl | rfl
  .exact bI _
  .exact iU _
  .exact .val _) (λH=>(TC l is t b c H).mono λr H' h=>h.1)
abbrev bH (is:List Bool):List (List V):=is.map λx=>[gb x]
theorem rv {h:aD} {id:Nat} {is:List Bool} (b:h.view id=.arr 1 (bH is)):dB h (.sl id 0 is.length 1) (b5 is):=by
 refine .sl id 0 is.length 1 1 (bH is) _ b (by simp) (by simp) (λi hi=>by simp) (λi j hi a=>?_)
 rw[Wc]
 have e:(bH is).getD i []=[gb is[i]]:=by simp[Vp,hi]
 rw[e] at a ⊢
 have:j=0:=by simp at a;omega
 subst this
 exact .val _
theorem BB {H:View} {id n:Nat} {is:List Bool} (b:H id=.arr 1 (bH is)) (c:n=is.length):cn H (.sl id 0 n 1) (b5 is):=by
 have d:∀ e∈bH is,∀ v∈e,Tree v:=by
  intro e he v b
  obtain⟨a,_,rfl⟩:=VO.1 he
  rw[Wu] at b
  subst b
  exact .val _
 have:=cn.sl (off:=0) (len:=n) (esz:=1) b (by simp[c]) d
 rwa [Ww,VG (by simp[c])] at this
theorem lg {is:List Bool} {i:Nat} (h:i < is.length):(bH is).getD i []=[gb is[i]]:=by simp[Vp,h]
theorem gL (is:List Bool) (i:Nat) (b:Bool):(bH is).set i [gb b]=bH (is.set i b):=by simp[Xm]
theorem xO (n:Nat) (b:Bool):List.replicate n [gb b]=bH (List.replicate n b):=by simp
def iter {α:Type} (f:α->α):Nat->α->α
 | 0,x=>x
 | n+1,x=>iter f n (f x)
def iG (t:Bool) (is:List Bool) (r:ba):List Bool:=if gj r.right is t=true then is.set r.left.toNat true else is
def nE (g:ai) (t:Bool) (is:List Bool):List Bool:=g.rules.foldl (iG t) is
def cJ (g:ai):List Bool:=List.replicate g.ak.length false
def bF (g:ai) (t:Bool):List Bool:=if bM g=true then iter (nE g t) g.ak.length (cJ g) else []
theorem KK (t:Bool) (is:List Bool) (r:ba):(iG t is r).length=is.length:=by unfold iG;split <;> simp
def nD:SC :=
 af [af [ae [aa 22 7,av 23 2 2,al 24 23,aN 25 24,aS 26 .lss 22 25],bO 26 (.exit 2)],.block 3 (af [ae [av 29 2 2,al 30 29,aa 31 7,aL 32 3 30 31,av 33 1 32,al 34 33,aa 35 5,aa 36 1,bf 37 95 [34,35,36]],aZ 37 (ae [aa 38 5,av 39 2 2,al 40 39,aa 41 7,aL 42 3 40 41,av 43 0 42,al 44 43,aL 45 1 38 44,(none,.op (.store 1 (.tmp 45) (.val (.val (.bool true)))))])]),ae [aa 27 7,aF 28 .add 27 1,aa 7 28]]
def nI:SC :=
 af [af [ae [aa 15 6,av 16 1 2,al 17 16,aN 18 17,aS 19 .lss 15 18],bO 19 (.exit 0)],.block 1 (af [ae [aP 7 0],bR 2 nD]),ae [aa 20 6,aF 21 .add 20 1,aa 6 21]]
def pK:SF:=⟨af [ae [cE 2 0,bT 4 1],af [ae [bb 8 4 2,bf 9 50 [8],c5 10 9],aZ 10 (af [ae [bT 4 1],.ret])],ae [av 11 1 2,al 12 11,aN 13 12,((some 14),.op (.make 1 1 [(.val (.bool false))] (.tmp 13) (.tmp 13))),aa 5 14],af [ae [aP 6 0],bR 0 nI],ae [aa 46 5,aa 4 46],.ret],
 [.tmp 4],47⟩
theorem uh:aM Tryz.prog 165 [2]=some pK:=by kernel_rfl
def kU:SF:=⟨af [ae [cE 1 0,bT 2 1],ae [bb 3 4 1,qN 4 165 [(.tmp 3),(.val (.val (.bool true)))],aa 2 4],.ret],
 [.tmp 2],5⟩
theorem qF:aM Tryz.prog 93 [1]=some kU:=by kernel_rfl
theorem Qw (g:ai) (t:Bool):∀ v∈[V.agg (ag g),gb t],Tree v:=by
 intro v a;simp at a
 rcases a with rfl | rfl
 .exact bW _ (cw g)
 .exact .val _
theorem QV (g:ai) (C:g.Ok) (t:Bool) (H:View):aw Tryz.prog 165 [.agg (ag g),gb t] H λr H'=>∀ w:aD,w.view=H'->dB w r (b5 (bF g t)):=by
 refine aw.of mixed uh ?_
 simp(disch:=omega)only[↓wr,seval,wq,pK,ag,encS]
 refine ax.pure (j9 g C) ?_
 repeat' (first | ((first|apply aj.dec|apply aj.eq|apply aj.ne|apply aj.split)<;>intro)|(simp(disch:=omega)only[↓wr,seval,wq,ag,encS]))
 .rename_i hr
  have u:=bX hr
  obtain⟨E,F⟩:=And.intro u.kC u.ak
  refine⟨⟨by omega,by unfold aC;omega,by unfold aC;omega⟩,λP=>by omega,λ_ m hm=>?_⟩
  try simp(disch:=omega)only[↓wr,seval,wq,ag,encS]
  refine aR.intro (λk T H'=>∃ (i:Nat) (is:List Bool),i+k=g.ak.length/\is.length=g.ak.length/\iter (nE g t) k is=iter (nE g t) g.ak.length (cJ g)/\T 1=gb t/\T 2=.aJ (ag g) 0/\T 5=.sl m 0 g.ak.length 1/\H' m=.arr 1 (bH is)/\T 6=gi i) g.ak.length ?_ ?_
  .refine⟨0,cJ g,by omega,by simp[cJ],rfl,?_⟩
   simp(disch:=omega)only[↓wr,↓reduceIte,wq,Nat.reduceEqDiff,Nat.reduceAdd,Nat.reduceLT,Nat.reduceLeDiff,Int.reduceNeg,Int.reduceToNat,reduceCtorEq,ag,encS]
   exact⟨by rw[xO];rfl,rfl⟩
  .rintro k T H' ⟨i,is,hk,hlen,hi,f1,f2,f5,y,f6⟩
   simp(disch:=omega)only[↓wr,seval,wq,nI,f1,f2,f5,f6,ag,encS]
   apply aj.dec<;>intro G
   .simp(disch:=omega)only[↓wr,seval,wq,f1,f2,f5,f6,ag,encS]
    refine aR.intro (λx T H'=>∃ (j:Nat) (a:List Bool),j+x=g.rules.length/\a.length=g.ak.length/\(g.rules.drop j).foldl (iG t) a=nE g t is/\T 1=gb t/\T 2=.aJ (ag g) 0/\T 5=.sl m 0 g.ak.length 1/\H' m=.arr 1 (bH a)/\T 6=gi i/\T 7=gi j) g.rules.length ?_ ?_
    .refine⟨0,is,by omega,hlen,rfl,?_⟩
     simp(disch:=omega)only[↓wr,↓reduceIte,wq,Nat.reduceEqDiff,Nat.reduceAdd,Nat.reduceLT,Nat.reduceLeDiff,Int.reduceNeg,Int.reduceToNat,reduceCtorEq,f1,f2,f5,f6,y,ag,encS]
     rfl
    .rintro x Q I ⟨j,a,J,b,d,h,l,n,em,o,p⟩
     simp(disch:=omega)only[↓wr,seval,wq,nD,h,l,n,o,p,ag]
     apply aj.dec<;>intro K
     .have hle:=u.rules
      have e:g.rules[j]?=some (g.rules[j]'(by omega)):=Vq (by omega)
      rw[dS (show j < g.rules.length by omega)] at d
      have c:g.rules[j]'(by omega)∈g.rules:=Vw _
      generalize g.rules[j]'(by omega)=r at e d c
      simp only[V7] at d
      obtain⟨L,M⟩:=u.left r c
      obtain⟨_,_,z,A⟩:=C.az r c
      have v:=Hh r.right a t z (λs D=>⟨A s D,λN=>by have:=u.neg c D N;omega⟩)
      simp(disch:=omega)only[↓wr,seval,wq,h,l,n,o,p,ag,encS,aK,Vt,e,VE]
      refine ax.borrow v (by kernel_rfl) (.val _) rfl (λq O=>?_) ?_
      .match q,O with
       | 0,_=>exact cn.tree (bI _)
       | 1,_=>exact BB em b.symm
       | 2,_=>exact cn.tree (.val _)
      .simp(disch:=omega)only[↓wr,seval,wq,h,l,n,o,p,ag,encS,aK,Vt,e,VE]
       apply aj.split<;>intro B
       .have f:iG t a r=a.set r.left.toNat true:=by rw[iG,Vu B]
        simp(disch:=omega)only[↓wr,seval,wq,h,l,n,o,p,em,ag,encS,aK,Vt,e,VE,lg (show r.left.toNat < a.length by omega)]
        rw[f] at d
        exact⟨by omega,by omega,x - 1,by omega,j+1,a.set r.left.toNat true,by omega,by simp[b],d,by rw[gL],rfl⟩
       .have f:iG t a r=a:=by rw[iG,Vs (by rw[B];simp)]
        rw[f] at d
        simp(disch:=omega)only[↓wr,seval,wq,h,l,n,o,p]
        exact⟨x - 1,by omega,j+1,a,by omega,b,d,by first | rfl | exact⟨rfl,rfl⟩ | exact⟨em,rfl⟩ | exact⟨rfl,em,rfl⟩⟩
     .rw[VN (by omega),Xk] at d
      simp(disch:=omega)only[↓wr,seval,wq,h,l,n,o,p]
      obtain⟨q,rfl⟩:∃ q,k=q+1:=⟨k - 1,by omega⟩
      exact⟨q,by omega,i+1,a,by omega,b,by rw[d];exact hi,rfl,em,rfl⟩
   .simp(disch:=omega)only[↓wr,seval,wq,f1,f2,f5,f6,y]
    have:k=0:=by omega
    subst this
    rintro w rfl
    simp only[bF,Vu hr,<-hi,iter]
    rw[<-hlen]
    exact rv y
 .rename_i hr
  rintro w rfl
  simp only[bF,hr]
  exact .emp 1
theorem Pw (g:ai) (a:g.Ok) (t:Bool):ca Tryz.prog 165 [.agg (ag g),gb t] (b5 (bF g t)):=ca.of (Qw g t) (QV g a t _)
theorem BZ (g:ai) (a:g.Ok) (H:View):aw Tryz.prog 93 [.agg (ag g)] H λr H'=>r=b5 (bF g true)/\H'=H:=by
 refine aw.of mixed qF ?_
 simp(disch:=omega)only[↓wr,seval,wq,kU,ag,encS]
 refine ax.pure (Pw g a true).pure ?_
 simp(disch:=omega)only[↓wr,seval,wq,ag,encS]
theorem tI (g:ai) (a:g.Ok):aB Tryz.prog 93 [.agg (ag g)] (b5 (bF g true)) :=
 aB.of (eD g) ((BZ g a _).mono λr H' h b _=>by rw[h.1];exact .tree _ (iU _))
def mark (is:List Bool) (s:Int):List Bool:=if s < 0 then is.set (-1 - s).toNat true else is
def hD (p is:List Bool) (r:ba):List Bool:=if (is.getD r.left.toNat false && gj r.right p true)=true then r.right.foldl mark is else is
def rb (g:ai) (p is:List Bool):List Bool:=g.rules.foldl (hD p) is
def cr (g:ai):List Bool:=if bM g=true then iter (rb g (bF g true)) g.ak.length ((cJ g).set g.start.toNat true) else []
theorem PX (is:List Bool) (s:Int):(mark is s).length=is.length:=by unfold mark;split <;> simp
theorem E3:∀ (l:List Int) (is:List Bool),(l.foldl mark is).length=is.length
 | [],_=>rfl
 | s :: l,is=>by rw[V7,E3 l,PX]
theorem Pj (p is:List Bool) (r:ba):(hD p is r).length=is.length:=by unfold hD;split <;> simp[E3]
theorem A0 {f:List Bool->List Bool} (a:∀ is,(f is).length=is.length):∀ (n:Nat) (is:List Bool),(iter f n is).length=is.length
 | 0,_=>rfl
 | n+1,is=>by rw[iter,A0 a n,a]
theorem Ap {α:Type} {f:List Bool->α->List Bool} (a:∀ is x,(f is x).length=is.length):∀ (l:List α) (is:List Bool),(l.foldl f is).length=is.length
 | [],_=>rfl
 | x :: l,is=>by rw[V7,Ap a l,a]
theorem mq {g:ai} (h:bM g=true) (t:Bool):(bF g t).length=g.ak.length:=by
 have a:∀ is,(nE g t is).length=is.length:=λis=>Ap (KK t) _ _
 rw[bF,Vu h,A0 a]
 simp[cJ]
def kx:SC :=
 af [af [.region false [⟨none,[aa 41 8,av 42 1 7,al 43 42,aN 44 43,aS 45 .lss 41 44,aa 46 45]⟩,⟨(some (46,true)),[aa 47 4,av 48 0 7,al 49 48,aL 50 1 47 49,al 51 50]⟩,⟨none,[eV 52 46 51,aa 53 52]⟩,⟨(some (53,true)),[av 54 1 7,al 55 54,aa 56 3,qN 57 95 [(.tmp 55),(.tmp 56),(.val (.val (.bool true)))]]⟩,⟨none,[eV 58 53 57]⟩],bO 58 (.exit 4)],.block 5 (af [ae [av 61 1 7,al 62 61,aa 63 8,aL 64 1 62 63,al 65 64,aF 66 .lss 65 0],aZ 66 (ae [aa 67 4,av 68 1 7,al 69 68,aa 70 8,aL 71 1 69 70,al 72 71,((some 73),.op (.arith .sub (.val (.val (.int .i64 (-1)))) (.tmp 72))),aL 74 1 67 73,(none,.op (.store 1 (.tmp 74) (.val (.val (.bool true)))))])]),ae [aa 59 8,aF 60 .add 59 1,aa 8 60]]
def kD:SC :=
 af [af [ae [aa 29 6,av 30 2 1,al 31 30,aN 32 31,aS 33 .lss 29 32],bO 33 (.exit 2)],.block 3 (af [ae [av 36 2 1,al 37 36,aa 38 6,aL 39 3 37 38,bb 40 3 39,((some 7),.op (.alloc [(.val (.int .i64 0)),(.emp 1),(.val (.int .i64 0))])),cy 3 7 40],ae [aP 8 0],bR 4 kx]),ae [aa 34 6,aF 35 .add 34 1,aa 6 35]]
def kJ:SC :=
 af [af [ae [aa 22 5,av 23 1 1,al 24 23,aN 25 24,aS 26 .lss 22 25],bO 26 (.exit 0)],.block 1 (af [ae [aP 6 0],bR 2 kD]),ae [aa 27 5,aF 28 .add 27 1,aa 5 28]]
def lL:SF:=⟨af [ae [cE 1 0,bT 2 1],af [ae [bb 9 4 1,bf 10 50 [9],c5 11 10],aZ 11 (af [ae [bT 2 1],.ret])],ae [bb 12 4 1,bf 13 93 [12],aa 3 13],ae [av 14 1 1,al 15 14,aN 16 15,((some 17),.op (.make 1 1 [(.val (.bool false))] (.tmp 16) (.tmp 16))),aa 4 17],ae [aa 18 4,av 19 3 1,al 20 19,aL 21 1 18 20,(none,.op (.store 1 (.tmp 21) (.val (.val (.bool true)))))],af [ae [aP 5 0],bR 0 kJ],ae [aa 75 4,aa 2 75],.ret],
 [.tmp 2],76⟩
theorem rA:aM Tryz.prog 94 [1]=some lL:=by kernel_rfl
theorem QA {l:List Bool} {i j:Nat} (h:l.getD j false=true):(l.set i true).getD j false=true:=by
 simp only[Vp,V9] at h ⊢
 by_cases e:i=j
 .subst e
  by_cases hi:i < l.length
  .simp[hi]
  .rw[V0 (by omega)] at h;simp at h
 .rw[Vs e];exact h
theorem P6 {H:View} {m n:Nat} {o:c7} (hm:H m=o) (a:H n=.dead) (b:o≠.dead):m≠n:=by rintro rfl;exact b (hm.symm.trans a)
theorem Dh (g:ai) (Y:g.Ok) (H:View):aw Tryz.prog 94 [.agg (ag g)] H λr H'=>∀ X:aD,X.view=H'->dB X r (b5 (cr g)):=by
 refine aw.of mixed rA ?_
 simp(disch:=omega)only[↓wr,seval,wq,lL,ag,encS]
 refine ax.pure (j9 g Y) ?_
 repeat' (first | ((first|apply aj.dec|apply aj.eq|apply aj.ne|apply aj.split)<;>intro)|(simp(disch:=omega)only[↓wr,seval,wq,ag,encS]))
 .rename_i hr
  have y:=bX hr
  obtain⟨a7,a8⟩:=And.intro y.kC y.ak
  refine ax.pure (tI g Y) ?_
  have Z:=mq hr true
  have n:cr g=iter (rb g (bF g true)) g.ak.length ((cJ g).set g.start.toNat true):=by rw[cr,Vu hr]
  generalize bF g true=p at Z n
  have o:=y.kT
  have a1:=y.start
  have I:List.replicate g.ak.length [V.val (Value.bool false)]=bH (cJ g):=xO _ _
  have ab:(cJ g).length=g.ak.length:=by simp[cJ]
  simp(disch:=omega)only[↓wr,seval,wq,ag,encS]
  refine⟨⟨by omega,by unfold aC;omega,by unfold aC;omega⟩,λhz=>by omega,λ_ m hm=>?_⟩
  rw[I]
  have an:(bH (cJ g)).getD g.start.toNat []=[gb ((cJ g)[g.start.toNat]'(by omega))]:=lg (by omega)
  simp(disch:=omega)only[↓wr,seval,wq,ag,encS,lg (show g.start.toNat < (cJ g).length by omega),gL,Vx]
  refine⟨by omega,by omega,?_⟩
  refine aR.intro (λk T H'=>∃ (i:Nat) (is:List Bool),i+k=g.ak.length/\is.length=g.ak.length/\iter (rb g p) k is=cr g/\T 1=.aJ (ag g) 0/\T 3=b5 p/\T 4=.sl m 0 g.ak.length 1/\H' m=.arr 1 (bH is)/\T 5=gi i) g.ak.length ?_ ?_
  .refine⟨0,(cJ g).set g.start.toNat true,by omega,by simp[ab],n.symm,?_⟩
   simp(disch:=omega)only[↓wr,↓reduceIte,wq,Nat.reduceEqDiff,Nat.reduceAdd,Nat.reduceLT,Nat.reduceLeDiff,Int.reduceNeg,Int.reduceToNat,reduceCtorEq,ag,encS]
   rw[an]
   exact⟨by rw[<-gL];rfl,rfl⟩
  .rintro k T H' ⟨i,is,hk,hlen,hi,f1,f3,f4,fm,f5⟩
   simp(disch:=omega)only[↓wr,seval,wq,kJ,f1,f3,f4,f5,ag,encS]
   apply aj.dec<;>intro hc
   .simp(disch:=omega)only[↓wr,seval,wq,f1,f3,f4,f5,ag,encS]
    refine aR.intro (λJ T H'=>∃ (j:Nat) (d:List Bool),j+J=g.rules.length/\d.length=g.ak.length/\(g.rules.drop j).foldl (hD p) d=rb g p is/\T 1=.aJ (ag g) 0/\T 3=b5 p/\T 4=.sl m 0 g.ak.length 1/\H' m=.arr 1 (bH d)/\T 5=gi i/\T 6=gi j) g.rules.length ?_ ?_
    .refine⟨0,is,by omega,hlen,rfl,?_⟩
     simp(disch:=omega)only[↓wr,seval,wq,f1,f3,f4,f5,fm,ag,encS]
     first | done | exact⟨rfl,rfl⟩ | rfl
    .rintro J T' bd ⟨j,d,bl,t,C,K,L,M,em,N,O⟩
     simp(disch:=omega)only[↓wr,seval,wq,kD,K,L,M,N,O,ag]
     apply aj.dec<;>intro hd
     .have hle:=y.rules
      have P:g.rules[j]?=some (g.rules[j]'(by omega)):=Vq (by omega)
      rw[dS (show j < g.rules.length by omega)] at C
      have f:g.rules[j]'(by omega)∈g.rules:=Vw _
      generalize g.rules[j]'(by omega)=r at P C f
      simp only[V7] at C
      obtain⟨bn,br⟩:=y.left r f
      obtain⟨_,_,aq,Q⟩:=Y.az r f
      have bs:=y.right r f
      have R:=Hh r.right p true aq (λs hs=>⟨Q s hs,λhn=>by have:=y.neg f hs hn;omega⟩)
      simp(disch:=omega)only[↓wr,seval,wq,K,L,M,N,O,ag,encS,aK,encI,Vt,P,VE]
      intro b hb
      have S:m≠b:=P6 em hb (by simp)
      try simp(disch:=omega)only[↓wr,seval,wq,K,L,M,N,O,ag,encS,aK,encI]
      refine aR.intro (λq T H'=>∃ (a:Nat) (c:List Bool),a+q=r.right.length/\c.length=g.ak.length/\(r.right.drop a).foldl mark c=r.right.foldl mark d/\((a=0/\c=d)∨((d.getD r.left.toNat false && gj r.right p true)=true/\c.getD r.left.toNat false=true)) /\
       T 1=.aJ (ag g) 0/\T 3=b5 p/\T 4=.sl m 0 g.ak.length 1/\H' m=.arr 1 (bH c)/\T 5=gi i/\T 6=gi j/\T 7=.ptr b 0 0/\H' b=.arr 3 [aK r]/\T 8=gi a) r.right.length ?_ ?_
      .refine⟨0,d,by omega,t,rfl,.inl ⟨rfl,rfl⟩,?_⟩
       simp(disch:=omega)only[↓wr,↓reduceIte,wq,Nat.reduceEqDiff,Nat.reduceAdd,Nat.reduceLT,Nat.reduceLeDiff,Int.reduceNeg,Int.reduceToNat,reduceCtorEq,K,L,M,N,O,em,S,ag,encS,aK]
       exact⟨rfl,rfl⟩
      .rintro q T3 H3 ⟨a,c,hq,e,w,h,d1,d3,d4,z,d5,d6,d7,x,d8⟩
       simp(disch:=omega)only[↓wr,seval,wq,kx,d1,d3,d4,d5,d6,d7,d8,x,aK,encI]
       have U:c[r.left.toNat]?=some (c[r.left.toNat]'(by omega)):=Vq (by omega)
       have l:c.getD r.left.toNat false=c[r.left.toNat]'(by omega):=by simp[Vp,U]
       have A:=lg (show r.left.toNat < c.length by omega)
       have W:(d.getD r.left.toNat false && gj r.right p true)=false->hD p d r=c:=λG=>by
        rcases h with ⟨_,rfl⟩ | ⟨h1,_⟩
        .rw[hD,G];rfl
        .rw[G] at h1;simp at h1
       generalize c[r.left.toNat]'(by omega)=tl at U l A
       apply aj.dec<;>intro ht
       .have D:r.right[a]?=some (r.right[a]'(by omega)):=Vq (by omega)
        rw[dS (show a < r.right.length by omega)] at w
        have E:r.right[a]'(by omega)∈r.right:=Vw _
        generalize r.right[a]'(by omega)=s at D w E
        simp only[V7] at w
        have ar:=Q s E
        simp(disch:=omega)only[↓wr,seval,wq,d1,d3,d4,d5,d6,d7,d8,x,z,aK,encI,A,Vx]
        refine⟨by omega,by omega,?_⟩
        apply aj.split<;>intro u
        .simp(disch:=omega)only[↓wr,seval,wq,d1,d3,d4,d5,d6,d7,d8,x,z,aK,encI,A,Vx]
         refine ax.pure R ?_
         simp(disch:=omega)only[↓wr,seval,wq,d1,d3,d4,d5,d6,d7,d8,x,z,aK,encI]
         apply aj.split<;>intro F
         .simp(disch:=omega)only[↓wr,seval,wq,d1,d3,d4,d5,d6,d7,d8,x,z,aK,encI,Vt,D,VE]
          have G:(d.getD r.left.toNat false && gj r.right p true)=true/\c.getD r.left.toNat false=true:=by
           rcases h with ⟨_,rfl⟩ | h1
           .exact⟨by rw[l,u,F];rfl,by rw[l,u]⟩
           .exact h1
          apply aj.dec<;>intro B
          .have bx:=y.neg f E B
           have a6:=ar.1
           have v:mark c s=c.set (-1 - s).toNat true:=by rw[mark,Vu B]
           simp(disch:=omega)only[↓wr,seval,wq,d1,d3,d4,d5,d6,d7,d8,x,z,aK,encI,Vt,D,VE,lg (show (-1 - s).toNat < c.length by omega),Vx,S.symm]
           rw[v] at w
           exact⟨by omega,by omega,q - 1,by omega,a+1,c.set (-1 - s).toNat true,by omega,by simp[e],w,.inr ⟨G.1,QA G.2⟩,by rw[gL],by first | rfl | exact⟨rfl,rfl⟩⟩
          .have v:mark c s=c:=by rw[mark,Vs B]
           rw[v] at w
           simp(disch:=omega)only[↓wr,seval,wq,d1,d3,d4,d5,d6,d7,d8,x,z]
           exact⟨q - 1,by omega,a+1,c,by omega,e,w,.inr G,by first | rfl | exact⟨rfl,rfl⟩ | exact⟨rfl,rfl,rfl⟩⟩
         .simp(disch:=omega)only[↓wr,seval,wq,d1,d3,d4,d5,d6,d7,d8,x,z,aK,encI]
          have o:=W (by rw[F,WV])
          exact⟨J - 1,by omega,j+1,c,by omega,e,by rw[<-o];exact C,rfl,rfl,rfl⟩
        .simp(disch:=omega)only[↓wr,seval,wq,d1,d3,d4,d5,d6,d7,d8,x,z,aK,encI,A,Vx]
         have o:hD p d r=c:=by
          rcases h with ⟨_,rfl⟩ | ⟨_,h1⟩
          .rw[hD,l,u];rfl
          .rw[l,u] at h1;simp at h1
         exact⟨J - 1,by omega,j+1,c,by omega,e,by rw[<-o];exact C,rfl,rfl,rfl⟩
       .simp(disch:=omega)only[↓wr,seval,wq,d1,d3,d4,d5,d6,d7,d8,x,z,aK,encI]
        rw[VN (by omega),Xk] at w
        have o:hD p d r=c:=by
         rcases h with ⟨h0,rfl⟩ | ⟨h1,_⟩
         .unfold hD
          split
          .exact w.symm
          .rfl
         .rw[hD,Vu h1];exact w.symm
        exact⟨J - 1,by omega,j+1,c,by omega,e,by rw[<-o];exact C,rfl,rfl,rfl⟩
     .rw[VN (by omega),Xk] at C
      simp(disch:=omega)only[↓wr,seval,wq,K,L,M,N,O]
      obtain⟨q,rfl⟩:∃ q,k=q+1:=⟨k - 1,by omega⟩
      exact⟨q,by omega,i+1,d,by omega,t,by rw[C];exact hi,rfl,em,rfl⟩
   .simp(disch:=omega)only[↓wr,seval,wq,f1,f3,f4,f5,fm]
    have:k=0:=by omega
    subst this
    rintro X rfl
    simp only[<-hi,iter]
    rw[<-hlen]
    exact rv fm
 .rename_i hr
  rintro X rfl
  simp only[cr,hr]
  exact .emp 1
theorem DG (g:ai) (a:g.Ok):ca Tryz.prog 94 [.agg (ag g)] (b5 (cr g)):=ca.of (eD g) (Dh g a _)
noncomputable def y3:List (FuncId × DF):=vM Tryz.prog [(224,[]),(223,[]),(296,[]),(297,[])]
theorem tu:qt Tryz.prog y3:=sB _ _
theorem Lx (P:Program):so P (λ_ _ _=>none):=λ_ _ _ _ h=>by simp at h
def S4 (o:Option V) (b:Bool):Bool:=match o with
 | some (.val (.bool c))=>c == b
 | _=>false
theorem SJ {o:Option V} {b:Bool} (h:S4 o b=true):o=some (gb b):=by
 unfold S4 at h
 split at h
 .rw[Wn] at h;rw[h]
 .simp at h
noncomputable def y6 (tab:List (FuncId × DF)) (f:FuncId) (p:Int->Bool):Bool:=(List.range 256).all λc=>S4 (sn Tryz.prog tab (λ_ _ _=>none) f [gy (c:Int)]) (p (c:Int))
theorem wE {a:List (FuncId × DF)} (d:qt Tryz.prog a) {f:FuncId} {p:Int->Bool} (h:y6 a f p=true) (c:Int) (e:0<=c) (h1:c<=255):aB Tryz.prog f [gy c] (gb (p c)):=by
 have:=VU.1 h c.toNat (by simp;omega)
 rw[show ((c.toNat:Nat):Int)=c by omega] at this
 exact(pb mixed d (Lx _) (by intro v b;simp at b;subst b;exact .val _) (SJ this)).pure
def xU (c:Int):Bool:=decide (32<=c) && decide (c<=126) && c != 39 && c != 92
def CV (c:Int):Bool:=c == 110 || c == 116 || c == 92 || c == 39
theorem KM:y6 y3 223 vo=true:=by kernel_rfl
theorem N9:y6 y3 224 oD=true:=by kernel_rfl
theorem Oj:y6 y3 296 xU=true:=by kernel_rfl
theorem RC:y6 y3 297 CV=true:=by kernel_rfl
theorem D3 {s:ByteArray} {c:Int} (h:c∈fH s):0<=c/\c<=255:=by
 unfold fH at h
 obtain⟨b,_,rfl⟩:=VO.1 h
 have:=b.toNat_lt
 omega
theorem Ny (s:ByteArray):gG s=(fH s).map λx=>[gy x]:=by simp[gG,fH]
noncomputable def Ko:List (FuncId × DF):=vM Tryz.prog [(44,[]),(87,[]),(145,[]),(207,[]),(255,[]),(256,[]),(257,[]),(258,[]),(286,[]),(208,[]),(259,[]),(209,[]),(234,[]),(233,[]),(232,[]),(260,[]),(261,[]),(262,[]),(146,[]),(213,[]),(212,[]),(263,[]),(264,[]),(211,[]),(214,[]),(210,[]),(88,[1]),(149,[3]),(169,[]),(172,[]),(151,[4]),(216,[4]),(150,[2]),(170,[2]),(266,[3]),(147,[]),(215,[5]),(265,[]),(148,[])]
theorem Lk:qt Tryz.prog Ko:=sB _ _
def H8 (l:List Int):V:=.aW (l.map λx=>[gy x])
theorem N8 (l:List Int):Tree (H8 l):=ep _ _ λx _ v a=>by simp at a;subst a;exact .val _
def zt (g:ai):V:=.aY [.agg (ag g),.val (.complex .f64 0 0),gi 0]
theorem RF {l:List Int} {g:ai} (h:sn Tryz.prog Ko (λ_ _ _=>none) 44 [H8 l]=some (zt g)):ca Tryz.prog 44 [H8 l] (zt g) :=
 pb mixed Lk (Lx _) (by intro v a;simp at a;subst a;exact N8 _) h
abbrev cF (κ:Type):=List (κ × V × Nat)
def cp {κ:Type} (key:κ->Value) (m:cF κ):List (V × V × Nat):=m.map λx=>(.val (key x.1),x.2.1,x.2.2)
def getM {κ:Type} [BEq κ] (m:cF κ) (k:κ):Option V:=(m.find? λx=>k == x.1).map (·.2.1)
def bL {κ:Type} [BEq κ] (k:κ) (v:V) (c:Nat):cF κ->cF κ
 | []=>[(k,v,c)]
 | x :: r=>if k == x.1 then (k,v,x.2.2) :: r else x :: bL k v c r
structure AJ {κ:Type} [BEq κ] (P:Program) (kt:TypeId) (key:κ->Value):Prop where
 ty:∃ d,P.underlying kt=some d/\(∀ a b,Instr.sameNow d (key a) (key b)=some (a == b))/\(∀ a e,bg P (Instr.checkKey e 10000 kt (key a))=some ())
 bits:∀ a b,(a == b)=true->Instr.sameBits 10000 (key b) (key a)=true
theorem u9 {κ:Type} (key:κ->Value):∀ m:cF κ,gZ (cp key m)=some (m.map λx=>{ key:=key x.1,val:=.nilFunc,born:=x.2.2 })
 | []=>rfl
 | x :: r=>by
  have:=u9 key r
  simp only[cp] at this
  simp[cp,gZ,de,this]
def gI {κ:Type} [BEq κ] (k:κ):cF κ->Option Nat
 | []=>none
 | x :: r=>if k == x.1 then some 0 else (gI k r).map (·+1)
theorem Ag {κ:Type} [BEq κ] {key:κ->Value} {d:TypeDesc} (h:∀ a b,Instr.sameNow d (key a) (key b)=some (a == b)) (k:κ):∀ (m:cF κ) (i:Nat),
  Instr.findNow d (key k) (m.map λx=>{ key:=key x.1,val:=.nilFunc,born:=x.2.2 }) i=some ((gI k m).map λj=>(i+j,.nilFunc))
 | [],i=>rfl
 | x :: r,i=>by
  simp only[VX,Instr.findNow,h,gI]
  cases hk:k == x.1 with
  | true=>simp
  | false =>
   simp only[Ag h k r (i+1),VR,if_false,Option.map_map]
   congr 2
   funext j
   simp only[Function.comp]
   congr 1
   omega
theorem yw {κ:Type} [BEq κ] {P:Program} {kt:TypeId} {key:κ->Value} (h:AJ P kt key) (k:κ) (e:Bool) (m:cF κ):mG P kt (.val (key k)) e (cp key m)=some (gI k m):=by
 obtain⟨d,a,b,c⟩:=h.ty
 have hu:bg P (underlying kt)=some d:=dL a
 simp only[mG,de,u9,aV,c,V1]
 have:bg P (Instr.findKey kt (key k) (m.map λx=>{ key:=key x.1,val:=.nilFunc,born:=x.2.2 }))=some ((gI k m).map λj=>(0+j,.nilFunc)):=by
  unfold Instr.findKey
  rw[aV,hu,V1,Ag b]
  rfl
 rw[this]
 cases gI k m with
 | none=>rfl
 | some j=>simp
theorem A7 {P:Program} {kt:TypeId} {d:TypeDesc} (h:P.underlying kt=some d) (a:match d with | .int _ | .string | .bool=>True | _=>False) (e:Bool) (n:Nat) (v:Value):bg P (Instr.checkKey e (n+1) kt v)=some ():=by
 unfold Instr.checkKey
 rw[aV,dL h,V1]
 cases d <;> first | exact a.elim | rfl
theorem k9 {P:Program} {kt:TypeId} (k:IntKind) (h:P.underlying kt=some (.int k)):AJ P kt (Value.int k) where
 ty:=⟨_,h,λa b=>by simp[Instr.sameNow],λa e=>A7 h trivial e 9999 _⟩
 bits:=λa b c=>by
  have:a=b:=by simpa using c
  subst this
  simp[Instr.sameBits]
theorem vZ {κ:Type} [BEq κ] {key:κ->Value} (k:κ):∀ m:cF κ,match gI k m with
  | some i=>∃ x,m[i]?=some x/\(k == x.1)=true/\getM m k=some x.2.1/\(cp key m)[i]?=some (.val (key x.1),x.2.1,x.2.2)/\∀ v c,(cp key m).set i (.val (key k),v,x.2.2)=cp key (bL k v c m)/\(bL k v c m).length=m.length
  | none=>getM m k=none/\∀ v c,cp key m ++ [(.val (key k),v,c)]=cp key (bL k v c m)/\(bL k v c m).length=m.length+1
 | []=>⟨rfl,λv c=>⟨rfl,rfl⟩⟩
 | x :: r=>by
  have a:=vZ (key:=key) k r
  simp only[gI]
  cases hk:k == x.1 with
  | true=>exact⟨x,rfl,hk,by simp[getM,hk],rfl,λv c=>by simp[bL,hk,cp]⟩
  | false =>
   simp only[VR,if_false]
   cases hi:gI k r with
   | some i =>
    rw[hi] at a
    obtain⟨y,h1,b,d,e,f⟩:=a
    refine⟨y,by simpa using h1,b,by simpa [getM,hk] using d,by simpa [cp] using e,λv c=>?_⟩
    obtain⟨g1,g2⟩:=f v c
    exact⟨by simp only[cp] at g1 ⊢;simp[bL,hk,g1],by simp[bL,hk,g2]⟩
   | none =>
    rw[hi] at a
    refine⟨by simpa [getM,hk] using a.1,λv c=>?_⟩
    obtain⟨g1,g2⟩:=a.2 v c
    exact⟨by simp only[cp] at g1 ⊢;simp[bL,hk,g1],by simp[bL,hk,g2]⟩
section
variable {P:Program} {T:Env} {H:View} {κ:Type} [BEq κ] {key:κ->Value} {kt et t ty:TypeId}
theorem zu {K:V->View->Prop} {w:cL (T,H,K)} {x i:Operand} {z:V} {id c:Nat} {m:cF κ} {k:κ} (hm:er P t=some (kt,et)) (d:zeroV P et=some z) (hk:AJ P kt key)
  (e:ev T x=.mp id) (hi:ev T i=.val (key k)) (hH:H id=.map (cp key m) c) (h:K ((getM m k).getD z) H):iO P (.lookup t x i false) ty T H K w:=by
 intro n _
 have f:=yw hk k (cp key m).isEmpty m
 have a:=vZ (key:=key) k m
 refine⟨(getM m k).getD z,.none,[id],?_,h⟩
 simp only[sI,cd,oper,fc,hm,d,e,hi,hH,f]
 cases b:gI k m with
 | some j =>
  rw[b] at a
  obtain⟨y,h1,o,g,l,_⟩:=a
  simp[l,g]
 | none =>
  rw[b] at a
  simp[a.1]
theorem Rl {K:V->View->Prop} {w:cL (T,H,K)} {x i:Operand} {z:V} {id c:Nat} {m:cF κ} {k:κ} (hm:er P t=some (kt,et)) (d:zeroV P et=some z) (hk:AJ P kt key)
  (e:ev T x=.mp id) (hi:ev T i=.val (key k)) (hH:H id=.map (cp key m) c) (h:K (.aY [(getM m k).getD z,.val (.bool (getM m k).isSome)]) H):iO P (.lookup t x i true) ty T H K w:=by
 intro n _
 have f:=yw hk k (cp key m).isEmpty m
 have a:=vZ (key:=key) k m
 refine⟨_,.none,[id],?_,h⟩
 simp only[sI,cd,oper,fc,hm,d,e,hi,hH,f]
 cases b:gI k m with
 | some j =>
  rw[b] at a
  obtain⟨y,h1,o,g,l,_⟩:=a
  simp[l,g]
 | none =>
  rw[b] at a
  simp[a.1]
theorem Qq (hk:AJ P kt key) (k a:κ) (h:(k == a)=true):sameKey (.val (key a)) (.val (key k))=true:=by
 simp only[sameKey,de];exact hk.bits _ _ h
theorem vi {K:V->View->Prop} {w:cL (T,H,K)} {x i y:Operand} {id c:Nat} {m:cF κ} {k:κ} {v:V} (hm:er P t=some (kt,et)) (hk:AJ P kt key)
  (d:ev T x=.mp id) (hi:ev T i=.val (key k)) (e:ev T y=v) (hH:H id=.map (cp key m) c)
  (h:∀ g,K .any (H.set id (.map (cp key (bL k v c m)) g))):iO P (.mapUpdate t x i y) ty T H K w:=by
 intro n _
 have a:=yw hk k false m
 have b:=vZ (key:=key) k m
 cases f:gI k m with
 | some j =>
  rw[f] at b a
  obtain⟨z,h1,l,q,o,p⟩:=b
  refine⟨.any,.fe id (.map ((cp key m).set j (.val (key k),v,z.2.2)) c),[id],?_,?_⟩
  .simp only[sI,cd,oper,gA,hm,d,hi,e,hH,a,o,Qq hk k z.1 l,if_true]
  .rw[(p v c).1];exact h c
 | none =>
  rw[f] at b a
  refine⟨.any,.fe id (.map (cp key m ++ [(.val (key k),v,c)]) (c+1)),[id],?_,?_⟩
  .simp only[sI,cd,oper,gA,hm,d,hi,e,hH,a]
  .rw[(b.2 v c).1];exact h (c+1)
theorem To {P:Program} {T:Env} {H:View} {t ty:TypeId} {x i y:Operand} {K:V->View->Prop} {w:cL (T,H,K)} : iO P (.insert t x i y) ty T H K w=iO P (.mapUpdate t x i y) ty T H K w:=propext Iff.rfl
omit [BEq κ] in
theorem SQ {K:V->View->Prop} {w:cL (T,H,K)} {x:Operand} {id c:Nat} {m:cF κ} (hm:er P t=some (kt,et)) (d:ev T x=.mp id) (hH:H id=.map (cp key m) c) (h:K (fO m.length) H) :
  iO P (.call { callee:=.builtin .len,args:=#[x],argTypes:=#[t] }) ty T H K w:=by
 intro n _
 have hu:∃ a b,P.underlying t=some (.map a b):=by
  unfold er at hm
  split at hm
  .rename_i a b h1;exact⟨a,b,h1⟩
  .simp at hm
 obtain⟨a,b,hu⟩:=hu
 refine⟨fO m.length,.none,[id],?_,h⟩
 have e:(cp key m).length=m.length:=by simp[cp]
 simp only[sI,cd,oper,WN,Vz,VS,tW,hu,d,hH,e]
 simp[hu,d,hH,e,tW]
end
theorem pT {κ:Type} [BEq κ] [LawfulBEq κ] (k a:κ) (v:V) (c:Nat):∀ m:cF κ,getM (bL k v c m) a=if a == k then some v else getM m a
 | []=>by
  by_cases h:a=k
  .subst h;simp[bL,getM]
  .simp[bL,getM,h]
 | x :: r=>by
  have b:=pT k a v c r
  simp only[bL]
  by_cases hk:k=x.1
  .by_cases h:a=k
   .subst h;simp[hk,getM]
   .have:¬ a=x.1:=λe=>h (e.trans hk.symm)
    simp[hk,getM,this]
  .simp only[Wn,hk,if_false]
   by_cases h:a=x.1
   .have:¬ a=k:=λe=>hk (e.symm.trans h)
    simp[getM,h]
    subst h
    simp[this]
   .simp only[getM,List.find?_cons,beq_eq_false_iff_ne.2 h] at b ⊢
    exact b
def eo {κ β:Type} [BEq κ] (a:List (κ × β)) (k:κ):Option β:=(a.find? λx=>k == x.1).map (·.2)
def kn {κ β:Type} [BEq κ] (k:κ) (v:β):List (κ × β)->List (κ × β)
 | []=>[(k,v)]
 | x :: r=>if k == x.1 then (k,v) :: r else x :: kn k v r
def o8 {κ β:Type} (encV:β->V):List (κ × β)->cF κ->Prop
 | [],[]=>True
 | x :: a,y :: m=>y.1=x.1/\y.2.1=encV x.2/\o8 encV a m
 | _,_=>False
theorem o8.get {κ β:Type} [BEq κ] {encV:β->V} (k:κ):∀ {a:List (κ × β)} {m:cF κ},o8 encV a m->getM m k=(eo a k).map encV
 | [],[],_=>rfl
 | x :: a,y :: m,⟨h1,c,d⟩=>by
  have b:=o8.get k d
  simp only[getM,eo,List.find?_cons,h1] at b ⊢
  cases k == x.1 with
  | true=>simp[c]
  | false=>simpa using b
theorem o8.put {κ β:Type} [BEq κ] {encV:β->V} (k:κ) (v:β) (c:Nat):∀ {a:List (κ × β)} {m:cF κ},o8 encV a m->o8 encV (kn k v a) (bL k (encV v) c m)
 | [],[],_=>⟨rfl,rfl,trivial⟩
 | x :: a,y :: m,⟨h1,d,b⟩=>by
  have e:=o8.put k v c b
  simp only[kn,bL,h1]
  cases k == x.1 with
  | true=>exact⟨rfl,rfl,b⟩
  | false=>exact⟨h1,d,e⟩
theorem o8.len {κ β:Type} {encV:β->V} : ∀ {a:List (κ × β)} {m:cF κ},o8 encV a m->m.length=a.length
 | [],[],_=>rfl
 | x :: a,y :: m,⟨_,_,b⟩=>by simp[o8.len b]
theorem HX {κ β:Type} [BEq κ] [LawfulBEq κ] (k b:κ) (v:β):∀ a:List (κ × β),eo (kn k v a) b=if b == k then some v else eo a b
 | []=>by
  by_cases h:b=k
  .subst h;simp[kn,eo]
  .simp[kn,eo,h]
 | x :: r=>by
  have c:=HX k b v r
  simp only[kn]
  by_cases hk:k=x.1
  .by_cases h:b=k
   .subst h;simp[hk,eo]
   .have:¬ b=x.1:=λe=>h (e.trans hk.symm)
    simp[hk,eo,this]
  .simp only[Wn,hk,if_false]
   by_cases h:b=x.1
   .have:¬ b=k:=λe=>hk (e.symm.trans h)
    simp[eo,h]
    subst h
    simp[this]
   .simp only[eo,List.find?_cons,beq_eq_false_iff_ne.2 h] at c ⊢
    exact c
def CO (n k:Nat) (J:Nat->Env->View->Prop) (T:Env) (H:View):Prop:=∃ i,i+k=n/\J i T H
theorem aR.up {P:Program} {T:Env} {H:View} {c:SC} {Q:Exit->Env->View->Prop} {v:cL (T,H,Q)} (n:Nat) (J:Nat->Env->View->Prop) (d:J 0 T H)
  (f:∀ i k T H,i+k=n->J i T H->wS P c T H λe a H'=>zT e (∃ b,b < k/\CO n b J a H') (Q e a H')):aR P c T H Q v :=
 aR.intro (λk T H=>CO n k J T H) n ⟨0,by omega,d⟩ λk T H ⟨i,hk,g⟩=>f i k T H hk g
theorem aE {n i k:Nat} {J:Nat->Env->View->Prop} {T:Env} {H:View} (hk:i+k=n) (b:i < n) (c:J (i+1) T H):∃ a,a < k/\CO n a J T H:=⟨k - 1,by omega,i+1,by omega,c⟩
def owner:V->Option Nat
 | .sl id _ _ _=>some id
 | _=>none
def aO (H:View) (u:V) (sz:Nat) (es:List (List V)):Prop :=
 (es=[]/\∃ k,u=.emp k)∨(∃ n,u=.sl n 0 es.length sz/\H n=.arr sz es)
theorem aO.nil {H:View} {sz k:Nat} : aO H (.emp k) sz []:=.inl ⟨rfl,k,rfl⟩
theorem aO.len {H:View} {u:V} {sz:Nat} {es:List (List V)} (h:aO H u sz es):ct u=some es.length:=by
 rcases h with ⟨rfl,k,rfl⟩ | ⟨n,rfl,_⟩ <;> rfl
theorem aO.live {H:View} {u:V} {sz:Nat} {es:List (List V)} (h:aO H u sz es) {id:Nat} (a:owner u=some id):H id=.arr sz es/\u=.sl id 0 es.length sz:=by
 rcases h with ⟨rfl,k,rfl⟩ | ⟨n,rfl,b⟩
 .simp[owner] at a
 .simp[owner] at a;subst a;exact⟨b,rfl⟩
theorem aO.keep {H H':View} {u:V} {sz:Nat} {es:List (List V)} (h:aO H u sz es) (hk:∀ id,owner u=some id->H' id=H id):aO H' u sz es:=by
 rcases h with ⟨rfl,k,rfl⟩ | ⟨n,rfl,a⟩
 .exact .inl ⟨rfl,k,rfl⟩
 .exact .inr ⟨n,rfl,by rw[hk n rfl];exact a⟩
theorem aO.fresh {H:View} {u:V} {sz m:Nat} {es:List (List V)} {o:c7} (h:aO H u sz es) (hm:H m=.dead):aO (H.set m o) u sz es :=
 h.keep λid a=>by
  have:=(h.live a).1
  have e:id≠m:=by rintro rfl;rw[hm] at this;simp at this
  simp[View.set,e]
theorem aO.ne {H:View} {u:V} {sz m:Nat} {es:List (List V)} (h:aO H u sz es) (hm:H m=.dead):owner u≠some m:=λe=>by
 have:=(h.live e).1;rw[hm] at this;simp at this
theorem aO.other {H:View} {u:V} {sz m:Nat} {es:List (List V)} {o:c7} (h:aO H u sz es) (hm:owner u≠some m):aO (H.set m o) u sz es :=
 h.keep λid a=>by
  have e:id≠m:=by rintro rfl;exact hm a
  simp[View.set,e]
theorem aO.new {H:View} {n sz:Nat} {es:List (List V)} : aO (H.set n (.arr sz es)) (.sl n 0 es.length sz) sz es:=.inr ⟨n,rfl,by simp[View.set]⟩
theorem bP {H:View} {m z sz:Nat} {e:List V} : bC (View.set H m (.arr z [e])) (.sl m 0 1 sz)=some ([e],[m]):=by
 simp[bC,View.set]
def Left (H H':View) (u u':V):Prop:=∀ id,H id≠.dead->owner u≠some id->H' id=H id/\owner u'≠some id
theorem yj {sz bytes:Nat} {u:V} {es xs:List (List V)} {H:View} {K:V->View->Prop} {w:cL (H,K)} (d:aO H u sz es) (h:xs≠[]) (b:(xs.all λe=>e.length == sz && e.all aH)=true)
  (g:(es.length+xs.length) * bytes < aC) (c:es.length+xs.length < aC) (hk:∀ f H',aO H' f sz (es ++ xs)->Left H H' u f->K f H'):mz sz bytes u xs H K w:=by
 have he:xs.isEmpty=false:=by cases xs with | nil=>exact absurd rfl h | cons=>rfl
 rcases d with ⟨rfl,k,rfl⟩ | ⟨n,rfl,i⟩
 .rw[tf _ _ _ _ _ _ _ he]
  refine⟨b,⟨by simpa using g,by simpa using c⟩,λm hm=>hk _ _ ?_ ?_⟩
  .exact .inr ⟨m,rfl,by simp[View.set]⟩
  .intro id a _
   have e:id≠m:=by rintro rfl;exact a hm
   exact⟨by simp[View.set,e],by simp[owner,Ne.symm e]⟩
 .rw[sR _ _ _ _ _ _ _ _ _ _ he,i]
  refine⟨b,⟨by simp,rfl,g,c⟩,λm hm=>hk _ _ ?_ ?_⟩
  .refine .inr ⟨m,by simp,by simp[View.set]⟩
  .intro id a d
   have e:id≠m:=by rintro rfl;exact a hm
   have j:id≠n:=by rintro rfl;exact d rfl
   exact⟨by simp[View.set,e,j],by simp[owner,Ne.symm e]⟩
theorem Left.refl {H:View} {u:V} : Left H H u u:=λ_ _ h=>⟨rfl,h⟩
theorem eL {sz bytes:Nat} {u:V} {es xs:List (List V)} {H:View} {K:V->View->Prop} {w:cL (H,K)} (a:aO H u sz es) (b:(xs.all λe=>e.length == sz && e.all aH)=true)
  (f:(es.length+xs.length) * bytes < aC) (c:es.length+xs.length < aC) (hk:∀ d H',aO H' d sz (es ++ xs)->Left H H' u d->K d H'):mz sz bytes u xs H K w:=by
 cases xs with
 | nil =>
  have:=hk u H (by simpa using a) .refl
  rcases a with ⟨rfl,k,rfl⟩ | ⟨n,rfl,g⟩
  .exact this
  .exact this
 | cons x xs=>exact yj a (by simp) b f c hk
theorem cn.own {H:View} {u:V} {sz:Nat} {es:List (List V)} (h:aO H u sz es) (a:∀ e∈es,∀ v∈e,Tree v):cn H u (.aW es):=by
 rcases h with ⟨rfl,k,rfl⟩ | ⟨n,rfl,b⟩
 .exact λh _=>.emp k
 .have:=cn.sl (off:=0) (len:=es.length) (esz:=sz) b (by simp) a
  rwa [Ww,VG (by simp)] at this
theorem dB.own {h:aD} {u:V} {sz:Nat} {es:List (List V)} {es':List (List V)} (b:aO h.view u sz es) (a:es'.length=es.length) (hi:∀ i,i < es.length->(es'.getD i []).length=(es.getD i []).length)
  (c:∀ i j,i < es.length->j < (es'.getD i []).length->dB h ((es.getD i []).getD j .any) ((es'.getD i []).getD j .any)):dB h u (.aW es'):=by
 rcases b with ⟨rfl,k,rfl⟩ | ⟨n,rfl,d⟩
 .have:es'=[]:=W9.1 (by simpa using a)
  subst this
  exact .emp k
 .exact .sl n 0 es.length sz sz es es' d (by simp) a (λi h=>by rw[Wc];exact hi i h) (λi j h1 e=>by rw[Wc];exact c i j h1 e)
theorem dB.Q7 {h:aD} {α:Type} {u:V} {sz:Nat} {l:List α} {f:α->Value} (b:aO h.view u sz (l.map λx=>[V.val (f x)])):dB h u (.aW (l.map λx=>[V.val (f x)])):=by
 refine dB.own b rfl (λi _=>rfl) (λi j hi a=>?_)
 simp only[Vx] at hi
 have e:(l.map λx=>[V.val (f x)]).getD i []=[V.val (f l[i])]:=by simp[Vp,hi]
 rw[e] at a ⊢
 have:j=0:=by simp at a;omega
 subst this
 exact .val _
def bZ (H H':View) (r:V):Prop:=∀ id,H id≠.dead->H' id=H id/\owner r≠some id
theorem bZ.emp {H:View} {k:Nat} : bZ H H (.emp k):=λ_ _=>⟨rfl,by simp[owner]⟩
theorem bZ.new {H:View} {n a b c:Nat} {o:c7} (f:H n=.dead):bZ H (H.set n o) (.sl n a b c):=λid d=>by
 have e:id≠n:=by rintro rfl;exact d f
 exact⟨by simp[View.set,e],by simp[owner,Ne.symm e]⟩
theorem aO.left {H H':View} {u b x:V} {sz:Nat} {es:List (List V)} (h:aO H x sz es) (c:Left H H' u b) (d:∀ id,owner x=some id->owner u≠some id):aO H' x sz es :=
 h.keep λid a=>(c id (by rw[(h.live a).1];simp) (d id a)).1
theorem aO.Po {H H':View} {x r:V} {sz:Nat} {es:List (List V)} (h:aO H x sz es) (b:bZ H H' r):aO H' x sz es :=
 h.keep λid a=>(b id (by rw[(h.live a).1];simp)).1
theorem set_set {H:View} {n:Nat} {a b:c7} : View.set (View.set H n a) n b=View.set H n b:=by
 funext id;simp only[View.set];split <;> rfl
theorem cb {m b:Nat} {o x:c7} (h:(if m=b then o else x)=.dead) (a:o≠.dead):m≠b/\x=.dead:=by
 split at h
 .exact absurd h a
 .rename_i e;exact⟨e,h⟩
theorem b6 {z:Nat} {es:List (List V)} : c7.arr z es≠.dead:=by simp
def qg (H:View):List V->List V->Prop
 | [],[]=>True
 | v :: vs,t :: ts=>cn H v t/\qg H vs ts
 | _,_=>False
theorem qg.len {H:View} : ∀ {vs a:List V},qg H vs a->a.length=vs.length
 | [],[],_=>rfl
 | _ :: _,_ :: _,h=>by simp[qg.len h.2]
theorem qg.get {H:View} : ∀ {vs a:List V},qg H vs a->∀ i,i < vs.length->cn H (vs.getD i .any) (a.getD i .any)
 | [],[],_,i,hi=>by simp at hi
 | _ :: _,_ :: _,h,0,_=>h.1
 | _ :: _,_ :: _,h,i+1,hi=>qg.get h.2 i (by simpa using hi)
theorem ax.KV {P:Program} {q:Bool} {f:FuncId} {H:View} {vs b:List V} {K:V->View->Prop} {v:cL (H,K)} {t:V} (d:aB P f b t) (a:dD P f=true) (e:yO t) (c:qg H vs b) (hk:K t H):ax P q f vs H K v :=
 ax.borrow d a e c.len c.get hk
theorem ax.mK {P:Program} {q:Bool} {f:FuncId} {H:View} {vs b:List V} {K:V->View->Prop} {v:cL (H,K)} {t:V} (d:ca P f b t) (a:dD P f=true) (c:qg H vs b) (hk:K t H):ax P q f vs H K v :=
 ax.uH d a c.len c.get hk
theorem cn.box {H:View} {q z:Nat} {e:List V} (a:H q=.arr z [e]) (b:∀ v∈e,Tree v):cn H (.ptr q 0 0) (.aJ e 0):=by
 rintro h rfl
 refine .ptr q 0 0 z [e] e a (by simp) (by simp) (λk hk=>?_)
 simp only[Wm]
 have c:e.getD k .any=e[k]:=by simp[Vp,hk]
 rw[c]
 exact .tree _ (b _ (Vw _))
theorem aO.sl {H:View} {u:V} {sz:Nat} {es:List (List V)} (h:aO H u sz es) (a:0 < es.length):∃ n,u=.sl n 0 es.length sz/\H n=.arr sz es:=by
 rcases h with ⟨rfl,_⟩ | h
 .simp at a
 .exact h
abbrev dM:=V × Nat × List (List V)
def bo (H:View) (L:List dM):Prop:=(∀ x∈L,aO H x.1 x.2.1 x.2.2)/\(L.filterMap λx=>owner x.1).Nodup
theorem bo.nil {H:View} : bo H []:=⟨λx a=>by simp at a,by simp⟩
theorem bo.head {H:View} {x:dM} {L:List dM} (h:bo H (x :: L)):aO H x.1 x.2.1 x.2.2:=h.1 x (by simp)
theorem bo.tail {H:View} {x:dM} {L:List dM} (h:bo H (x :: L)):bo H L:=by
 refine⟨λy a=>h.1 y (by simp[a]),?_⟩
 have:=h.2
 simp only[WC] at this
 split at this
 .exact this
 .exact(Wo.1 this).2
theorem bo.perm {H:View} {L a:List dM} (h:bo H L) (p:L.Perm a):bo H a :=
 ⟨λx b=>h.1 x (p.mem_iff.2 b),(p.filterMap _).nodup_iff.1 h.2⟩
theorem sf {α:Type} : ∀ (L:List α) (k:Nat) (hk:k < L.length),L.Perm (L[k] :: L.eraseIdx k)
 | x :: L,0,_=>.refl _
 | x :: L,k+1,hk=>by
  have:=sf L k (by simpa using hk)
  exact(this.cons x).trans (.swap _ _ _)
theorem bo.at {H:View} {L:List dM} (h:bo H L) (k:Nat) (hk:k < L.length):bo H (L[k] :: L.eraseIdx k) :=
 h.perm (sf L k hk)
theorem bo.obj {H:View} {n k sz:Nat} {es:List (List V)} {L:List dM} (h:bo H ((.sl n 0 k sz,sz,es) :: L)) (a:es≠[]):H n=.arr sz es/\k=es.length:=by
 rcases h.head with ⟨e,_⟩ | ⟨m,e,hm⟩
 .exact absurd e a
 .simp only[V.sl.injEq] at e
  obtain⟨rfl,_,rfl,_⟩:=e
  exact⟨hm,rfl⟩
theorem bo.off {H:View} {x:dM} {L:List dM} (h:bo H (x :: L)) {id:Nat} (a:owner x.1=some id):∀ y∈L,owner y.1≠some id:=by
 intro y b e
 have:=h.2
 simp only[WC,a,Wo,WH,not_exists,not_and] at this
 exact this.1 y b e
theorem bo.live {H:View} {x:dM} {L:List dM} (h:bo H L) (b:x∈L) {id:Nat} (a:owner x.1=some id):H id≠.dead:=by
 rw[((h.1 x b).live a).1];simp
theorem bo.keep {H H':View} {L:List dM} (h:bo H L) (hk:∀ x∈L,∀ id,owner x.1=some id->H' id=H id):bo H' L :=
 ⟨λx a=>(h.1 x a).keep (hk x a),h.2⟩
theorem bo.new {H:View} {L:List dM} (h:bo H L) {n:Nat} (b:H n=.dead) (sz:Nat) (es:List (List V)):bo (H.set n (.arr sz es)) ((.sl n 0 es.length sz,sz,es) :: L):=by
 refine⟨λx a=>?_,?_⟩
 .rcases VJ.1 a with rfl | a
  .exact .new
  .exact(h.1 x a).fresh b
 .simp only[WC,owner,Wo,WH,not_exists,not_and]
  exact⟨λx a e=>h.live a e b,h.2⟩
theorem bo.Dc {H H':View} {L:List dM} (h:bo H L) {u:V} {sz:Nat} {es:List (List V)} (c:aO H' u sz es) (b:bZ H H' u):bo H' ((u,sz,es) :: L):=by
 refine⟨λx a=>?_,?_⟩
 .rcases VJ.1 a with rfl | a
  .exact c
  .exact(h.1 x a).Po b
 .cases hu:owner u with
  | none=>simp only[WC,hu];exact h.2
  | some id =>
   simp only[WC,hu,Wo,WH,not_exists,not_and]
   exact⟨λx a e=>(b id (h.live a e)).2 hu,h.2⟩
theorem bo.fresh {H:View} {L:List dM} (h:bo H L) {n:Nat} (a:H n=.dead) {o:c7} : bo (H.set n o) L :=
 ⟨λx b=>(h.1 x b).fresh a,h.2⟩
theorem bo.put {H:View} {L:List dM} {n k sz:Nat} {es es':List (List V)} (h:bo H ((.sl n 0 k sz,sz,es) :: L)) (b:es'.length=es.length) (hk:k=es.length):bo (H.set n (.arr sz es')) ((.sl n 0 k sz,sz,es') :: L):=by
 refine⟨λx a=>?_,by simpa [WC,owner] using h.2⟩
 rcases VJ.1 a with rfl | a
 .exact .inr ⟨n,by simp[b,hk],by simp[View.set]⟩
 .exact(h.1 x (by simp[a])).other (h.off rfl x a)
theorem bo.left {H H':View} {L:List dM} {u c:V} {sz:Nat} {es es':List (List V)} (h:bo H ((u,sz,es) :: L)) (j:aO H' c sz es') (g:Left H H' u c):bo H' ((c,sz,es') :: L):=by
 have b:∀ x∈L,∀ id,owner x.1=some id->owner u≠some id:=λx a id d hu=>h.off hu x a d
 refine⟨λx a=>?_,?_⟩
 .rcases VJ.1 a with rfl | a
  .exact j
  .exact(h.1 x (by simp[a])).left g (b x a)
 .have i:=h.tail.2
  cases hu:owner c with
  | none=>simp only[WC,hu];exact i
  | some id =>
   simp only[WC,hu,Wo,WH,not_exists,not_and]
   refine⟨λx a e=>?_,i⟩
   have f:=h.tail.live a e
   exact(g id f (b x a id e)).2 hu
theorem dp {sz bytes:Nat} {u:V} {es xs:List (List V)} {L:List dM} {H:View} {K:V->View->Prop} {w:cL (H,K)} (d:bo H ((u,sz,es) :: L)) (b:(xs.all λe=>e.length == sz && e.all aH)=true)
  (g:(es.length+xs.length) * bytes < aC) (c:es.length+xs.length < aC) (hk:∀ a H',bo H' ((a,sz,es ++ xs) :: L)->Left H H' u a->K a H'):mz sz bytes u xs H K w :=
 eL d.head b g c λa H' h1 f=>hk a H' (d.left h1 f) f
theorem bo.stay {H H':View} {L:List dM} (h:bo H L) (b:∀ id,H id≠.dead->H' id=H id):bo H' L :=
 h.keep λx c _ a=>b _ (h.live c a)
theorem bo.emp {H:View} {L:List dM} (h:bo H L) {k sz:Nat} : bo H ((.emp k,sz,[]) :: L):=by
 refine⟨λx a=>?_,by simpa [WC,owner] using h.2⟩
 rcases VJ.1 a with rfl | a
 .exact .nil
 .exact h.1 x a
theorem aO.cells {H:View} {u:V} {sz:Nat} {es:List (List V)} (h:aO H u sz es):V.cells u=[u]:=by
 rcases h with ⟨rfl,k,rfl⟩ | ⟨n,rfl,_⟩ <;> rfl
theorem aO.gv {H:View} {u:V} {sz:Nat} {es:List (List V)} (h:aO H u sz es):aH u=true:=by
 rcases h with ⟨rfl,k,rfl⟩ | ⟨n,rfl,_⟩ <;> rfl
theorem bo.Km {H:View} {L:List dM} (h:bo H L) (i j:Nat) {a e s1 b k2 s2 t1 t2:Nat} {f g:List (List V)} (hi:L[i]?=some (.sl a 0 e s1,t1,f)) (k:L[j]?=some (.sl b 0 k2 s2,t2,g)) (c:i≠j):a≠b:=by
 rintro rfl
 obtain⟨d,hi⟩:=VC.1 hi
 have h1:=h.at i d
 rw[hi] at h1
 exact h1.off (id:=a) rfl _ (List.mem_eraseIdx_iff_getElem?.2 ⟨j,c.symm,k⟩) rfl
theorem GS {α:Type} {a b c:α} {l:List α} : (a :: b :: c :: l).Perm (b :: c :: a :: l):=(List.Perm.swap _ _ _).trans ((List.Perm.swap _ _ _).cons _)
theorem bo.own {H:View} {L:List dM} (h:bo H L) (i:Nat) {u:V} {sz:Nat} {es:List (List V)} (hi:L[i]?=some (u,sz,es)):aO H u sz es:=h.1 _ (VF hi)
theorem bo.is {H:View} {L:List dM} (h:bo H L) (i:Nat) {n k sz:Nat} {es:List (List V)} (hi:L[i]?=some (.sl n 0 k sz,sz,es)) (a:0 < es.length):H n=.arr sz es:=by
 obtain⟨m,e,hm⟩:=(h.own i hi).sl a
 simp only[V.sl.injEq] at e
 rw[e.1];exact hm
theorem bo.Ft {H:View} {L:List dM} (h:bo H L) {b c:Nat} {es:List (V × V × Nat)} (a:H b=.map es c):∀ x∈L,owner x.1≠some b:=λx d e=>by
 have:=((h.1 x d).live e).1
 rw[a] at this;simp at this
theorem bo.A9 {H:View} {L:List dM} (h:bo H L) {b c:Nat} {es:List (V × V × Nat)} (d:H b=.map es c) {o:c7} : bo (H.set b o) L :=
 ⟨λx a=>(h.1 x a).other (h.Ft d x a),h.2⟩
theorem Left.map {H H':View} {u d:V} {b c:Nat} {es:List (V × V × Nat)} {sz:Nat} {xs:List (List V)} (f:Left H H' u d) (g:aO H u sz xs) (a:H b=.map es c):H' b=.map es c:=by
 rw[(f b (by rw[a];simp) (λe=>by have:=(g.live e).1;rw[a] at this;simp at this)).1,a]
theorem Cp {H:View} {L:List dM} (h:bo H L) (i:Nat) {n k sz b c:Nat} {xs:List (List V)} {es:List (V × V × Nat)} (hi:L[i]?=some (.sl n 0 k sz,sz,xs)) (a:H b=.map es c):n≠b:=by
 rintro rfl
 exact h.Ft a _ (VF hi) rfl
theorem ax.CW {P:Program} {f:FuncId} {vs:List V} {H:View} {K:V->View->Prop} {w:cL (H,K)} {sz:Nat} {es:List (List V)} (b:aw P f vs H λr H'=>aO H' r sz es/\bZ H H' r) (hk:∀ r H',aO H' r sz es->bZ H H' r->K r H'):ax P true f vs H K w:=by
 unfold ax
 simp only[if_true]
 exact(b.mono λr H' h=>⟨λid a=>(h.2 id a).1,hk r H' h.1 h.2⟩).LP
def xX:SC :=
 af [ae [aS 20 .lss 19 18],bO 20 (.exit 0),.block 1 (af [ae [aa 21 19,aa 3 21],ae [aa 22 0,aa 23 3,((some 24),.op (.iv (.tmp 22) (.tmp 23))),bf 25 224 [24],c5 26 25],aZ 26 (af [ae [bm 2 false],.ret])]),ae [aF 27 .add 19 1,aa 19 27]]
def B3:SF:=⟨af [ae [bm 2 false],af [.region false [⟨none,[aa 4 0,((some 5),.op (.xl .eql (.tmp 4) (.val (.val (.string ⟨#[]⟩))))),aa 6 5]⟩,⟨(some (6,false)),[aa 7 0,((some 8),.op (.pM (.tmp 7))),aF 9 .gtr 8 20]⟩,⟨none,[cx 10 6 9,aa 11 10]⟩,⟨(some (11,false)),[aa 12 0,((some 13),.op (.iv (.tmp 12) (.val (.val (.int .i64 0))))),bf 14 223 [13],c5 15 14]⟩,⟨none,[cx 16 11 15]⟩],aZ 16 (af [ae [bm 2 false],.ret])],af [ae [aa 17 0,((some 18),.op (.pM (.tmp 17))),aP 19 0],bR 0 xX],ae [bm 2 true],.ret],
 [.tmp 2],28⟩
theorem Fl:aM Tryz.prog 158 []=some B3:=by kernel_rfl
def xB:SF:=⟨af [ae [aP 2 0,aP 3 0],ae [aP 4 2],.block 0 (af [ae [aa 6 0,aN 7 6,aF 8 .lss 7 2,aa 5 8],.cond (.tmp 5) (af [ae [aP 2 0,aP 3 4],.ret]) (af [ae [aa 10 0,((some 11),.op (.idx 1 (.tmp 10) (.val (.val (.int .i64 1))))),al 12 11,bf 13 296 [12],aa 9 13],bO 9 (af [ae [aa 15 0,((some 16),.op (.idx 1 (.tmp 15) (.val (.val (.int .i64 1))))),al 17 16,((some 18),.op (.arith .neq (.tmp 17) (.val (.val (.int .u8 92))))),aa 14 18],.cond (.tmp 14) (af [ae [aP 2 0,aP 3 3],.ret]) (af [ae [aa 20 0,aN 21 20,aF 22 .lss 21 3,aa 19 22],.cond (.tmp 19) (af [ae [aP 2 0,aP 3 4],.ret]) (af [ae [aa 24 0,((some 25),.op (.idx 1 (.tmp 24) (.val (.val (.int .i64 2))))),al 26 25,bf 27 297 [26],c5 28 27,aa 23 28],.cond (.tmp 23) (af [ae [aP 2 0,aP 3 3],.ret]) (ae [aP 4 3])])])])])]),af [ae [aa 29 0,aN 30 29,aa 31 4,aS 32 .leq 30 31],aZ 32 (af [ae [aP 2 0,aP 3 4],.ret])],af [ae [aa 33 0,aa 34 4,aL 35 1 33 34,al 36 35,((some 37),.op (.arith .neq (.tmp 36) (.val (.val (.int .u8 39)))))],aZ 37 (af [ae [aP 2 0,aP 3 3],.ret])],ae [aa 38 4,aF 39 .add 38 1,aa 2 39,aP 3 0],.ret],
 [.tmp 2,.tmp 3],40⟩
theorem Av:aM Tryz.prog 287 []=some xB:=by kernel_rfl
def rz:SF:=⟨af [ae [bm 2 false],af [.region false [⟨none,[aa 5 0,((some 6),.op (.xl .eql (.tmp 5) (.val (.val (.string ⟨#[]⟩))))),aa 7 6]⟩,⟨(some (7,false)),[aa 8 0,((some 9),.op (.iv (.tmp 8) (.val (.val (.int .i64 0))))),((some 10),.op (.arith .neq (.tmp 9) (.val (.val (.int .u8 39)))))]⟩,⟨none,[cx 11 7 10]⟩],aZ 11 (af [ae [bm 2 false],.ret])],ae [aa 13 0,((some 14),.op (.gg (.tmp 13))),bf 15 287 [14],aa 12 15,dJ 16 0 12,dJ 17 1 12,aa 3 16,aa 4 17],.region false [⟨none,[aa 18 4,aF 19 .eql 18 0,aa 20 19]⟩,⟨(some (20,true)),[aa 21 3,aa 22 0,((some 23),.op (.pM (.tmp 22))),aS 24 .eql 21 23]⟩,⟨none,[eV 25 20 24,aa 2 25]⟩],.ret],
 [.tmp 2],26⟩
theorem AE:aM Tryz.prog 267 [14]=some rz:=by kernel_rfl
def zO:SF:=⟨af [ae [bm 2 false],.region false [⟨none,[aa 3 0,bf 4 158 [3],aa 5 4]⟩,⟨(some (5,false)),[aa 6 0,bf 7 267 [6]]⟩,⟨none,[cx 8 5 7,aa 2 8]⟩],.ret],
 [.tmp 2],9⟩
theorem C3:aM Tryz.prog 217 []=some zO:=by kernel_rfl
def xh:SF:=⟨af [ae [bm 2 false],ae [aa 3 0,bf 4 158 [3],c5 5 4,aa 2 5],.ret],
 [.tmp 2],6⟩
theorem Az:aM Tryz.prog 157 []=some xh:=by kernel_rfl
theorem yo (s:ByteArray):jb s ⟨#[]⟩=decide ((fH s).length=0):=by
 unfold jb
 rw[<-eR]
 have:(s.data.toList == ([]:List UInt8))=decide (s.data.toList.length=0):=by
  cases s.data.toList <;> rfl
 show (s.data.toList == ([]:List UInt8))=_
 rw[this]
 rfl
theorem Qa (s:ByteArray) (H:View):aw Tryz.prog 158 [gs s] H λr _=>r=gb (gN (fH s)):=by
 refine aw.of mixed Fl ?_
 repeat' (first | ((first|apply aj.dec|apply aj.eq|apply aj.ne|apply aj.split)<;>intro)|(simp(disch:=omega)only[↓wr,seval,wq,B3,eR,yo]))
 .rename_i h
  congr 2;simp[gN,h]
 .rename_i h1 h
  congr 2;simp[gN,show ¬ (fH s).length<=20 by omega]
 .rename_i h1 p
  cases e:fH s with
  | nil=>simp[e] at h1
  | cons c l =>
   have f:=λd (g:d∈c :: l)=>D3 (s:=s) (c:=d) (by rw[e];exact g)
   have j:=f c (by simp)
   repeat' (first | ((first|apply aj.dec|apply aj.eq|apply aj.ne|apply aj.split)<;>intro)|(simp(disch:=omega)only[↓wr,seval,wq,e,VV,eR]))
   refine ax.pure (wE tu KM c j.1 j.2) ?_
   repeat' (first | ((first|apply aj.dec|apply aj.eq|apply aj.ne|apply aj.split)<;>intro)|(simp(disch:=omega)only[↓wr,seval,wq,e,VV,eR]))
   .rename_i q
    rw[e] at h1 p
    refine aR.intro (λk T H'=>∃ i:Nat,i+k=(c :: l).length/\((c :: l).take i).all oD=true/\T 0=gs s/\T 18=gi (c :: l).length/\T 19=gi i) (c :: l).length ?_ ?_
    .exact⟨0,by omega,by simp,rfl,rfl,rfl⟩
    .rintro k T H' ⟨i,hk,hi,n,a,b⟩
     simp(disch:=omega)only[↓wr,seval,wq,xX,n,a,b,eR,e]
     apply aj.dec<;>intro t
     .simp only[Vz] at t hk p
      have o:(c :: l)[i]?=some ((c :: l)[i]'(by simp;omega)):=Vq (by simp;omega)
      have hm:(c :: l)[i]'(by simp;omega)∈c :: l:=Vw _
      generalize (c :: l)[i]'(by simp;omega)=d at o hm
      have m:=f d hm
      simp(disch:=omega)only[↓wr,seval,wq,n,a,b,eR,e,o]
      refine ax.pure (wE tu N9 d m.1 m.2) ?_
      repeat' (first | ((first|apply aj.dec|apply aj.eq|apply aj.ne|apply aj.split)<;>intro)|(simp(disch:=omega)only[↓wr,seval,wq,n,a,b,eR,e,o]))
      .rename_i g
       refine⟨k - 1,by omega,i+1,by omega,?_,by first | rfl | exact⟨rfl,rfl⟩⟩
       rw[VP,o]
       simp only[Option.toList_some,Xx,hi,WR,g,List.all_nil,Bool.and_self]
      .rename_i g
       congr 2
       have:(c :: l).all oD=false:=by
        rw[Xo];exact⟨d,hm,by simp[g]⟩
       simp only[gN,this,WV]
     .simp(disch:=omega)only[↓wr,seval,wq,n,a,b]
      simp only[Vz] at t hk p
      rw[VG (by simp;omega)] at hi
      congr 2
      simp only[gN,hi,Vz]
      simp[q];omega
   .rename_i q
    congr 2;simp[gN,q]
theorem Ik (s:ByteArray):aB Tryz.prog 158 [gs s] (gb (gN (fH s))):=aB.val (pV s) (Qa s)
def k7 (l:List Int):Int × Int :=
 if xU (l.getD 1 0)=true then (2,0) else if l.getD 1 0≠92 then (0,3) else if l.length < 3 then (0,4) else if CV (l.getD 2 0)=true then (3,0) else (0,3)
def mR (l:List Int):Int × Int :=
 if l.length < 2 then (0,4) else if (k7 l).2≠0 then (0,(k7 l).2) else if (l.length:Int)<=(k7 l).1 then (0,4) else if l.getD (k7 l).1.toNat 0≠39 then (0,3) else ((k7 l).1+1,0)
theorem Od {l:List Int} {n:Int} (a:k7 l=(n,0)) (b:¬ l.length < 2):mR l=if (l.length:Int)<=n then (0,4) else if l.getD n.toNat 0≠39 then (0,3) else (n+1,0):=by
 rw[mR,Vs b,a];simp
theorem HD {l:List Int} {e:Int} (a:k7 l=(0,e)) (he:e≠0) (b:¬ l.length < 2):mR l=(0,e):=by
 rw[mR,Vs b,a];simp[he]
theorem Lh (l:List Int) (hr:∀ c∈l,0<=c/\c<=255) (H:View):aw Tryz.prog 287 [.aW (l.map λx=>[gy x])] H λr _=>r=.aY [gi (mR l).1,gi (mR l).2]:=by
 refine aw.of mixed Av ?_
 simp(disch:=omega)only[↓wr,seval,wq,xB]
 apply aj.dec<;>intro h
 .simp(disch:=omega)only[↓wr,seval,wq]
  rw[mR,Vu (by omega)]
 .have h1:l[1]?=some (l[1]'(by omega)):=Vq (by omega)
  have g1:l.getD 1 0=l[1]'(by omega):=by simp[Vp,h1]
  have m1:l[1]'(by omega)∈l:=Vw _
  generalize l[1]'(by omega)=b at h1 g1 m1
  have o:=hr b m1
  simp(disch:=omega)only[↓wr,seval,wq,Vt,h1]
  refine ax.pure (wE tu Oj b o.1 o.2) ?_
  simp(disch:=omega)only[↓wr,seval,wq]
  apply aj.split<;>intro hp
  .have p:k7 l=(2,0):=by rw[k7,Vu (by rw[g1];exact hp)]
   simp(disch:=omega)only[↓wr,seval,wq]
   have a:=Od p (by omega)
   apply aj.dec<;>intro m
   .simp(disch:=omega)only[↓wr,seval,wq]
    rw[a,Vu (by omega)]
   .rw[Vs (by omega)] at a
    have g:l[2]?=some (l[2]'(by omega)):=Vq (by omega)
    have g2:l.getD (2:Int).toNat 0=l[2]'(by omega):=by simp[Vp,g]
    generalize l[2]'(by omega)=c at g g2
    rw[g2] at a
    simp(disch:=omega)only[↓wr,seval,wq,Vt,g]
    apply aj.ne<;>intro i
    .simp(disch:=omega)only[↓wr,seval,wq]
     rw[a,Vu i]
    .simp(disch:=omega)only[↓wr,↓reduceIte,wq,Nat.reduceEqDiff,Nat.reduceAdd,Nat.reduceLT,Nat.reduceLeDiff,Int.reduceNeg,Int.reduceToNat,reduceCtorEq]
     rw[a,Vs (λq=>q i)]
  .simp(disch:=omega)only[↓wr,seval,wq,Vt,h1]
   apply aj.ne<;>intro k
   .simp(disch:=omega)only[↓wr,seval,wq]
    rw[HD (e:=3) (by rw[k7,Vs (by rw[g1,hp];simp),Vu (by rw[g1];exact k)]) (by simp) (by omega)]
   .simp(disch:=omega)only[↓wr,seval,wq]
    apply aj.dec<;>intro s
    .simp(disch:=omega)only[↓wr,seval,wq]
     rw[HD (e:=4) (by rw[k7,Vs (by rw[g1,hp];simp),Vs (by rw[g1];exact λq=>q k),Vu (by omega)]) (by simp) (by omega)]
    .have g:l[2]?=some (l[2]'(by omega)):=Vq (by omega)
     have g2:l.getD 2 0=l[2]'(by omega):=by simp[Vp,g]
     have m2:l[2]'(by omega)∈l:=Vw _
     generalize l[2]'(by omega)=c at g g2 m2
     have j:=hr c m2
     have f:k7 l=if CV c=true then (3,0) else (0,3):=by rw[k7,Vs (by rw[g1,hp];simp),Vs (by rw[g1];exact λq=>q k),Vs (by omega),g2]
     simp(disch:=omega)only[↓wr,seval,wq,Vt,g]
     refine ax.pure (wE tu RC c j.1 j.2) ?_
     simp(disch:=omega)only[↓wr,seval,wq]
     apply aj.split<;>intro he
     .rw[Vu he] at f
      have a:=Od f (by omega)
      simp(disch:=omega)only[↓wr,seval,wq]
      apply aj.dec<;>intro m
      .simp(disch:=omega)only[↓wr,seval,wq]
       rw[a,Vu (by omega)]
      .rw[Vs (by omega)] at a
       have n:l[3]?=some (l[3]'(by omega)):=Vq (by omega)
       have g3:l.getD (3:Int).toNat 0=l[3]'(by omega):=by simp[Vp,n]
       generalize l[3]'(by omega)=d at n g3
       rw[g3] at a
       simp(disch:=omega)only[↓wr,seval,wq,Vt,n]
       apply aj.ne<;>intro i
       .simp(disch:=omega)only[↓wr,seval,wq]
        rw[a,Vu i]
       .simp(disch:=omega)only[↓wr,↓reduceIte,wq,Nat.reduceEqDiff,Nat.reduceAdd,Nat.reduceLT,Nat.reduceLeDiff,Int.reduceNeg,Int.reduceToNat,reduceCtorEq]
        rw[a,Vs (λq=>q i)]
     .rw[Vs (by rw[he];simp)] at f
      simp(disch:=omega)only[↓wr,seval,wq]
      rw[HD f (by simp) (by omega)]
end Gv
