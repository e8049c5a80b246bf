/-
  Part 7 of the proof: what the machine does and what the functions answer.
  Conditions: those that each lemma names.
-/
import Derived.Test.YtiophifnkakjgaaGreatSGzC2F
set_option linter.unusedSimpArgs false
set_option linter.unusedVariables false
set_option maxRecDepth 100000
set_option maxHeartbeats 20000000
namespace Gv
open Go Go.Proofs
section
variable {P:Program} {n:Nat} {all:List Oper}
def fI (h:aw) (e:ES):Prop:=e.V=h.view/\e.n=h.length
def Calm (e e':ES) (h h':aw):Prop:=h.length<=h'.length/\(∀ id,id < h.length->¬ id∈e'.w->h'.view id=h.view id/\¬ id∈e.w)
theorem Calm.trans {a b c:ES} {h1 e f:aw} (x:Calm a b h1 e) (y:Calm b c e f):Calm a c h1 f :=
 ⟨Pp x.1 y.1,λid d hw =>
  let ⟨g,d1⟩:=y.2 id (O0 d x.1) hw
  let ⟨h,d2⟩:=x.2 id d d1
  ⟨g.trans h,d2⟩⟩
theorem Calm.refl (e:ES) (h:aw):Calm e e h h:=⟨OR _,λ_ _ hw=>⟨rfl,hw⟩⟩
def ir (P:Program) (call:fi):Prop:=∀ g vs e v e' h,call g vs e=some (v,e')->fI h e ->
 bX P g=true/\∃ h',bu P g vs h v h'/\fI h' e'/\(∀ id,id < h.length->¬ id∈e'.w->h'.view id=h.view id)/\∀ id,id∈e'.w->id < h.length
def r5 (P:Program) (run:tF):Prop:=∀ (n:Nat) (fz:List Nat) (c:Code) (sc:DC),fV P n fz c=some sc->n<=8000->∀ (e e':ES) (r:Exit) (h:aw),run sc e=some (r,e')->fI h e ->
 ∃ h',bK P n c e.T h r e'.T h'/\fI h' e'/\Calm e e' h h'/\∀ c0,c=.loop c0->mC P n c0 e.T h r e'.T h'
theorem HL {h:aw} {e:ES} {d:Option Nat} {v:V} (he:fI h e):fI h (e.put d v):=by cases d <;> exact he
theorem Lj {e:ES} {d:Option Nat} {v:V} : (e.put d v).w=e.w:=by cases d <;> rfl
theorem KM {h:aw} {e e':ES} {b:aw} {d:Option Nat} {v:V} (x:Calm e e' h b):Calm e (e'.put d v) h b:=⟨x.1,λid a hw=>x.2 id a (by rw[Lj] at hw;exact hw)⟩
theorem xN {a:Nat} (h:Nat.ble a 8000=true):a+1 < 2 ^ 13:=by
 have:=Nat.le_of_ble_eq_true h
 omega
theorem Lw {h:aw} {e e':ES} {v i:V} {au:aM} {rd:List Nat} {c:Rec} (he:fI h e) (a:BA v au rd e=some (i,e',c)) :
  i=v/\e'.T=e.T/\e'.V=au.view h.view h.length/\e'.n=(au.apply h).length/\c=⟨rd,au.wr,false,h.length,(au.apply h).length⟩/\e'.w=au.wr ++ e.w:=by
 obtain⟨h1,b⟩:=he
 unfold BA at a
 cases au with
 | none =>
  simp only[OJ,OL] at a
  obtain⟨rfl,rfl,rfl⟩:=a
  exact⟨rfl,rfl,h1,b,by rw[b];rfl,rfl⟩
 | new o =>
  simp only at a
  split at a
  .rename_i d
   simp only[OJ,OL] at a
   obtain⟨rfl,rfl,rfl⟩:=a
   refine⟨rfl,rfl,?_,by simp[eE,b],by simp[eE,b,aM.wr],rfl⟩
   funext k
   simp only[ES.V,aM.view,View.set]
   rw[bt.kz _ _ _ _ _ _ (xN d),b]
   have:=congrFun h1 k
   simp only[ES.V] at this
   rw[this]
  .simp at a
 | dP id o =>
  simp only at a
  split at a
  .rename_i d
   simp only[OJ,OL] at a
   obtain⟨rfl,rfl,rfl⟩:=a
   refine⟨rfl,rfl,?_,by simp[eE,b],by simp[eE,b,aM.wr],rfl⟩
   funext k
   simp only[ES.V,aM.view,View.set]
   rw[bt.kz _ _ _ _ _ _ (xN d)]
   have:=congrFun h1 k
   simp only[ES.V] at this
   rw[this]
  .simp at a
 | cF id o =>
  simp only at a
  split at a
  .rename_i f g
   simp only[OJ,OL] at a
   obtain⟨rfl,rfl,rfl⟩:=a
   refine⟨rfl,rfl,?_,by simp[eE,b],by simp[eE,b,aM.wr],rfl⟩
   funext k
   simp only[ES.V,aM.view,View.set]
   rw[bt.kz _ _ _ _ _ _ (xN f),bt.kz _ _ _ _ _ _ (xN g),b]
   have:=congrFun h1 k
   simp only[ES.V] at this
   rw[this]
  .simp at a
theorem M4 {o:Oper} {e e':ES} {h:aw} {s:SI} {v:V} {c:Rec} (i:bT n all e.T o=some true) (j:∀ v au rd,sI P s e.T h.view h.length=some (v,au,rd)->bo P o e.T h.view h.length=some (v,au,rd))
  (he:fI h e) (b:Ja P s e=some (v,e',c)):∃ d,ct P n all o e.T h v d c.rd c.wr c.call/\fI d e'/\e'.T=e.T/\Calm e e' h d/\iw (qg P s) c.rd c.wr c.call h.length d.length/\c.lo=h.length/\c.hi=d.length:=by
 unfold Ja at b
 rw[F7,he.1,he.2] at b
 split at b
 .rename_i v0 au rd f
  obtain⟨rfl,g1,g2,g3,rfl,g5⟩:=Lw he b
  have g:=j _ _ _ f
  have st:=ct.op (P:=P) (n:=n) (all:=all) i g
  refine⟨au.apply h,st,⟨?_,g3⟩,g1,⟨qm st,λid a hw=>?_⟩,⟨λk=>?_,λh1=>?_⟩,rfl,rfl⟩
  .rw[iG (λid a=>(j0 g id a).1)];exact g2
  .rw[g5] at hw
   simp only[Pg,not_or] at hw
   exact⟨oN st a hw.1,hw.2⟩
  .obtain⟨rfl,rfl⟩:=(oW f).1 k
   exact⟨rfl,rfl,rfl,rfl⟩
  .rcases Pn (qg P s) 1 with l | l
   .obtain⟨rfl,rfl⟩:=(oW f).1 (by omega);rfl
   .exact(oW f).2 (by omega)
 .simp at b
theorem Nu {call:fi} (j:ir P call) {q:Fz} {o:Oper} {e e':ES} {h:aw} {v:V} {c:Rec} (r:bT n all e.T o=some true) (he:fI h e) (a:eB P call (jQ P q o) e=some (v,e',c)) :
  ∃ k,ct P n all o e.T h v k c.rd c.wr c.call/\fI k e'/\e'.T=e.T/\Calm e e' h k/\iw (fK P false (jQ P q o)) c.rd c.wr c.call h.length k.length/\c.lo=h.length/\c.hi=k.length:=by
 rcases vO P q o with ⟨f,args,C,m,i | i⟩ | ⟨t,x,m,i⟩ | ⟨s,d,x,m,u,i⟩ | i
 rotate_left
 .rw[i] at a
  simp[eB] at a
 rotate_right
 .rw[i] at a ⊢
  simp only[eB,HA] at a
  split at a
  .rename_i g first cap A
   rw[xC] at a
   rw[SX.bB] at A
   split at a
   .rename_i v0 G D
    obtain⟨l,k,hr,p,B,w⟩:=j _ _ _ _ _ _ D he
    simp only[OJ,OL] at a
    obtain⟨rfl,rfl,rfl⟩:=a
    exact⟨k,.call r m A l hr B w,p,rfl,⟨hr.1,λid y hw=>by
     simp only[Pg,not_or] at hw
     exact⟨B id y hw.1,hw.2⟩⟩,K4 (by simp[fK]),he.2,p.2⟩
   .simp at a
  .simp at a
 .rw[i] at a ⊢
  simp only[eB,Ja,F7,sI,SX.bB] at a
  split at a
  .rename_i v0 au rd b
   split at b
   .rename_i l
    simp only[OJ,OL] at b
    obtain⟨rfl,rfl,rfl⟩:=b
    simp only[BA,OJ,OL] at a
    obtain⟨rfl,rfl,rfl⟩:=a
    exact⟨h,.gg r m l,he,rfl,Calm.refl _ _,⟨λ_=>⟨rfl,rfl,rfl,rfl⟩,λ_=>rfl⟩,he.2,he.2⟩
   .simp at b
  .simp at a
 .rw[i] at a ⊢
  obtain⟨ty,h1,E,F⟩:=vE u
  simp only[eB,Ja,F7,sI,SX.bB] at a
  split at a
  .rename_i v0 au rd b
   split at b
   .rename_i st z
    simp only[OJ,OL] at b
    obtain⟨rfl,rfl,rfl⟩:=b
    simp only[BA,OJ,OL] at a
    obtain⟨rfl,rfl,rfl⟩:=a
    exact⟨h,.ej r m h1 E F z,he,rfl,Calm.refl _ _,⟨λ_=>⟨rfl,rfl,rfl,rfl⟩,λ_=>rfl⟩,he.2,he.2⟩
   .simp at b
  .simp at a
 .rw[i] at a ⊢
  exact M4 (s:=uM P q.fr (comp P o)) r (λv au rd b=>Ee (D8 b)) he a
theorem MC {o:Oper} (a:oH n o=true) (b:n<=8000):∀ t,o.dst=some t->t < 8000:=by
 intro t c
 unfold oH at a
 rw[c] at a
 have:t < n:=by simpa using a
 exact O0 this b
theorem Mg {c:Rec} {a b:Nat} (h1:c.lo=a) (d:c.hi=b):c=⟨c.rd,c.wr,c.call,a,b⟩:=by cases c;subst h1;subst d;rfl
theorem Cs {call:fi} (i:ir P call) (N:n<=8000) {S:Fz} (g:Option (Nat × Bool)):∀ (l:List (Option Nat × SB)) (os:List Oper) (e e':ES) (h:aw) (a u:List Rec),
  b6 P n all S os=some (l.map λ(d,b)=>⟨d,g,b⟩)->(∀ d w,g=some (d,w)->e.T d=.val (.bool w)/\(l.all λx=>x.1 != some d)=true)->fI h e->EJ P call l a e=some (e',u) ->
  ∃ f z,u=a ++ f/\Tr P n all os e.T h f e'.T z/\fI z e'/\Calm e e' h z/\ed P false (l.map λ(d,b)=>⟨d,g,b⟩) f
 | [],os,e,e',h,a,u,A,B,he,k=>by
  have:=iU A;subst this
  simp only[EJ,OJ,OL] at k;obtain⟨rfl,rfl⟩:=k
  exact⟨[],h,by simp,.nil,he,Calm.refl _ _,.nil⟩
 | (d,b) :: l,os,e,e',h,a,u,A,B,he,k=>by
  obtain⟨o,r,rfl,h1,U⟩:=jq A
  obtain⟨O,j,q,s⟩:=qb h1
  simp only at j q s
  have C:bT n all e.T o=some true:=by
   cases g with
   | none=>exact xW s
   | some p =>
    obtain⟨D,w⟩:=p
    have:=(iS (T:=e.T) s).1 w (B D w rfl).1
    rw[this];simp
  simp only[EJ] at k
  rw[q] at k
  split at k
  .rename_i v Q c V
   obtain⟨E,st,F,G,H,W,I,J⟩:=Nu i C he V
   have m:(Q.put d v).T=e.T.put o.dst v:=by
    rw[ES.Li (by rw[j];exact MC O N),G,j]
   obtain⟨f,K,X,R,L,y,M⟩:=Cs i N g l r (Q.put d v) e' E _ u U (λD w eq=>by
    have:=B D w eq
    simp only[PH,OO,QD,ne_eq] at this
    refine⟨?_,this.2.2⟩
    rw[<-this.1,m,<-j]
    cases d with
    | none=>rfl
    | some t=>simp only[Env.put];rw[OK];intro e;subst e;exact this.2.1 rfl) (HL F) k
   rw[m] at R
   refine⟨_,K,?_,.cons st O R,L,(KM H).trans y,M.cons (by rw[q];exact W)⟩
   rw[X,PR,<-Mg I J];rfl
  .simp at k
theorem Co {E:Fz} (C:n<=8000) (d:Nat) (w:Bool) (h:aw):∀ (l:List (Option Nat × SB)) (os:List Oper) (e e':ES) (a m:List Rec),
  b6 P n all E os=some (l.map λ(g,b)=>⟨g,some (d,w),b⟩)->(e.T d=.val (.bool !w)∨e.T d=.aU [])->(l.all λx=>x.1 != some d)=true->fI h e->r9 l a e=(e',m) ->
  ∃ c,m=a ++ c/\Tr P n all os e.T h c e'.T h/\fI h e'/\e'.w=e.w/\ed P false (l.map λ(g,b)=>⟨g,some (d,w),b⟩) c
 | [],os,e,e',a,m,u,j,s,he,p=>by
  have:=iU u;subst this
  simp only[r9,OL] at p;obtain⟨rfl,rfl⟩:=p
  exact⟨[],by simp,.nil,he,rfl,.nil⟩
 | (g,b) :: l,os,e,e',a,m,u,j,s,he,p=>by
  obtain⟨o,r,rfl,h1,F⟩:=jq u
  obtain⟨q,f,v,k⟩:=qb h1
  simp only at f v k
  have y:bT n all e.T o=some false:=by
   rcases j with j | j
   .rw[(iS (T:=e.T) k).1 _ j];cases w <;> rfl
   .exact(iS (T:=e.T) k).2 j
  simp only[PH,OO,QD,ne_eq] at s
  have i:(e.put g (.aU [])).T=e.T.put o.dst (.aU []):=by
   rw[ES.Li (by rw[f];exact MC q C),f]
  simp only[r9] at p
  obtain⟨c,G,D,z,A,B⟩:=Co C d w h l r (e.put g (.aU [])) e' _ m F (by
   have:(e.put g (.aU [])).T d=e.T d:=by
    rw[i,<-f]
    cases g with
    | none=>rfl
    | some t=>simp only[Env.put];rw[OK];intro e;subst e;exact s.1 rfl
   rw[this];exact j) s.2 (HL he) p
  rw[i] at D
  refine⟨_,?_,Tr.cons (.skip y) q D,z,by rw[A,Lj],B.cons (r:=⟨[],[],false,h.length,h.length⟩) ⟨λ_=>⟨rfl,rfl,rfl,rfl⟩,λ_=>rfl⟩⟩
  rw[G,PR,Ll,he.2];rfl
theorem zP {j:Fz} (k:n<=8000) {d:Nat} {w:Bool} {h:aw} {l:List (Option Nat × SB)} {os:List Oper} {e e':ES} {a f:List Rec}
  (m:b6 P n all j os=some (l.map λ(g,b)=>⟨g,some (d,w),b⟩)) (o:e.T d=.val (.bool !w)∨e.T d=.aU []) (p:(l.all λx=>x.1 != some d)=true) (he:fI h e) (q:r9 l a e=(e',f)) :
  ∃ c i,f=a ++ c/\Tr P n all os e.T h c e'.T i/\fI i e'/\Calm e e' h i/\ed P false (l.map λ(g,b)=>⟨g,some (d,w),b⟩) c:=by
 obtain⟨c,h1,r,s,t,u⟩:=Co k d w h l os e e' a f m o p he q
 exact⟨c,h,h1,r,s,⟨OR _,λid _ hw=>⟨rfl,by rw[t] at hw;exact hw⟩⟩,u⟩
theorem M9 {call:fi} (i:ir P call) (m:n<=8000) {s:Fz} {g:SG} {os:List Oper} {e e':ES} {h:aw} {a o:List Rec} (k:b6 P n all s os=some g.flat) (c:pU g=true) (he:fI h e) (f:eG P call g a e=some (e',o)) :
  ∃ j q,o=a ++ j/\Tr P n all os e.T h j e'.T q/\fI q e'/\Calm e e' h q/\ed P false g.flat j:=by
 unfold eG at f
 unfold SG.flat at k ⊢
 unfold pU at c
 split at f
 .rename_i r
  rw[r] at k ⊢
  exact Cs i m none g.ops os e e' h a o k (λd w e=>by simp at e) he f
 .rename_i d want r
  rw[r] at k c ⊢
  simp only at c
  unfold GV at f
  split at f
  .rename_i b p
   split at f
   .rename_i l
    simp only[OJ] at f
    have e':b = !want:=by cases b <;> cases want <;> simp_all
    subst e'
    exact zP m k (.inl p) c he f
   .rename_i l
    have e':b=want:=by cases b <;> cases want <;> simp_all
    subst e'
    exact Cs i m (some (d,b)) g.ops os e _ h a o k (λt w e=>by simp at e;obtain⟨rfl,rfl⟩:=e;exact⟨p,c⟩) he f
  .rename_i p
   simp only[OJ] at f
   exact zP m k (.inr p) c he f
  .simp at f
theorem H7 {call:fi} (b:ir P call) (z:n<=8000) {A:Fz} : ∀ (gs:List SG) (os:List Oper) (e e':ES) (h:aw) (a i:List Rec),b6 P n all A os=some (hD gs)->gs.all pU=true->fI h e->HY P call gs a e=some (e',i) ->
  ∃ c k,i=a ++ c/\Tr P n all os e.T h c e'.T k/\fI k e'/\Calm e e' h k/\ed P false (hD gs) c
 | [],os,e,e',h,a,i,j,_,he,d=>by
  have:=iU j;subst this
  simp only[HY,OJ,OL] at d;obtain⟨rfl,rfl⟩:=d
  exact⟨[],h,by simp,.nil,he,Calm.refl _ _,.nil⟩
 | g :: gs,os,e,e',h,a,i,j,f,he,d=>by
  simp only[hD,Pa,List.flatten_cons] at j ⊢
  simp only[PH,OO] at f
  obtain⟨F,B,rfl,h1,C⟩:=nP j
  simp only[HY] at d
  split at d
  .rename_i D E l
   obtain⟨G,m,o,p,q,r,s⟩:=M9 b z h1 f.1 he l
   obtain⟨H,t,u,v,w,x,y⟩:=H7 b z gs B D e' m E i C f.2 q d
   exact⟨_,t,by rw[u,o,PR],p.append v,w,r.trans x,s.append y⟩
  .simp at d
theorem Ip {ls:List Nat} {i k x y:Nat} (a:i < k) (b:ls[i]?=some x) (c:ls[k]?=some y) (d:ordered (dN all []) i k=false) (h:¬ (x=0∨y=0∨(x<=1/\y<=1))):(i,k)∈xz all ls:=by
 unfold xz
 simp only[List.mem_flatten,O9]
 refine⟨_,⟨(x,i),by rw[Py];exact b,rfl⟩,?_⟩
 simp only[O9,PC]
 refine⟨(y,k),⟨by rw[Py];exact c,?_⟩,rfl⟩
 simp only[a,decide_true,d,Qn,Pz,Qz,Bool.or_eq_false_iff,beq_eq_false_iff_ne,Bool.and_eq_false_iff,Qt]
 omega
theorem KR {ls:List Nat} {d:List Rec} (h:I9 d (xz all ls)=true) (v:ls.length=d.length) (hr:∀ (i x:Nat) (r:Rec),ls[i]?=some x->d[i]?=some r->iw x r.rd r.wr r.call r.lo r.hi):qM all d:=by
 intro i k a b l m n t
 have hi:i < d.length:=(OV.1 m).1
 have hk:k < d.length:=(OV.1 n).1
 have j:ls[i]?=some (ls[i]'(by omega)):=OI (by omega)
 have o:ls[k]?=some (ls[k]'(by omega)):=OI (by omega)
 generalize ls[i]'(by omega)=x at j
 generalize ls[k]'(by omega)=y at o
 have q:=hr i _ a j m
 have s:=hr k _ b o n
 by_cases f:x=0∨y=0∨(x<=1/\y<=1)
 .rcases f with h1 | h1 | h1
  .obtain⟨g,e,p,u⟩:=q.1 h1
   exact⟨λid c=>by simp[e] at c,λid _=>by simp[g],λf=>by simp[p] at f,λ_=>e,λid _ j=>by omega⟩
  .obtain⟨g,e,p,u⟩:=s.1 h1
   exact⟨λid _=>by simp[g],λid c=>by simp[e] at c,λ_=>e,λf=>by simp[p] at f,λid c=>by simp[e] at c⟩
  .have g:=q.2 h1.1
   have e:=s.2 h1.2
   exact⟨λid c=>by simp[g] at c,λid c=>by simp[e] at c,λ_=>e,λ_=>g,λid c=>by simp[e] at c⟩
 .have:=O7.1 h _ (Ip l j o t f)
  simp only[m,n] at this
  exact HP this
theorem Mm (hm:P.follows .mixedOrders=true) {call:fi} (g:ir P call) (D:n<=8000) {y:List Nat} {id:Nat} {ops:Array Oper} {draw:Bool} {z:DC} {run:tF} {e e':ES} {r:Exit} {h:aw}
  (c:CW P n y ops.toList draw=some z) (he:fI h e) (a:jI P call run z e=some (r,e')) :
  ∃ f,bK P n (.region id ops draw) e.T h r e'.T f/\fI f e'/\Calm e e' h f:=by
 unfold CW at c
 split at c
 .simp at c
 .rename_i l E
  split at c
  .simp at c
  .rename_i j
   have j:(group l).all pU=true:=by simpa using j
   have p:b6 P n ops.toList ⟨y,false⟩ ops.toList=some (hD (group l)):=by rw[eo];exact E
   have key:∀ q,jI P call run (.region q (group l)) e=some (r,e')->(draw=true->jo ops.toList=true/\q=xz ops.toList (l.map λs=>fK P false s.b)) ->
     ∃ f,bK P n (.region id ops draw) e.T h r e'.T f/\fI f e'/\Calm e e' h f:=by
    intro q a t
    simp only[jI,E0] at a
    split at a
    .rename_i F d u
     split at a
     .rename_i m
      simp only[OJ,OL] at a
      obtain⟨rfl,rfl⟩:=a
      obtain⟨A,f,B,C,hk,v,k⟩:=H7 g D (group l) ops.toList e F h [] d p j he u
      simp only[PK] at B
      subst B
      rw[eo] at k
      refine⟨f,?_,hk,v⟩
      cases o:draw with
      | false=>simpa using Bk (id:=id) C
      | true =>
       obtain⟨h1,rfl⟩:=t o
       have w:qM ops.toList d:=KR m (by simpa using k.1) (λi x r a hr=>by
        simp only[ON,OQ] at a
        obtain⟨s,G,rfl⟩:=a
        exact k.2 i s r G hr)
       simpa using uh hm (id:=id) C h1 w
     .simp at a
    .simp at a
   split at c
   .rename_i o
    split at c
    .rename_i H
     simp at c;subst c
     exact key _ a (λ_=>⟨H,rfl⟩)
    .simp at c
   .rename_i o
    simp at c;subst c
    exact key _ a (λe=>absurd e o)
theorem Kh (hm:P.follows .mixedOrders=true) {call:fi} (q:ir P call) {run:tF} (f:r5 P run):r5 P (jI P call run):=by
 intro n p c J k o e e' r h g he
 cases c with
 | skip =>
  simp[fV] at k;subst k
  simp only[jI,Hm,OJ,OL] at g
  obtain⟨rfl,rfl⟩:=g
  exact⟨h,.skip,he,Calm.refl _ _,λ_ h=>by simp at h⟩
 | region id ops draw =>
  obtain⟨G,a,b,d⟩:=Mm (id:=id) hm q o k he g
  exact⟨G,a,b,d,λ_ h=>by simp at h⟩
 | seq x y =>
  simp only[fV] at k
  split at k
  .rename_i a b h1 B
   simp at k;subst k
   simp only[jI,MW] at g
   split at g
   .rename_i s m
    obtain⟨i,l,j,c1,w⟩:=f n p x a h1 o e s .normal h m he
    obtain⟨t,E,u,c2,F⟩:=f n p y b B o s e' r i g j
    exact⟨t,l.seq E,u,c1.trans c2,λ_ h=>by simp at h⟩
   .rename_i v
    obtain⟨i,l,j,c1,w⟩:=f n p x a h1 o e e' r h g he
    refine⟨i,l.D3 (λe=>?_),j,c1,λ_ h=>by simp at h⟩
    subst e
    exact absurd g (v e')
  .simp at k
 | cond K x y =>
  simp only[fV] at k
  split at k
  .rename_i a b h1 B
   simp at k;subst k
   simp only[jI,Lh,SX.bB] at g
   split at g
   .rename_i C
    obtain⟨i,l,j,c1,w⟩:=f n p x a h1 o e e' r h g he
    exact⟨i,.cond C l,j,c1,λ_ h=>by simp at h⟩
   .rename_i C
    obtain⟨i,l,j,c1,w⟩:=f n p y b B o e e' r h g he
    exact⟨i,.cond C l,j,c1,λ_ h=>by simp at h⟩
   .simp at g
  .simp at k
 | block id c =>
  simp only[fV,OQ] at k
  obtain⟨a,h1,rfl⟩:=k
  simp only[jI,IM] at g
  split at g
  .rename_i H s m
   simp only[OJ,OL] at g
   obtain⟨rfl,rfl⟩:=g
   obtain⟨i,l,j,c1,w⟩:=f n p c a h1 o e s H h m he
   exact⟨i,l.block,j,c1,λ_ h=>by simp at h⟩
  .simp at g
 | loop c =>
  have D:=k
  simp only[fV,OQ] at k
  obtain⟨a,h1,rfl⟩:=k
  simp only[jI,Ln] at g
  split at g
  .rename_i s m
   obtain⟨i,l,j,c1,w⟩:=f n p c a h1 o e s .normal h m he
   obtain⟨t,E,u,c2,F⟩:=f n p (.loop c) (.loop a) D o s e' r i g j
   have z:=mC.step l (F c rfl)
   exact⟨t,.loop z,u,c1.trans c2,λI A=>by simp only[Code.loop.injEq] at A;subst A;exact z⟩
  .rename_i v
   obtain⟨i,l,j,c1,w⟩:=f n p c a h1 o e e' r h g he
   have z:=mC.out l (λe=>by subst e;exact absurd g (v e'))
   exact⟨i,.loop z,j,c1,λI A=>by simp only[Code.loop.injEq] at A;subst A;exact z⟩
 | exit id =>
  simp[fV] at k;subst k
  simp only[jI,OJ,OL] at g
  obtain⟨rfl,rfl⟩:=g
  exact⟨h,.exit,he,Calm.refl _ _,λ_ h=>by simp at h⟩
 | ret =>
  simp[fV] at k;subst k
  simp only[jI,OJ,OL] at g
  obtain⟨rfl,rfl⟩:=g
  exact⟨h,.ret,he,Calm.refl _ _,λ_ h=>by simp at h⟩
 | _=>simp[fV] at k
theorem zp:∀ (vs:List V) (i:Nat) (t:bt V),i+vs.length<=8000->∀ k,(ke vs i t).get .any k=if i<=k/\k < i+vs.length then vs.getD (k - i) .any else t.get .any k
 | [],i,t,h,k=>by
  rw[ke,OK (by simp only[Pc];omega)]
 | v :: vs,i,t,h,k=>by
  simp only[OY] at h
  rw[ke,zp vs (i+1) _ (by omega),bt.kz _ _ _ _ _ _ (by simp only[deep];omega)]
  simp only[OY]
  by_cases h1:k=i
  .subst h1;rw[OK (by omega),OM rfl,OM (by omega)];simp
  .by_cases a:i+1<=k/\k < i+1+vs.length
   .rw[OM a,OM (by omega)]
    have:k - i=(k - (i+1))+1:=by omega
    rw[this];rfl
   .rw[OK a,OK h1,OK (by omega)]
theorem Da (vs:List V) (h:vs.length<=8000):(ke vs 0 .nil).get .any=iK vs:=by
 funext k
 rw[zp vs 0 .nil (by omega)]
 simp only[iK,PL,true_and,PA,Nat.sub_zero]
 split
 .rfl
 .rename_i hk
  rw[OH,O5 (by omega)];rfl
theorem LP {e:ES} {h:aw} {r:ResultVar} {rest:List ResultVar} {l:List SR} (he:fI h e) (c:dR P (r :: rest)=some l):∃ s d,l=s :: d/\dR P rest=some d/\∀ v,Jy s e=some v->px P e.T h r=some v:=by
 cases r with
 | tmp t =>
  simp only[dR,OQ] at c
  obtain⟨d,h1,rfl⟩:=c
  exact⟨.tmp t,d,rfl,h1,λv b=>b⟩
 | cell a t =>
  simp only[dR] at c
  split at c
  .rename_i k d h1 m
   simp at c;subst c
   refine⟨.cell a k,d,rfl,m,λv b=>?_⟩
   simp only[Jy] at b
   simp only[px,jM,sZ h1]
   rw[he.1] at b
   split at b
   .rename_i id i j f
    split at b
    .rename_i es hH
     split at b
     .rename_i g
      rw[f];simp only[hH];rw[OM g,b];rfl
     .simp at b
    .simp at b
   .rename_i e j f
    rw[f];simp only;rw[b];rfl
   .simp at b
  .simp at c
theorem Bx {e:ES} {h:aw} (he:fI h e):∀ (rs:List ResultVar) (l:List SR) (vs:List V),dR P rs=some l->su l e=some vs->jy P e.T h rs=some vs
 | [],l,vs,a,hw=>by simp[dR] at a;subst a;simp[su] at hw;subst hw;rfl
 | r :: rest,l,vs,a,hw=>by
  obtain⟨s,d,rfl,h1,f⟩:=LP (e:=e) (h:=h) he a
  simp only[su] at hw
  split at hw
  .rename_i v b g c
   simp at hw;subst hw
   simp[jy,f v g,Bx he rest d b h1 c]
  .simp at hw
def pS (P:Program) (tab:List (FuncId × DF)):Prop:=∀ p∈tab,∃ fz,Ci P p.1 fz=some p.2
def sP (P:Program) (ext:wN):Prop:=∀ g vs H t,ext g vs H=some t->bX P g=true/\∀ h:aw,h.view=H->bu P g vs h t h
theorem CE {q:List (FuncId × DF)} {ext:wN} (N:pS P q) (z:sP P ext) {run:tF} (s:r5 P run):ir P (AY P q ext run):=by
 intro g vs e v e' h b he
 unfold AY at b
 split at b
 .rename_i t u
  simp only[OJ,OL] at b
  obtain⟨rfl,rfl⟩:=b
  obtain⟨h1,C⟩:=z _ _ _ _ u
  exact⟨h1,h,C h he.1.symm,he,λ_ _ _=>rfl,λ_ hw=>by simp at hw⟩
 .split at b
  .rename_i A F K
   have x:=List.mem_of_find?_eq_some K
   have D:A=g:=by
    have:=List.find?_some K
    exact Nat.eq_of_beq_eq_true this
   subst D
   obtain⟨O,k⟩:=N _ x
   simp only at k
   unfold Ci at k
   split at k
   .rename_i fn E
    split at k
    .rename_i c Q
     split at k
     .rename_i M rs h1 C R
      simp at k;subst k
      refine⟨R,?_⟩
      unfold MH at b
      split at b
      .rename_i hlen B
       have hlen:=Nat.le_of_ble_eq_true hlen
       have B:=Nat.le_of_ble_eq_true B
       simp only at hlen B
       unfold MK at b
       split at b
       .rename_i v1 d f
        simp only[OJ,OL] at b
        obtain⟨rfl,rfl⟩:=b
        unfold MD at f
        have go:∀ (r:Exit) (p:ES),(r=.ret∨r=.normal)->run M ⟨ke vs 0 .nil,e.H,e.n,[]⟩=some (r,p)->(su rs p).map (λvs=>(sX vs,p))=some (v1,d) ->
          ∃ i,bu P A vs h v1 i/\fI i d/\(∀ id,id < h.length->¬ id∈d.w->i.view id=h.view id):=by
         intro r p hr j o
         simp only[OQ,OL] at o
         obtain⟨G,I,rfl,rfl⟩:=o
         obtain⟨i,z,y,J,_⟩:=s fn.ntmps O c M h1 B _ p r h j he
         have S:(ES.T ⟨ke vs 0 .nil,e.H,e.n,[]⟩)=iK vs:=Da vs (by omega)
         rw[S] at z
         refine⟨i,bu.Ev E Q hlen z (by rcases hr with rfl | rfl <;> simp) ?_,y,λid m hw=>(J.2 id m hw).1⟩
         unfold Gx
         rw[Bx y _ _ _ C I]
         cases G with
         | nil=>rfl
         | cons a l=>cases l <;> rfl
        have done:(∃ i,bu P A vs h v1 i/\fI i d/\(∀ id,id < h.length->¬ id∈d.w->i.view id=h.view id)) ->
          ∃ i,bu P A vs h v1 i/\fI i ⟨d.L,d.H,d.n,d.w.filter λid=>Nat.blt id e.n⟩/\(∀ id,id < h.length->¬ id∈d.w.filter (λid=>Nat.blt id e.n)->i.view id=h.view id)/\∀ id,id∈d.w.filter (λid=>Nat.blt id e.n)->id < h.length:=by
         rintro⟨i,U,k2,V⟩
         refine⟨i,U,k2,λid m hw=>V id m (λhm=>hw ?_),λid hw=>?_⟩
         .rw[PC]
          exact⟨hm,by rw[he.2];exact Nat.ble_eq_true_of_le m⟩
         .rw[PC] at hw
          have:=Nat.le_of_ble_eq_true hw.2
          rw[he.2] at this;exact this
        split at f
        .rename_i p j;exact done (go _ _ (.inl rfl) j f)
        .rename_i p j;exact done (go _ _ (.inr rfl) j f)
        .simp at f
       .simp at b
      .simp at b
     .simp at k
    .simp at k
   .simp at k
  .simp at b
theorem Eo (hm:P.follows .mixedOrders=true) {a:List (FuncId × DF)} {ext:wN} (b:pS P a) (d:sP P ext):∀ k,r5 P (C8 P a ext k)
 | 0=>λn g c i j l e e' r h hr he=>by simp[C8] at hr
 | k+1=>by
  have f:=Eo hm b d k
  have:=Kh hm (CE b d f) f
  exact this
end
inductive de (h:aw):V->V->Prop
 | val (v:Value):de h (.val v) (.val v)
 | emp (k:Nat):de h (.emp k) (.aX [])
 | sl (id off len esz z:Nat) (es es':List (List V)):h.view id=.arr z es->off+len<=es.length->es'.length=len ->
  (∀ i,i < len->(es'.getD i []).length=(es.getD (off+i) []).length) ->
  (∀ i j,i < len->j < (es'.getD i []).length->de h ((es.getD (off+i) []).getD j .any) ((es'.getD i []).getD j .any))->de h (.sl id off len esz) (.aX es')
 | agg (cs cs':List V):cs'.length=cs.length->(∀ i,i < cs.length->de h (cs.getD i .any) (cs'.getD i .any))->de h (.agg cs) (.agg cs')
 | aU (cs cs':List V):cs'.length=cs.length->(∀ i,i < cs.length->de h (cs.getD i .any) (cs'.getD i .any))->de h (.aU cs) (.aU cs')
theorem LU {h:aw} {Z:Nat->Prop} {μ B:Mu} {F:View} {hp:Array Obj} (hr:fc Z μ hp (cat h F)) {v t:V} (fr:de h v t):∀ {x:Value},aq Z μ hp v x->aq (fW μ) B hp t x:=by
 have l:∀ id,h.view id≠.dead->cat h F id=h.view id:=λid D=>by simp only[cat];rw[OM (fC D)]
 induction fr with
 | val v=>intro x d;cases d with | val _ s=>exact .val _ s
 | emp k=>intro x d;cases d with | emp _ a=>exact .fy a 0 (λ_=>rfl)
 | sl id off len esz z es es' hH hle hlen E _ m =>
  intro x d
  cases d with
  | nq _ _ _ a =>
   have:es'=[]:=PS.1 hlen
   subst this
   exact .fy a 0 (λ_=>rfl)
  | sl _ _ _ _ b o0 cap c e f hm C J K =>
   have o:=hr.obj id
   rw[l id (by rw[hH];simp),hH] at o
   obtain⟨rfl,_,G,H⟩:=o b o0 esz hm
   have d:∀ i,∃ ci:Nat->Value,∀ j,j < esz->i < len->cellAt hp b (o0+off * esz+i * esz+j)=some (ci j)/\aq Z μ hp ((es.getD (off+i) []).getD j .any) (ci j):=by
    intro i
    by_cases hi:i < len
    .obtain⟨ci,u⟩:=kS (n:=esz) (p:=λj x=>cellAt hp b (o0+off * esz+i * esz+j)=some x/\aq Z μ hp ((es.getD (off+i) []).getD j .any) x) (λj g=>by
      obtain⟨x,d,s⟩:=H (off+i) j (by omega) g
      rw[Pk,<-P1] at d
      exact⟨x,d,s⟩)
     exact⟨ci,λj g _=>u j g⟩
    .exact⟨λ_=>undef,λj _ h=>absurd h hi⟩
   obtain⟨I,q⟩:=Classical.axiomOfChoice d
   have r:∀ i,i < es'.length->(es'.getD i []).length=esz:=λi hi=>by rw[E i (by omega)];exact G _ (by omega)
   have:=aq.aX (Z:=fW μ) (μ:=B) (hp:=hp) es' b (o0+off * esz) esz cap I ⟨id,o0,esz,hm⟩ (by omega) r
    (λi j hi g=>(q i j g (by omega)).1) (λi j hi g=>m i j (by omega) (by rw[r i hi];exact g) (q i j g (by omega)).2)
   rw[hlen] at this
   exact this
 | agg cs w hlen _ m =>
  intro x d
  cases d with
  | agg _ y h1 A=>exact .agg _ _ (by omega) (λi hi=>m i (by omega) (A i (by omega)))
 | aU cs w hlen _ m =>
  intro x d
  cases d with
  | aU _ y h1 A=>exact .aU _ _ (by omega) (λi hi=>m i (by omega) (A i (by omega)))
def cJ (P:Program) (f:FuncId) (vs:List V) (t:V):Prop :=
 ∀ Z μ (w:World) (xs:List Value),er Z μ w.heap vs xs->(∀ b,Z b->b < w.heap.size) ->
  Calls P f xs.toArray w λe w'=>∃ x Z',e=.returned x/\(∀ ν,aq Z' ν w'.heap t x)/\c8 w w'/\(∀ b,Z' b->w.heap.size<=b/\b < w'.heap.size)/\ee w.heap w'.heap (λ_=>False)
theorem cJ.pure {P:Program} {f:FuncId} {vs:List V} {t:V} (h:cJ P f vs t):ar P f vs t:=by
 intro Z μ w xs a d
 refine(h Z μ w xs a d).mono ?_
 rintro e w' ⟨x,g,rfl,i,j,c,k⟩
 exact⟨x,λb=>Z b∨g b,rfl,λl=>(i l).mono ⟨λ_ h=>.inr h,λ_ _=>rfl,λ_ _ h=>h,dQ.refl _⟩,j,λ_ h=>.inl h,λb m=>m.imp id (c b),k⟩
theorem cJ.sd {P:Program} {f:FuncId} {vs:List V} {r t:V} {k:aw} (m:∀ v∈vs,Tree v) (n:bu P f vs [] r k) (p:de k r t):cJ P f vs t:=by
 intro Z μ w xs a q
 have c:er Z (λ_=>none) w.heap vs xs:=⟨a.1,λi hi=>rV (a.2 i hi) (by
  simp only[OH,OI hi,OS]
  exact m _ (OW _))⟩
 have g:fc Z (λ_=>none) w.heap (cat [] λ_=>.dead):=by
  rw[y1]
  exact⟨λ_=>trivial,λi j b o s y z _ h=>by simp at h,λid b o s h=>by simp at h,q,λid b o s h=>by simp at h⟩
 refine(n.2 Z _ _ w xs c g (λ_ _ _=>rfl)).mono ?_
 rintro e w' ⟨x,A,μ',rfl,u,l,hex,_⟩
 refine⟨x,fW μ',rfl,λB=>LU l p u,hex.same,?_,λb d _=>hex.frame b d (by rintro⟨_,_,_,h⟩;simp at h)⟩
 rintro b ⟨id,o,s,d⟩
 rcases hex.yw _ _ _ _ d with h1 | ⟨_,h1 | ⟨_,_,_,h1⟩⟩
 .simp at h1
 .exact⟨h1,l.lt _ _ _ _ d⟩
 .simp at h1
theorem cJ.of {P:Program} {f:FuncId} {vs:List V} {t:V} (b:∀ v∈vs,Tree v) (h:an P f vs (λ_=>.dead) λr H'=>∀ a:aw,a.view=H'->de a r t):cJ P f vs t:=by
 obtain⟨r,a,c,_,d⟩:=h.2 [] z6
 exact cJ.sd b c (d a rfl)
theorem bu.vf {P:Program} {f:FuncId} {j vs:List V} {t:V} {h:aw} (v:cJ P f j t) (y:j.length=vs.length)
  (l:∀ i,i < vs.length->Fr h (vs.getD i .any) (j.getD i .any)):bu P f vs h t h:=by
 refine⟨OR _,λZ μ F w xs c hr m=>?_⟩
 have n:er (λb=>Z b∨fW μ b) μ w.heap j xs:=⟨by rw[y,c.1],λi hi=>yd hr (l i (by omega)) (c.2 i (by omega))⟩
 have p:∀ b,(Z b∨fW μ b)->b < w.heap.size:=by
  rintro b (a | ⟨id,o,s,a⟩)
  .exact hr.bE b a
  .exact hr.lt _ _ _ _ a
 refine(v _ μ w xs n p).mono ?_
 rintro e w' ⟨x,u,rfl,z,q,d,k⟩
 have hm:eL Z (λb=>Z b∨u b) μ μ w.heap w'.heap:=⟨λ_ h=>.inl h,λb a=>k b (hr.bE b a) (λx=>x),λ_ _ h=>h,k.mP⟩
 refine⟨x,λb=>Z b∨u b,μ,rfl,(z μ).mono ⟨λ_ h=>.inr h,λ_ _=>rfl,λ_ _ h=>h,dQ.refl _⟩,⟨λid=>(hr.obj id).mono hm rfl (λb o s g=>k b (hr.lt _ _ _ _ g) (λx=>x)),hr.inj,λid b o s g=>O0 (hr.lt _ _ _ _ g) q.size,λb a=>?_,λid b o s g r=>?_⟩,
  ⟨q,hm,λb a _=>k b a (λx=>x),λb a=>a.imp id (λh=>(d b h).1),λ_ _ _ _ h=>.inl h⟩,λ_ _=>rfl⟩
 .rcases a with a | a
  .exact O0 (hr.bE b a) q.size
  .exact(d b a).2
 .rcases r with a | a
  .exact hr.eU _ _ _ _ g a
  .have:=hr.lt _ _ _ _ g;have:=(d b a).1;omega
theorem aj.vf {P:Program} {q:Bool} {f:FuncId} {H:View} {vs c:List V} {K:V->View->Prop} {v:bL (H,K)} {t:V} (d:cJ P f c t) (a:bX P f=true) (g:c.length=vs.length)
  (b:∀ i,i < vs.length->ey H (vs.getD i .any) (c.getD i .any)) (hk:K t H):aj P q f vs H K v:=by
 unfold aj
 cases q with
 | true=>exact⟨a,λh e=>⟨t,h,bu.vf d g (λi hi=>b i hi h e),λ_ _=>rfl,e ▸ hk⟩⟩
 | false =>
  refine⟨a,?_⟩
  rintro h rfl
  exact⟨t,h,bu.vf d g (λi hi=>b i hi h rfl),.refl _,hk⟩
noncomputable def sD (fz:V->Option V):List V->Option (List V)
 | []=>some []
 | v :: l=>match fz v,sD fz l with
  | some a,some b=>some (a :: b)
  | _,_=>none
noncomputable def CI (fz:V->Option V):List (List V)->Option (List (List V))
 | []=>some []
 | v :: l=>match sD fz v,CI fz l with
  | some a,some b=>some (a :: b)
  | _,_=>none
noncomputable def u4 (H:View):Nat->V->Option V
 | 0,_=>none
 | k+1,v=>match v with
  | .val x=>some (.val x)
  | .emp _=>some (.aX [])
  | .sl id off len _=>match H id with
   | .arr _ es=>if off+len<=es.length then (CI (u4 H k) ((es.drop off).take len)).map .aX else none
   | _=>none
  | .agg cs=>(sD (u4 H k) cs).map .agg
  | .aU cs=>(sD (u4 H k) cs).map .aU
  | _=>none
theorem o6 {d:V->Option V} : ∀ (l c:List V),sD d l=some c->c.length=l.length/\∀ i,i < l.length->d (l.getD i .any)=some (c.getD i .any)
 | [],c,h=>by simp only[sD,OJ] at h;subst h;exact⟨rfl,λi hi=>by simp at hi⟩
 | v :: l,c,h=>by
  simp only[sD] at h
  split at h
  .rename_i a b h1 e
   simp only[OJ] at h;subst h
   obtain⟨g1,g2⟩:=o6 l b e
   refine⟨by simp[g1],λi hi=>?_⟩
   cases i with
   | zero=>exact h1
   | succ i=>exact g2 i (by simpa using hi)
  .simp at h
theorem EM {d:V->Option V} : ∀ (l c:List (List V)),CI d l=some c->c.length=l.length/\∀ i,i < l.length->sD d (l.getD i [])=some (c.getD i [])
 | [],c,h=>by simp only[CI,OJ] at h;subst h;exact⟨rfl,λi hi=>by simp at hi⟩
 | v :: l,c,h=>by
  simp only[CI] at h
  split at h
  .rename_i a b h1 e
   simp only[OJ] at h;subst h
   obtain⟨g1,g2⟩:=EM l b e
   refine⟨by simp[g1],λi hi=>?_⟩
   cases i with
   | zero=>exact h1
   | succ i=>exact g2 i (by simpa using hi)
  .simp at h
theorem Ea (h:aw):∀ (k:Nat) (v t:V),u4 h.view k v=some t->de h v t
 | 0,v,t,a=>by simp[u4] at a
 | k+1,v,t,a=>by
  have b:=Ea h k
  simp only[u4] at a
  split at a
  .simp only[OJ] at a;subst a;exact .val _
  .simp only[OJ] at a;subst a;exact .emp _
  .rename_i id off len esz
   split at a
   .rename_i z es hH
    split at a
    .rename_i hle
     simp only[OQ] at a
     obtain⟨es',he,rfl⟩:=a
     obtain⟨g1,g2⟩:=EM _ _ he
     have hlen:es'.length=len:=by rw[g1];simp;omega
     have d:∀ i,i < len->((es.drop off).take len).getD i []=es.getD (off+i) []:=λi hi=>by
      simp[OH,PT,hi]
     have g3:∀ i,i < len->sD (u4 h.view k) (es.getD (off+i) [])=some (es'.getD i []):=λi hi=>by
      rw[<-d i hi];exact g2 i (by rw[<-g1,hlen];exact hi)
     exact .sl id off len esz z es es' hH hle hlen (λi hi=>(o6 _ _ (g3 i hi)).1) (λi j hi e=>b _ _ ((o6 _ _ (g3 i hi)).2 j (by rw[<-(o6 _ _ (g3 i hi)).1];exact e)))
    .simp at a
   .simp at a
  .simp only[OQ] at a
   obtain⟨l,c,rfl⟩:=a
   obtain⟨g1,g2⟩:=o6 _ _ c
   exact .agg _ _ g1 (λi hi=>b _ _ (g2 i hi))
  .simp only[OQ] at a
   obtain⟨l,c,rfl⟩:=a
   obtain⟨g1,g2⟩:=o6 _ _ c
   exact .aU _ _ g1 (λi hi=>b _ _ (g2 i hi))
  .simp at a
noncomputable def K5:Option (V × ES)->Option V
 | some (v,e)=>u4 e.V 50 v
 | none=>none
noncomputable def q0 (P:Program) (tab:List (FuncId × DF)) (ext:wN) (f:FuncId) (vs:List V):Option V :=
 K5 (AY P tab ext (C8 P tab ext 100000) f vs ⟨.nil,.nil,0,[]⟩)
theorem rZ {P:Program} (hm:P.follows .mixedOrders=true) {a:List (FuncId × DF)} {ext:wN} (c:pS P a) (d:sP P ext) {f:FuncId} {vs:List V} {t:V} (b:∀ v∈vs,Tree v) (h:q0 P a ext f vs=some t) :
  cJ P f vs t:=by
 unfold q0 K5 at h
 split at h
 .rename_i v e hr
  obtain⟨h1,g,i,j,_⟩:=CE c d (Eo hm c d 100000) f vs _ v e [] hr ⟨by funext k;rfl,rfl⟩
  rw[j.1] at h
  exact cJ.sd b i (Ea g 50 v t h)
 .simp at h
def yf (P:Program) (fs:List (FuncId × List Nat)):List (FuncId × DF):=fs.filterMap λf=>(Ci P f.1 f.2).map (f.1,·)
theorem xe (P:Program) (a:List (FuncId × List Nat)):pS P (yf P a):=by
 intro p hp
 unfold yf at hp
 obtain⟨f,_,h⟩:=Qp.1 hp
 simp only[OQ] at h
 obtain⟨d,h1,rfl⟩:=h
 exact⟨f.2,h1⟩
structure ai.qz (g:ai):Prop where
 ao:g.ao.length<=24
 ox:1<=g.af.length
 af:g.af.length<=16
 Ox:1<=g.rules.length
 rules:g.rules.length<=40
 fF:0<=g.start
 start:g.start < g.af.length
 left:∀ r∈g.rules,0<=r.left/\r.left < g.af.length
 right:∀ r∈g.rules,r.right.length<=6
 sym:∀ r∈g.rules,∀ s∈r.right,eO g s=true
 prec:∀ r∈g.rules,-1<=r.prec/\r.prec < g.ao.length
theorem uL {g:ai} : ∀ (l:List aF) (top:Int),eQ g l top=true->top<=(g.af.length:Int) - 1/\∀ r∈l,0<=r.left/\r.left < g.af.length/\fq g r=true
 | [],top,h=>by simp[eQ] at h;exact⟨by omega,λr hr=>by simp at hr⟩
 | r :: l,top,h=>by
  simp only[eQ,OO,OT] at h
  obtain⟨⟨⟨h1,d⟩,a⟩,b⟩:=h
  obtain⟨e,k2⟩:=uL l _ b
  have f:r.left<=(if r.left > top then r.left else top):=by split <;> omega
  have i:top<=(if r.left > top then r.left else top):=by split <;> omega
  refine⟨by omega,λc hr=>?_⟩
  rcases O1.1 hr with rfl | hr
  .exact⟨h1,by omega,a⟩
  .exact k2 c hr
theorem az {g:ai} (h:aA g=true):g.qz:=by
 simp only[aA,gN,im,OO,OT] at h
 obtain⟨⟨⟨⟨⟨⟨⟨h1,_⟩,⟨b,c⟩,_⟩,d⟩,e⟩,f⟩,i⟩,j⟩:=h
 have k:=(uL _ _ j).2
 have a:∀ r∈g.rules,r.right.length<=6/\-1<=r.prec/\r.prec < g.ao.length/\∀ s∈r.right,eO g s=true:=λr hr=>by
  have:=(k r hr).2.2
  simp only[fq,OO,OT,O7,jZ] at this
  exact⟨this.1.1.1,this.1.1.2,this.1.2,λs l=>(this.2 s l).1⟩
 exact⟨h1,b,c,d,e,f,i,λr hr=>⟨(k r hr).1,(k r hr).2.1⟩,λr hr=>(a r hr).1,λr hr=>(a r hr).2.2.2,λr hr=>⟨(a r hr).2.1,(a r hr).2.2.1⟩⟩
theorem ai.qz.neg {g:ai} (h:g.qz) {r:aF} (hr:r∈g.rules) {s:Int} (a:s∈r.right) (b:s < 0) : -1 - s < g.af.length:=by
 have:=h.sym r hr s a
 simp only[eO] at this
 rw[OK (by omega)] at this
 simpa using this
theorem CR (l:List Int) (is:List Bool) (t:Bool) (b:aG l) (c:∀ s∈l,bm s/\(s < 0->-1 - s < is.length)):ar Tryz.prog 95 [encI l,bh is,gb t] (gb (bw l is t)) :=
 ar.val (by
  intro v a;simp at a
  rcases a with rfl | rfl | rfl
  .exact dU _
  .exact gv _
  .exact .val _) (λH=>(Mv l is t b c H).mono λr H' h=>h.1)
abbrev dI (is:List Bool):List (List V):=is.map λx=>[gb x]
theorem tY {h:aw} {id:Nat} {is:List Bool} (b:h.view id=.arr 1 (dI is)):de h (.sl id 0 is.length 1) (bh is):=by
 refine .sl id 0 is.length 1 1 (dI is) _ b (by simp) (by simp) (λi hi=>by simp) (λi j hi a=>?_)
 rw[PA]
 have e:(dI is).getD i []=[gb is[i]]:=by simp[OH,hi]
 rw[e] at a ⊢
 have:j=0:=by simp at a;omega
 subst this
 exact .val _
theorem yq {H:View} {id n:Nat} {is:List Bool} (b:H id=.arr 1 (dI is)) (c:n=is.length):ey H (.sl id 0 n 1) (bh is):=by
 have d:∀ e∈dI is,∀ v∈e,Tree v:=by
  intro e he v b
  obtain⟨a,_,rfl⟩:=O9.1 he
  rw[PU] at b
  subst b
  exact .val _
 have:=ey.sl (off:=0) (len:=n) (esz:=1) b (by simp[c]) d
 rwa [List.drop_zero,O8 (by simp[c])] at this
theorem kj {is:List Bool} {i:Nat} (h:i < is.length):(dI is).getD i []=[gb is[i]]:=by simp[OH,h]
theorem kC (is:List Bool) (i:Nat) (b:Bool):(dI is).set i [gb b]=dI (is.set i b):=by simp[List.map_set]
theorem AI (n:Nat) (b:Bool):List.replicate n [gb b]=dI (List.replicate n b):=by simp
def iter {α:Type} (f:α->α):Nat->α->α
 | 0,x=>x
 | n+1,x=>iter f n (f x)
def cm (t:Bool) (is:List Bool) (r:aF):List Bool:=if bw r.right is t=true then is.set r.left.toNat true else is
def ga (g:ai) (t:Bool) (is:List Bool):List Bool:=g.rules.foldl (cm t) is
def bI (g:ai):List Bool:=List.replicate g.af.length false
def al (g:ai) (t:Bool):List Bool:=if aA g=true then iter (ga g t) g.af.length (bI g) else []
theorem FC (t:Bool) (is:List Bool) (r:aF):(cm t is r).length=is.length:=by unfold cm;split <;> simp
def ky:SC :=
 ae [ae [ab [aa 22 7,av 23 2 2,ak 24 23,aR 25 24,aV 26 .lss 22 25],bH 26 (.exit 2)],.block 3 (ae [ab [av 29 2 2,ak 30 29,aa 31 7,aW 32 3 30 31,av 33 1 32,ak 34 33,aa 35 5,aa 36 1,aJ 37 95 [34,35,36]],bc 37 (ab [aa 38 5,av 39 2 2,ak 40 39,aa 41 7,aW 42 3 40 41,av 43 0 42,ak 44 43,aW 45 1 38 44,(none,.op (.store 1 (.tmp 45) (.val (.val (.bool true)))))])]),ab [aa 27 7,ax 28 .add 27 1,aa 7 28]]
def kx:SC :=
 ae [ae [ab [aa 15 6,av 16 1 2,ak 17 16,aR 18 17,aV 19 .lss 15 18],bH 19 (.exit 0)],.block 1 (ae [ab [aN 7 0],bJ 2 ky]),ab [aa 20 6,ax 21 .add 20 1,aa 6 21]]
def lQ:SF:=⟨ae [ab [cE 2 0,cp 4 1],ae [ab [ba 8 4 2,aJ 9 50 [8],bS 10 9],bc 10 (ae [ab [cp 4 1],.ret])],ab [av 11 1 2,ak 12 11,aR 13 12,((some 14),.op (.make 1 1 [(.val (.bool false))] (.tmp 13) (.tmp 13))),aa 5 14],ae [ab [aN 6 0],bJ 0 kx],ab [aa 46 5,aa 4 46],.ret],
 [.tmp 4],47⟩
theorem qT:aE Tryz.prog 165 [2]=some lQ:=by kernel_rfl
def jv:SF:=⟨ae [ab [cE 1 0,cp 2 1],ab [ba 3 4 1,jG 4 165 [(.tmp 3),(.val (.val (.bool false)))],aa 2 4],.ret],
 [.tmp 2],5⟩
theorem oC:aE Tryz.prog 230 [1]=some jv:=by kernel_rfl
def iq:SF:=⟨ae [ab [cE 1 0,cp 2 1],ab [ba 3 4 1,jG 4 165 [(.tmp 3),(.val (.val (.bool true)))],aa 2 4],.ret],
 [.tmp 2],5⟩
theorem nd:aE Tryz.prog 93 [1]=some iq:=by kernel_rfl
theorem JM (g:ai) (t:Bool):∀ v∈[V.agg (ah g),gb t],Tree v:=by
 intro v a;simp at a
 rcases a with rfl | rfl
 .exact cW _ (cy g)
 .exact .val _
theorem JC (g:ai) (C:g.Ok) (t:Bool) (H:View):an Tryz.prog 165 [.agg (ah g),gb t] H λr H'=>∀ w:aw,w.view=H'->de w r (bh (al g t)):=by
 refine an.of mixed qT ?_
 simp(disch:=omega)only[↓wr,seval,wq,lQ,ah,encS]
 refine aj.pure (iJ g C) ?_
 repeat' (first | ((first|apply ag.dec|apply ag.eq|apply ag.ne|apply ag.split)<;>intro)|(simp(disch:=omega)only[↓wr,seval,wq,ah,encS]))
 .rename_i hr
  have u:=az hr
  obtain⟨E,F⟩:=And.intro u.ox u.af
  refine⟨⟨by omega,by unfold aB;omega,by unfold aB;omega⟩,λP=>by omega,λ_ m hm=>?_⟩
  try simp(disch:=omega)only[↓wr,seval,wq,ah,encS]
  refine aP.intro (λk T H'=>∃ (i:Nat) (is:List Bool),i+k=g.af.length/\is.length=g.af.length/\iter (ga g t) k is=iter (ga g t) g.af.length (bI g)/\T 1=gb t/\T 2=.aC (ah g) 0/\T 5=.sl m 0 g.af.length 1/\H' m=.arr 1 (dI is)/\T 6=gi i) g.af.length ?_ ?_
  .refine⟨0,bI g,by omega,by simp[bI],rfl,?_⟩
   simp(disch:=omega)only[↓wr,↓reduceIte,wq,Nat.reduceEqDiff,Nat.reduceAdd,Nat.reduceLT,Nat.reduceLeDiff,Int.reduceNeg,Int.reduceToNat,reduceCtorEq,ah,encS]
   exact⟨by rw[AI];rfl,rfl⟩
  .rintro k T H' ⟨i,is,hk,hlen,hi,f1,f2,f5,y,f6⟩
   simp(disch:=omega)only[↓wr,seval,wq,kx,f1,f2,f5,f6,ah,encS]
   apply ag.dec<;>intro G
   .simp(disch:=omega)only[↓wr,seval,wq,f1,f2,f5,f6,ah,encS]
    refine aP.intro (λx T H'=>∃ (j:Nat) (a:List Bool),j+x=g.rules.length/\a.length=g.af.length/\(g.rules.drop j).foldl (cm t) a=ga g t is/\T 1=gb t/\T 2=.aC (ah g) 0/\T 5=.sl m 0 g.af.length 1/\H' m=.arr 1 (dI a)/\T 6=gi i/\T 7=gi j) g.rules.length ?_ ?_
    .refine⟨0,is,by omega,hlen,rfl,?_⟩
     simp(disch:=omega)only[↓wr,↓reduceIte,wq,Nat.reduceEqDiff,Nat.reduceAdd,Nat.reduceLT,Nat.reduceLeDiff,Int.reduceNeg,Int.reduceToNat,reduceCtorEq,f1,f2,f5,f6,y,ah,encS]
     rfl
    .rintro x Q I ⟨j,a,J,b,d,h,l,n,em,o,p⟩
     simp(disch:=omega)only[↓wr,seval,wq,ky,h,l,n,o,p,ah]
     apply ag.dec<;>intro K
     .have hle:=u.rules
      have e:g.rules[j]?=some (g.rules[j]'(by omega)):=OI (by omega)
      rw[ef (show j < g.rules.length by omega)] at d
      have c:g.rules[j]'(by omega)∈g.rules:=OW _
      generalize g.rules[j]'(by omega)=r at e d c
      simp only[O3] at d
      obtain⟨L,M⟩:=u.left r c
      obtain⟨_,_,z,A⟩:=C.aZ r c
      have v:=CR r.right a t z (λs D=>⟨A s D,λN=>by have:=u.neg c D N;omega⟩)
      simp(disch:=omega)only[↓wr,seval,wq,h,l,n,o,p,ah,encS,aS,ON,e,OU]
      refine aj.borrow v (by kernel_rfl) (.val _) rfl (λq O=>?_) ?_
      .match q,O with
       | 0,_=>exact ey.tree (dU _)
       | 1,_=>exact yq em b.symm
       | 2,_=>exact ey.tree (.val _)
      .simp(disch:=omega)only[↓wr,seval,wq,h,l,n,o,p,ah,encS,aS,ON,e,OU]
       apply ag.split<;>intro B
       .have f:cm t a r=a.set r.left.toNat true:=by rw[cm,OM B]
        simp(disch:=omega)only[↓wr,seval,wq,h,l,n,o,p,em,ah,encS,aS,ON,e,OU,kj (show r.left.toNat < a.length by omega)]
        rw[f] at d
        exact⟨by omega,by omega,x - 1,by omega,j+1,a.set r.left.toNat true,by omega,by simp[b],d,by rw[kC],rfl⟩
       .have f:cm t a r=a:=by rw[cm,OK (by rw[B];simp)]
        rw[f] at d
        simp(disch:=omega)only[↓wr,seval,wq,h,l,n,o,p]
        exact⟨x - 1,by omega,j+1,a,by omega,b,d,by first | rfl | exact⟨rfl,rfl⟩ | exact⟨em,rfl⟩ | exact⟨rfl,em,rfl⟩⟩
     .rw[Po (by omega),List.foldl_nil] at d
      simp(disch:=omega)only[↓wr,seval,wq,h,l,n,o,p]
      obtain⟨q,rfl⟩:∃ q,k=q+1:=⟨k - 1,by omega⟩
      exact⟨q,by omega,i+1,a,by omega,b,by rw[d];exact hi,rfl,em,rfl⟩
   .simp(disch:=omega)only[↓wr,seval,wq,f1,f2,f5,f6,y]
    have:k=0:=by omega
    subst this
    rintro w rfl
    simp only[al,OM hr,<-hi,iter]
    rw[<-hlen]
    exact tY y
 .rename_i hr
  rintro w rfl
  simp only[al,hr]
  exact .emp 1
theorem CU (g:ai) (a:g.Ok) (t:Bool):cJ Tryz.prog 165 [.agg (ah g),gb t] (bh (al g t)):=cJ.of (JM g t) (JC g a t _)
theorem AN (g:ai) (a:g.Ok) (H:View):an Tryz.prog 230 [.agg (ah g)] H λr H'=>r=bh (al g false)/\H'=H:=by
 refine an.of mixed oC ?_
 simp(disch:=omega)only[↓wr,seval,wq,jv,ah,encS]
 refine aj.pure (CU g a false).pure ?_
 simp(disch:=omega)only[↓wr,seval,wq,ah,encS]
theorem AM (g:ai) (a:g.Ok):ar Tryz.prog 230 [.agg (ah g)] (bh (al g false)) :=
 ar.of (dD g) ((AN g a _).mono λr H' h b _=>by rw[h.1];exact .tree _ (gv _))
theorem yB (g:ai) (a:g.Ok) (H:View):an Tryz.prog 93 [.agg (ah g)] H λr H'=>r=bh (al g true)/\H'=H:=by
 refine an.of mixed nd ?_
 simp(disch:=omega)only[↓wr,seval,wq,iq,ah,encS]
 refine aj.pure (CU g a true).pure ?_
 simp(disch:=omega)only[↓wr,seval,wq,ah,encS]
theorem gY (g:ai) (a:g.Ok):ar Tryz.prog 93 [.agg (ah g)] (bh (al g true)) :=
 ar.of (dD g) ((yB g a _).mono λr H' h b _=>by rw[h.1];exact .tree _ (gv _))
def mark (is:List Bool) (s:Int):List Bool:=if s < 0 then is.set (-1 - s).toNat true else is
def dX (p is:List Bool) (r:aF):List Bool:=if (is.getD r.left.toNat false && bw r.right p true)=true then r.right.foldl mark is else is
def kZ (g:ai) (p is:List Bool):List Bool:=g.rules.foldl (dX p) is
def aY (g:ai):List Bool:=if aA g=true then iter (kZ g (al g true)) g.af.length ((bI g).set g.start.toNat true) else []
theorem KT (is:List Bool) (s:Int):(mark is s).length=is.length:=by unfold mark;split <;> simp
theorem z7:∀ (l:List Int) (is:List Bool),(l.foldl mark is).length=is.length
 | [],_=>rfl
 | s :: l,is=>by rw[O3,z7 l,KT]
theorem G0 (p is:List Bool) (r:aF):(dX p is r).length=is.length:=by unfold dX;split <;> simp[z7]
theorem wA {f:List Bool->List Bool} (a:∀ is,(f is).length=is.length):∀ (n:Nat) (is:List Bool),(iter f n is).length=is.length
 | 0,_=>rfl
 | n+1,is=>by rw[iter,wA a n,a]
theorem wi {α:Type} {f:List Bool->α->List Bool} (a:∀ is x,(f is x).length=is.length):∀ (l:List α) (is:List Bool),(l.foldl f is).length=is.length
 | [],_=>rfl
 | x :: l,is=>by rw[O3,wi a l,a]
theorem fb {g:ai} (h:aA g=true) (t:Bool):(al g t).length=g.af.length:=by
 have a:∀ is,(ga g t is).length=is.length:=λis=>wi (FC t) _ _
 rw[al,OM h,wA a]
 simp[bI]
def gU:SC :=
 ae [ae [.region false [⟨none,[aa 41 8,av 42 1 7,ak 43 42,aR 44 43,aV 45 .lss 41 44,aa 46 45]⟩,⟨(some (46,true)),[aa 47 4,av 48 0 7,ak 49 48,aW 50 1 47 49,ak 51 50]⟩,⟨none,[bV 52 46 51,aa 53 52]⟩,⟨(some (53,true)),[av 54 1 7,ak 55 54,aa 56 3,jG 57 95 [(.tmp 55),(.tmp 56),(.val (.val (.bool true)))]]⟩,⟨none,[bV 58 53 57]⟩],bH 58 (.exit 4)],.block 5 (ae [ab [av 61 1 7,ak 62 61,aa 63 8,aW 64 1 62 63,ak 65 64,ax 66 .lss 65 0],bc 66 (ab [aa 67 4,av 68 1 7,ak 69 68,aa 70 8,aW 71 1 69 70,ak 72 71,((some 73),.op (.arith .sub (.val (.val (.int .i64 (-1)))) (.tmp 72))),aW 74 1 67 73,(none,.op (.store 1 (.tmp 74) (.val (.val (.bool true)))))])]),ab [aa 59 8,ax 60 .add 59 1,aa 8 60]]
def gZ:SC :=
 ae [ae [ab [aa 29 6,av 30 2 1,ak 31 30,aR 32 31,aV 33 .lss 29 32],bH 33 (.exit 2)],.block 3 (ae [ab [av 36 2 1,ak 37 36,aa 38 6,aW 39 3 37 38,ba 40 3 39,((some 7),.op (.alloc [(.val (.int .i64 0)),(.emp 1),(.val (.int .i64 0))])),cb 3 7 40],ab [aN 8 0],bJ 4 gU]),ab [aa 34 6,ax 35 .add 34 1,aa 6 35]]
def gS:SC :=
 ae [ae [ab [aa 22 5,av 23 1 1,ak 24 23,aR 25 24,aV 26 .lss 22 25],bH 26 (.exit 0)],.block 1 (ae [ab [aN 6 0],bJ 2 gZ]),ab [aa 27 5,ax 28 .add 27 1,aa 5 28]]
def iV:SF:=⟨ae [ab [cE 1 0,cp 2 1],ae [ab [ba 9 4 1,aJ 10 50 [9],bS 11 10],bc 11 (ae [ab [cp 2 1],.ret])],ab [ba 12 4 1,aJ 13 93 [12],aa 3 13],ab [av 14 1 1,ak 15 14,aR 16 15,((some 17),.op (.make 1 1 [(.val (.bool false))] (.tmp 16) (.tmp 16))),aa 4 17],ab [aa 18 4,av 19 3 1,ak 20 19,aW 21 1 18 20,(none,.op (.store 1 (.tmp 21) (.val (.val (.bool true)))))],ae [ab [aN 5 0],bJ 0 gS],ab [aa 75 4,aa 2 75],.ret],
 [.tmp 2],76⟩
theorem nM:aE Tryz.prog 94 [1]=some iV:=by kernel_rfl
theorem KS {l:List Bool} {i j:Nat} (h:l.getD j false=true):(l.set i true).getD j false=true:=by
 simp only[OH,Qh] at h ⊢
 by_cases e:i=j
 .subst e
  by_cases hi:i < l.length
  .simp[hi]
  .rw[O5 (by omega)] at h;simp at h
 .rw[OK e];exact h
theorem KU {H:View} {m n:Nat} {o:bp} (hm:H m=o) (a:H n=.dead) (b:o≠.dead):m≠n:=by rintro rfl;exact b (hm.symm.trans a)
theorem yY (g:ai) (Y:g.Ok) (H:View):an Tryz.prog 94 [.agg (ah g)] H λr H'=>∀ X:aw,X.view=H'->de X r (bh (aY g)):=by
 refine an.of mixed nM ?_
 simp(disch:=omega)only[↓wr,seval,wq,iV,ah,encS]
 refine aj.pure (iJ g Y) ?_
 repeat' (first | ((first|apply ag.dec|apply ag.eq|apply ag.ne|apply ag.split)<;>intro)|(simp(disch:=omega)only[↓wr,seval,wq,ah,encS]))
 .rename_i hr
  have y:=az hr
  obtain⟨bs,bx⟩:=And.intro y.ox y.af
  refine aj.pure (gY g Y) ?_
  have Z:=fb hr true
  have n:aY g=iter (kZ g (al g true)) g.af.length ((bI g).set g.start.toNat true):=by rw[aY,OM hr]
  generalize al g true=p at Z n
  have o:=y.fF
  have bl:=y.start
  have I:List.replicate g.af.length [V.val (Value.bool false)]=dI (bI g):=AI _ _
  have a1:(bI g).length=g.af.length:=by simp[bI]
  simp(disch:=omega)only[↓wr,seval,wq,ah,encS]
  refine⟨⟨by omega,by unfold aB;omega,by unfold aB;omega⟩,λhz=>by omega,λ_ m hm=>?_⟩
  rw[I]
  have a6:(dI (bI g)).getD g.start.toNat []=[gb ((bI g)[g.start.toNat]'(by omega))]:=kj (by omega)
  simp(disch:=omega)only[↓wr,seval,wq,ah,encS,kj (show g.start.toNat < (bI g).length by omega),kC,OX]
  refine⟨by omega,by omega,?_⟩
  refine aP.intro (λk T H'=>∃ (i:Nat) (is:List Bool),i+k=g.af.length/\is.length=g.af.length/\iter (kZ g p) k is=aY g/\T 1=.aC (ah g) 0/\T 3=bh p/\T 4=.sl m 0 g.af.length 1/\H' m=.arr 1 (dI is)/\T 5=gi i) g.af.length ?_ ?_
  .refine⟨0,(bI g).set g.start.toNat true,by omega,by simp[a1],n.symm,?_⟩
   simp(disch:=omega)only[↓wr,↓reduceIte,wq,Nat.reduceEqDiff,Nat.reduceAdd,Nat.reduceLT,Nat.reduceLeDiff,Int.reduceNeg,Int.reduceToNat,reduceCtorEq,ah,encS]
   rw[a6]
   exact⟨by rw[<-kC];rfl,rfl⟩
  .rintro k T H' ⟨i,is,hk,hlen,hi,f1,f3,f4,fm,f5⟩
   simp(disch:=omega)only[↓wr,seval,wq,gS,f1,f3,f4,f5,ah,encS]
   apply ag.dec<;>intro hc
   .simp(disch:=omega)only[↓wr,seval,wq,f1,f3,f4,f5,ah,encS]
    refine aP.intro (λJ T H'=>∃ (j:Nat) (d:List Bool),j+J=g.rules.length/\d.length=g.af.length/\(g.rules.drop j).foldl (dX p) d=kZ g p is/\T 1=.aC (ah g) 0/\T 3=bh p/\T 4=.sl m 0 g.af.length 1/\H' m=.arr 1 (dI d)/\T 5=gi i/\T 6=gi j) g.rules.length ?_ ?_
    .refine⟨0,is,by omega,hlen,rfl,?_⟩
     simp(disch:=omega)only[↓wr,seval,wq,f1,f3,f4,f5,fm,ah,encS]
     first | done | exact⟨rfl,rfl⟩ | rfl
    .rintro J T' b0 ⟨j,d,b1,t,C,K,L,M,em,N,O⟩
     simp(disch:=omega)only[↓wr,seval,wq,gZ,K,L,M,N,O,ah]
     apply ag.dec<;>intro hd
     .have hle:=y.rules
      have P:g.rules[j]?=some (g.rules[j]'(by omega)):=OI (by omega)
      rw[ef (show j < g.rules.length by omega)] at C
      have f:g.rules[j]'(by omega)∈g.rules:=OW _
      generalize g.rules[j]'(by omega)=r at P C f
      simp only[O3] at C
      obtain⟨b2,b3⟩:=y.left r f
      obtain⟨_,_,a7,Q⟩:=Y.aZ r f
      have b4:=y.right r f
      have R:=CR r.right p true a7 (λs hs=>⟨Q s hs,λhn=>by have:=y.neg f hs hn;omega⟩)
      simp(disch:=omega)only[↓wr,seval,wq,K,L,M,N,O,ah,encS,aS,encI,ON,P,OU]
      intro b hb
      have S:m≠b:=KU em hb (by simp)
      try simp(disch:=omega)only[↓wr,seval,wq,K,L,M,N,O,ah,encS,aS,encI]
      refine aP.intro (λq T H'=>∃ (a:Nat) (c:List Bool),a+q=r.right.length/\c.length=g.af.length/\(r.right.drop a).foldl mark c=r.right.foldl mark d/\((a=0/\c=d)∨((d.getD r.left.toNat false && bw r.right p true)=true/\c.getD r.left.toNat false=true)) /\
       T 1=.aC (ah g) 0/\T 3=bh p/\T 4=.sl m 0 g.af.length 1/\H' m=.arr 1 (dI c)/\T 5=gi i/\T 6=gi j/\T 7=.ptr b 0 0/\H' b=.arr 3 [aS r]/\T 8=gi a) r.right.length ?_ ?_
      .refine⟨0,d,by omega,t,rfl,.inl ⟨rfl,rfl⟩,?_⟩
       simp(disch:=omega)only[↓wr,↓reduceIte,wq,Nat.reduceEqDiff,Nat.reduceAdd,Nat.reduceLT,Nat.reduceLeDiff,Int.reduceNeg,Int.reduceToNat,reduceCtorEq,K,L,M,N,O,em,S,ah,encS,aS]
       exact⟨rfl,rfl⟩
      .rintro q T3 H3 ⟨a,c,hq,e,w,h,d1,d3,d4,z,d5,d6,d7,x,d8⟩
       simp(disch:=omega)only[↓wr,seval,wq,gU,d1,d3,d4,d5,d6,d7,d8,x,aS,encI]
       have U:c[r.left.toNat]?=some (c[r.left.toNat]'(by omega)):=OI (by omega)
       have l:c.getD r.left.toNat false=c[r.left.toNat]'(by omega):=by simp[OH,U]
       have A:=kj (show r.left.toNat < c.length by omega)
       have W:(d.getD r.left.toNat false && bw r.right p true)=false->dX p d r=c:=λG=>by
        rcases h with ⟨_,rfl⟩ | ⟨h1,_⟩
        .rw[dX,G];rfl
        .rw[G] at h1;simp at h1
       generalize c[r.left.toNat]'(by omega)=tl at U l A
       apply ag.dec<;>intro ht
       .have D:r.right[a]?=some (r.right[a]'(by omega)):=OI (by omega)
        rw[ef (show a < r.right.length by omega)] at w
        have E:r.right[a]'(by omega)∈r.right:=OW _
        generalize r.right[a]'(by omega)=s at D w E
        simp only[O3] at w
        have a8:=Q s E
        simp(disch:=omega)only[↓wr,seval,wq,d1,d3,d4,d5,d6,d7,d8,x,z,aS,encI,A,OX]
        refine⟨by omega,by omega,?_⟩
        apply ag.split<;>intro u
        .simp(disch:=omega)only[↓wr,seval,wq,d1,d3,d4,d5,d6,d7,d8,x,z,aS,encI,A,OX]
         refine aj.pure R ?_
         simp(disch:=omega)only[↓wr,seval,wq,d1,d3,d4,d5,d6,d7,d8,x,z,aS,encI]
         apply ag.split<;>intro F
         .simp(disch:=omega)only[↓wr,seval,wq,d1,d3,d4,d5,d6,d7,d8,x,z,aS,encI,ON,D,OU]
          have G:(d.getD r.left.toNat false && bw r.right p true)=true/\c.getD r.left.toNat false=true:=by
           rcases h with ⟨_,rfl⟩ | h1
           .exact⟨by rw[l,u,F];rfl,by rw[l,u]⟩
           .exact h1
          apply ag.dec<;>intro B
          .have b5:=y.neg f E B
           have bn:=a8.1
           have v:mark c s=c.set (-1 - s).toNat true:=by rw[mark,OM B]
           simp(disch:=omega)only[↓wr,seval,wq,d1,d3,d4,d5,d6,d7,d8,x,z,aS,encI,ON,D,OU,kj (show (-1 - s).toNat < c.length by omega),OX,S.symm]
           rw[v] at w
           exact⟨by omega,by omega,q - 1,by omega,a+1,c.set (-1 - s).toNat true,by omega,by simp[e],w,.inr ⟨G.1,KS G.2⟩,by rw[kC],by first | rfl | exact⟨rfl,rfl⟩⟩
          .have v:mark c s=c:=by rw[mark,OK B]
           rw[v] at w
           simp(disch:=omega)only[↓wr,seval,wq,d1,d3,d4,d5,d6,d7,d8,x,z]
           exact⟨q - 1,by omega,a+1,c,by omega,e,w,.inr G,by first | rfl | exact⟨rfl,rfl⟩ | exact⟨rfl,rfl,rfl⟩⟩
         .simp(disch:=omega)only[↓wr,seval,wq,d1,d3,d4,d5,d6,d7,d8,x,z,aS,encI]
          have o:=W (by rw[F,Bool.and_false])
          exact⟨J - 1,by omega,j+1,c,by omega,e,by rw[<-o];exact C,rfl,rfl,rfl⟩
        .simp(disch:=omega)only[↓wr,seval,wq,d1,d3,d4,d5,d6,d7,d8,x,z,aS,encI,A,OX]
         have o:dX p d r=c:=by
          rcases h with ⟨_,rfl⟩ | ⟨_,h1⟩
          .rw[dX,l,u];rfl
          .rw[l,u] at h1;simp at h1
         exact⟨J - 1,by omega,j+1,c,by omega,e,by rw[<-o];exact C,rfl,rfl,rfl⟩
       .simp(disch:=omega)only[↓wr,seval,wq,d1,d3,d4,d5,d6,d7,d8,x,z,aS,encI]
        rw[Po (by omega),List.foldl_nil] at w
        have o:dX p d r=c:=by
         rcases h with ⟨h0,rfl⟩ | ⟨h1,_⟩
         .unfold dX
          split
          .exact w.symm
          .rfl
         .rw[dX,OM h1];exact w.symm
        exact⟨J - 1,by omega,j+1,c,by omega,e,by rw[<-o];exact C,rfl,rfl,rfl⟩
     .rw[Po (by omega),List.foldl_nil] at C
      simp(disch:=omega)only[↓wr,seval,wq,K,L,M,N,O]
      obtain⟨q,rfl⟩:∃ q,k=q+1:=⟨k - 1,by omega⟩
      exact⟨q,by omega,i+1,d,by omega,t,by rw[C];exact hi,rfl,em,rfl⟩
   .simp(disch:=omega)only[↓wr,seval,wq,f1,f3,f4,f5,fm]
    have:k=0:=by omega
    subst this
    rintro X rfl
    simp only[<-hi,iter]
    rw[<-hlen]
    exact tY fm
 .rename_i hr
  rintro X rfl
  simp only[aY,hr]
  exact .emp 1
theorem rr (g:ai) (a:g.Ok):cJ Tryz.prog 94 [.agg (ah g)] (bh (aY g)):=cJ.of (dD g) (yY g a _)
noncomputable def uB:List (FuncId × DF):=yf Tryz.prog [(224,[]),(223,[]),(296,[]),(297,[])]
theorem pT:pS Tryz.prog uB:=xe _ _
theorem Gq (P:Program):sP P (λ_ _ _=>none):=λ_ _ _ _ h=>by simp at h
def Mz (o:Option V) (b:Bool):Bool:=match o with
 | some (.val (.bool c))=>c == b
 | _=>false
theorem MQ {o:Option V} {b:Bool} (h:Mz o b=true):o=some (gb b):=by
 unfold Mz at h
 split at h
 .rw[PB] at h;rw[h]
 .simp at h
noncomputable def uk (tab:List (FuncId × DF)) (f:FuncId) (p:Int->Bool):Bool:=(List.range 256).all λc=>Mz (q0 Tryz.prog tab (λ_ _ _=>none) f [gy (c:Int)]) (p (c:Int))
theorem sw {a:List (FuncId × DF)} (d:pS Tryz.prog a) {f:FuncId} {p:Int->Bool} (h:uk a f p=true) (c:Int) (e:0<=c) (h1:c<=255):ar Tryz.prog f [gy c] (gb (p c)):=by
 have:=O7.1 h c.toNat (by simp;omega)
 rw[show ((c.toNat:Nat):Int)=c by omega] at this
 exact(rZ mixed d (Gq _) (by intro v b;simp at b;subst b;exact .val _) (MQ this)).pure
def tO (c:Int):Bool:=decide (32<=c) && decide (c<=126) && c != 39 && c != 92
def y5 (c:Int):Bool:=c == 110 || c == 116 || c == 92 || c == 39
theorem F9:uk uB 223 rO=true:=by kernel_rfl
theorem IQ:uk uB 224 ll=true:=by kernel_rfl
theorem Ju:uk uB 296 tO=true:=by kernel_rfl
theorem LJ:uk uB 297 y5=true:=by kernel_rfl
theorem Az {s:ByteArray} {c:Int} (h:c∈dL s):0<=c/\c<=255:=by
 unfold dL at h
 obtain⟨b,_,rfl⟩:=O9.1 h
 have:=b.toNat_lt
 omega
theorem Hb (s:ByteArray):eC s=(dL s).map λx=>[gy x]:=by simp[eC,dL]
noncomputable def Ek:List (FuncId × DF):=yf Tryz.prog [(44,[]),(87,[]),(145,[]),(207,[]),(255,[]),(256,[]),(257,[]),(258,[]),(286,[]),(208,[]),(259,[]),(209,[]),(234,[]),(233,[]),(232,[]),(260,[]),(261,[]),(262,[]),(146,[]),(213,[]),(212,[]),(263,[]),(264,[]),(211,[]),(214,[]),(210,[]),(88,[1]),(149,[3]),(169,[]),(172,[]),(151,[4]),(216,[4]),(150,[2]),(170,[2]),(266,[3]),(147,[]),(215,[5]),(265,[]),(148,[])]
theorem Gy:pS Tryz.prog Ek:=xe _ _
def uC (l:List Int):V:=.aX (l.map λx=>[gy x])
theorem Ie (l:List Int):Tree (uC l):=iB _ _ λx _ v a=>by simp at a;subst a;exact .val _
def kH (g:ai):V:=.aU [.agg (ah g),.val (.complex .f64 0 0),gi 0]
theorem Ec {l:List Int} {g:ai} (h:q0 Tryz.prog Ek (λ_ _ _=>none) 44 [uC l]=some (kH g)):cJ Tryz.prog 44 [uC l] (kH g) :=
 rZ mixed Gy (Gq _) (by intro v a;simp at a;subst a;exact Ie _) h
abbrev cA (κ:Type):=List (κ × V × Nat)
def eA {κ:Type} (key:κ->Value) (m:cA κ):List (V × V × Nat):=m.map λx=>(.val (key x.1),x.2.1,x.2.2)
def getM {κ:Type} [BEq κ] (m:cA κ) (k:κ):Option V:=(m.find? λx=>k == x.1).map (·.2.1)
def bA {κ:Type} [BEq κ] (k:κ) (v:V) (c:Nat):cA κ->cA κ
 | []=>[(k,v,c)]
 | x :: r=>if k == x.1 then (k,v,x.2.2) :: r else x :: bA k v c r
structure B3 {κ:Type} [BEq κ] (P:Program) (kt:TypeId) (key:κ->Value):Prop where
 ty:∃ d,P.underlying kt=some d/\(∀ a b,Instr.sameNow d (key a) (key b)=some (a == b))/\(∀ a e,aT P (Instr.checkKey e 10000 kt (key a))=some ())
 bits:∀ a b,(a == b)=true->Instr.sameBits 10000 (key b) (key a)=true
theorem rS {κ:Type} (key:κ->Value):∀ m:cA κ,eX (eA key m)=some (m.map λx=>{ key:=key x.1,val:=.nilFunc,born:=x.2.2 })
 | []=>rfl
 | x :: r=>by
  have:=rS key r
  simp only[eA] at this
  simp[eA,eX,bO,this]
def eM {κ:Type} [BEq κ] (k:κ):cA κ->Option Nat
 | []=>none
 | x :: r=>if k == x.1 then some 0 else (eM k r).map (·+1)
theorem vG {κ:Type} [BEq κ] {key:κ->Value} {d:TypeDesc} (h:∀ a b,Instr.sameNow d (key a) (key b)=some (a == b)) (k:κ):∀ (m:cA κ) (i:Nat),
  Instr.findNow d (key k) (m.map λx=>{ key:=key x.1,val:=.nilFunc,born:=x.2.2 }) i=some ((eM k m).map λj=>(i+j,.nilFunc))
 | [],i=>rfl
 | x :: r,i=>by
  simp only[Pa,Instr.findNow,h,eM]
  cases hk:k == x.1 with
  | true=>simp
  | false =>
   simp only[vG h k r (i+1),Pb,if_false,Option.map_map]
   congr 2
   funext j
   simp only[Function.comp]
   congr 1
   omega
theorem zV {κ:Type} [BEq κ] {P:Program} {kt:TypeId} {key:κ->Value} (h:B3 P kt key) (k:κ) (e:Bool) (m:cA κ):jJ P kt (.val (key k)) e (eA key m)=some (eM k m):=by
 obtain⟨d,a,b,c⟩:=h.ty
 have hu:aT P (underlying kt)=some d:=cI a
 simp only[jJ,bO,rS,aI,c,Pj]
 have:aT P (Instr.findKey kt (key k) (m.map λx=>{ key:=key x.1,val:=.nilFunc,born:=x.2.2 }))=some ((eM k m).map λj=>(0+j,.nilFunc)):=by
  unfold Instr.findKey
  rw[aI,hu,Pj,vG b]
  rfl
 rw[this]
 cases eM k m with
 | none=>rfl
 | some j=>simp
theorem yz {P:Program} {kt:TypeId} {d:TypeDesc} (h:P.underlying kt=some d) (a:match d with | .int _ | .string | .bool=>True | _=>False) (e:Bool) (n:Nat) (v:Value):aT P (Instr.checkKey e (n+1) kt v)=some ():=by
 unfold Instr.checkKey
 rw[aI,cI h,Pj]
 cases d <;> first | exact a.elim | rfl
theorem CT {P:Program} {kt:TypeId} (k:IntKind) (h:P.underlying kt=some (.int k)):B3 P kt (Value.int k) where
 ty:=⟨_,h,λa b=>by simp[Instr.sameNow],λa e=>yz h trivial e 9999 _⟩
 bits:=λa b c=>by
  have:a=b:=by simpa using c
  subst this
  simp[Instr.sameBits]
theorem wW {κ:Type} [BEq κ] {key:κ->Value} (k:κ):∀ m:cA κ,match eM k m with
  | some i=>∃ x,m[i]?=some x/\(k == x.1)=true/\getM m k=some x.2.1/\(eA key m)[i]?=some (.val (key x.1),x.2.1,x.2.2)/\∀ v c,(eA key m).set i (.val (key k),v,x.2.2)=eA key (bA k v c m)/\(bA k v c m).length=m.length
  | none=>getM m k=none/\∀ v c,eA key m ++ [(.val (key k),v,c)]=eA key (bA k v c m)/\(bA k v c m).length=m.length+1
 | []=>⟨rfl,λv c=>⟨rfl,rfl⟩⟩
 | x :: r=>by
  have a:=wW (key:=key) k r
  simp only[eM]
  cases hk:k == x.1 with
  | true=>exact⟨x,rfl,hk,by simp[getM,hk],rfl,λv c=>by simp[bA,hk,eA]⟩
  | false =>
   simp only[Pb,if_false]
   cases hi:eM k r with
   | some i =>
    rw[hi] at a
    obtain⟨y,h1,b,d,e,f⟩:=a
    refine⟨y,by simpa using h1,b,by simpa [getM,hk] using d,by simpa [eA] using e,λv c=>?_⟩
    obtain⟨g1,g2⟩:=f v c
    exact⟨by simp only[eA] at g1 ⊢;simp[bA,hk,g1],by simp[bA,hk,g2]⟩
   | none =>
    rw[hi] at a
    refine⟨by simpa [getM,hk] using a.1,λv c=>?_⟩
    obtain⟨g1,g2⟩:=a.2 v c
    exact⟨by simp only[eA] at g1 ⊢;simp[bA,hk,g1],by simp[bA,hk,g2]⟩
section
variable {P:Program} {T:Env} {H:View} {κ:Type} [BEq κ] {key:κ->Value} {kt et t ty:TypeId}
theorem Ni {K:V->View->Prop} {w:bL (T,H,K)} {x i:Operand} {z:V} {id c:Nat} {m:cA κ} {k:κ} (hm:cU P t=some (kt,et)) (d:zeroV P et=some z) (hk:B3 P kt key)
  (e:ev T x=.mp id) (hi:ev T i=.val (key k)) (hH:H id=.map (eA key m) c) (h:K ((getM m k).getD z) H):oD P (.lookup t x i false) ty T H K w:=by
 intro n _
 have f:=zV hk k (eA key m).isEmpty m
 have a:=wW (key:=key) k m
 refine⟨(getM m k).getD z,.none,[id],?_,h⟩
 simp only[sI,bo,oper,dG,hm,d,e,hi,hH,f]
 cases b:eM k m with
 | some j =>
  rw[b] at a
  obtain⟨y,h1,o,g,l,_⟩:=a
  simp[l,g]
 | none =>
  rw[b] at a
  simp[a.1]
theorem Kx (hk:B3 P kt key) (k a:κ) (h:(k == a)=true):sameKey (.val (key a)) (.val (key k))=true:=by
 simp only[sameKey,bO];exact hk.bits _ _ h
theorem Hk {K:V->View->Prop} {w:bL (T,H,K)} {x i y:Operand} {id c:Nat} {m:cA κ} {k:κ} {v:V} (hm:cU P t=some (kt,et)) (hk:B3 P kt key)
  (d:ev T x=.mp id) (hi:ev T i=.val (key k)) (e:ev T y=v) (hH:H id=.map (eA key m) c)
  (h:∀ g,K .any (H.set id (.map (eA key (bA k v c m)) g))):oD P (.mapUpdate t x i y) ty T H K w:=by
 intro n _
 have a:=zV hk k false m
 have b:=wW (key:=key) k m
 cases f:eM k m with
 | some j =>
  rw[f] at b a
  obtain⟨z,h1,l,q,o,p⟩:=b
  refine⟨.any,.dP id (.map ((eA key m).set j (.val (key k),v,z.2.2)) c),[id],?_,?_⟩
  .simp only[sI,bo,oper,ep,hm,d,hi,e,hH,a,o,Kx hk k z.1 l,if_true]
  .rw[(p v c).1];exact h c
 | none =>
  rw[f] at b a
  refine⟨.any,.dP id (.map (eA key m ++ [(.val (key k),v,c)]) (c+1)),[id],?_,?_⟩
  .simp only[sI,bo,oper,ep,hm,d,hi,e,hH,a]
  .rw[(b.2 v c).1];exact h (c+1)
omit [BEq κ] in
theorem My {K:V->View->Prop} {w:bL (T,H,K)} {x:Operand} {id c:Nat} {m:cA κ} (hm:cU P t=some (kt,et)) (d:ev T x=.mp id) (hH:H id=.map (eA key m) c) (h:K (bz m.length) H) :
  oD P (.call { callee:=.builtin .len,args:=#[x],argTypes:=#[t] }) ty T H K w:=by
 intro n _
 have hu:∃ a b,P.underlying t=some (.map a b):=by
  unfold cU at hm
  split at hm
  .rename_i a b h1;exact⟨a,b,h1⟩
  .simp at hm
 obtain⟨a,b,hu⟩:=hu
 refine⟨bz m.length,.none,[id],?_,h⟩
 have e:(eA key m).length=m.length:=by simp[eA]
 simp only[sI,bo,oper,PZ,OY,Pc,qN,hu,d,hH,e]
 simp[hu,d,hH,e,qN]
end
theorem po {κ:Type} [BEq κ] [LawfulBEq κ] (k a:κ) (v:V) (c:Nat):∀ m:cA κ,getM (bA k v c m) a=if a == k then some v else getM m a
 | []=>by
  by_cases h:a=k
  .subst h;simp[bA,getM]
  .simp[bA,getM,h]
 | x :: r=>by
  have b:=po k a v c r
  simp only[bA]
  by_cases hk:k=x.1
  .by_cases h:a=k
   .subst h;simp[hk,getM]
   .have:¬ a=x.1:=λe=>h (e.trans hk.symm)
    simp[hk,getM,this]
  .simp only[PB,hk,if_false]
   by_cases h:a=x.1
   .have:¬ a=k:=λe=>hk (e.symm.trans h)
    simp[getM,h]
    subst h
    simp[this]
   .simp only[getM,List.find?_cons,beq_eq_false_iff_ne.2 h] at b ⊢
    exact b
def dA {κ β:Type} [BEq κ] (a:List (κ × β)) (k:κ):Option β:=(a.find? λx=>k == x.1).map (·.2)
def jc {κ β:Type} [BEq κ] (k:κ) (v:β):List (κ × β)->List (κ × β)
 | []=>[(k,v)]
 | x :: r=>if k == x.1 then (k,v) :: r else x :: jc k v r
def l9 {κ β:Type} (encV:β->V):List (κ × β)->cA κ->Prop
 | [],[]=>True
 | x :: a,y :: m=>y.1=x.1/\y.2.1=encV x.2/\l9 encV a m
 | _,_=>False
theorem l9.get {κ β:Type} [BEq κ] {encV:β->V} (k:κ):∀ {a:List (κ × β)} {m:cA κ},l9 encV a m->getM m k=(dA a k).map encV
 | [],[],_=>rfl
 | x :: a,y :: m,⟨h1,c,d⟩=>by
  have b:=l9.get k d
  simp only[getM,dA,List.find?_cons,h1] at b ⊢
  cases k == x.1 with
  | true=>simp[c]
  | false=>simpa using b
theorem l9.put {κ β:Type} [BEq κ] {encV:β->V} (k:κ) (v:β) (c:Nat):∀ {a:List (κ × β)} {m:cA κ},l9 encV a m->l9 encV (jc k v a) (bA k (encV v) c m)
 | [],[],_=>⟨rfl,rfl,trivial⟩
 | x :: a,y :: m,⟨h1,d,b⟩=>by
  have e:=l9.put k v c b
  simp only[jc,bA,h1]
  cases k == x.1 with
  | true=>exact⟨rfl,rfl,b⟩
  | false=>exact⟨h1,d,e⟩
theorem l9.len {κ β:Type} {encV:β->V} : ∀ {a:List (κ × β)} {m:cA κ},l9 encV a m->m.length=a.length
 | [],[],_=>rfl
 | x :: a,y :: m,⟨_,_,b⟩=>by simp[l9.len b]
theorem B1 {κ β:Type} [BEq κ] [LawfulBEq κ] (k b:κ) (v:β):∀ a:List (κ × β),dA (jc k v a) b=if b == k then some v else dA a b
 | []=>by
  by_cases h:b=k
  .subst h;simp[jc,dA]
  .simp[jc,dA,h]
 | x :: r=>by
  have c:=B1 k b v r
  simp only[jc]
  by_cases hk:k=x.1
  .by_cases h:b=k
   .subst h;simp[hk,dA]
   .have:¬ b=x.1:=λe=>h (e.trans hk.symm)
    simp[hk,dA,this]
  .simp only[PB,hk,if_false]
   by_cases h:b=x.1
   .have:¬ b=k:=λe=>hk (e.symm.trans h)
    simp[dA,h]
    subst h
    simp[this]
   .simp only[dA,List.find?_cons,beq_eq_false_iff_ne.2 h] at c ⊢
    exact c
def Ei (n k:Nat) (J:Nat->Env->View->Prop) (T:Env) (H:View):Prop:=∃ i,i+k=n/\J i T H
theorem aP.up {P:Program} {T:Env} {H:View} {c:SC} {Q:Exit->Env->View->Prop} {v:bL (T,H,Q)} (n:Nat) (J:Nat->Env->View->Prop) (d:J 0 T H)
  (f:∀ i k T H,i+k=n->J i T H->wS P c T H λe a H'=>vZ e (∃ b,b < k/\Ei n b J a H') (Q e a H')):aP P c T H Q v :=
 aP.intro (λk T H=>Ei n k J T H) n ⟨0,by omega,d⟩ λk T H ⟨i,hk,g⟩=>f i k T H hk g
theorem ay {n i k:Nat} {J:Nat->Env->View->Prop} {T:Env} {H:View} (hk:i+k=n) (b:i < n) (c:J (i+1) T H):∃ a,a < k/\Ei n a J T H:=⟨k - 1,by omega,i+1,by omega,c⟩
def owner:V->Option Nat
 | .sl id _ _ _=>some id
 | _=>none
def aO (H:View) (u:V) (sz:Nat) (es:List (List V)):Prop :=
 (es=[]/\∃ k,u=.emp k)∨(∃ n,u=.sl n 0 es.length sz/\H n=.arr sz es)
theorem aO.nil {H:View} {sz k:Nat} : aO H (.emp k) sz []:=.inl ⟨rfl,k,rfl⟩
theorem aO.len {H:View} {u:V} {sz:Nat} {es:List (List V)} (h:aO H u sz es):dh u=some es.length:=by
 rcases h with ⟨rfl,k,rfl⟩ | ⟨n,rfl,_⟩ <;> rfl
theorem aO.live {H:View} {u:V} {sz:Nat} {es:List (List V)} (h:aO H u sz es) {id:Nat} (a:owner u=some id):H id=.arr sz es/\u=.sl id 0 es.length sz:=by
 rcases h with ⟨rfl,k,rfl⟩ | ⟨n,rfl,b⟩
 .simp[owner] at a
 .simp[owner] at a;subst a;exact⟨b,rfl⟩
theorem aO.keep {H H':View} {u:V} {sz:Nat} {es:List (List V)} (h:aO H u sz es) (hk:∀ id,owner u=some id->H' id=H id):aO H' u sz es:=by
 rcases h with ⟨rfl,k,rfl⟩ | ⟨n,rfl,a⟩
 .exact .inl ⟨rfl,k,rfl⟩
 .exact .inr ⟨n,rfl,by rw[hk n rfl];exact a⟩
theorem aO.fresh {H:View} {u:V} {sz m:Nat} {es:List (List V)} {o:bp} (h:aO H u sz es) (hm:H m=.dead):aO (H.set m o) u sz es :=
 h.keep λid a=>by
  have:=(h.live a).1
  have e:id≠m:=by rintro rfl;rw[hm] at this;simp at this
  simp[View.set,e]
theorem aO.ne {H:View} {u:V} {sz m:Nat} {es:List (List V)} (h:aO H u sz es) (hm:H m=.dead):owner u≠some m:=λe=>by
 have:=(h.live e).1;rw[hm] at this;simp at this
theorem aO.other {H:View} {u:V} {sz m:Nat} {es:List (List V)} {o:bp} (h:aO H u sz es) (hm:owner u≠some m):aO (H.set m o) u sz es :=
 h.keep λid a=>by
  have e:id≠m:=by rintro rfl;exact hm a
  simp[View.set,e]
theorem aO.new {H:View} {n sz:Nat} {es:List (List V)} : aO (H.set n (.arr sz es)) (.sl n 0 es.length sz) sz es:=.inr ⟨n,rfl,by simp[View.set]⟩
theorem cL {H:View} {m z sz:Nat} {e:List V} : bD (View.set H m (.arr z [e])) (.sl m 0 1 sz)=some ([e],[m]):=by
 simp[bD,View.set]
def Left (H H':View) (u u':V):Prop:=∀ id,H id≠.dead->owner u≠some id->H' id=H id/\owner u'≠some id
theorem p7 {sz bytes:Nat} {u:V} {es xs:List (List V)} {H:View} {K:V->View->Prop} {w:bL (H,K)} (d:aO H u sz es) (g:xs≠[]) (b:(xs.all λe=>e.length == sz && e.all aD)=true)
  (f:(es.length+xs.length) * bytes < aB) (c:es.length+xs.length < aB) (hk:∀ u' H',aO H' u' sz (es ++ xs)->Left H H' u u'->K u' H'):ow sz bytes u xs H K w:=by
 have he:xs.isEmpty=false:=by cases xs with | nil=>exact absurd rfl g | cons=>rfl
 rcases d with ⟨rfl,k,rfl⟩ | ⟨n,rfl,h⟩
 .rw[ur _ _ _ _ _ _ _ he]
  refine⟨b,⟨by simpa using f,by simpa using c⟩,λm hm=>hk _ _ ?_ ?_⟩
  .exact .inr ⟨m,rfl,by simp[View.set]⟩
  .intro id a _
   have e:id≠m:=by rintro rfl;exact a hm
   exact⟨by simp[View.set,e],by simp[owner,Ne.symm e]⟩
 .rw[w8 _ _ _ _ _ _ _ _ _ _ he,h]
  refine⟨b,⟨by simp,rfl,f,c⟩,λm hm=>hk _ _ ?_ ?_⟩
  .refine .inr ⟨m,by simp,by simp[View.set]⟩
  .intro id a d
   have e:id≠m:=by rintro rfl;exact a hm
   have i:id≠n:=by rintro rfl;exact d rfl
   exact⟨by simp[View.set,e,i],by simp[owner,Ne.symm e]⟩
theorem Left.refl {H:View} {u:V} : Left H H u u:=λ_ _ h=>⟨rfl,h⟩
theorem uE {sz bytes:Nat} {u:V} {es xs:List (List V)} {H:View} {K:V->View->Prop} {w:bL (H,K)} (a:aO H u sz es) (b:(xs.all λe=>e.length == sz && e.all aD)=true)
  (d:(es.length+xs.length) * bytes < aB) (c:es.length+xs.length < aB) (hk:∀ u' H',aO H' u' sz (es ++ xs)->Left H H' u u'->K u' H'):ow sz bytes u xs H K w:=by
 cases xs with
 | nil =>
  have:=hk u H (by simpa using a) .refl
  rcases a with ⟨rfl,k,rfl⟩ | ⟨n,rfl,f⟩
  .exact this
  .exact this
 | cons x xs=>exact p7 a (by simp) b d c hk
theorem ey.own {H:View} {u:V} {sz:Nat} {es:List (List V)} (h:aO H u sz es) (a:∀ e∈es,∀ v∈e,Tree v):ey H u (.aX es):=by
 rcases h with ⟨rfl,k,rfl⟩ | ⟨n,rfl,b⟩
 .exact λh _=>.emp k
 .have:=ey.sl (off:=0) (len:=es.length) (esz:=sz) b (by simp) a
  rwa [List.drop_zero,O8 (by simp)] at this
theorem de.own {h:aw} {u:V} {sz:Nat} {es:List (List V)} {es':List (List V)} (b:aO h.view u sz es) (a:es'.length=es.length) (hi:∀ i,i < es.length->(es'.getD i []).length=(es.getD i []).length)
  (c:∀ i j,i < es.length->j < (es'.getD i []).length->de h ((es.getD i []).getD j .any) ((es'.getD i []).getD j .any)):de h u (.aX es'):=by
 rcases b with ⟨rfl,k,rfl⟩ | ⟨n,rfl,d⟩
 .have:es'=[]:=PS.1 (by simpa using a)
  subst this
  exact .emp k
 .exact .sl n 0 es.length sz sz es es' d (by simp) a (λi h=>by rw[PA];exact hi i h) (λi j h1 e=>by rw[PA];exact c i j h1 e)
theorem de.yV {h:aw} {α:Type} {u:V} {sz:Nat} {l:List α} {f:α->Value} (b:aO h.view u sz (l.map λx=>[V.val (f x)])):de h u (.aX (l.map λx=>[V.val (f x)])):=by
 refine de.own b rfl (λi _=>rfl) (λi j hi a=>?_)
 simp only[OX] at hi
 have e:(l.map λx=>[V.val (f x)]).getD i []=[V.val (f l[i])]:=by simp[OH,hi]
 rw[e] at a ⊢
 have:j=0:=by simp at a;omega
 subst this
 exact .val _
def jK (H H':View) (r:V):Prop:=∀ id,H id≠.dead->H' id=H id/\owner r≠some id
theorem jK.emp {H:View} {k:Nat} : jK H H (.emp k):=λ_ _=>⟨rfl,by simp[owner]⟩
theorem jK.new {H:View} {n a b c:Nat} {o:bp} (f:H n=.dead):jK H (H.set n o) (.sl n a b c):=λid d=>by
 have e:id≠n:=by rintro rfl;exact d f
 exact⟨by simp[View.set,e],by simp[owner,Ne.symm e]⟩
theorem aO.left {H H':View} {u u' x:V} {sz:Nat} {es:List (List V)} (h:aO H x sz es) (b:Left H H' u u') (c:∀ id,owner x=some id->owner u≠some id):aO H' x sz es :=
 h.keep λid a=>(b id (by rw[(h.live a).1];simp) (c id a)).1
theorem aO.Jp {H H':View} {x r:V} {sz:Nat} {es:List (List V)} (h:aO H x sz es) (b:jK H H' r):aO H' x sz es :=
 h.keep λid a=>(b id (by rw[(h.live a).1];simp)).1
theorem set_set {H:View} {n:Nat} {a b:bp} : View.set (View.set H n a) n b=View.set H n b:=by
 funext id;simp only[View.set];split <;> rfl
theorem c9 {m b:Nat} {o x:bp} (h:(if m=b then o else x)=.dead) (a:o≠.dead):m≠b/\x=.dead:=by
 split at h
 .exact absurd h a
 .rename_i e;exact⟨e,h⟩
theorem cT {z:Nat} {es:List (List V)} : bp.arr z es≠.dead:=by simp
def mI (H:View):List V->List V->Prop
 | [],[]=>True
 | v :: vs,t :: ts=>ey H v t/\mI H vs ts
 | _,_=>False
theorem mI.len {H:View} : ∀ {vs a:List V},mI H vs a->a.length=vs.length
 | [],[],_=>rfl
 | _ :: _,_ :: _,h=>by simp[mI.len h.2]
theorem mI.get {H:View} : ∀ {vs a:List V},mI H vs a->∀ i,i < vs.length->ey H (vs.getD i .any) (a.getD i .any)
 | [],[],_,i,hi=>by simp at hi
 | _ :: _,_ :: _,h,0,_=>h.1
 | _ :: _,_ :: _,h,i+1,hi=>mI.get h.2 i (by simpa using hi)
theorem aj.FL {P:Program} {q:Bool} {f:FuncId} {H:View} {vs b:List V} {K:V->View->Prop} {v:bL (H,K)} {t:V} (d:ar P f b t) (a:bX P f=true) (e:wJ t) (c:mI H vs b) (hk:K t H):aj P q f vs H K v :=
 aj.borrow d a e c.len c.get hk
theorem aj.vt {P:Program} {q:Bool} {f:FuncId} {H:View} {vs b:List V} {K:V->View->Prop} {v:bL (H,K)} {t:V} (d:cJ P f b t) (a:bX P f=true) (c:mI H vs b) (hk:K t H):aj P q f vs H K v :=
 aj.vf d a c.len c.get hk
theorem aO.sl {H:View} {u:V} {sz:Nat} {es:List (List V)} (h:aO H u sz es) (a:0 < es.length):∃ n,u=.sl n 0 es.length sz/\H n=.arr sz es:=by
 rcases h with ⟨rfl,_⟩ | h
 .simp at a
 .exact h
abbrev dS:=V × Nat × List (List V)
def bf (H:View) (L:List dS):Prop:=(∀ x∈L,aO H x.1 x.2.1 x.2.2)/\(L.filterMap λx=>owner x.1).Nodup
theorem bf.nil {H:View} : bf H []:=⟨λx a=>by simp at a,by simp⟩
theorem bf.head {H:View} {x:dS} {L:List dS} (h:bf H (x :: L)):aO H x.1 x.2.1 x.2.2:=h.1 x (by simp)
theorem bf.tail {H:View} {x:dS} {L:List dS} (h:bf H (x :: L)):bf H L:=by
 refine⟨λy a=>h.1 y (by simp[a]),?_⟩
 have:=h.2
 simp only[P9] at this
 split at this
 .exact this
 .exact(Ps.1 this).2
theorem bf.perm {H:View} {L a:List dS} (h:bf H L) (p:L.Perm a):bf H a :=
 ⟨λx b=>h.1 x (p.mem_iff.2 b),(p.filterMap _).nodup_iff.1 h.2⟩
theorem oV {α:Type} : ∀ (L:List α) (k:Nat) (hk:k < L.length),L.Perm (L[k] :: L.eraseIdx k)
 | x :: L,0,_=>.refl _
 | x :: L,k+1,hk=>by
  have:=oV L k (by simpa using hk)
  exact(this.cons x).trans (.swap _ _ _)
theorem bf.at {H:View} {L:List dS} (h:bf H L) (k:Nat) (hk:k < L.length):bf H (L[k] :: L.eraseIdx k) :=
 h.perm (oV L k hk)
theorem bf.obj {H:View} {n k sz:Nat} {es:List (List V)} {L:List dS} (h:bf H ((.sl n 0 k sz,sz,es) :: L)) (a:es≠[]):H n=.arr sz es/\k=es.length:=by
 rcases h.head with ⟨e,_⟩ | ⟨m,e,hm⟩
 .exact absurd e a
 .simp only[V.sl.injEq] at e
  obtain⟨rfl,_,rfl,_⟩:=e
  exact⟨hm,rfl⟩
theorem bf.off {H:View} {x:dS} {L:List dS} (h:bf H (x :: L)) {id:Nat} (a:owner x.1=some id):∀ y∈L,owner y.1≠some id:=by
 intro y b e
 have:=h.2
 simp only[P9,a,Ps,Qp,not_exists,not_and] at this
 exact this.1 y b e
theorem bf.live {H:View} {x:dS} {L:List dS} (h:bf H L) (b:x∈L) {id:Nat} (a:owner x.1=some id):H id≠.dead:=by
 rw[((h.1 x b).live a).1];simp
theorem bf.keep {H H':View} {L:List dS} (h:bf H L) (hk:∀ x∈L,∀ id,owner x.1=some id->H' id=H id):bf H' L :=
 ⟨λx a=>(h.1 x a).keep (hk x a),h.2⟩
theorem bf.new {H:View} {L:List dS} (h:bf H L) {n:Nat} (b:H n=.dead) (sz:Nat) (es:List (List V)):bf (H.set n (.arr sz es)) ((.sl n 0 es.length sz,sz,es) :: L):=by
 refine⟨λx a=>?_,?_⟩
 .rcases O1.1 a with rfl | a
  .exact .new
  .exact(h.1 x a).fresh b
 .simp only[P9,owner,Ps,Qp,not_exists,not_and]
  exact⟨λx a e=>h.live a e b,h.2⟩
theorem bf.fresh {H:View} {L:List dS} (h:bf H L) {n:Nat} (a:H n=.dead) {o:bp} : bf (H.set n o) L :=
 ⟨λx b=>(h.1 x b).fresh a,h.2⟩
theorem bf.put {H:View} {L:List dS} {n k sz:Nat} {es es':List (List V)} (h:bf H ((.sl n 0 k sz,sz,es) :: L)) (b:es'.length=es.length) (hk:k=es.length):bf (H.set n (.arr sz es')) ((.sl n 0 k sz,sz,es') :: L):=by
 refine⟨λx a=>?_,by simpa [P9,owner] using h.2⟩
 rcases O1.1 a with rfl | a
 .exact .inr ⟨n,by simp[b,hk],by simp[View.set]⟩
 .exact(h.1 x (by simp[a])).other (h.off rfl x a)
theorem bf.left {H H':View} {L:List dS} {u u':V} {sz:Nat} {es es':List (List V)} (h:bf H ((u,sz,es) :: L)) (i:aO H' u' sz es') (f:Left H H' u u'):bf H' ((u',sz,es') :: L):=by
 have b:∀ x∈L,∀ id,owner x.1=some id->owner u≠some id:=λx a id c hu=>h.off hu x a c
 refine⟨λx a=>?_,?_⟩
 .rcases O1.1 a with rfl | a
  .exact i
  .exact(h.1 x (by simp[a])).left f (b x a)
 .have g:=h.tail.2
  cases hu:owner u' with
  | none=>simp only[P9,hu];exact g
  | some id =>
   simp only[P9,hu,Ps,Qp,not_exists,not_and]
   refine⟨λx a e=>?_,g⟩
   have d:=h.tail.live a e
   exact(f id d (b x a id e)).2 hu
theorem eZ {sz bytes:Nat} {u:V} {es xs:List (List V)} {L:List dS} {H:View} {K:V->View->Prop} {w:bL (H,K)} (c:bf H ((u,sz,es) :: L)) (a:(xs.all λe=>e.length == sz && e.all aD)=true)
  (f:(es.length+xs.length) * bytes < aB) (b:es.length+xs.length < aB) (hk:∀ u' H',bf H' ((u',sz,es ++ xs) :: L)->Left H H' u u'->K u' H'):ow sz bytes u xs H K w :=
 uE c.head a f b λu' H' h1 d=>hk u' H' (c.left h1 d) d
theorem bf.stay {H H':View} {L:List dS} (h:bf H L) (b:∀ id,H id≠.dead->H' id=H id):bf H' L :=
 h.keep λx c _ a=>b _ (h.live c a)
theorem bf.emp {H:View} {L:List dS} (h:bf H L) {k sz:Nat} : bf H ((.emp k,sz,[]) :: L):=by
 refine⟨λx a=>?_,by simpa [P9,owner] using h.2⟩
 rcases O1.1 a with rfl | a
 .exact .nil
 .exact h.1 x a
theorem aO.cells {H:View} {u:V} {sz:Nat} {es:List (List V)} (h:aO H u sz es):V.cells u=[u]:=by
 rcases h with ⟨rfl,k,rfl⟩ | ⟨n,rfl,_⟩ <;> rfl
theorem aO.tz {H:View} {u:V} {sz:Nat} {es:List (List V)} (h:aO H u sz es):aD u=true:=by
 rcases h with ⟨rfl,k,rfl⟩ | ⟨n,rfl,_⟩ <;> rfl
theorem bf.Lp {H:View} {L:List dS} (h:bf H L) (i j:Nat) {a e s1 b k2 s2 t1 t2:Nat} {f g:List (List V)} (hi:L[i]?=some (.sl a 0 e s1,t1,f)) (k:L[j]?=some (.sl b 0 k2 s2,t2,g)) (c:i≠j):a≠b:=by
 rintro rfl
 obtain⟨d,hi⟩:=OV.1 hi
 have h1:=h.at i d
 rw[hi] at h1
 exact h1.off (id:=a) rfl _ (List.mem_eraseIdx_iff_getElem?.2 ⟨j,c.symm,k⟩) rfl
theorem Km {α:Type} {a b c:α} {l:List α} : (a :: b :: c :: l).Perm (b :: c :: a :: l):=(List.Perm.swap _ _ _).trans ((List.Perm.swap _ _ _).cons _)
theorem bf.own {H:View} {L:List dS} (h:bf H L) (i:Nat) {u:V} {sz:Nat} {es:List (List V)} (hi:L[i]?=some (u,sz,es)):aO H u sz es:=h.1 _ (O2 hi)
theorem bf.is {H:View} {L:List dS} (h:bf H L) (i:Nat) {n k sz:Nat} {es:List (List V)} (hi:L[i]?=some (.sl n 0 k sz,sz,es)) (a:0 < es.length):H n=.arr sz es:=by
 obtain⟨m,e,hm⟩:=(h.own i hi).sl a
 simp only[V.sl.injEq] at e
 rw[e.1];exact hm
theorem aj.E1 {P:Program} {f:FuncId} {vs:List V} {H:View} {K:V->View->Prop} {w:bL (H,K)} {sz:Nat} {es:List (List V)} (b:an P f vs H λr H'=>aO H' r sz es/\jK H H' r) (hk:∀ r H',aO H' r sz es->jK H H' r->K r H'):aj P true f vs H K w:=by
 unfold aj
 simp only[if_true]
 exact(b.mono λr H' h=>⟨λid a=>(h.2 id a).1,hk r H' h.1 h.2⟩).Gj
def uU:SC :=
 ae [ab [aV 20 .lss 19 18],bH 20 (.exit 0),.block 1 (ae [ab [aa 21 19,aa 3 21],ab [aa 22 0,aa 23 3,((some 24),.op (.ff (.tmp 22) (.tmp 23))),aJ 25 224 [24],bS 26 25],bc 26 (ae [ab [bb 2 false],.ret])]),ab [ax 27 .add 19 1,aa 19 27]]
def xT:SF:=⟨ae [ab [bb 2 false],ae [.region false [⟨none,[aa 4 0,((some 5),.op (.tN .eql (.tmp 4) (.val (.val (.string ⟨#[]⟩))))),aa 6 5]⟩,⟨(some (6,false)),[aa 7 0,((some 8),.op (.mf (.tmp 7))),ax 9 .gtr 8 20]⟩,⟨none,[bq 10 6 9,aa 11 10]⟩,⟨(some (11,false)),[aa 12 0,((some 13),.op (.ff (.tmp 12) (.val (.val (.int .i64 0))))),aJ 14 223 [13],bS 15 14]⟩,⟨none,[bq 16 11 15]⟩],bc 16 (ae [ab [bb 2 false],.ret])],ae [ab [aa 17 0,((some 18),.op (.mf (.tmp 17))),aN 19 0],bJ 0 uU],ab [bb 2 true],.ret],
 [.tmp 2],28⟩
theorem AK:aE Tryz.prog 158 []=some xT:=by kernel_rfl
def tq:SF:=⟨ae [ab [aN 2 0,aN 3 0],ab [aN 4 2],.block 0 (ae [ab [aa 6 0,aR 7 6,ax 8 .lss 7 2,aa 5 8],.cond (.tmp 5) (ae [ab [aN 2 0,aN 3 4],.ret]) (ae [ab [aa 10 0,((some 11),.op (.idx 1 (.tmp 10) (.val (.val (.int .i64 1))))),ak 12 11,aJ 13 296 [12],aa 9 13],bH 9 (ae [ab [aa 15 0,((some 16),.op (.idx 1 (.tmp 15) (.val (.val (.int .i64 1))))),ak 17 16,((some 18),.op (.arith .neq (.tmp 17) (.val (.val (.int .u8 92))))),aa 14 18],.cond (.tmp 14) (ae [ab [aN 2 0,aN 3 3],.ret]) (ae [ab [aa 20 0,aR 21 20,ax 22 .lss 21 3,aa 19 22],.cond (.tmp 19) (ae [ab [aN 2 0,aN 3 4],.ret]) (ae [ab [aa 24 0,((some 25),.op (.idx 1 (.tmp 24) (.val (.val (.int .i64 2))))),ak 26 25,aJ 27 297 [26],bS 28 27,aa 23 28],.cond (.tmp 23) (ae [ab [aN 2 0,aN 3 3],.ret]) (ab [aN 4 3])])])])])]),ae [ab [aa 29 0,aR 30 29,aa 31 4,aV 32 .leq 30 31],bc 32 (ae [ab [aN 2 0,aN 3 4],.ret])],ae [ab [aa 33 0,aa 34 4,aW 35 1 33 34,ak 36 35,((some 37),.op (.arith .neq (.tmp 36) (.val (.val (.int .u8 39)))))],bc 37 (ae [ab [aN 2 0,aN 3 3],.ret])],ab [aa 38 4,ax 39 .add 38 1,aa 2 39,aN 3 0],.ret],
 [.tmp 2,.tmp 3],40⟩
theorem wQ:aE Tryz.prog 287 []=some tq:=by kernel_rfl
def nI:SF:=⟨ae [ab [bb 2 false],ae [.region false [⟨none,[aa 5 0,((some 6),.op (.tN .eql (.tmp 5) (.val (.val (.string ⟨#[]⟩))))),aa 7 6]⟩,⟨(some (7,false)),[aa 8 0,((some 9),.op (.ff (.tmp 8) (.val (.val (.int .i64 0))))),((some 10),.op (.arith .neq (.tmp 9) (.val (.val (.int .u8 39)))))]⟩,⟨none,[bq 11 7 10]⟩],bc 11 (ae [ab [bb 2 false],.ret])],ab [aa 13 0,((some 14),.op (.ej (.tmp 13))),aJ 15 287 [14],aa 12 15,cP 16 0 12,cP 17 1 12,aa 3 16,aa 4 17],.region false [⟨none,[aa 18 4,ax 19 .eql 18 0,aa 20 19]⟩,⟨(some (20,true)),[aa 21 3,aa 22 0,((some 23),.op (.mf (.tmp 22))),aV 24 .eql 21 23]⟩,⟨none,[bV 25 20 24,aa 2 25]⟩],.ret],
 [.tmp 2],26⟩
theorem v8:aE Tryz.prog 267 [14]=some nI:=by kernel_rfl
def vW:SF:=⟨ae [ab [bb 2 false],.region false [⟨none,[aa 3 0,aJ 4 158 [3],aa 5 4]⟩,⟨(some (5,false)),[aa 6 0,aJ 7 267 [6]]⟩,⟨none,[bq 8 5 7,aa 2 8]⟩],.ret],
 [.tmp 2],9⟩
theorem yU:aE Tryz.prog 217 []=some vW:=by kernel_rfl
def tC:SF:=⟨ae [ab [bb 2 false],ab [aa 3 0,aJ 4 158 [3],bS 5 4,aa 2 5],.ret],
 [.tmp 2],6⟩
theorem wV:aE Tryz.prog 157 []=some tC:=by kernel_rfl
theorem uP (s:ByteArray):gD s ⟨#[]⟩=decide ((dL s).length=0):=by
 unfold gD
 rw[<-c6]
 have:(s.data.toList == ([]:List UInt8))=decide (s.data.toList.length=0):=by
  cases s.data.toList <;> rfl
 show (s.data.toList == ([]:List UInt8))=_
 rw[this]
 rfl
theorem KC (s:ByteArray) (H:View):an Tryz.prog 158 [gs s] H λr _=>r=gb (ew (dL s)):=by
 refine an.of mixed AK ?_
 repeat' (first | ((first|apply ag.dec|apply ag.eq|apply ag.ne|apply ag.split)<;>intro)|(simp(disch:=omega)only[↓wr,seval,wq,xT,c6,uP]))
 .rename_i h
  congr 2;simp[ew,h]
 .rename_i h1 h
  congr 2;simp[ew,show ¬ (dL s).length<=20 by omega]
 .rename_i h1 p
  cases e:dL s with
  | nil=>simp[e] at h1
  | cons c l =>
   have f:=λd (g:d∈c :: l)=>Az (s:=s) (c:=d) (by rw[e];exact g)
   have j:=f c (by simp)
   repeat' (first | ((first|apply ag.dec|apply ag.eq|apply ag.ne|apply ag.split)<;>intro)|(simp(disch:=omega)only[↓wr,seval,wq,e,O4,c6]))
   refine aj.pure (sw pT F9 c j.1 j.2) ?_
   repeat' (first | ((first|apply ag.dec|apply ag.eq|apply ag.ne|apply ag.split)<;>intro)|(simp(disch:=omega)only[↓wr,seval,wq,e,O4,c6]))
   .rename_i q
    rw[e] at h1 p
    refine aP.intro (λk T H'=>∃ i:Nat,i+k=(c :: l).length/\((c :: l).take i).all ll=true/\T 0=gs s/\T 18=gi (c :: l).length/\T 19=gi i) (c :: l).length ?_ ?_
    .exact⟨0,by omega,by simp,rfl,rfl,rfl⟩
    .rintro k T H' ⟨i,hk,hi,n,a,b⟩
     simp(disch:=omega)only[↓wr,seval,wq,uU,n,a,b,c6,e]
     apply ag.dec<;>intro t
     .simp only[OY] at t hk p
      have o:(c :: l)[i]?=some ((c :: l)[i]'(by simp;omega)):=OI (by simp;omega)
      have hm:(c :: l)[i]'(by simp;omega)∈c :: l:=OW _
      generalize (c :: l)[i]'(by simp;omega)=d at o hm
      have m:=f d hm
      simp(disch:=omega)only[↓wr,seval,wq,n,a,b,c6,e,o]
      refine aj.pure (sw pT IQ d m.1 m.2) ?_
      repeat' (first | ((first|apply ag.dec|apply ag.eq|apply ag.ne|apply ag.split)<;>intro)|(simp(disch:=omega)only[↓wr,seval,wq,n,a,b,c6,e,o]))
      .rename_i g
       refine⟨k - 1,by omega,i+1,by omega,?_,by first | rfl | exact⟨rfl,rfl⟩⟩
       rw[Pe,o]
       simp only[Option.toList_some,List.all_append,hi,PH,g,List.all_nil,Bool.and_self]
      .rename_i g
       congr 2
       have:(c :: l).all ll=false:=by
        rw[QA];exact⟨d,hm,by simp[g]⟩
       simp only[ew,this,Bool.and_false]
     .simp(disch:=omega)only[↓wr,seval,wq,n,a,b]
      simp only[OY] at t hk p
      rw[O8 (by simp;omega)] at hi
      congr 2
      simp only[ew,hi,OY]
      simp[q];omega
   .rename_i q
    congr 2;simp[ew,q]
theorem B8 (s:ByteArray):ar Tryz.prog 158 [gs s] (gb (ew (dL s))):=ar.val (mb s) (KC s)
def hE (l:List Int):Int × Int :=
 if tO (l.getD 1 0)=true then (2,0) else if l.getD 1 0≠92 then (0,3) else if l.length < 3 then (0,4) else if y5 (l.getD 2 0)=true then (3,0) else (0,3)
def j4 (l:List Int):Int × Int :=
 if l.length < 2 then (0,4) else if (hE l).2≠0 then (0,(hE l).2) else if (l.length:Int)<=(hE l).1 then (0,4) else if l.getD (hE l).1.toNat 0≠39 then (0,3) else ((hE l).1+1,0)
theorem Jv {l:List Int} {n:Int} (a:hE l=(n,0)) (b:¬ l.length < 2):j4 l=if (l.length:Int)<=n then (0,4) else if l.getD n.toNat 0≠39 then (0,3) else (n+1,0):=by
 rw[j4,OK b,a];simp
theorem BP {l:List Int} {e:Int} (a:hE l=(0,e)) (he:e≠0) (b:¬ l.length < 2):j4 l=(0,e):=by
 rw[j4,OK b,a];simp[he]
theorem Gp (l:List Int) (hr:∀ c∈l,0<=c/\c<=255) (H:View):an Tryz.prog 287 [.aX (l.map λx=>[gy x])] H λr _=>r=.aU [gi (j4 l).1,gi (j4 l).2]:=by
 refine an.of mixed wQ ?_
 simp(disch:=omega)only[↓wr,seval,wq,tq]
 apply ag.dec<;>intro h
 .simp(disch:=omega)only[↓wr,seval,wq]
  rw[j4,OM (by omega)]
 .have h1:l[1]?=some (l[1]'(by omega)):=OI (by omega)
  have g1:l.getD 1 0=l[1]'(by omega):=by simp[OH,h1]
  have m1:l[1]'(by omega)∈l:=OW _
  generalize l[1]'(by omega)=b at h1 g1 m1
  have o:=hr b m1
  simp(disch:=omega)only[↓wr,seval,wq,ON,h1]
  refine aj.pure (sw pT Ju b o.1 o.2) ?_
  simp(disch:=omega)only[↓wr,seval,wq]
  apply ag.split<;>intro hp
  .have p:hE l=(2,0):=by rw[hE,OM (by rw[g1];exact hp)]
   simp(disch:=omega)only[↓wr,seval,wq]
   have a:=Jv p (by omega)
   apply ag.dec<;>intro m
   .simp(disch:=omega)only[↓wr,seval,wq]
    rw[a,OM (by omega)]
   .rw[OK (by omega)] at a
    have g:l[2]?=some (l[2]'(by omega)):=OI (by omega)
    have g2:l.getD (2:Int).toNat 0=l[2]'(by omega):=by simp[OH,g]
    generalize l[2]'(by omega)=c at g g2
    rw[g2] at a
    simp(disch:=omega)only[↓wr,seval,wq,ON,g]
    apply ag.ne<;>intro i
    .simp(disch:=omega)only[↓wr,seval,wq]
     rw[a,OM i]
    .simp(disch:=omega)only[↓wr,↓reduceIte,wq,Nat.reduceEqDiff,Nat.reduceAdd,Nat.reduceLT,Nat.reduceLeDiff,Int.reduceNeg,Int.reduceToNat,reduceCtorEq]
     rw[a,OK (λq=>q i)]
  .simp(disch:=omega)only[↓wr,seval,wq,ON,h1]
   apply ag.ne<;>intro k
   .simp(disch:=omega)only[↓wr,seval,wq]
    rw[BP (e:=3) (by rw[hE,OK (by rw[g1,hp];simp),OM (by rw[g1];exact k)]) (by simp) (by omega)]
   .simp(disch:=omega)only[↓wr,seval,wq]
    apply ag.dec<;>intro s
    .simp(disch:=omega)only[↓wr,seval,wq]
     rw[BP (e:=4) (by rw[hE,OK (by rw[g1,hp];simp),OK (by rw[g1];exact λq=>q k),OM (by omega)]) (by simp) (by omega)]
    .have g:l[2]?=some (l[2]'(by omega)):=OI (by omega)
     have g2:l.getD 2 0=l[2]'(by omega):=by simp[OH,g]
     have m2:l[2]'(by omega)∈l:=OW _
     generalize l[2]'(by omega)=c at g g2 m2
     have j:=hr c m2
     have f:hE l=if y5 c=true then (3,0) else (0,3):=by rw[hE,OK (by rw[g1,hp];simp),OK (by rw[g1];exact λq=>q k),OK (by omega),g2]
     simp(disch:=omega)only[↓wr,seval,wq,ON,g]
     refine aj.pure (sw pT LJ c j.1 j.2) ?_
     simp(disch:=omega)only[↓wr,seval,wq]
     apply ag.split<;>intro he
     .rw[OM he] at f
      have a:=Jv f (by omega)
      simp(disch:=omega)only[↓wr,seval,wq]
      apply ag.dec<;>intro m
      .simp(disch:=omega)only[↓wr,seval,wq]
       rw[a,OM (by omega)]
      .rw[OK (by omega)] at a
       have n:l[3]?=some (l[3]'(by omega)):=OI (by omega)
       have g3:l.getD (3:Int).toNat 0=l[3]'(by omega):=by simp[OH,n]
       generalize l[3]'(by omega)=d at n g3
       rw[g3] at a
       simp(disch:=omega)only[↓wr,seval,wq,ON,n]
       apply ag.ne<;>intro i
       .simp(disch:=omega)only[↓wr,seval,wq]
        rw[a,OM i]
       .simp(disch:=omega)only[↓wr,↓reduceIte,wq,Nat.reduceEqDiff,Nat.reduceAdd,Nat.reduceLT,Nat.reduceLeDiff,Int.reduceNeg,Int.reduceToNat,reduceCtorEq]
        rw[a,OK (λq=>q i)]
     .rw[OK (by rw[he];simp)] at f
      simp(disch:=omega)only[↓wr,seval,wq]
      rw[BP f (by simp) (by omega)]
end Gv
