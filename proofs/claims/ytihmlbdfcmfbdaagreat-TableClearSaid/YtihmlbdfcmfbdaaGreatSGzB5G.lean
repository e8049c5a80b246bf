/-
  Part 7 of the proof: what the machine does and what the functions answer.
  Conditions: those that each lemma names.
-/
import Derived.Test.YtihmlbdfcmfbdaaGreatSGzB5F
set_option linter.unusedSimpArgs false
set_option linter.unusedVariables false
set_option maxRecDepth 100000
set_option maxHeartbeats 20000000
namespace Gv
open Go Go.Proofs
section
variable {P:Program} {n:Nat} {all:List Oper}
def j4 (h:aG) (e:ES):Prop:=e.V=h.view/\e.n=h.length
def Calm (e e':ES) (h h':aG):Prop:=h.length<=h'.length/\(∀ id,id < h.length->¬ id∈e'.w->h'.view id=h.view id/\¬ id∈e.w)
theorem Calm.trans {a b c:ES} {h1 e f:aG} (x:Calm a b h1 e) (y:Calm b c e f):Calm a c h1 f :=
 ⟨abp x.1 y.1,λid d hw =>
  let ⟨g,d1⟩:=y.2 id (aa3 d x.1) hw
  let ⟨h,d2⟩:=x.2 id d d1
  ⟨g.trans h,d2⟩⟩
theorem Calm.refl (e:ES) (h:aG):Calm e e h h:=⟨aaD _,λ_ _ hw=>⟨rfl,hw⟩⟩
def mC (P:Program) (call:jA):Prop:=∀ g vs e v e' h,call g vs e=some (v,e')->j4 h e ->
 dW P g=true/\∃ h',cd P g vs h v h'/\j4 h' e'/\(∀ id,id < h.length->¬ id∈e'.w->h'.view id=h.view id)/\∀ id,id∈e'.w->id < h.length
def zK (P:Program) (run:AE):Prop:=∀ (n:Nat) (fz:List Nat) (c:Code) (sc:DC),kq P n fz c=some sc->n<=8000->∀ (e e':ES) (r:Exit) (h:aG),run sc e=some (r,e')->j4 h e ->
 ∃ h',dw P n c e.T h r e'.T h'/\j4 h' e'/\Calm e e' h h'/\∀ c0,c=.loop c0->sm P n c0 e.T h r e'.T h'
theorem Sp {h:aG} {e:ES} {d:Option Nat} {v:V} (he:j4 h e):j4 h (e.put d v):=by cases d <;> exact he
theorem WG {e:ES} {d:Option Nat} {v:V} : (e.put d v).w=e.w:=by cases d <;> rfl
theorem UH {h:aG} {e e':ES} {b:aG} {d:Option Nat} {v:V} (x:Calm e e' h b):Calm e (e'.put d v) h b:=⟨x.1,λid a hw=>x.2 id a (by rw[WG] at hw;exact hw)⟩
theorem Ex {a:Nat} (h:Nat.ble a 8000=true):a+1 < 2 ^ 13:=by
 have:=Nat.le_of_ble_eq_true h
 omega
theorem WS {h:aG} {e e':ES} {v v':V} {eff:bH} {rd:List Nat} {c:Rec} (he:j4 h e) (a:Kk v eff rd e=some (v',e',c)) :
  v'=v/\e'.T=e.T/\e'.V=eff.view h.view h.length/\e'.n=(eff.apply h).length/\c=⟨rd,eff.wr,false,h.length,(eff.apply h).length⟩/\e'.w=eff.wr ++ e.w:=by
 obtain⟨h1,b⟩:=he
 unfold Kk at a
 cases eff with
 | none =>
  simp only[aau,aay] at a
  obtain⟨rfl,rfl,rfl⟩:=a
  exact⟨rfl,rfl,h1,b,by rw[b];rfl,rfl⟩
 | new o =>
  simp only at a
  split at a
  .rename_i d
   simp only[aau,aay] at a
   obtain⟨rfl,rfl,rfl⟩:=a
   refine⟨rfl,rfl,?_,by simp[iM,b],by simp[iM,b,bH.wr],rfl⟩
   funext k
   simp only[ES.V,bH.view,View.set]
   rw[cX.px _ _ _ _ _ _ (Ex d),b]
   have:=congrFun h1 k
   simp only[ES.V] at this
   rw[this]
  .simp at a
 | fQ id o =>
  simp only at a
  split at a
  .rename_i d
   simp only[aau,aay] at a
   obtain⟨rfl,rfl,rfl⟩:=a
   refine⟨rfl,rfl,?_,by simp[iM,b],by simp[iM,b,bH.wr],rfl⟩
   funext k
   simp only[ES.V,bH.view,View.set]
   rw[cX.px _ _ _ _ _ _ (Ex d)]
   have:=congrFun h1 k
   simp only[ES.V] at this
   rw[this]
  .simp at a
 | eF id o =>
  simp only at a
  split at a
  .rename_i f g
   simp only[aau,aay] at a
   obtain⟨rfl,rfl,rfl⟩:=a
   refine⟨rfl,rfl,?_,by simp[iM,b],by simp[iM,b,bH.wr],rfl⟩
   funext k
   simp only[ES.V,bH.view,View.set]
   rw[cX.px _ _ _ _ _ _ (Ex f),cX.px _ _ _ _ _ _ (Ex g),b]
   have:=congrFun h1 k
   simp only[ES.V] at this
   rw[this]
  .simp at a
theorem X5 {o:Oper} {e e':ES} {h:aG} {s:SI} {v:V} {c:Rec} (g:dU n all e.T o=some true) (i:∀ v eff rd,sI P s e.T h.view h.length=some (v,eff,rd)->cD P o e.T h.view h.length=some (v,eff,rd))
  (he:j4 h e) (b:Q8 P s e=some (v,e',c)):∃ d,er P n all o e.T h v d c.rd c.wr c.call/\j4 d e'/\e'.T=e.T/\Calm e e' h d/\mL (v8 P s) c.rd c.wr c.call h.length d.length/\c.lo=h.length/\c.hi=d.length:=by
 unfold Q8 at b
 rw[Qj,he.1,he.2] at b
 split at b
 .rename_i v0 eff rd hs
  obtain⟨rfl,g1,g2,g3,rfl,g5⟩:=WS he b
  have f:=i _ _ _ hs
  have st:=er.op (P:=P) (n:=n) (all:=all) g f
  refine⟨eff.apply h,st,⟨?_,g3⟩,g1,⟨wE st,λid a hw=>?_⟩,⟨λj=>?_,λh1=>?_⟩,rfl,rfl⟩
  .rw[nq (λid a=>(oJ f id a).1)];exact g2
  .rw[g5] at hw
   simp only[aaZ,not_or] at hw
   exact⟨uh st a hw.1,hw.2⟩
  .obtain⟨rfl,rfl⟩:=(uK hs).1 j
   exact⟨rfl,rfl,rfl,rfl⟩
  .rcases aaT (v8 P s) 1 with k | k
   .obtain⟨rfl,rfl⟩:=(uK hs).1 (by omega);rfl
   .exact(uK hs).2 (by omega)
 .simp at b
theorem Zd {call:jA} (i:mC P call) {p:Fz} {o:Oper} {e e':ES} {h:aG} {v:V} {c:Rec} (q:dU n all e.T o=some true) (he:j4 h e) (a:eB P call (oH P p o) e=some (v,e',c)) :
  ∃ j,er P n all o e.T h v j c.rd c.wr c.call/\j4 j e'/\e'.T=e.T/\Calm e e' h j/\mL (jZ P false (oH P p o)) c.rd c.wr c.call h.length j.length/\c.lo=h.length/\c.hi=j.length:=by
 rcases C5 P p o with ⟨f,args,A,l,b | b⟩ | ⟨t,x,l,b⟩ | ⟨s,d,x,l,r,b⟩ | b
 rotate_left
 .rw[b] at a
  simp[eB] at a
 rotate_right
 .rw[b] at a ⊢
  simp only[eB,RI] at a
  split at a
  .rename_i g first cap z
   rw[EW] at a
   rw[SX.c8] at z
   split at a
   .rename_i v0 E B
    obtain⟨k,j,hr,m,hd,u⟩:=i _ _ _ _ _ _ B he
    simp only[aau,aay] at a
    obtain⟨rfl,rfl,rfl⟩:=a
    exact⟨j,.call q l z k hr hd u,m,rfl,⟨hr.1,λid w hw=>by
     simp only[aaZ,not_or] at hw
     exact⟨hd id w hw.1,hw.2⟩⟩,Wm (by simp[jZ]),he.2,m.2⟩
   .simp at a
  .simp at a
 .rw[b] at a ⊢
  simp only[eB,Q8,Qj,sI,SX.c8] at a
  split at a
  .rename_i v0 eff rd hs
   split at hs
   .rename_i k
    simp only[aau,aay] at hs
    obtain⟨rfl,rfl,rfl⟩:=hs
    simp only[Kk,aau,aay] at a
    obtain⟨rfl,rfl,rfl⟩:=a
    exact⟨h,.kD q l k,he,rfl,Calm.refl _ _,⟨λ_=>⟨rfl,rfl,rfl,rfl⟩,λ_=>rfl⟩,he.2,he.2⟩
   .simp at hs
  .simp at a
 .rw[b] at a ⊢
  obtain⟨ty,h1,C,D⟩:=C9 r
  simp only[eB,Q8,Qj,sI,SX.c8] at a
  split at a
  .rename_i v0 eff rd hs
   split at hs
   .rename_i st y
    simp only[aau,aay] at hs
    obtain⟨rfl,rfl,rfl⟩:=hs
    simp only[Kk,aau,aay] at a
    obtain⟨rfl,rfl,rfl⟩:=a
    exact⟨h,.iq q l h1 C D y,he,rfl,Calm.refl _ _,⟨λ_=>⟨rfl,rfl,rfl,rfl⟩,λ_=>rfl⟩,he.2,he.2⟩
   .simp at hs
  .simp at a
 .rw[b] at a ⊢
  exact X5 (s:=Cg P p.fr (comp P o)) q (λv eff rd hs=>OK (OB hs)) he a
theorem X7 {o:Oper} (hd:uv n o=true) (a:n<=8000):∀ t,o.dst=some t->t < 8000:=by
 intro t b
 unfold uv at hd
 rw[b] at hd
 have:t < n:=by simpa using hd
 exact aa3 this a
theorem Xv {c:Rec} {a b:Nat} (h1:c.lo=a) (d:c.hi=b):c=⟨c.rd,c.wr,c.call,a,b⟩:=by cases c;subst h1;subst d;rfl
theorem Kq {call:jA} (i:mC P call) (N:n<=8000) {R:Fz} (g:Option (Nat × Bool)):∀ (l:List (Option Nat × SB)) (os:List Oper) (e e':ES) (h:aG) (a u:List Rec),
  dY P n all R os=some (l.map λ(d,b)=>⟨d,g,b⟩)->(∀ d w,g=some (d,w)->e.T d=.val (.bool w)/\(l.all λx=>x.1 != some d)=true)->j4 h e->MU P call l a e=some (e',u) ->
  ∃ f z,u=a ++ f/\Tr P n all os e.T h f e'.T z/\j4 z e'/\Calm e e' h z/\ig P false (l.map λ(d,b)=>⟨d,g,b⟩) f
 | [],os,e,e',h,a,u,A,B,he,k=>by
  have:=nh A;subst this
  simp only[MU,aau,aay] at k;obtain⟨rfl,rfl⟩:=k
  exact⟨[],h,by simp,.nil,he,Calm.refl _ _,.nil⟩
 | (d,b) :: l,os,e,e',h,a,u,A,B,he,k=>by
  obtain⟨o,r,rfl,h1,S⟩:=oh A
  obtain⟨hd,j,q,s⟩:=wz h1
  simp only at j q s
  have C:dU n all e.T o=some true:=by
   cases g with
   | none=>exact Ez s
   | some p =>
    obtain⟨D,w⟩:=p
    have:=(nA (T:=e.T) s).1 w (B D w rfl).1
    rw[this];simp
  simp only[MU] at k
  rw[q] at k
  split at k
  .rename_i v O c U
   obtain⟨E,st,F,G,H,hl,I,J⟩:=Zd i C he U
   have m:(O.put d v).T=e.T.put o.dst v:=by
    rw[ES.Wf (by rw[j];exact X7 hd N),G,j]
   obtain⟨f,K,V,Q,L,y,M⟩:=Kq i N g l r (O.put d v) e' E _ u S (λD w eq=>by
    have:=B D w eq
    simp only[abP,aaB,acy,ne_eq] at this
    refine⟨?_,this.2.2⟩
    rw[<-this.1,m,<-j]
    cases d with
    | none=>rfl
    | some t=>simp only[Env.put];rw[aat];intro e;subst e;exact this.2.1 rfl) (Sp F) k
   rw[m] at Q
   refine⟨_,K,?_,.cons st hd Q,L,(UH H).trans y,M.cons (by rw[q];exact hl)⟩
   rw[V,aa6,<-Xv I J];rfl
  .simp at k
theorem Ld {C:Fz} (A:n<=8000) (d:Nat) (w:Bool) (h:aG):∀ (l:List (Option Nat × SB)) (os:List Oper) (e e':ES) (a k:List Rec),
  dY P n all C os=some (l.map λ(g,b)=>⟨g,some (d,w),b⟩)->(e.T d=.val (.bool !w)∨e.T d=.bD [])->(l.all λx=>x.1 != some d)=true->j4 h e->zj l a e=(e',k) ->
  ∃ c,k=a ++ c/\Tr P n all os e.T h c e'.T h/\j4 h e'/\e'.w=e.w/\ig P false (l.map λ(g,b)=>⟨g,some (d,w),b⟩) c
 | [],os,e,e',a,k,q,hd,hl,he,m=>by
  have:=nh q;subst this
  simp only[zj,aay] at m;obtain⟨rfl,rfl⟩:=m
  exact⟨[],by simp,.nil,he,rfl,.nil⟩
 | (g,b) :: l,os,e,e',a,k,q,hd,hl,he,m=>by
  obtain⟨o,r,rfl,h1,D⟩:=oh q
  obtain⟨p,f,s,j⟩:=wz h1
  simp only at f s j
  have u:dU n all e.T o=some false:=by
   rcases hd with hd | hd
   .rw[(nA (T:=e.T) j).1 _ hd];cases w <;> rfl
   .exact(nA (T:=e.T) j).2 hd
  simp only[abP,aaB,acy,ne_eq] at hl
  have i:(e.put g (.bD [])).T=e.T.put o.dst (.bD []):=by
   rw[ES.Wf (by rw[f];exact X7 p A),f]
  simp only[zj] at m
  obtain⟨c,E,B,v,y,z⟩:=Ld A d w h l r (e.put g (.bD [])) e' _ k D (by
   have:(e.put g (.bD [])).T d=e.T d:=by
    rw[i,<-f]
    cases g with
    | none=>rfl
    | some t=>simp only[Env.put];rw[aat];intro e;subst e;exact hl.1 rfl
   rw[this];exact hd) hl.2 (Sp he) m
  rw[i] at B
  refine⟨_,?_,Tr.cons (.skip u) p B,v,by rw[y,WG],z.cons (r:=⟨[],[],false,h.length,h.length⟩) ⟨λ_=>⟨rfl,rfl,rfl,rfl⟩,λ_=>rfl⟩⟩
  rw[E,aa6,Ws,he.2];rfl
theorem Ir {j:Fz} (k:n<=8000) {d:Nat} {w:Bool} {h:aG} {l:List (Option Nat × SB)} {os:List Oper} {e e':ES} {a f:List Rec}
  (m:dY P n all j os=some (l.map λ(g,b)=>⟨g,some (d,w),b⟩)) (hd:e.T d=.val (.bool !w)∨e.T d=.bD []) (hl:(l.all λx=>x.1 != some d)=true) (he:j4 h e) (o:zj l a e=(e',f)) :
  ∃ c i,f=a ++ c/\Tr P n all os e.T h c e'.T i/\j4 i e'/\Calm e e' h i/\ig P false (l.map λ(g,b)=>⟨g,some (d,w),b⟩) c:=by
 obtain⟨c,h1,p,q,r,s⟩:=Ld k d w h l os e e' a f m hd hl he o
 exact⟨c,h,h1,p,q,⟨aaD _,λid _ hw=>⟨rfl,by rw[r] at hw;exact hw⟩⟩,s⟩
theorem YU {call:jA} (i:mC P call) (m:n<=8000) {s:Fz} {g:SG} {os:List Oper} {e e':ES} {h:aG} {a o:List Rec} (k:dY P n all s os=some g.flat) (c:vX g=true) (he:j4 h e) (f:eG P call g a e=some (e',o)) :
  ∃ j q,o=a ++ j/\Tr P n all os e.T h j e'.T q/\j4 q e'/\Calm e e' h q/\ig P false g.flat j:=by
 unfold eG at f
 unfold SG.flat at k ⊢
 unfold vX at c
 split at f
 .rename_i r
  rw[r] at k ⊢
  exact Kq i m none g.ops os e e' h a o k (λd w e=>by simp at e) he f
 .rename_i d want r
  rw[r] at k c ⊢
  simp only at c
  unfold TC at f
  split at f
  .rename_i b p
   split at f
   .rename_i l
    simp only[aau] at f
    have e':b = !want:=by cases b <;> cases want <;> simp_all
    subst e'
    exact Ir m k (.inl p) c he f
   .rename_i l
    have e':b=want:=by cases b <;> cases want <;> simp_all
    subst e'
    exact Kq i m (some (d,b)) g.ops os e _ h a o k (λt w e=>by simp at e;obtain⟨rfl,rfl⟩:=e;exact⟨p,c⟩) he f
  .rename_i p
   simp only[aau] at f
   exact Ir m k (.inr p) c he f
  .simp at f
theorem QQ {call:jA} (b:mC P call) (z:n<=8000) {A:Fz} : ∀ (gs:List SG) (os:List Oper) (e e':ES) (h:aG) (a i:List Rec),dY P n all A os=some (lU gs)->gs.all vX=true->j4 h e->Tp P call gs a e=some (e',i) ->
  ∃ c k,i=a ++ c/\Tr P n all os e.T h c e'.T k/\j4 k e'/\Calm e e' h k/\ig P false (lU gs) c
 | [],os,e,e',h,a,i,j,_,he,d=>by
  have:=nh j;subst this
  simp only[Tp,aau,aay] at d;obtain⟨rfl,rfl⟩:=d
  exact⟨[],h,by simp,.nil,he,Calm.refl _ _,.nil⟩
 | g :: gs,os,e,e',h,a,i,j,f,he,d=>by
  simp only[lU,aaW,List.flatten_cons] at j ⊢
  simp only[abP,aaB] at f
  obtain⟨F,B,rfl,h1,C⟩:=tD j
  simp only[Tp] at d
  split at d
  .rename_i D E l
   obtain⟨G,m,o,p,q,r,s⟩:=YU b z h1 f.1 he l
   obtain⟨H,t,u,v,w,x,y⟩:=QQ b z gs B D e' m E i C f.2 q d
   exact⟨_,t,by rw[u,o,aa6],p.append v,w,r.trans x,s.append y⟩
  .simp at d
theorem TR {ls:List Nat} {i k x y:Nat} (a:i < k) (b:ls[i]?=some x) (c:ls[k]?=some y) (d:ordered (gJ all []) i k=false) (h:¬ (x=0∨y=0∨(x<=1/\y<=1))):(i,k)∈EK all ls:=by
 unfold EK
 simp only[List.mem_flatten,aaM]
 refine⟨_,⟨(x,i),by rw[abG];exact b,rfl⟩,?_⟩
 simp only[aaM,abj]
 refine⟨(y,k),⟨by rw[abG];exact c,?_⟩,rfl⟩
 simp only[a,decide_true,d,acD,abE,acF,Bool.or_eq_false_iff,beq_eq_false_iff_ne,Bool.and_eq_false_iff,abW]
 omega
theorem VT {ls:List Nat} {d:List Rec} (h:RP d (EK all ls)=true) (hl:ls.length=d.length) (hr:∀ (i x:Nat) (r:Rec),ls[i]?=some x->d[i]?=some r->mL x r.rd r.wr r.call r.lo r.hi):xm all d:=by
 intro i k a b l m n t
 have hi:i < d.length:=(aaG.1 m).1
 have hk:k < d.length:=(aaG.1 n).1
 have j:ls[i]?=some (ls[i]'(by omega)):=aar (by omega)
 have o:ls[k]?=some (ls[k]'(by omega)):=aar (by omega)
 generalize ls[i]'(by omega)=x at j
 generalize ls[k]'(by omega)=y at o
 have q:=hr i _ a j m
 have s:=hr k _ b o n
 by_cases f:x=0∨y=0∨(x<=1/\y<=1)
 .rcases f with h1 | h1 | h1
  .obtain⟨g,e,p,u⟩:=q.1 h1
   exact⟨λid c=>by simp[e] at c,λid _=>by simp[g],λf=>by simp[p] at f,λ_=>e,λid _ j=>by omega⟩
  .obtain⟨g,e,p,u⟩:=s.1 h1
   exact⟨λid _=>by simp[g],λid c=>by simp[e] at c,λ_=>e,λf=>by simp[p] at f,λid c=>by simp[e] at c⟩
  .have g:=q.2 h1.1
   have e:=s.2 h1.2
   exact⟨λid c=>by simp[g] at c,λid c=>by simp[e] at c,λ_=>e,λ_=>g,λid c=>by simp[e] at c⟩
 .have:=aaX.1 h _ (TR l j o t f)
  simp only[m,n] at this
  exact Rn this
theorem Xg (hm:P.follows .mixedOrders=true) {call:jA} (g:mC P call) (C:n<=8000) {w:List Nat} {id:Nat} {ops:Array Oper} {draw:Bool} {y:DC} {run:AE} {e e':ES} {r:Exit} {h:aG}
  (c:Kj P n w ops.toList draw=some y) (he:j4 h e) (a:oB P call run y e=some (r,e')) :
  ∃ f,dw P n (.region id ops draw) e.T h r e'.T f/\j4 f e'/\Calm e e' h f:=by
 unfold Kj at c
 split at c
 .simp at c
 .rename_i l hl
  split at c
  .simp at c
  .rename_i j
   have j:(group l).all vX=true:=by simpa using j
   have o:dY P n ops.toList ⟨w,false⟩ ops.toList=some (lU (group l)):=by rw[iA];exact hl
   have key:∀ p,oB P call run (.region p (group l)) e=some (r,e')->(draw=true->od ops.toList=true/\p=EK ops.toList (l.map λs=>jZ P false s.b)) ->
     ∃ f,dw P n (.region id ops draw) e.T h r e'.T f/\j4 f e'/\Calm e e' h f:=by
    intro p a q
    simp only[oB,NV] at a
    split at a
    .rename_i D d t
     split at a
     .rename_i m
      simp only[aau,aay] at a
      obtain⟨rfl,rfl⟩:=a
      obtain⟨z,f,A,B,hk,u,k⟩:=QQ g C (group l) ops.toList e D h [] d o j he t
      simp only[abF] at A
      subst A
      rw[iA] at k
      refine⟨f,?_,hk,u⟩
      cases hd:draw with
      | false=>simpa using J8 (id:=id) B
      | true =>
       obtain⟨h1,rfl⟩:=q hd
       have v:xm ops.toList d:=VT m (by simpa using k.1) (λi x r a hr=>by
        simp only[aav,aaF] at a
        obtain⟨s,hs,rfl⟩:=a
        exact k.2 i s r hs hr)
       simpa using Cs hm (id:=id) B h1 v
     .simp at a
    .simp at a
   split at c
   .rename_i hd
    split at c
    .rename_i E
     simp at c;subst c
     exact key _ a (λ_=>⟨E,rfl⟩)
    .simp at c
   .rename_i hd
    simp at c;subst c
    exact key _ a (λe=>absurd e hd)
theorem UI (hm:P.follows .mixedOrders=true) {call:jA} (q:mC P call) {run:AE} (f:zK P run):zK P (oB P call run):=by
 intro n p c I k o e e' r h g he
 cases c with
 | skip =>
  simp[kq] at k;subst k
  simp only[oB,Qv,aau,aay] at g
  obtain⟨rfl,rfl⟩:=g
  exact⟨h,.skip,he,Calm.refl _ _,λ_ h=>by simp at h⟩
 | region id ops draw =>
  obtain⟨G,a,b,d⟩:=Xg (id:=id) hm q o k he g
  exact⟨G,a,b,d,λ_ h=>by simp at h⟩
 | seq x y =>
  simp only[kq] at k
  split at k
  .rename_i a b h1 B
   simp at k;subst k
   simp only[oB,XR] at g
   split at g
   .rename_i s m
    obtain⟨i,l,j,c1,w⟩:=f n p x a h1 o e s .normal h m he
    obtain⟨t,E,u,c2,F⟩:=f n p y b B o s e' r i g j
    exact⟨t,l.seq E,u,c1.trans c2,λ_ h=>by simp at h⟩
   .rename_i v
    obtain⟨i,l,j,c1,w⟩:=f n p x a h1 o e e' r h g he
    refine⟨i,l.NC (λe=>?_),j,c1,λ_ h=>by simp at h⟩
    subst e
    exact absurd g (v e')
  .simp at k
 | cond J x y =>
  simp only[kq] at k
  split at k
  .rename_i a b h1 B
   simp at k;subst k
   simp only[oB,WE,SX.c8] at g
   split at g
   .rename_i C
    obtain⟨i,l,j,c1,w⟩:=f n p x a h1 o e e' r h g he
    exact⟨i,.cond C l,j,c1,λ_ h=>by simp at h⟩
   .rename_i C
    obtain⟨i,l,j,c1,w⟩:=f n p y b B o e e' r h g he
    exact⟨i,.cond C l,j,c1,λ_ h=>by simp at h⟩
   .simp at g
  .simp at k
 | block id c =>
  simp only[kq,aaF] at k
  obtain⟨a,h1,rfl⟩:=k
  simp only[oB,QR] at g
  split at g
  .rename_i H s m
   simp only[aau,aay] at g
   obtain⟨rfl,rfl⟩:=g
   obtain⟨i,l,j,c1,w⟩:=f n p c a h1 o e s H h m he
   exact⟨i,l.block,j,c1,λ_ h=>by simp at h⟩
  .simp at g
 | loop c =>
  have D:=k
  simp only[kq,aaF] at k
  obtain⟨a,h1,rfl⟩:=k
  simp only[oB,WA] at g
  split at g
  .rename_i s m
   obtain⟨i,l,j,c1,w⟩:=f n p c a h1 o e s .normal h m he
   obtain⟨t,E,u,c2,F⟩:=f n p (.loop c) (.loop a) D o s e' r i g j
   have z:=sm.step l (F c rfl)
   exact⟨t,.loop z,u,c1.trans c2,λc0 A=>by simp only[Code.loop.injEq] at A;subst A;exact z⟩
  .rename_i v
   obtain⟨i,l,j,c1,w⟩:=f n p c a h1 o e e' r h g he
   have z:=sm.out l (λe=>by subst e;exact absurd g (v e'))
   exact⟨i,.loop z,j,c1,λc0 A=>by simp only[Code.loop.injEq] at A;subst A;exact z⟩
 | exit id =>
  simp[kq] at k;subst k
  simp only[oB,aau,aay] at g
  obtain⟨rfl,rfl⟩:=g
  exact⟨h,.exit,he,Calm.refl _ _,λ_ h=>by simp at h⟩
 | ret =>
  simp[kq] at k;subst k
  simp only[oB,aau,aay] at g
  obtain⟨rfl,rfl⟩:=g
  exact⟨h,.ret,he,Calm.refl _ _,λ_ h=>by simp at h⟩
 | _=>simp[kq] at k
theorem II:∀ (vs:List V) (i:Nat) (t:cX V),i+vs.length<=8000->∀ k,(pL vs i t).get .any k=if i<=k/\k < i+vs.length then vs.getD (k - i) .any else t.get .any k
 | [],i,t,h,k=>by
  rw[pL,aat (by simp only[aa2];omega)]
 | v :: vs,i,t,h,k=>by
  simp only[aaK] at h
  rw[pL,II vs (i+1) _ (by omega),cX.px _ _ _ _ _ _ (by simp only[deep];omega)]
  simp only[aaK]
  by_cases h1:k=i
  .subst h1;rw[aat (by omega),aaw rfl,aaw (by omega)];simp
  .by_cases a:i+1<=k/\k < i+1+vs.length
   .rw[aaw a,aaw (by omega)]
    have:k - i=(k - (i+1))+1:=by omega
    rw[this];rfl
   .rw[aat a,aat h1,aat (by omega)]
theorem Mk (vs:List V) (h:vs.length<=8000):(pL vs 0 .nil).get .any=nj vs:=by
 funext k
 rw[II vs 0 .nil (by omega)]
 simp only[nj,ab5,true_and,aby,Nat.sub_zero]
 split
 .rfl
 .rename_i hk
  rw[aaq,aa1 (by omega)];rfl
theorem Xo {e:ES} {h:aG} {r:ResultVar} {rest:List ResultVar} {l:List SR} (he:j4 h e) (c:gN P (r :: rest)=some l):∃ s l',l=s :: l'/\gN P rest=some l'/\∀ v,Uy s e=some v->uT P e.T h r=some v:=by
 cases r with
 | tmp t =>
  simp only[gN,aaF] at c
  obtain⟨l',h1,rfl⟩:=c
  exact⟨.tmp t,l',rfl,h1,λv b=>b⟩
 | cell a t =>
  simp only[gN] at c
  split at c
  .rename_i k l' h1 g
   simp at c;subst c
   refine⟨.cell a k,l',rfl,g,λv b=>?_⟩
   simp only[Uy] at b
   simp only[uT,oz,yU h1]
   rw[he.1] at b
   split at b
   .rename_i id i j d
    split at b
    .rename_i es hH
     split at b
     .rename_i f
      rw[d];simp only[hH];rw[aaw f,b];rfl
     .simp at b
    .simp at b
   .rename_i e j d
    rw[d];simp only;rw[b];rfl
   .simp at b
  .simp at c
theorem LJ {e:ES} {h:aG} (he:j4 h e):∀ (rs:List ResultVar) (l:List SR) (vs:List V),gN P rs=some l->za l e=some vs->nX P e.T h rs=some vs
 | [],l,vs,a,hw=>by simp[gN] at a;subst a;simp[za] at hw;subst hw;rfl
 | r :: rest,l,vs,a,hw=>by
  obtain⟨s,l',rfl,h1,d⟩:=Xo (e:=e) (h:=h) he a
  simp only[za] at hw
  split at hw
  .rename_i v b f c
   simp at hw;subst hw
   simp[nX,d v f,LJ he rest l' b h1 c]
  .simp at hw
def uq (P:Program) (tab:List (FuncId × DF)):Prop:=∀ p∈tab,∃ fz,KO P p.1 fz=some p.2
def uY (P:Program) (ext:Co):Prop:=∀ g vs H t,ext g vs H=some t->dW P g=true/\∀ h:aG,h.view=H->cd P g vs h t h
theorem Jx {q:List (FuncId × DF)} {ext:Co} (N:uq P q) (z:uY P ext) {run:AE} (s:zK P run):mC P (Jv P q ext run):=by
 intro g vs e v e' h b he
 unfold Jv at b
 split at b
 .rename_i t u
  simp only[aau,aay] at b
  obtain⟨rfl,rfl⟩:=b
  obtain⟨h1,C⟩:=z _ _ _ _ u
  exact⟨h1,h,C h he.1.symm,he,λ_ _ _=>rfl,λ_ hw=>by simp at hw⟩
 .split at b
  .rename_i A F K
   have x:=List.mem_of_find?_eq_some K
   have D:A=g:=by
    have:=List.find?_some K
    exact acq this
   subst D
   obtain⟨O,k⟩:=N _ x
   simp only at k
   unfold KO at k
   split at k
   .rename_i fn E
    split at k
    .rename_i c Q
     split at k
     .rename_i M rs h1 C R
      simp at k;subst k
      refine⟨R,?_⟩
      unfold X9 at b
      split at b
      .rename_i hlen B
       have hlen:=Nat.le_of_ble_eq_true hlen
       have B:=Nat.le_of_ble_eq_true B
       simp only at hlen B
       unfold YH at b
       split at b
       .rename_i v1 d f
        simp only[aau,aay] at b
        obtain⟨rfl,rfl⟩:=b
        unfold Yb at f
        have go:∀ (r:Exit) (p:ES),(r=.ret∨r=.normal)->run M ⟨pL vs 0 .nil,e.H,e.n,[]⟩=some (r,p)->(za rs p).map (λvs=>(z8 vs,p))=some (v1,d) ->
          ∃ i,cd P A vs h v1 i/\j4 i d/\(∀ id,id < h.length->¬ id∈d.w->i.view id=h.view id):=by
         intro r p hr j o
         simp only[aaF,aay] at o
         obtain⟨G,I,rfl,rfl⟩:=o
         obtain⟨i,z,y,J,_⟩:=s fn.ntmps O c M h1 B _ p r h j he
         have S:(ES.T ⟨pL vs 0 .nil,e.H,e.n,[]⟩)=nj vs:=Mk vs (by omega)
         rw[S] at z
         refine⟨i,cd.Of E Q hlen z (by rcases hr with rfl | rfl <;> simp) ?_,y,λid m hw=>(J.2 id m hw).1⟩
         unfold PV
         rw[LJ y _ _ _ C I]
         cases G with
         | nil=>rfl
         | cons a l=>cases l <;> rfl
        have done:(∃ i,cd P A vs h v1 i/\j4 i d/\(∀ id,id < h.length->¬ id∈d.w->i.view id=h.view id)) ->
          ∃ i,cd P A vs h v1 i/\j4 i ⟨d.L,d.H,d.n,d.w.filter λid=>Nat.blt id e.n⟩/\(∀ id,id < h.length->¬ id∈d.w.filter (λid=>Nat.blt id e.n)->i.view id=h.view id)/\∀ id,id∈d.w.filter (λid=>Nat.blt id e.n)->id < h.length:=by
         rintro⟨i,U,k2,V⟩
         refine⟨i,U,k2,λid m hw=>V id m (λhm=>hw ?_),λid hw=>?_⟩
         .rw[abj]
          exact⟨hm,by rw[he.2];exact Nat.ble_eq_true_of_le m⟩
         .rw[abj] at hw
          have:=Nat.le_of_ble_eq_true hw.2
          rw[he.2] at this;exact this
        split at f
        .rename_i p j;exact done (go _ _ (.inl rfl) j f)
        .rename_i p j;exact done (go _ _ (.inr rfl) j f)
        .simp at f
       .simp at b
      .simp at b
     .simp at k
    .simp at k
   .simp at k
  .simp at b
theorem NN (hm:P.follows .mixedOrders=true) {a:List (FuncId × DF)} {ext:Co} (b:uq P a) (d:uY P ext):∀ k,zK P (JC P a ext k)
 | 0=>λn g c i j l e e' r h hr he=>by simp[JC] at hr
 | k+1=>by
  have f:=NN hm b d k
  have:=UI hm (Jx b d f) f
  exact this
end
inductive dB (h:aG):V->V->Prop
 | val (v:Value):dB h (.val v) (.val v)
 | emp (k:Nat):dB h (.emp k) (.aE [])
 | sl (id off len esz z:Nat) (es es':List (List V)):h.view id=.arr z es->off+len<=es.length->es'.length=len ->
  (∀ i,i < len->(es'.getD i []).length=(es.getD (off+i) []).length) ->
  (∀ i j,i < len->j < (es'.getD i []).length->dB h ((es.getD (off+i) []).getD j .any) ((es'.getD i []).getD j .any))->dB h (.sl id off len esz) (.aE es')
 | agg (cs cs':List V):cs'.length=cs.length->(∀ i,i < cs.length->dB h (cs.getD i .any) (cs'.getD i .any))->dB h (.agg cs) (.agg cs')
 | bD (cs cs':List V):cs'.length=cs.length->(∀ i,i < cs.length->dB h (cs.getD i .any) (cs'.getD i .any))->dB h (.bD cs) (.bD cs')
theorem WR {h:aG} {Z:Nat->Prop} {μ B:Mu} {F:View} {hp:Array Obj} (hr:jj Z μ hp (cat h F)) {v t:V} (fr:dB h v t):∀ {x:Value},aB Z μ hp v x->aB (ko μ) B hp t x:=by
 have l:∀ id,h.view id≠.dead->cat h F id=h.view id:=λid hd=>by simp only[cat];rw[aaw (jw hd)]
 induction fr with
 | val v=>intro x d;cases d with | val _ s=>exact .val _ s
 | emp k=>intro x d;cases d with | emp _ a=>exact .jE a 0 (λ_=>rfl)
 | sl id off len esz z es es' hH hle hlen hl _ m =>
  intro x d
  cases d with
  | rr _ _ _ a =>
   have:es'=[]:=abQ.1 hlen
   subst this
   exact .jE a 0 (λ_=>rfl)
  | sl _ _ _ _ b o0 cap c e f hm C H hs =>
   have o:=hr.obj id
   rw[l id (by rw[hH];simp),hH] at o
   obtain⟨rfl,_,D,E⟩:=o b o0 esz hm
   have d:∀ i,∃ ci:Nat->Value,∀ j,j < esz->i < len->cellAt hp b (o0+off * esz+i * esz+j)=some (ci j)/\aB Z μ hp ((es.getD (off+i) []).getD j .any) (ci j):=by
    intro i
    by_cases hi:i < len
    .obtain⟨ci,u⟩:=qm (n:=esz) (p:=λj x=>cellAt hp b (o0+off * esz+i * esz+j)=some x/\aB Z μ hp ((es.getD (off+i) []).getD j .any) x) (λj g=>by
      obtain⟨x,d,s⟩:=E (off+i) j (by omega) g
      rw[abn,<-acm] at d
      exact⟨x,d,s⟩)
     exact⟨ci,λj g _=>u j g⟩
    .exact⟨λ_=>undef,λj _ h=>absurd h hi⟩
   obtain⟨G,q⟩:=Classical.axiomOfChoice d
   have r:∀ i,i < es'.length->(es'.getD i []).length=esz:=λi hi=>by rw[hl i (by omega)];exact D _ (by omega)
   have:=aB.aE (Z:=ko μ) (μ:=B) (hp:=hp) es' b (o0+off * esz) esz cap G ⟨id,o0,esz,hm⟩ (by omega) r
    (λi j hi g=>(q i j g (by omega)).1) (λi j hi g=>m i j (by omega) (by rw[r i hi];exact g) (q i j g (by omega)).2)
   rw[hlen] at this
   exact this
 | agg cs w hlen _ m =>
  intro x d
  cases d with
  | agg _ y h1 A=>exact .agg _ _ (by omega) (λi hi=>m i (by omega) (A i (by omega)))
 | bD cs w hlen _ m =>
  intro x d
  cases d with
  | bD _ y h1 A=>exact .bD _ _ (by omega) (λi hi=>m i (by omega) (A i (by omega)))
def cW (P:Program) (f:FuncId) (vs:List V) (t:V):Prop :=
 ∀ Z μ (w:World) (xs:List Value),gX Z μ w.heap vs xs->(∀ b,Z b->b < w.heap.size) ->
  Calls P f xs.toArray w λe w'=>∃ x Z',e=.returned x/\(∀ ν,aB Z' ν w'.heap t x)/\fv w w'/\(∀ b,Z' b->w.heap.size<=b/\b < w'.heap.size)/\ie w.heap w'.heap (λ_=>False)
theorem cW.pure {P:Program} {f:FuncId} {vs:List V} {t:V} (h:cW P f vs t):az P f vs t:=by
 intro Z μ w xs a d
 refine(h Z μ w xs a d).mono ?_
 rintro e w' ⟨x,g,rfl,i,hs,c,j⟩
 exact⟨x,λb=>Z b∨g b,rfl,λk=>(i k).mono ⟨λ_ h=>.inr h,λ_ _=>rfl,λ_ _ h=>h,gI.refl _⟩,hs,λ_ h=>.inl h,λb l=>l.imp id (c b),j⟩
theorem cW.yX {P:Program} {f:FuncId} {vs:List V} {r t:V} {k:aG} (m:∀ v∈vs,Tree v) (n:cd P f vs [] r k) (p:dB k r t):cW P f vs t:=by
 intro Z μ w xs a q
 have c:gX Z (λ_=>none) w.heap vs xs:=⟨a.1,λi hi=>Aa (a.2 i hi) (by
  simp only[aaq,aar hi,aaL]
  exact m _ (aaC _))⟩
 have g:jj Z (λ_=>none) w.heap (cat [] λ_=>.dead):=by
  rw[G3]
  exact⟨λ_=>trivial,λi j b o s y z _ h=>by simp at h,λid b o s h=>by simp at h,q,λid b o s h=>by simp at h⟩
 refine(n.2 Z _ _ w xs c g (λ_ _ _=>rfl)).mono ?_
 rintro e w' ⟨x,A,μ',rfl,u,l,hex,_⟩
 refine⟨x,ko μ',rfl,λB=>WR l p u,hex.same,?_,λb d _=>hex.frame b d (by rintro⟨_,_,_,h⟩;simp at h)⟩
 rintro b ⟨id,o,s,d⟩
 rcases hex.FU _ _ _ _ d with h1 | ⟨_,h1 | ⟨_,_,_,h1⟩⟩
 .simp at h1
 .exact⟨h1,l.lt _ _ _ _ d⟩
 .simp at h1
theorem cW.of {P:Program} {f:FuncId} {vs:List V} {t:V} (b:∀ v∈vs,Tree v) (h:av P f vs (λ_=>.dead) λr H'=>∀ a:aG,a.view=H'->dB a r t):cW P f vs t:=by
 obtain⟨r,a,c,_,d⟩:=h.2 [] Hr
 exact cW.yX b c (d a rfl)
theorem cd.xQ {P:Program} {f:FuncId} {j vs:List V} {t:V} {h:aG} (u:cW P f j t) (hl:j.length=vs.length)
  (l:∀ i,i < vs.length->Fr h (vs.getD i .any) (j.getD i .any)):cd P f vs h t h:=by
 refine⟨aaD _,λZ μ F w xs c hr m=>?_⟩
 have n:gX (λb=>Z b∨ko μ b) μ w.heap j xs:=⟨by rw[hl,c.1],λi hi=>FO hr (l i (by omega)) (c.2 i (by omega))⟩
 have p:∀ b,(Z b∨ko μ b)->b < w.heap.size:=by
  rintro b (a | ⟨id,o,s,a⟩)
  .exact hr.dd b a
  .exact hr.lt _ _ _ _ a
 refine(u _ μ w xs n p).mono ?_
 rintro e w' ⟨x,r,rfl,v,hs,d,k⟩
 have hm:iY Z (λb=>Z b∨r b) μ μ w.heap w'.heap:=⟨λ_ h=>.inl h,λb a=>k b (hr.dd b a) (λx=>x),λ_ _ h=>h,k.sZ⟩
 refine⟨x,λb=>Z b∨r b,μ,rfl,(v μ).mono ⟨λ_ h=>.inr h,λ_ _=>rfl,λ_ _ h=>h,gI.refl _⟩,⟨λid=>(hr.obj id).mono hm rfl (λb o s g=>k b (hr.lt _ _ _ _ g) (λx=>x)),hr.inj,λid b o s g=>aa3 (hr.lt _ _ _ _ g) hs.size,λb a=>?_,λid b o s g q=>?_⟩,
  ⟨hs,hm,λb a _=>k b a (λx=>x),λb a=>a.imp id (λh=>(d b h).1),λ_ _ _ _ h=>.inl h⟩,λ_ _=>rfl⟩
 .rcases a with a | a
  .exact aa3 (hr.dd b a) hs.size
  .exact(d b a).2
 .rcases q with a | a
  .exact hr.iR _ _ _ _ g a
  .have:=hr.lt _ _ _ _ g;have:=(d b a).1;omega
theorem ay.xQ {P:Program} {q:Bool} {f:FuncId} {H:View} {vs c:List V} {K:V->View->Prop} {v:cO (H,K)} {t:V} (d:cW P f c t) (a:dW P f=true) (hl:c.length=vs.length)
  (b:∀ i,i < vs.length->ew H (vs.getD i .any) (c.getD i .any)) (hk:K t H):ay P q f vs H K v:=by
 unfold ay
 cases q with
 | true=>exact⟨a,λh e=>⟨t,h,cd.xQ d hl (λi hi=>b i hi h e),λ_ _=>rfl,e ▸ hk⟩⟩
 | false =>
  refine⟨a,?_⟩
  rintro h rfl
  exact⟨t,h,cd.xQ d hl (λi hi=>b i hi h rfl),.refl _,hk⟩
noncomputable def qz (fz:V->Option V):List V->Option (List V)
 | []=>some []
 | v :: l=>match fz v,qz fz l with
  | some a,some b=>some (a :: b)
  | _,_=>none
noncomputable def GJ (fz:V->Option V):List (List V)->Option (List (List V))
 | []=>some []
 | v :: l=>match qz fz v,GJ fz l with
  | some a,some b=>some (a :: b)
  | _,_=>none
noncomputable def Cr (H:View):Nat->V->Option V
 | 0,_=>none
 | k+1,v=>match v with
  | .val x=>some (.val x)
  | .emp _=>some (.aE [])
  | .sl id off len _=>match H id with
   | .arr _ es=>if off+len<=es.length then (GJ (Cr H k) ((es.drop off).take len)).map .aE else none
   | _=>none
  | .agg cs=>(qz (Cr H k) cs).map .agg
  | .bD cs=>(qz (Cr H k) cs).map .bD
  | _=>none
theorem jx {c:V->Option V} : ∀ (l l':List V),qz c l=some l'->l'.length=l.length/\∀ i,i < l.length->c (l.getD i .any)=some (l'.getD i .any)
 | [],l',h=>by simp only[qz,aau] at h;subst h;exact⟨rfl,λi hi=>by simp at hi⟩
 | v :: l,l',h=>by
  simp only[qz] at h
  split at h
  .rename_i a b h1 d
   simp only[aau] at h;subst h
   obtain⟨g1,g2⟩:=jx l b d
   refine⟨by simp[g1],λi hi=>?_⟩
   cases i with
   | zero=>exact h1
   | succ i=>exact g2 i (by simpa using hi)
  .simp at h
theorem Hd {c:V->Option V} : ∀ (l l':List (List V)),GJ c l=some l'->l'.length=l.length/\∀ i,i < l.length->qz c (l.getD i [])=some (l'.getD i [])
 | [],l',h=>by simp only[GJ,aau] at h;subst h;exact⟨rfl,λi hi=>by simp at hi⟩
 | v :: l,l',h=>by
  simp only[GJ] at h
  split at h
  .rename_i a b h1 d
   simp only[aau] at h;subst h
   obtain⟨g1,g2⟩:=Hd l b d
   refine⟨by simp[g1],λi hi=>?_⟩
   cases i with
   | zero=>exact h1
   | succ i=>exact g2 i (by simpa using hi)
  .simp at h
theorem M4 (h:aG):∀ (k:Nat) (v t:V),Cr h.view k v=some t->dB h v t
 | 0,v,t,a=>by simp[Cr] at a
 | k+1,v,t,a=>by
  have b:=M4 h k
  simp only[Cr] at a
  split at a
  .simp only[aau] at a;subst a;exact .val _
  .simp only[aau] at a;subst a;exact .emp _
  .rename_i id off len esz
   split at a
   .rename_i z es hH
    split at a
    .rename_i hle
     simp only[aaF] at a
     obtain⟨es',he,rfl⟩:=a
     obtain⟨g1,g2⟩:=Hd _ _ he
     have hlen:es'.length=len:=by rw[g1];simp;omega
     have c:∀ i,i < len->((es.drop off).take len).getD i []=es.getD (off+i) []:=λi hi=>by
      simp[aaq,ab6,hi]
     have g3:∀ i,i < len->qz (Cr h.view k) (es.getD (off+i) [])=some (es'.getD i []):=λi hi=>by
      rw[<-c i hi];exact g2 i (by rw[<-g1,hlen];exact hi)
     exact .sl id off len esz z es es' hH hle hlen (λi hi=>(jx _ _ (g3 i hi)).1) (λi j hi d=>b _ _ ((jx _ _ (g3 i hi)).2 j (by rw[<-(jx _ _ (g3 i hi)).1];exact d)))
    .simp at a
   .simp at a
  .simp only[aaF] at a
   obtain⟨l,hl,rfl⟩:=a
   obtain⟨g1,g2⟩:=jx _ _ hl
   exact .agg _ _ g1 (λi hi=>b _ _ (g2 i hi))
  .simp only[aaF] at a
   obtain⟨l,hl,rfl⟩:=a
   obtain⟨g1,g2⟩:=jx _ _ hl
   exact .bD _ _ g1 (λi hi=>b _ _ (g2 i hi))
  .simp at a
noncomputable def Wo:Option (V × ES)->Option V
 | some (v,e)=>Cr e.V 50 v
 | none=>none
noncomputable def yw (P:Program) (tab:List (FuncId × DF)) (ext:Co) (f:FuncId) (vs:List V):Option V :=
 Wo (Jv P tab ext (JC P tab ext 100000) f vs ⟨.nil,.nil,0,[]⟩)
theorem uA {P:Program} (hm:P.follows .mixedOrders=true) {a:List (FuncId × DF)} {ext:Co} (c:uq P a) (d:uY P ext) {f:FuncId} {vs:List V} {t:V} (b:∀ v∈vs,Tree v) (h:yw P a ext f vs=some t) :
  cW P f vs t:=by
 unfold yw Wo at h
 split at h
 .rename_i v e hr
  obtain⟨h1,g,i,j,_⟩:=Jx c d (NN hm c d 100000) f vs _ v e [] hr ⟨by funext k;rfl,rfl⟩
  rw[j.1] at h
  exact cW.yX b i (M4 g 50 v t h)
 .simp at h
def CG (P:Program) (fs:List (FuncId × List Nat)):List (FuncId × DF):=fs.filterMap λf=>(KO P f.1 f.2).map (f.1,·)
theorem zR (P:Program) (a:List (FuncId × List Nat)):uq P (CG P a):=by
 intro p hp
 unfold CG at hp
 obtain⟨f,_,h⟩:=abJ.1 hp
 simp only[aaF] at h
 obtain⟨d,h1,rfl⟩:=h
 exact⟨f.2,h1⟩
structure ai.dM (g:ai):Prop where
 af:g.af.length<=24
 p7:1<=g.ak.length
 ak:g.ak.length<=16
 Z9:1<=g.rules.length
 rules:g.rules.length<=40
 lf:0<=g.start
 start:g.start < g.ak.length
 left:∀ r∈g.rules,0<=r.left/\r.left < g.ak.length
 right:∀ r∈g.rules,r.right.length<=6
 sym:∀ r∈g.rules,∀ s∈r.right,fP g s=true
 prec:∀ r∈g.rules,-1<=r.prec/\r.prec < g.af.length
theorem BK {g:ai} : ∀ (l:List bg) (top:Int),jd g l top=true->top<=(g.ak.length:Int) - 1/\∀ r∈l,0<=r.left/\r.left < g.ak.length/\jJ g r=true
 | [],top,h=>by simp[jd] at h;exact⟨by omega,λr hr=>by simp at hr⟩
 | r :: l,top,h=>by
  simp only[jd,aaB,aaE] at h
  obtain⟨⟨⟨h1,d⟩,a⟩,b⟩:=h
  obtain⟨e,k2⟩:=BK l _ b
  have f:r.left<=(if r.left > top then r.left else top):=by split <;> omega
  have i:top<=(if r.left > top then r.left else top):=by split <;> omega
  refine⟨by omega,λc hr=>?_⟩
  rcases aaI.1 hr with rfl | hr
  .exact⟨h1,by omega,a⟩
  .exact k2 c hr
theorem bu {g:ai} (h:bC g=true):g.dM:=by
 simp only[bC,lE,mJ,aaB,aaE] at h
 obtain⟨⟨⟨⟨⟨⟨⟨h1,_⟩,⟨b,c⟩,_⟩,d⟩,e⟩,f⟩,i⟩,j⟩:=h
 have k:=(BK _ _ j).2
 have a:∀ r∈g.rules,r.right.length<=6/\-1<=r.prec/\r.prec < g.af.length/\∀ s∈r.right,fP g s=true:=λr hr=>by
  have:=(k r hr).2.2
  simp only[jJ,aaB,aaE,aaX,oV] at this
  exact⟨this.1.1.1,this.1.1.2,this.1.2,λs hs=>(this.2 s hs).1⟩
 exact⟨h1,b,c,d,e,f,i,λr hr=>⟨(k r hr).1,(k r hr).2.1⟩,λr hr=>(a r hr).1,λr hr=>(a r hr).2.2.2,λr hr=>⟨(a r hr).2.1,(a r hr).2.2.1⟩⟩
theorem ai.dM.neg {g:ai} (h:g.dM) {r:bg} (hr:r∈g.rules) {s:Int} (hs:s∈r.right) (a:s < 0) : -1 - s < g.ak.length:=by
 have:=h.sym r hr s hs
 simp only[fP] at this
 rw[aat (by omega)] at this
 simpa using this
theorem KH (l:List Int) (is:List Bool) (t:Bool) (hl:aK l) (hs:∀ s∈l,b6 s/\(s < 0->-1 - s < is.length)):az Tryz.prog 117 [encI l,bO is,gb t] (gb (cP l is t)) :=
 az.val (by
  intro v a;simp at a
  rcases a with rfl | rfl | rfl
  .exact fa _
  .exact iP _
  .exact .val _) (λH=>(Yh l is t hl hs H).mono λr H' h=>h.1)
abbrev dP (is:List Bool):List (List V):=is.map λx=>[gb x]
theorem Bg {h:aG} {id:Nat} {is:List Bool} (b:h.view id=.arr 1 (dP is)):dB h (.sl id 0 is.length 1) (bO is):=by
 refine .sl id 0 is.length 1 1 (dP is) _ b (by simp) (by simp) (λi hi=>by simp) (λi j hi a=>?_)
 rw[aby]
 have e:(dP is).getD i []=[gb is[i]]:=by simp[aaq,hi]
 rw[e] at a ⊢
 have:j=0:=by simp at a;omega
 subst this
 exact .val _
theorem E4 {H:View} {id n:Nat} {is:List Bool} (b:H id=.arr 1 (dP is)) (c:n=is.length):ew H (.sl id 0 n 1) (bO is):=by
 have d:∀ e∈dP is,∀ v∈e,Tree v:=by
  intro e he v b
  obtain⟨a,_,rfl⟩:=aaM.1 he
  rw[abq] at b
  subst b
  exact .val _
 have:=ew.sl (off:=0) (len:=n) (esz:=1) b (by simp[c]) d
 rwa [abO,aaJ (by simp[c])] at this
theorem mB {is:List Bool} {i:Nat} (h:i < is.length):(dP is).getD i []=[gb is[i]]:=by simp[aaq,h]
theorem mF (is:List Bool) (i:Nat) (b:Bool):(dP is).set i [gb b]=dP (is.set i b):=by simp[abR]
theorem Cm (n:Nat) (b:Bool):List.replicate n [gb b]=dP (List.replicate n b):=by simp
def iter {α:Type} (f:α->α):Nat->α->α
 | 0,x=>x
 | n+1,x=>iter f n (f x)
def fk (t:Bool) (is:List Bool) (r:bg):List Bool:=if cP r.right is t=true then is.set r.left.toNat true else is
def lF (g:ai) (t:Bool) (is:List Bool):List Bool:=g.rules.foldl (fk t) is
def cE (g:ai):List Bool:=List.replicate g.ak.length false
def au (g:ai) (t:Bool):List Bool:=if bC g=true then iter (lF g t) g.ak.length (cE g) else []
theorem Pl (t:Bool) (is:List Bool) (r:bg):(fk t is r).length=is.length:=by unfold fk;split <;> simp
def ph:SC :=
 ae [ae [ab [aa 22 7,ao 23 2 2,aj 24 23,aM 25 24,aQ 26 .lss 22 25],bS 26 (.exit 2)],.block 3 (ae [ab [ao 29 2 2,aj 30 29,aa 31 7,aI 32 3 30 31,ao 33 1 32,aj 34 33,aa 35 5,aa 36 1,bm 37 117 [34,35,36]],bf 37 (ab [aa 38 5,ao 39 2 2,aj 40 39,aa 41 7,aI 42 3 40 41,ao 43 0 42,aj 44 43,aI 45 1 38 44,(none,.op (.store 1 (.tmp 45) (.val (.val (.bool true)))))])]),ab [aa 27 7,aF 28 .add 27 1,aa 7 28]]
def po:SC :=
 ae [ae [ab [aa 15 6,ao 16 1 2,aj 17 16,aM 18 17,aQ 19 .lss 15 18],bS 19 (.exit 0)],.block 1 (ae [ab [aT 7 0],bX 2 ph]),ab [aa 20 6,aF 21 .add 20 1,aa 6 21]]
def qZ:SF:=⟨ae [ab [cy 2 0,cT 4 1],ae [ab [aY 8 4 2,bm 9 54 [8],c4 10 9],bf 10 (ae [ab [cT 4 1],.ret])],ab [ao 11 1 2,aj 12 11,aM 13 12,((some 14),.op (.make 1 1 [(.val (.bool false))] (.tmp 13) (.tmp 13))),aa 5 14],ae [ab [aT 6 0],bX 0 po],ab [aa 46 5,aa 4 46],.ret],
 [.tmp 4],47⟩
theorem xc:aO Tryz.prog 125 [2]=some qZ:=by kernel_rfl
def oc:SF:=⟨ae [ab [cy 1 0,cT 2 1],ab [aY 3 4 1,qx 4 125 [(.tmp 3),(.val (.val (.bool false)))],aa 2 4],.ret],
 [.tmp 2],5⟩
theorem uz:aO Tryz.prog 81 [1]=some oc:=by kernel_rfl
def mw:SF:=⟨ae [ab [cy 1 0,cT 2 1],ab [aY 3 4 1,qx 4 125 [(.tmp 3),(.val (.val (.bool true)))],aa 2 4],.ret],
 [.tmp 2],5⟩
theorem tt:aO Tryz.prog 115 [1]=some mw:=by kernel_rfl
theorem UT (g:ai) (t:Bool):∀ v∈[V.agg (ag g),gb t],Tree v:=by
 intro v a;simp at a
 rcases a with rfl | rfl
 .exact cn _ (dq g)
 .exact .val _
theorem Vi (g:ai) (C:g.Ok) (t:Bool) (H:View):av Tryz.prog 125 [.agg (ag g),gb t] H λr H'=>∀ w:aG,w.view=H'->dB w r (bO (au g t)):=by
 refine av.of mixed xc ?_
 simp(disch:=omega)only[↓wr,seval,wq,qZ,ag,encS]
 refine ay.pure (kT g C) ?_
 repeat' (first | ((first|apply ah.dec|apply ah.eq|apply ah.ne|apply ah.split)<;>intro)|(simp(disch:=omega)only[↓wr,seval,wq,ag,encS]))
 .rename_i hr
  have u:=bu hr
  obtain⟨D,E⟩:=And.intro u.p7 u.ak
  refine⟨⟨by omega,by unfold aD;omega,by unfold aD;omega⟩,λM=>by omega,λ_ m hm=>?_⟩
  try simp(disch:=omega)only[↓wr,seval,wq,ag,encS]
  refine aS.intro (λk T H'=>∃ (i:Nat) (is:List Bool),i+k=g.ak.length/\is.length=g.ak.length/\iter (lF g t) k is=iter (lF g t) g.ak.length (cE g)/\T 1=gb t/\T 2=.aH (ag g) 0/\T 5=.sl m 0 g.ak.length 1/\H' m=.arr 1 (dP is)/\T 6=gi i) g.ak.length ?_ ?_
  .refine⟨0,cE g,by omega,by simp[cE],rfl,?_⟩
   simp(disch:=omega)only[↓wr,↓reduceIte,wq,Nat.reduceEqDiff,Nat.reduceAdd,Nat.reduceLT,Nat.reduceLeDiff,Int.reduceNeg,Int.reduceToNat,reduceCtorEq,ag,encS]
   exact⟨by rw[Cm];rfl,rfl⟩
  .rintro k T H' ⟨i,is,hk,hlen,hi,f1,f2,f5,y,f6⟩
   simp(disch:=omega)only[↓wr,seval,wq,po,f1,f2,f5,f6,ag,encS]
   apply ah.dec<;>intro F
   .simp(disch:=omega)only[↓wr,seval,wq,f1,f2,f5,f6,ag,encS]
    refine aS.intro (λx T H'=>∃ (j:Nat) (a:List Bool),j+x=g.rules.length/\a.length=g.ak.length/\(g.rules.drop j).foldl (fk t) a=lF g t is/\T 1=gb t/\T 2=.aH (ag g) 0/\T 5=.sl m 0 g.ak.length 1/\H' m=.arr 1 (dP a)/\T 6=gi i/\T 7=gi j) g.rules.length ?_ ?_
    .refine⟨0,is,by omega,hlen,rfl,?_⟩
     simp(disch:=omega)only[↓wr,↓reduceIte,wq,Nat.reduceEqDiff,Nat.reduceAdd,Nat.reduceLT,Nat.reduceLeDiff,Int.reduceNeg,Int.reduceToNat,reduceCtorEq,f1,f2,f5,f6,y,ag,encS]
     rfl
    .rintro x N G ⟨j,a,I,b,d,h,l,n,em,o,p⟩
     simp(disch:=omega)only[↓wr,seval,wq,ph,h,l,n,o,p,ag]
     apply ah.dec<;>intro hd
     .have hle:=u.rules
      have e:g.rules[j]?=some (g.rules[j]'(by omega)):=aar (by omega)
      rw[eZ (show j < g.rules.length by omega)] at d
      have c:g.rules[j]'(by omega)∈g.rules:=aaC _
      generalize g.rules[j]'(by omega)=r at e d c
      simp only[aaR] at d
      obtain⟨J,K⟩:=u.left r c
      obtain⟨_,_,z,A⟩:=C.ax r c
      have v:=KH r.right a t z (λs hs=>⟨A s hs,λL=>by have:=u.neg c hs L;omega⟩)
      simp(disch:=omega)only[↓wr,seval,wq,h,l,n,o,p,ag,encS,aU,aav,e,aaz]
      refine ay.borrow v (by kernel_rfl) (.val _) rfl (λq hq=>?_) ?_
      .match q,hq with
       | 0,_=>exact ew.tree (fa _)
       | 1,_=>exact E4 em b.symm
       | 2,_=>exact ew.tree (.val _)
      .simp(disch:=omega)only[↓wr,seval,wq,h,l,n,o,p,ag,encS,aU,aav,e,aaz]
       apply ah.split<;>intro B
       .have f:fk t a r=a.set r.left.toNat true:=by rw[fk,aaw B]
        simp(disch:=omega)only[↓wr,seval,wq,h,l,n,o,p,em,ag,encS,aU,aav,e,aaz,mB (show r.left.toNat < a.length by omega)]
        rw[f] at d
        exact⟨by omega,by omega,x - 1,by omega,j+1,a.set r.left.toNat true,by omega,by simp[b],d,by rw[mF],rfl⟩
       .have f:fk t a r=a:=by rw[fk,aat (by rw[B];simp)]
        rw[f] at d
        simp(disch:=omega)only[↓wr,seval,wq,h,l,n,o,p]
        exact⟨x - 1,by omega,j+1,a,by omega,b,d,by first | rfl | exact⟨rfl,rfl⟩ | exact⟨em,rfl⟩ | exact⟨rfl,em,rfl⟩⟩
     .rw[aaV (by omega),abL] at d
      simp(disch:=omega)only[↓wr,seval,wq,h,l,n,o,p]
      obtain⟨q,rfl⟩:∃ q,k=q+1:=⟨k - 1,by omega⟩
      exact⟨q,by omega,i+1,a,by omega,b,by rw[d];exact hi,rfl,em,rfl⟩
   .simp(disch:=omega)only[↓wr,seval,wq,f1,f2,f5,f6,y]
    have:k=0:=by omega
    subst this
    rintro w rfl
    simp only[au,aaw hr,<-hi,iter]
    rw[<-hlen]
    exact Bg y
 .rename_i hr
  rintro w rfl
  simp only[au,hr]
  exact .emp 1
theorem JR (g:ai) (a:g.Ok) (t:Bool):cW Tryz.prog 125 [.agg (ag g),gb t] (bO (au g t)):=cW.of (UT g t) (Vi g a t _)
theorem I9 (g:ai) (a:g.Ok) (H:View):av Tryz.prog 81 [.agg (ag g)] H λr H'=>r=bO (au g false)/\H'=H:=by
 refine av.of mixed uz ?_
 simp(disch:=omega)only[↓wr,seval,wq,oc,ag,encS]
 refine ay.pure (JR g a false).pure ?_
 simp(disch:=omega)only[↓wr,seval,wq,ag,encS]
theorem Ag (g:ai) (a:g.Ok):az Tryz.prog 81 [.agg (ag g)] (bO (au g false)) :=
 az.of (eK g) ((I9 g a _).mono λr H' h b _=>by rw[h.1];exact .tree _ (iP _))
theorem Fx (g:ai) (a:g.Ok) (H:View):av Tryz.prog 115 [.agg (ag g)] H λr H'=>r=bO (au g true)/\H'=H:=by
 refine av.of mixed tt ?_
 simp(disch:=omega)only[↓wr,seval,wq,mw,ag,encS]
 refine ay.pure (JR g a true).pure ?_
 simp(disch:=omega)only[↓wr,seval,wq,ag,encS]
theorem wu (g:ai) (a:g.Ok):az Tryz.prog 115 [.agg (ag g)] (bO (au g true)) :=
 az.of (eK g) ((Fx g a _).mono λr H' h b _=>by rw[h.1];exact .tree _ (iP _))
def mark (is:List Bool) (s:Int):List Bool:=if s < 0 then is.set (-1 - s).toNat true else is
def gZ (p is:List Bool) (r:bg):List Bool:=if (is.getD r.left.toNat false && cP r.right p true)=true then r.right.foldl mark is else is
def qP (g:ai) (p is:List Bool):List Bool:=g.rules.foldl (gZ p) is
def bT (g:ai):List Bool:=if bC g=true then iter (qP g (au g true)) g.ak.length ((cE g).set g.start.toNat true) else []
theorem VQ (is:List Bool) (s:Int):(mark is s).length=is.length:=by unfold mark;split <;> simp
theorem ID:∀ (l:List Int) (is:List Bool),(l.foldl mark is).length=is.length
 | [],_=>rfl
 | s :: l,is=>by rw[aaR,ID l,VQ]
theorem TS (p is:List Bool) (r:bg):(gZ p is r).length=is.length:=by unfold gZ;split <;> simp[ID]
theorem Ee {f:List Bool->List Bool} (a:∀ is,(f is).length=is.length):∀ (n:Nat) (is:List Bool),(iter f n is).length=is.length
 | 0,_=>rfl
 | n+1,is=>by rw[iter,Ee a n,a]
theorem Es {α:Type} {f:List Bool->α->List Bool} (a:∀ is x,(f is x).length=is.length):∀ (l:List α) (is:List Bool),(l.foldl f is).length=is.length
 | [],_=>rfl
 | x :: l,is=>by rw[aaR,Es a l,a]
theorem fZ {g:ai} (h:bC g=true) (t:Bool):(au g t).length=g.ak.length:=by
 have hl:∀ is,(lF g t is).length=is.length:=λis=>Es (Pl t) _ _
 rw[au,aaw h,Ee hl]
 simp[cE]
def lR:SC :=
 ae [ae [.region false [⟨none,[aa 41 8,ao 42 1 7,aj 43 42,aM 44 43,aQ 45 .lss 41 44,aa 46 45]⟩,⟨(some (46,true)),[aa 47 4,ao 48 0 7,aj 49 48,aI 50 1 47 49,aj 51 50]⟩,⟨none,[eC 52 46 51,aa 53 52]⟩,⟨(some (53,true)),[ao 54 1 7,aj 55 54,aa 56 3,qx 57 117 [(.tmp 55),(.tmp 56),(.val (.val (.bool true)))]]⟩,⟨none,[eC 58 53 57]⟩],bS 58 (.exit 4)],.block 5 (ae [ab [ao 61 1 7,aj 62 61,aa 63 8,aI 64 1 62 63,aj 65 64,aF 66 .lss 65 0],bf 66 (ab [aa 67 4,ao 68 1 7,aj 69 68,aa 70 8,aI 71 1 69 70,aj 72 71,((some 73),.op (.arith .sub (.val (.val (.int .i64 (-1)))) (.tmp 72))),aI 74 1 67 73,(none,.op (.store 1 (.tmp 74) (.val (.val (.bool true)))))])]),ab [aa 59 8,aF 60 .add 59 1,aa 8 60]]
def lX:SC :=
 ae [ae [ab [aa 29 6,ao 30 2 1,aj 31 30,aM 32 31,aQ 33 .lss 29 32],bS 33 (.exit 2)],.block 3 (ae [ab [ao 36 2 1,aj 37 36,aa 38 6,aI 39 3 37 38,aY 40 3 39,((some 7),.op (.alloc [(.val (.int .i64 0)),(.emp 1),(.val (.int .i64 0))])),bZ 3 7 40],ab [aT 8 0],bX 4 lR]),ab [aa 34 6,aF 35 .add 34 1,aa 6 35]]
def lY:SC :=
 ae [ae [ab [aa 22 5,ao 23 1 1,aj 24 23,aM 25 24,aQ 26 .lss 22 25],bS 26 (.exit 0)],.block 1 (ae [ab [aT 6 0],bX 2 lX]),ab [aa 27 5,aF 28 .add 27 1,aa 5 28]]
def nI:SF:=⟨ae [ab [cy 1 0,cT 2 1],ae [ab [aY 9 4 1,bm 10 54 [9],c4 11 10],bf 11 (ae [ab [cT 2 1],.ret])],ab [aY 12 4 1,bm 13 115 [12],aa 3 13],ab [ao 14 1 1,aj 15 14,aM 16 15,((some 17),.op (.make 1 1 [(.val (.bool false))] (.tmp 16) (.tmp 16))),aa 4 17],ab [aa 18 4,ao 19 3 1,aj 20 19,aI 21 1 18 20,(none,.op (.store 1 (.tmp 21) (.val (.val (.bool true)))))],ae [ab [aT 5 0],bX 0 lY],ab [aa 75 4,aa 2 75],.ret],
 [.tmp 2],76⟩
theorem tB:aO Tryz.prog 116 [1]=some nI:=by kernel_rfl
theorem Vm {l:List Bool} {i j:Nat} (h:l.getD j false=true):(l.set i true).getD j false=true:=by
 simp only[aaq,abV] at h ⊢
 by_cases e:i=j
 .subst e
  by_cases hi:i < l.length
  .simp[hi]
  .rw[aa1 (by omega)] at h;simp at h
 .rw[aat e];exact h
theorem UF {H:View} {m n:Nat} {o:di} (hm:H m=o) (a:H n=.dead) (b:o≠.dead):m≠n:=by rintro rfl;exact b (hm.symm.trans a)
theorem GI (g:ai) (X:g.Ok) (H:View):av Tryz.prog 116 [.agg (ag g)] H λr H'=>∀ W:aG,W.view=H'->dB W r (bO (bT g)):=by
 refine av.of mixed tB ?_
 simp(disch:=omega)only[↓wr,seval,wq,nI,ag,encS]
 refine ay.pure (kT g X) ?_
 repeat' (first | ((first|apply ah.dec|apply ah.eq|apply ah.ne|apply ah.split)<;>intro)|(simp(disch:=omega)only[↓wr,seval,wq,ag,encS]))
 .rename_i hr
  have y:=bu hr
  obtain⟨a7,a8⟩:=And.intro y.p7 y.ak
  refine ay.pure (wu g X) ?_
  have Y:=fZ hr true
  have n:bT g=iter (qP g (au g true)) g.ak.length ((cE g).set g.start.toNat true):=by rw[bT,aaw hr]
  generalize au g true=p at Y n
  have o:=y.lf
  have a1:=y.start
  have G:List.replicate g.ak.length [V.val (Value.bool false)]=dP (cE g):=Cm _ _
  have Z:(cE g).length=g.ak.length:=by simp[cE]
  simp(disch:=omega)only[↓wr,seval,wq,ag,encS]
  refine⟨⟨by omega,by unfold aD;omega,by unfold aD;omega⟩,λhz=>by omega,λ_ m hm=>?_⟩
  rw[G]
  have an:(dP (cE g)).getD g.start.toNat []=[gb ((cE g)[g.start.toNat]'(by omega))]:=mB (by omega)
  simp(disch:=omega)only[↓wr,seval,wq,ag,encS,mB (show g.start.toNat < (cE g).length by omega),mF,aaA]
  refine⟨by omega,by omega,?_⟩
  refine aS.intro (λk T H'=>∃ (i:Nat) (is:List Bool),i+k=g.ak.length/\is.length=g.ak.length/\iter (qP g p) k is=bT g/\T 1=.aH (ag g) 0/\T 3=bO p/\T 4=.sl m 0 g.ak.length 1/\H' m=.arr 1 (dP is)/\T 5=gi i) g.ak.length ?_ ?_
  .refine⟨0,(cE g).set g.start.toNat true,by omega,by simp[Z],n.symm,?_⟩
   simp(disch:=omega)only[↓wr,↓reduceIte,wq,Nat.reduceEqDiff,Nat.reduceAdd,Nat.reduceLT,Nat.reduceLeDiff,Int.reduceNeg,Int.reduceToNat,reduceCtorEq,ag,encS]
   rw[an]
   exact⟨by rw[<-mF];rfl,rfl⟩
  .rintro k T H' ⟨i,is,hk,hlen,hi,f1,f3,f4,fm,f5⟩
   simp(disch:=omega)only[↓wr,seval,wq,lY,f1,f3,f4,f5,ag,encS]
   apply ah.dec<;>intro hc
   .simp(disch:=omega)only[↓wr,seval,wq,f1,f3,f4,f5,ag,encS]
    refine aS.intro (λI T H'=>∃ (j:Nat) (d:List Bool),j+I=g.rules.length/\d.length=g.ak.length/\(g.rules.drop j).foldl (gZ p) d=qP g p is/\T 1=.aH (ag g) 0/\T 3=bO p/\T 4=.sl m 0 g.ak.length 1/\H' m=.arr 1 (dP d)/\T 5=gi i/\T 6=gi j) g.rules.length ?_ ?_
    .refine⟨0,is,by omega,hlen,rfl,?_⟩
     simp(disch:=omega)only[↓wr,seval,wq,f1,f3,f4,f5,fm,ag,encS]
     first | done | exact⟨rfl,rfl⟩ | rfl
    .rintro I T' bb ⟨j,d,bd,t,C,J,K,L,em,M,N⟩
     simp(disch:=omega)only[↓wr,seval,wq,lX,J,K,L,M,N,ag]
     apply ah.dec<;>intro hd
     .have hle:=y.rules
      have O:g.rules[j]?=some (g.rules[j]'(by omega)):=aar (by omega)
      rw[eZ (show j < g.rules.length by omega)] at C
      have f:g.rules[j]'(by omega)∈g.rules:=aaC _
      generalize g.rules[j]'(by omega)=r at O C f
      simp only[aaR] at C
      obtain⟨bl,bn⟩:=y.left r f
      obtain⟨_,_,aq,P⟩:=X.ax r f
      have bq:=y.right r f
      have Q:=KH r.right p true aq (λs hs=>⟨P s hs,λhn=>by have:=y.neg f hs hn;omega⟩)
      simp(disch:=omega)only[↓wr,seval,wq,J,K,L,M,N,ag,encS,aU,encI,aav,O,aaz]
      intro b hb
      have R:m≠b:=UF em hb (by simp)
      try simp(disch:=omega)only[↓wr,seval,wq,J,K,L,M,N,ag,encS,aU,encI]
      refine aS.intro (λq T H'=>∃ (a:Nat) (c:List Bool),a+q=r.right.length/\c.length=g.ak.length/\(r.right.drop a).foldl mark c=r.right.foldl mark d/\((a=0/\c=d)∨((d.getD r.left.toNat false && cP r.right p true)=true/\c.getD r.left.toNat false=true)) /\
       T 1=.aH (ag g) 0/\T 3=bO p/\T 4=.sl m 0 g.ak.length 1/\H' m=.arr 1 (dP c)/\T 5=gi i/\T 6=gi j/\T 7=.ptr b 0 0/\H' b=.arr 3 [aU r]/\T 8=gi a) r.right.length ?_ ?_
      .refine⟨0,d,by omega,t,rfl,.inl ⟨rfl,rfl⟩,?_⟩
       simp(disch:=omega)only[↓wr,↓reduceIte,wq,Nat.reduceEqDiff,Nat.reduceAdd,Nat.reduceLT,Nat.reduceLeDiff,Int.reduceNeg,Int.reduceToNat,reduceCtorEq,J,K,L,M,N,em,R,ag,encS,aU]
       exact⟨rfl,rfl⟩
      .rintro q T3 H3 ⟨a,c,hq,e,w,h,d1,d3,d4,z,d5,d6,d7,x,d8⟩
       simp(disch:=omega)only[↓wr,seval,wq,lR,d1,d3,d4,d5,d6,d7,d8,x,aU,encI]
       have S:c[r.left.toNat]?=some (c[r.left.toNat]'(by omega)):=aar (by omega)
       have l:c.getD r.left.toNat false=c[r.left.toNat]'(by omega):=by simp[aaq,S]
       have A:=mB (show r.left.toNat < c.length by omega)
       have U:(d.getD r.left.toNat false && cP r.right p true)=false->gZ p d r=c:=λhW=>by
        rcases h with ⟨_,rfl⟩ | ⟨h1,_⟩
        .rw[gZ,hW];rfl
        .rw[hW] at h1;simp at h1
       generalize c[r.left.toNat]'(by omega)=tl at S l A
       apply ah.dec<;>intro ht
       .have D:r.right[a]?=some (r.right[a]'(by omega)):=aar (by omega)
        rw[eZ (show a < r.right.length by omega)] at w
        have E:r.right[a]'(by omega)∈r.right:=aaC _
        generalize r.right[a]'(by omega)=s at D w E
        simp only[aaR] at w
        have ar:=P s E
        simp(disch:=omega)only[↓wr,seval,wq,d1,d3,d4,d5,d6,d7,d8,x,z,aU,encI,A,aaA]
        refine⟨by omega,by omega,?_⟩
        apply ah.split<;>intro u
        .simp(disch:=omega)only[↓wr,seval,wq,d1,d3,d4,d5,d6,d7,d8,x,z,aU,encI,A,aaA]
         refine ay.pure Q ?_
         simp(disch:=omega)only[↓wr,seval,wq,d1,d3,d4,d5,d6,d7,d8,x,z,aU,encI]
         apply ah.split<;>intro F
         .simp(disch:=omega)only[↓wr,seval,wq,d1,d3,d4,d5,d6,d7,d8,x,z,aU,encI,aav,D,aaz]
          have hW:(d.getD r.left.toNat false && cP r.right p true)=true/\c.getD r.left.toNat false=true:=by
           rcases h with ⟨_,rfl⟩ | h1
           .exact⟨by rw[l,u,F];rfl,by rw[l,u]⟩
           .exact h1
          apply ah.dec<;>intro B
          .have br:=y.neg f E B
           have a6:=ar.1
           have v:mark c s=c.set (-1 - s).toNat true:=by rw[mark,aaw B]
           simp(disch:=omega)only[↓wr,seval,wq,d1,d3,d4,d5,d6,d7,d8,x,z,aU,encI,aav,D,aaz,mB (show (-1 - s).toNat < c.length by omega),aaA,R.symm]
           rw[v] at w
           exact⟨by omega,by omega,q - 1,by omega,a+1,c.set (-1 - s).toNat true,by omega,by simp[e],w,.inr ⟨hW.1,Vm hW.2⟩,by rw[mF],by first | rfl | exact⟨rfl,rfl⟩⟩
          .have v:mark c s=c:=by rw[mark,aat B]
           rw[v] at w
           simp(disch:=omega)only[↓wr,seval,wq,d1,d3,d4,d5,d6,d7,d8,x,z]
           exact⟨q - 1,by omega,a+1,c,by omega,e,w,.inr hW,by first | rfl | exact⟨rfl,rfl⟩ | exact⟨rfl,rfl,rfl⟩⟩
         .simp(disch:=omega)only[↓wr,seval,wq,d1,d3,d4,d5,d6,d7,d8,x,z,aU,encI]
          have o:=U (by rw[F,Bool.and_false])
          exact⟨I - 1,by omega,j+1,c,by omega,e,by rw[<-o];exact C,rfl,rfl,rfl⟩
        .simp(disch:=omega)only[↓wr,seval,wq,d1,d3,d4,d5,d6,d7,d8,x,z,aU,encI,A,aaA]
         have o:gZ p d r=c:=by
          rcases h with ⟨_,rfl⟩ | ⟨_,h1⟩
          .rw[gZ,l,u];rfl
          .rw[l,u] at h1;simp at h1
         exact⟨I - 1,by omega,j+1,c,by omega,e,by rw[<-o];exact C,rfl,rfl,rfl⟩
       .simp(disch:=omega)only[↓wr,seval,wq,d1,d3,d4,d5,d6,d7,d8,x,z,aU,encI]
        rw[aaV (by omega),abL] at w
        have o:gZ p d r=c:=by
         rcases h with ⟨h0,rfl⟩ | ⟨h1,_⟩
         .unfold gZ
          split
          .exact w.symm
          .rfl
         .rw[gZ,aaw h1];exact w.symm
        exact⟨I - 1,by omega,j+1,c,by omega,e,by rw[<-o];exact C,rfl,rfl,rfl⟩
     .rw[aaV (by omega),abL] at C
      simp(disch:=omega)only[↓wr,seval,wq,J,K,L,M,N]
      obtain⟨q,rfl⟩:∃ q,k=q+1:=⟨k - 1,by omega⟩
      exact⟨q,by omega,i+1,d,by omega,t,by rw[C];exact hi,rfl,em,rfl⟩
   .simp(disch:=omega)only[↓wr,seval,wq,f1,f3,f4,f5,fm]
    have:k=0:=by omega
    subst this
    rintro W rfl
    simp only[<-hi,iter]
    rw[<-hlen]
    exact Bg fm
 .rename_i hr
  rintro W rfl
  simp only[bT,hr]
  exact .emp 1
theorem He (g:ai) (a:g.Ok):cW Tryz.prog 116 [.agg (ag g)] (bO (bT g)):=cW.of (eK g) (GI g a _)
noncomputable def Bt:List (FuncId × DF):=CG Tryz.prog [(148,[]),(147,[]),(233,[]),(234,[])]
theorem wm:uq Tryz.prog Bt:=zR _ _
theorem WB (P:Program):uY P (λ_ _ _=>none):=λ_ _ _ _ h=>by simp at h
def XS (o:Option V) (b:Bool):Bool:=match o with
 | some (.val (.bool c))=>c == b
 | _=>false
theorem YL {o:Option V} {b:Bool} (h:XS o b=true):o=some (gb b):=by
 unfold XS at h
 split at h
 .rw[abH] at h;rw[h]
 .simp at h
noncomputable def A8 (tab:List (FuncId × DF)) (f:FuncId) (p:Int->Bool):Bool:=(List.range 256).all λc=>XS (yw Tryz.prog tab (λ_ _ _=>none) f [gy (c:Int)]) (p (c:Int))
theorem yJ {a:List (FuncId × DF)} (d:uq Tryz.prog a) {f:FuncId} {p:Int->Bool} (h:A8 a f p=true) (c:Int) (e:0<=c) (h1:c<=255):az Tryz.prog f [gy c] (gb (p c)):=by
 have:=aaX.1 h c.toNat (by simp;omega)
 rw[show ((c.toNat:Nat):Int)=c by omega] at this
 exact(uA mixed d (WB _) (by intro v b;simp at b;subst b;exact .val _) (YL this)).pure
def Bh (c:Int):Bool:=decide (32<=c) && decide (c<=126) && c != 39 && c != 92
def Gm (c:Int):Bool:=c == 110 || c == 116 || c == 92 || c == 39
theorem Pv:A8 Bt 147 yl=true:=by kernel_rfl
theorem RE:A8 Bt 148 qA=true:=by kernel_rfl
theorem Q9:A8 Bt 233 Bh=true:=by kernel_rfl
theorem XN:A8 Bt 234 Gm=true:=by kernel_rfl
theorem IL {s:ByteArray} {c:Int} (h:c∈gF s):0<=c/\c<=255:=by
 unfold gF at h
 obtain⟨b,_,rfl⟩:=aaM.1 h
 have:=b.toNat_lt
 omega
theorem SH (s:ByteArray):iG s=(gF s).map λx=>[gy x]:=by simp[iG,gF]
noncomputable def Nd:List (FuncId × DF):=CG Tryz.prog [(49,[]),(94,[]),(134,[]),(177,[]),(212,[]),(213,[]),(214,[]),(215,[]),(232,[]),(178,[]),(216,[]),(179,[]),(194,[]),(193,[]),(192,[]),(217,[]),(218,[]),(219,[]),(135,[]),(183,[]),(182,[]),(220,[]),(221,[]),(181,[]),(184,[]),(180,[]),(95,[1]),(138,[3]),(151,[]),(154,[]),(140,[4]),(186,[4]),(139,[2]),(152,[2]),(223,[3]),(136,[]),(185,[5]),(222,[]),(137,[])]
theorem PQ:uq Tryz.prog Nd:=zR _ _
def Ec (l:List Int):V:=.aE (l.map λx=>[gy x])
theorem Tf (l:List Int):Tree (Ec l):=fe _ _ λx _ v a=>by simp at a;subst a;exact .val _
def uM (g:ai):V:=.bD [.agg (ag g),.val (.complex .f64 0 0),gi 0]
theorem Ov {l:List Int} {g:ai} (h:yw Tryz.prog Nd (λ_ _ _=>none) 49 [Ec l]=some (uM g)):cW Tryz.prog 49 [Ec l] (uM g) :=
 uA mixed PQ (WB _) (by intro v a;simp at a;subst a;exact Tf _) h
abbrev bY (κ:Type):=List (κ × V × Nat)
def cI {κ:Type} (key:κ->Value) (m:bY κ):List (V × V × Nat):=m.map λx=>(.val (key x.1),x.2.1,x.2.2)
def getM {κ:Type} [BEq κ] (m:bY κ) (k:κ):Option V:=(m.find? λx=>k == x.1).map (·.2.1)
def bN {κ:Type} [BEq κ] (k:κ) (v:V) (c:Nat):bY κ->bY κ
 | []=>[(k,v,c)]
 | x :: r=>if k == x.1 then (k,v,x.2.2) :: r else x :: bN k v c r
structure Em {κ:Type} [BEq κ] (P:Program) (kt:TypeId) (key:κ->Value):Prop where
 ty:∃ d,P.underlying kt=some d/\(∀ a b,Instr.sameNow d (key a) (key b)=some (a == b))/\(∀ a e,bL P (Instr.checkKey e 10000 kt (key a))=some ())
 bits:∀ a b,(a == b)=true->Instr.sameBits 10000 (key b) (key a)=true
theorem xD {κ:Type} (key:κ->Value):∀ m:bY κ,ji (cI key m)=some (m.map λx=>{ key:=key x.1,val:=.nilFunc,born:=x.2.2 })
 | []=>rfl
 | x :: r=>by
  have:=xD key r
  simp only[cI] at this
  simp[cI,ji,dH,this]
def iF {κ:Type} [BEq κ] (k:κ):bY κ->Option Nat
 | []=>none
 | x :: r=>if k == x.1 then some 0 else (iF k r).map (·+1)
theorem C6 {κ:Type} [BEq κ] {key:κ->Value} {d:TypeDesc} (h:∀ a b,Instr.sameNow d (key a) (key b)=some (a == b)) (k:κ):∀ (m:bY κ) (i:Nat),
  Instr.findNow d (key k) (m.map λx=>{ key:=key x.1,val:=.nilFunc,born:=x.2.2 }) i=some ((iF k m).map λj=>(i+j,.nilFunc))
 | [],i=>rfl
 | x :: r,i=>by
  simp only[aaW,Instr.findNow,h,iF]
  cases hk:k == x.1 with
  | true=>simp
  | false =>
   simp only[C6 h k r (i+1),aaU,if_false,Option.map_map]
   congr 2
   funext j
   simp only[Function.comp]
   congr 1
   omega
theorem Bf {κ:Type} [BEq κ] {P:Program} {kt:TypeId} {key:κ->Value} (h:Em P kt key) (k:κ) (e:Bool) (m:bY κ):oD P kt (.val (key k)) e (cI key m)=some (iF k m):=by
 obtain⟨d,hd,a,b⟩:=h.ty
 have hu:bL P (underlying kt)=some d:=eW hd
 simp only[oD,dH,xD,bE,b,abf]
 have:bL P (Instr.findKey kt (key k) (m.map λx=>{ key:=key x.1,val:=.nilFunc,born:=x.2.2 }))=some ((iF k m).map λj=>(0+j,.nilFunc)):=by
  unfold Instr.findKey
  rw[bE,hu,abf,C6 a]
  rfl
 rw[this]
 cases iF k m with
 | none=>rfl
 | some j=>simp
theorem yO {P:Program} {kt:TypeId} {d:TypeDesc} (h:P.underlying kt=some d) (hd:match d with | .int _ | .string | .bool=>True | _=>False) (e:Bool) (n:Nat) (v:Value):bL P (Instr.checkKey e (n+1) kt v)=some ():=by
 unfold Instr.checkKey
 rw[bE,eW h,abf]
 cases d <;> first | exact hd.elim | rfl
theorem mA {P:Program} {kt:TypeId} (k:IntKind) (h:P.underlying kt=some (.int k)):Em P kt (Value.int k) where
 ty:=⟨_,h,λa b=>by simp[Instr.sameNow],λa e=>yO h trivial e 9999 _⟩
 bits:=λa b c=>by
  have:a=b:=by simpa using c
  subst this
  simp[Instr.sameBits]
theorem zF {κ:Type} [BEq κ] {key:κ->Value} (k:κ):∀ m:bY κ,match iF k m with
  | some i=>∃ x,m[i]?=some x/\(k == x.1)=true/\getM m k=some x.2.1/\(cI key m)[i]?=some (.val (key x.1),x.2.1,x.2.2)/\∀ v c,(cI key m).set i (.val (key k),v,x.2.2)=cI key (bN k v c m)/\(bN k v c m).length=m.length
  | none=>getM m k=none/\∀ v c,cI key m ++ [(.val (key k),v,c)]=cI key (bN k v c m)/\(bN k v c m).length=m.length+1
 | []=>⟨rfl,λv c=>⟨rfl,rfl⟩⟩
 | x :: r=>by
  have a:=zF (key:=key) k r
  simp only[iF]
  cases hk:k == x.1 with
  | true=>exact⟨x,rfl,hk,by simp[getM,hk],rfl,λv c=>by simp[bN,hk,cI]⟩
  | false =>
   simp only[aaU,if_false]
   cases hi:iF k r with
   | some i =>
    rw[hi] at a
    obtain⟨y,h1,b,d,e,f⟩:=a
    refine⟨y,by simpa using h1,b,by simpa [getM,hk] using d,by simpa [cI] using e,λv c=>?_⟩
    obtain⟨g1,g2⟩:=f v c
    exact⟨by simp only[cI] at g1 ⊢;simp[bN,hk,g1],by simp[bN,hk,g2]⟩
   | none =>
    rw[hi] at a
    refine⟨by simpa [getM,hk] using a.1,λv c=>?_⟩
    obtain⟨g1,g2⟩:=a.2 v c
    exact⟨by simp only[cI] at g1 ⊢;simp[bN,hk,g1],by simp[bN,hk,g2]⟩
section
variable {P:Program} {T:Env} {H:View} {κ:Type} [BEq κ] {key:κ->Value} {kt et t ty:TypeId}
theorem Cx {K:V->View->Prop} {w:cO (T,H,K)} {x i:Operand} {z:V} {id c:Nat} {m:bY κ} {k:κ} (hm:dQ P t=some (kt,et)) (d:zeroV P et=some z) (hk:Em P kt key)
  (e:ev T x=.mp id) (hi:ev T i=.val (key k)) (hH:H id=.map (cI key m) c) (h:K ((getM m k).getD z) H):km P (.lookup t x i false) ty T H K w:=by
 intro n _
 have f:=Bf hk k (cI key m).isEmpty m
 have a:=zF (key:=key) k m
 refine⟨(getM m k).getD z,.none,[id],?_,h⟩
 simp only[sI,cD,oper,gM,hm,d,e,hi,hH,f]
 cases b:iF k m with
 | some j =>
  rw[b] at a
  obtain⟨y,h1,o,g,l,_⟩:=a
  simp[l,g]
 | none =>
  rw[b] at a
  simp[a.1]
theorem WH {K:V->View->Prop} {w:cO (T,H,K)} {x i:Operand} {z:V} {id c:Nat} {m:bY κ} {k:κ} (hm:dQ P t=some (kt,et)) (d:zeroV P et=some z) (hk:Em P kt key)
  (e:ev T x=.mp id) (hi:ev T i=.val (key k)) (hH:H id=.map (cI key m) c) (h:K (.bD [(getM m k).getD z,.val (.bool (getM m k).isSome)]) H):km P (.lookup t x i true) ty T H K w:=by
 intro n _
 have f:=Bf hk k (cI key m).isEmpty m
 have a:=zF (key:=key) k m
 refine⟨_,.none,[id],?_,h⟩
 simp only[sI,cD,oper,gM,hm,d,e,hi,hH,f]
 cases b:iF k m with
 | some j =>
  rw[b] at a
  obtain⟨y,h1,o,g,l,_⟩:=a
  simp[l,g]
 | none =>
  rw[b] at a
  simp[a.1]
theorem Vg (hk:Em P kt key) (k a:κ) (h:(k == a)=true):sameKey (.val (key a)) (.val (key k))=true:=by
 simp only[sameKey,dH];exact hk.bits _ _ h
theorem ye {K:V->View->Prop} {w:cO (T,H,K)} {x i y:Operand} {id c:Nat} {m:bY κ} {k:κ} {v:V} (hm:dQ P t=some (kt,et)) (hk:Em P kt key)
  (d:ev T x=.mp id) (hi:ev T i=.val (key k)) (e:ev T y=v) (hH:H id=.map (cI key m) c)
  (h:∀ g,K .any (H.set id (.map (cI key (bN k v c m)) g))):km P (.mapUpdate t x i y) ty T H K w:=by
 intro n _
 have a:=Bf hk k false m
 have b:=zF (key:=key) k m
 cases f:iF k m with
 | some j =>
  rw[f] at b a
  obtain⟨z,h1,l,q,o,p⟩:=b
  refine⟨.any,.fQ id (.map ((cI key m).set j (.val (key k),v,z.2.2)) c),[id],?_,?_⟩
  .simp only[sI,cD,oper,gj,hm,d,hi,e,hH,a,o,Vg hk k z.1 l,if_true]
  .rw[(p v c).1];exact h c
 | none =>
  rw[f] at b a
  refine⟨.any,.fQ id (.map (cI key m ++ [(.val (key k),v,c)]) (c+1)),[id],?_,?_⟩
  .simp only[sI,cD,oper,gj,hm,d,hi,e,hH,a]
  .rw[(b.2 v c).1];exact h (c+1)
theorem XZ {P:Program} {T:Env} {H:View} {t ty:TypeId} {x i y:Operand} {K:V->View->Prop} {w:cO (T,H,K)} : km P (.insert t x i y) ty T H K w=km P (.mapUpdate t x i y) ty T H K w:=propext Iff.rfl
omit [BEq κ] in
theorem Yp {K:V->View->Prop} {w:cO (T,H,K)} {x:Operand} {id c:Nat} {m:bY κ} (hm:dQ P t=some (kt,et)) (d:ev T x=.mp id) (hH:H id=.map (cI key m) c) (h:K (iW m.length) H) :
  km P (.call { callee:=.builtin .len,args:=#[x],argTypes:=#[t] }) ty T H K w:=by
 intro n _
 have hu:∃ a b,P.underlying t=some (.map a b):=by
  unfold dQ at hm
  split at hm
  .rename_i a b h1;exact⟨a,b,h1⟩
  .simp at hm
 obtain⟨a,b,hu⟩:=hu
 refine⟨iW m.length,.none,[id],?_,h⟩
 have hl:(cI key m).length=m.length:=by simp[cI]
 simp only[sI,cD,oper,ab2,aaK,aa2,xh,hu,d,hH,hl]
 simp[hu,d,hH,hl,xh]
end
theorem r5 {κ:Type} [BEq κ] [LawfulBEq κ] (k a:κ) (v:V) (c:Nat):∀ m:bY κ,getM (bN k v c m) a=if a == k then some v else getM m a
 | []=>by
  by_cases h:a=k
  .subst h;simp[bN,getM]
  .simp[bN,getM,h]
 | x :: r=>by
  have b:=r5 k a v c r
  simp only[bN]
  by_cases hk:k=x.1
  .by_cases h:a=k
   .subst h;simp[hk,getM]
   .have:¬ a=x.1:=λe=>h (e.trans hk.symm)
    simp[hk,getM,this]
  .simp only[abH,hk,if_false]
   by_cases h:a=x.1
   .have:¬ a=k:=λe=>hk (e.symm.trans h)
    simp[getM,h]
    subst h
    simp[this]
   .simp only[getM,acf,beq_eq_false_iff_ne.2 h] at b ⊢
    exact b
def fg {κ β:Type} [BEq κ] (a:List (κ × β)) (k:κ):Option β:=(a.find? λx=>k == x.1).map (·.2)
def lP {κ β:Type} [BEq κ] (k:κ) (v:β):List (κ × β)->List (κ × β)
 | []=>[(k,v)]
 | x :: r=>if k == x.1 then (k,v) :: r else x :: lP k v r
def qM {κ β:Type} (encV:β->V):List (κ × β)->bY κ->Prop
 | [],[]=>True
 | x :: a,y :: m=>y.1=x.1/\y.2.1=encV x.2/\qM encV a m
 | _,_=>False
theorem qM.get {κ β:Type} [BEq κ] {encV:β->V} (k:κ):∀ {a:List (κ × β)} {m:bY κ},qM encV a m->getM m k=(fg a k).map encV
 | [],[],_=>rfl
 | x :: a,y :: m,⟨h1,c,d⟩=>by
  have b:=qM.get k d
  simp only[getM,fg,acf,h1] at b ⊢
  cases k == x.1 with
  | true=>simp[c]
  | false=>simpa using b
theorem qM.put {κ β:Type} [BEq κ] {encV:β->V} (k:κ) (v:β) (c:Nat):∀ {a:List (κ × β)} {m:bY κ},qM encV a m->qM encV (lP k v a) (bN k (encV v) c m)
 | [],[],_=>⟨rfl,rfl,trivial⟩
 | x :: a,y :: m,⟨h1,d,b⟩=>by
  have e:=qM.put k v c b
  simp only[lP,bN,h1]
  cases k == x.1 with
  | true=>exact⟨rfl,rfl,b⟩
  | false=>exact⟨h1,d,e⟩
theorem qM.len {κ β:Type} {encV:β->V} : ∀ {a:List (κ × β)} {m:bY κ},qM encV a m->m.length=a.length
 | [],[],_=>rfl
 | x :: a,y :: m,⟨_,_,b⟩=>by simp[qM.len b]
theorem K0 {κ β:Type} [BEq κ] [LawfulBEq κ] (k b:κ) (v:β):∀ a:List (κ × β),fg (lP k v a) b=if b == k then some v else fg a b
 | []=>by
  by_cases h:b=k
  .subst h;simp[lP,fg]
  .simp[lP,fg,h]
 | x :: r=>by
  have c:=K0 k b v r
  simp only[lP]
  by_cases hk:k=x.1
  .by_cases h:b=k
   .subst h;simp[hk,fg]
   .have:¬ b=x.1:=λe=>h (e.trans hk.symm)
    simp[hk,fg,this]
  .simp only[abH,hk,if_false]
   by_cases h:b=x.1
   .have:¬ b=k:=λe=>hk (e.symm.trans h)
    simp[fg,h]
    subst h
    simp[this]
   .simp only[fg,acf,beq_eq_false_iff_ne.2 h] at c ⊢
    exact c
def Fl (n k:Nat) (J:Nat->Env->View->Prop) (T:Env) (H:View):Prop:=∃ i,i+k=n/\J i T H
theorem aS.up {P:Program} {T:Env} {H:View} {c:SC} {Q:Exit->Env->View->Prop} {v:cO (T,H,Q)} (n:Nat) (J:Nat->Env->View->Prop) (d:J 0 T H)
  (hs:∀ i k T H,i+k=n->J i T H->wS P c T H λe a H'=>Di e (∃ b,b < k/\Fl n b J a H') (Q e a H')):aS P c T H Q v :=
 aS.intro (λk T H=>Fl n k J T H) n ⟨0,by omega,d⟩ λk T H ⟨i,hk,f⟩=>hs i k T H hk f
theorem aC {n i k:Nat} {J:Nat->Env->View->Prop} {T:Env} {H:View} (hk:i+k=n) (b:i < n) (c:J (i+1) T H):∃ a,a < k/\Fl n a J T H:=⟨k - 1,by omega,i+1,by omega,c⟩
def owner:V->Option Nat
 | .sl id _ _ _=>some id
 | _=>none
def ba (H:View) (u:V) (sz:Nat) (es:List (List V)):Prop :=
 (es=[]/\∃ k,u=.emp k)∨(∃ n,u=.sl n 0 es.length sz/\H n=.arr sz es)
theorem ba.nil {H:View} {sz k:Nat} : ba H (.emp k) sz []:=.inl ⟨rfl,k,rfl⟩
theorem ba.len {H:View} {u:V} {sz:Nat} {es:List (List V)} (h:ba H u sz es):cU u=some es.length:=by
 rcases h with ⟨rfl,k,rfl⟩ | ⟨n,rfl,_⟩ <;> rfl
theorem ba.live {H:View} {u:V} {sz:Nat} {es:List (List V)} (h:ba H u sz es) {id:Nat} (a:owner u=some id):H id=.arr sz es/\u=.sl id 0 es.length sz:=by
 rcases h with ⟨rfl,k,rfl⟩ | ⟨n,rfl,b⟩
 .simp[owner] at a
 .simp[owner] at a;subst a;exact⟨b,rfl⟩
theorem ba.keep {H H':View} {u:V} {sz:Nat} {es:List (List V)} (h:ba H u sz es) (hk:∀ id,owner u=some id->H' id=H id):ba H' u sz es:=by
 rcases h with ⟨rfl,k,rfl⟩ | ⟨n,rfl,a⟩
 .exact .inl ⟨rfl,k,rfl⟩
 .exact .inr ⟨n,rfl,by rw[hk n rfl];exact a⟩
theorem ba.fresh {H:View} {u:V} {sz m:Nat} {es:List (List V)} {o:di} (h:ba H u sz es) (hm:H m=.dead):ba (H.set m o) u sz es :=
 h.keep λid a=>by
  have:=(h.live a).1
  have e:id≠m:=by rintro rfl;rw[hm] at this;simp at this
  simp[View.set,e]
theorem ba.ne {H:View} {u:V} {sz m:Nat} {es:List (List V)} (h:ba H u sz es) (hm:H m=.dead):owner u≠some m:=λe=>by
 have:=(h.live e).1;rw[hm] at this;simp at this
theorem ba.other {H:View} {u:V} {sz m:Nat} {es:List (List V)} {o:di} (h:ba H u sz es) (hm:owner u≠some m):ba (H.set m o) u sz es :=
 h.keep λid a=>by
  have e:id≠m:=by rintro rfl;exact hm a
  simp[View.set,e]
theorem ba.new {H:View} {n sz:Nat} {es:List (List V)} : ba (H.set n (.arr sz es)) (.sl n 0 es.length sz) sz es:=.inr ⟨n,rfl,by simp[View.set]⟩
theorem bM {H:View} {m z sz:Nat} {e:List V} : bQ (View.set H m (.arr z [e])) (.sl m 0 1 sz)=some ([e],[m]):=by
 simp[bQ,View.set]
def Left (H H':View) (u u':V):Prop:=∀ id,H id≠.dead->owner u≠some id->H' id=H id/\owner u'≠some id
theorem Br {sz bytes:Nat} {u:V} {es xs:List (List V)} {H:View} {K:V->View->Prop} {w:cO (H,K)} (d:ba H u sz es) (g:xs≠[]) (b:(xs.all λe=>e.length == sz && e.all aR)=true)
  (hl:(es.length+xs.length) * bytes < aD) (c:es.length+xs.length < aD) (hk:∀ f H',ba H' f sz (es ++ xs)->Left H H' u f->K f H'):oy sz bytes u xs H K w:=by
 have he:xs.isEmpty=false:=by cases xs with | nil=>exact absurd rfl g | cons=>rfl
 rcases d with ⟨rfl,k,rfl⟩ | ⟨n,rfl,h⟩
 .rw[BX _ _ _ _ _ _ _ he]
  refine⟨b,⟨by simpa using hl,by simpa using c⟩,λm hm=>hk _ _ ?_ ?_⟩
  .exact .inr ⟨m,rfl,by simp[View.set]⟩
  .intro id a _
   have e:id≠m:=by rintro rfl;exact a hm
   exact⟨by simp[View.set,e],by simp[owner,Ne.symm e]⟩
 .rw[zr _ _ _ _ _ _ _ _ _ _ he,h]
  refine⟨b,⟨by simp,rfl,hl,c⟩,λm hm=>hk _ _ ?_ ?_⟩
  .refine .inr ⟨m,by simp,by simp[View.set]⟩
  .intro id a d
   have e:id≠m:=by rintro rfl;exact a hm
   have i:id≠n:=by rintro rfl;exact d rfl
   exact⟨by simp[View.set,e,i],by simp[owner,Ne.symm e]⟩
theorem Left.refl {H:View} {u:V} : Left H H u u:=λ_ _ h=>⟨rfl,h⟩
theorem gO {sz bytes:Nat} {u:V} {es xs:List (List V)} {H:View} {K:V->View->Prop} {w:cO (H,K)} (a:ba H u sz es) (b:(xs.all λe=>e.length == sz && e.all aR)=true)
  (hl:(es.length+xs.length) * bytes < aD) (c:es.length+xs.length < aD) (hk:∀ d H',ba H' d sz (es ++ xs)->Left H H' u d->K d H'):oy sz bytes u xs H K w:=by
 cases xs with
 | nil =>
  have:=hk u H (by simpa using a) .refl
  rcases a with ⟨rfl,k,rfl⟩ | ⟨n,rfl,f⟩
  .exact this
  .exact this
 | cons x xs=>exact Br a (by simp) b hl c hk
theorem ew.own {H:View} {u:V} {sz:Nat} {es:List (List V)} (h:ba H u sz es) (a:∀ e∈es,∀ v∈e,Tree v):ew H u (.aE es):=by
 rcases h with ⟨rfl,k,rfl⟩ | ⟨n,rfl,b⟩
 .exact λh _=>.emp k
 .have:=ew.sl (off:=0) (len:=es.length) (esz:=sz) b (by simp) a
  rwa [abO,aaJ (by simp)] at this
theorem dB.own {h:aG} {u:V} {sz:Nat} {es:List (List V)} {es':List (List V)} (a:ba h.view u sz es) (hl:es'.length=es.length) (hi:∀ i,i < es.length->(es'.getD i []).length=(es.getD i []).length)
  (b:∀ i j,i < es.length->j < (es'.getD i []).length->dB h ((es.getD i []).getD j .any) ((es'.getD i []).getD j .any)):dB h u (.aE es'):=by
 rcases a with ⟨rfl,k,rfl⟩ | ⟨n,rfl,c⟩
 .have:es'=[]:=abQ.1 (by simpa using hl)
  subst this
  exact .emp k
 .exact .sl n 0 es.length sz sz es es' c (by simp) hl (λi h=>by rw[aby];exact hi i h) (λi j h1 d=>by rw[aby];exact b i j h1 d)
theorem dB.PK {h:aG} {α:Type} {u:V} {sz:Nat} {l:List α} {f:α->Value} (b:ba h.view u sz (l.map λx=>[V.val (f x)])):dB h u (.aE (l.map λx=>[V.val (f x)])):=by
 refine dB.own b rfl (λi _=>rfl) (λi j hi a=>?_)
 simp only[aaA] at hi
 have e:(l.map λx=>[V.val (f x)]).getD i []=[V.val (f l[i])]:=by simp[aaq,hi]
 rw[e] at a ⊢
 have:j=0:=by simp at a;omega
 subst this
 exact .val _
def dI (H H':View) (r:V):Prop:=∀ id,H id≠.dead->H' id=H id/\owner r≠some id
theorem dI.emp {H:View} {k:Nat} : dI H H (.emp k):=λ_ _=>⟨rfl,by simp[owner]⟩
theorem dI.new {H:View} {n a b c:Nat} {o:di} (f:H n=.dead):dI H (H.set n o) (.sl n a b c):=λid d=>by
 have e:id≠n:=by rintro rfl;exact d f
 exact⟨by simp[View.set,e],by simp[owner,Ne.symm e]⟩
theorem ba.left {H H':View} {u b x:V} {sz:Nat} {es:List (List V)} (h:ba H x sz es) (hl:Left H H' u b) (hd:∀ id,owner x=some id->owner u≠some id):ba H' x sz es :=
 h.keep λid a=>(hl id (by rw[(h.live a).1];simp) (hd id a)).1
theorem ba.Yx {H H':View} {x r:V} {sz:Nat} {es:List (List V)} (h:ba H x sz es) (hl:dI H H' r):ba H' x sz es :=
 h.keep λid a=>(hl id (by rw[(h.live a).1];simp)).1
theorem set_set {H:View} {n:Nat} {a b:di} : View.set (View.set H n a) n b=View.set H n b:=by
 funext id;simp only[View.set];split <;> rfl
theorem df {m b:Nat} {o x:di} (h:(if m=b then o else x)=.dead) (a:o≠.dead):m≠b/\x=.dead:=by
 split at h
 .exact absurd h a
 .rename_i e;exact⟨e,h⟩
theorem c7 {z:Nat} {es:List (List V)} : di.arr z es≠.dead:=by simp
def qJ (H:View):List V->List V->Prop
 | [],[]=>True
 | v :: vs,t :: ts=>ew H v t/\qJ H vs ts
 | _,_=>False
theorem qJ.len {H:View} : ∀ {vs a:List V},qJ H vs a->a.length=vs.length
 | [],[],_=>rfl
 | _ :: _,_ :: _,h=>by simp[qJ.len h.2]
theorem qJ.get {H:View} : ∀ {vs a:List V},qJ H vs a->∀ i,i < vs.length->ew H (vs.getD i .any) (a.getD i .any)
 | [],[],_,i,hi=>by simp at hi
 | _ :: _,_ :: _,h,0,_=>h.1
 | _ :: _,_ :: _,h,i+1,hi=>qJ.get h.2 i (by simpa using hi)
theorem ay.xB {P:Program} {q:Bool} {f:FuncId} {H:View} {vs b:List V} {K:V->View->Prop} {v:cO (H,K)} {t:V} (c:az P f b t) (a:dW P f=true) (d:Ea t) (hl:qJ H vs b) (hk:K t H):ay P q f vs H K v :=
 ay.borrow c a d hl.len hl.get hk
theorem ay.Y2 {P:Program} {q:Bool} {f:FuncId} {H:View} {vs b:List V} {K:V->View->Prop} {v:cO (H,K)} {t:V} (c:cW P f b t) (a:dW P f=true) (hl:qJ H vs b) (hk:K t H):ay P q f vs H K v :=
 ay.xQ c a hl.len hl.get hk
theorem ew.box {H:View} {q z:Nat} {e:List V} (hq:H q=.arr z [e]) (a:∀ v∈e,Tree v):ew H (.ptr q 0 0) (.aH e 0):=by
 rintro h rfl
 refine .ptr q 0 0 z [e] e hq (by simp) (by simp) (λk hk=>?_)
 simp only[abD]
 have b:e.getD k .any=e[k]:=by simp[aaq,hk]
 rw[b]
 exact .tree _ (a _ (aaC _))
theorem ba.sl {H:View} {u:V} {sz:Nat} {es:List (List V)} (h:ba H u sz es) (a:0 < es.length):∃ n,u=.sl n 0 es.length sz/\H n=.arr sz es:=by
 rcases h with ⟨rfl,_⟩ | h
 .simp at a
 .exact h
abbrev cx:=V × Nat × List (List V)
def bk (H:View) (L:List cx):Prop:=(∀ x∈L,ba H x.1 x.2.1 x.2.2)/\(L.filterMap λx=>owner x.1).Nodup
theorem bk.nil {H:View} : bk H []:=⟨λx a=>by simp at a,by simp⟩
theorem bk.head {H:View} {x:cx} {L:List cx} (h:bk H (x :: L)):ba H x.1 x.2.1 x.2.2:=h.1 x (by simp)
theorem bk.tail {H:View} {x:cx} {L:List cx} (h:bk H (x :: L)):bk H L:=by
 refine⟨λy a=>h.1 y (by simp[a]),?_⟩
 have:=h.2
 simp only[abT] at this
 split at this
 .exact this
 .exact(abo.1 this).2
theorem bk.perm {H:View} {L a:List cx} (h:bk H L) (p:L.Perm a):bk H a :=
 ⟨λx b=>h.1 x (p.mem_iff.2 b),(p.filterMap _).nodup_iff.1 h.2⟩
theorem uH {α:Type} : ∀ (L:List α) (k:Nat) (hk:k < L.length),L.Perm (L[k] :: L.eraseIdx k)
 | x :: L,0,_=>.refl _
 | x :: L,k+1,hk=>by
  have:=uH L k (by simpa using hk)
  exact(this.cons x).trans (.swap _ _ _)
theorem bk.at {H:View} {L:List cx} (h:bk H L) (k:Nat) (hk:k < L.length):bk H (L[k] :: L.eraseIdx k) :=
 h.perm (uH L k hk)
theorem bk.obj {H:View} {n k sz:Nat} {es:List (List V)} {L:List cx} (h:bk H ((.sl n 0 k sz,sz,es) :: L)) (a:es≠[]):H n=.arr sz es/\k=es.length:=by
 rcases h.head with ⟨e,_⟩ | ⟨m,e,hm⟩
 .exact absurd e a
 .simp only[V.sl.injEq] at e
  obtain⟨rfl,_,rfl,_⟩:=e
  exact⟨hm,rfl⟩
theorem bk.off {H:View} {x:cx} {L:List cx} (h:bk H (x :: L)) {id:Nat} (a:owner x.1=some id):∀ y∈L,owner y.1≠some id:=by
 intro y b e
 have:=h.2
 simp only[abT,a,abo,abJ,not_exists,not_and] at this
 exact this.1 y b e
theorem bk.live {H:View} {x:cx} {L:List cx} (h:bk H L) (b:x∈L) {id:Nat} (a:owner x.1=some id):H id≠.dead:=by
 rw[((h.1 x b).live a).1];simp
theorem bk.keep {H H':View} {L:List cx} (h:bk H L) (hk:∀ x∈L,∀ id,owner x.1=some id->H' id=H id):bk H' L :=
 ⟨λx a=>(h.1 x a).keep (hk x a),h.2⟩
theorem bk.new {H:View} {L:List cx} (h:bk H L) {n:Nat} (b:H n=.dead) (sz:Nat) (es:List (List V)):bk (H.set n (.arr sz es)) ((.sl n 0 es.length sz,sz,es) :: L):=by
 refine⟨λx a=>?_,?_⟩
 .rcases aaI.1 a with rfl | a
  .exact .new
  .exact(h.1 x a).fresh b
 .simp only[abT,owner,abo,abJ,not_exists,not_and]
  exact⟨λx a e=>h.live a e b,h.2⟩
theorem bk.Ka {H H':View} {L:List cx} (h:bk H L) {u:V} {sz:Nat} {es:List (List V)} (c:ba H' u sz es) (b:dI H H' u):bk H' ((u,sz,es) :: L):=by
 refine⟨λx a=>?_,?_⟩
 .rcases aaI.1 a with rfl | a
  .exact c
  .exact(h.1 x a).Yx b
 .cases hu:owner u with
  | none=>simp only[abT,hu];exact h.2
  | some id =>
   simp only[abT,hu,abo,abJ,not_exists,not_and]
   exact⟨λx a e=>(b id (h.live a e)).2 hu,h.2⟩
theorem bk.fresh {H:View} {L:List cx} (h:bk H L) {n:Nat} (a:H n=.dead) {o:di} : bk (H.set n o) L :=
 ⟨λx b=>(h.1 x b).fresh a,h.2⟩
theorem bk.put {H:View} {L:List cx} {n k sz:Nat} {es es':List (List V)} (h:bk H ((.sl n 0 k sz,sz,es) :: L)) (hl:es'.length=es.length) (hk:k=es.length):bk (H.set n (.arr sz es')) ((.sl n 0 k sz,sz,es') :: L):=by
 refine⟨λx a=>?_,by simpa [abT,owner] using h.2⟩
 rcases aaI.1 a with rfl | a
 .exact .inr ⟨n,by simp[hl,hk],by simp[View.set]⟩
 .exact(h.1 x (by simp[a])).other (h.off rfl x a)
theorem bk.left {H H':View} {L:List cx} {u c:V} {sz:Nat} {es es':List (List V)} (h:bk H ((u,sz,es) :: L)) (i:ba H' c sz es') (hl:Left H H' u c):bk H' ((c,sz,es') :: L):=by
 have b:∀ x∈L,∀ id,owner x.1=some id->owner u≠some id:=λx a id d hu=>h.off hu x a d
 refine⟨λx a=>?_,?_⟩
 .rcases aaI.1 a with rfl | a
  .exact i
  .exact(h.1 x (by simp[a])).left hl (b x a)
 .have g:=h.tail.2
  cases hu:owner c with
  | none=>simp only[abT,hu];exact g
  | some id =>
   simp only[abT,hu,abo,abJ,not_exists,not_and]
   refine⟨λx a e=>?_,g⟩
   have f:=h.tail.live a e
   exact(hl id f (b x a id e)).2 hu
theorem ct {sz bytes:Nat} {u:V} {es xs:List (List V)} {L:List cx} {H:View} {K:V->View->Prop} {w:cO (H,K)} (d:bk H ((u,sz,es) :: L)) (b:(xs.all λe=>e.length == sz && e.all aR)=true)
  (hl:(es.length+xs.length) * bytes < aD) (c:es.length+xs.length < aD) (hk:∀ a H',bk H' ((a,sz,es ++ xs) :: L)->Left H H' u a->K a H'):oy sz bytes u xs H K w :=
 gO d.head b hl c λa H' h1 f=>hk a H' (d.left h1 f) f
theorem bk.stay {H H':View} {L:List cx} (h:bk H L) (b:∀ id,H id≠.dead->H' id=H id):bk H' L :=
 h.keep λx c _ a=>b _ (h.live c a)
theorem bk.emp {H:View} {L:List cx} (h:bk H L) {k sz:Nat} : bk H ((.emp k,sz,[]) :: L):=by
 refine⟨λx a=>?_,by simpa [abT,owner] using h.2⟩
 rcases aaI.1 a with rfl | a
 .exact .nil
 .exact h.1 x a
theorem ba.cells {H:View} {u:V} {sz:Nat} {es:List (List V)} (h:ba H u sz es):V.cells u=[u]:=by
 rcases h with ⟨rfl,k,rfl⟩ | ⟨n,rfl,_⟩ <;> rfl
theorem ba.iO {H:View} {u:V} {sz:Nat} {es:List (List V)} (h:ba H u sz es):aR u=true:=by
 rcases h with ⟨rfl,k,rfl⟩ | ⟨n,rfl,_⟩ <;> rfl
theorem bk.Ih {H:View} {L:List cx} (h:bk H L) (i j:Nat) {a e s1 b k2 s2 t1 t2:Nat} {f g:List (List V)} (hi:L[i]?=some (.sl a 0 e s1,t1,f)) (k:L[j]?=some (.sl b 0 k2 s2,t2,g)) (c:i≠j):a≠b:=by
 rintro rfl
 obtain⟨d,hi⟩:=aaG.1 hi
 have h1:=h.at i d
 rw[hi] at h1
 exact h1.off (id:=a) rfl _ (List.mem_eraseIdx_iff_getElem?.2 ⟨j,c.symm,k⟩) rfl
theorem Eg {α:Type} {a b c:α} {l:List α} : (a :: b :: c :: l).Perm (b :: c :: a :: l):=(List.Perm.swap _ _ _).trans ((List.Perm.swap _ _ _).cons _)
theorem bk.own {H:View} {L:List cx} (h:bk H L) (i:Nat) {u:V} {sz:Nat} {es:List (List V)} (hi:L[i]?=some (u,sz,es)):ba H u sz es:=h.1 _ (aax hi)
theorem bk.is {H:View} {L:List cx} (h:bk H L) (i:Nat) {n k sz:Nat} {es:List (List V)} (hi:L[i]?=some (.sl n 0 k sz,sz,es)) (a:0 < es.length):H n=.arr sz es:=by
 obtain⟨m,e,hm⟩:=(h.own i hi).sl a
 simp only[V.sl.injEq] at e
 rw[e.1];exact hm
theorem bk.CT {H:View} {L:List cx} (h:bk H L) {b c:Nat} {es:List (V × V × Nat)} (a:H b=.map es c):∀ x∈L,owner x.1≠some b:=λx d e=>by
 have:=((h.1 x d).live e).1
 rw[a] at this;simp at this
theorem bk.xM {H:View} {L:List cx} (h:bk H L) {b c:Nat} {es:List (V × V × Nat)} (d:H b=.map es c) {o:di} : bk (H.set b o) L :=
 ⟨λx a=>(h.1 x a).other (h.CT d x a),h.2⟩
theorem Left.map {H H':View} {u d:V} {b c:Nat} {es:List (V × V × Nat)} {sz:Nat} {xs:List (List V)} (hl:Left H H' u d) (f:ba H u sz xs) (a:H b=.map es c):H' b=.map es c:=by
 rw[(hl b (by rw[a];simp) (λe=>by have:=(f.live e).1;rw[a] at this;simp at this)).1,a]
theorem Fb {H:View} {L:List cx} (h:bk H L) (i:Nat) {n k sz b c:Nat} {xs:List (List V)} {es:List (V × V × Nat)} (hi:L[i]?=some (.sl n 0 k sz,sz,xs)) (a:H b=.map es c):n≠b:=by
 rintro rfl
 exact h.CT a _ (aax hi) rfl
theorem ay.NZ {P:Program} {f:FuncId} {vs:List V} {H:View} {K:V->View->Prop} {w:cO (H,K)} {sz:Nat} {es:List (List V)} (b:av P f vs H λr H'=>ba H' r sz es/\dI H H' r) (hk:∀ r H',ba H' r sz es->dI H H' r->K r H'):ay P true f vs H K w:=by
 unfold ay
 simp only[if_true]
 exact(b.mono λr H' h=>⟨λid a=>(h.2 id a).1,hk r H' h.1 h.2⟩).Pr
def BR:SC :=
 ae [ab [aQ 20 .lss 19 18],bS 20 (.exit 0),.block 1 (ae [ab [aa 21 19,aa 3 21],ab [aa 22 0,aa 23 3,((some 24),.op (.jy (.tmp 22) (.tmp 23))),bm 25 148 [24],c4 26 25],bf 26 (ae [ab [bw 2 false],.ret])]),ab [aF 27 .add 19 1,aa 19 27]]
def F3:SF:=⟨ae [ab [bw 2 false],ae [.region false [⟨none,[aa 4 0,((some 5),.op (.AB .eql (.tmp 4) (.val (.val (.string ⟨#[]⟩))))),aa 6 5]⟩,⟨(some (6,false)),[aa 7 0,((some 8),.op (.rJ (.tmp 7))),aF 9 .gtr 8 20]⟩,⟨none,[cF 10 6 9,aa 11 10]⟩,⟨(some (11,false)),[aa 12 0,((some 13),.op (.jy (.tmp 12) (.val (.val (.int .i64 0))))),bm 14 147 [13],c4 15 14]⟩,⟨none,[cF 16 11 15]⟩],bf 16 (ae [ab [bw 2 false],.ret])],ae [ab [aa 17 0,((some 18),.op (.rJ (.tmp 17))),aT 19 0],bX 0 BR],ab [bw 2 true],.ret],
 [.tmp 2],28⟩
theorem I8:aO Tryz.prog 102 []=some F3:=by kernel_rfl
def Ao:SF:=⟨ae [ab [aT 2 0,aT 3 0],ab [aT 4 2],.block 0 (ae [ab [aa 6 0,aM 7 6,aF 8 .lss 7 2,aa 5 8],.cond (.tmp 5) (ae [ab [aT 2 0,aT 3 4],.ret]) (ae [ab [aa 10 0,((some 11),.op (.idx 1 (.tmp 10) (.val (.val (.int .i64 1))))),aj 12 11,bm 13 233 [12],aa 9 13],bS 9 (ae [ab [aa 15 0,((some 16),.op (.idx 1 (.tmp 15) (.val (.val (.int .i64 1))))),aj 17 16,((some 18),.op (.arith .neq (.tmp 17) (.val (.val (.int .u8 92))))),aa 14 18],.cond (.tmp 14) (ae [ab [aT 2 0,aT 3 3],.ret]) (ae [ab [aa 20 0,aM 21 20,aF 22 .lss 21 3,aa 19 22],.cond (.tmp 19) (ae [ab [aT 2 0,aT 3 4],.ret]) (ae [ab [aa 24 0,((some 25),.op (.idx 1 (.tmp 24) (.val (.val (.int .i64 2))))),aj 26 25,bm 27 234 [26],c4 28 27,aa 23 28],.cond (.tmp 23) (ae [ab [aT 2 0,aT 3 3],.ret]) (ab [aT 4 3])])])])])]),ae [ab [aa 29 0,aM 30 29,aa 31 4,aQ 32 .leq 30 31],bf 32 (ae [ab [aT 2 0,aT 3 4],.ret])],ae [ab [aa 33 0,aa 34 4,aI 35 1 33 34,aj 36 35,((some 37),.op (.arith .neq (.tmp 36) (.val (.val (.int .u8 39)))))],bf 37 (ae [ab [aT 2 0,aT 3 3],.ret])],ab [aa 38 4,aF 39 .add 38 1,aa 2 39,aT 3 0],.ret],
 [.tmp 2,.tmp 3],40⟩
theorem Ei:aO Tryz.prog 224 []=some Ao:=by kernel_rfl
def tI:SF:=⟨ae [ab [bw 2 false],ae [.region false [⟨none,[aa 5 0,((some 6),.op (.AB .eql (.tmp 5) (.val (.val (.string ⟨#[]⟩))))),aa 7 6]⟩,⟨(some (7,false)),[aa 8 0,((some 9),.op (.jy (.tmp 8) (.val (.val (.int .i64 0))))),((some 10),.op (.arith .neq (.tmp 9) (.val (.val (.int .u8 39)))))]⟩,⟨none,[cF 11 7 10]⟩],bf 11 (ae [ab [bw 2 false],.ret])],ab [aa 13 0,((some 14),.op (.iq (.tmp 13))),bm 15 224 [14],aa 12 15,eP 16 0 12,eP 17 1 12,aa 3 16,aa 4 17],.region false [⟨none,[aa 18 4,aF 19 .eql 18 0,aa 20 19]⟩,⟨(some (20,true)),[aa 21 3,aa 22 0,((some 23),.op (.rJ (.tmp 22))),aQ 24 .eql 21 23]⟩,⟨none,[eC 25 20 24,aa 2 25]⟩],.ret],
 [.tmp 2],26⟩
theorem DJ:aO Tryz.prog 187 [14]=some tI:=by kernel_rfl
def C4:SF:=⟨ae [ab [bw 2 false],.region false [⟨none,[aa 3 0,bm 4 102 [3],aa 5 4]⟩,⟨(some (5,false)),[aa 6 0,bm 7 187 [6]]⟩,⟨none,[cF 8 5 7,aa 2 8]⟩],.ret],
 [.tmp 2],9⟩
theorem Hf:aO Tryz.prog 141 []=some C4:=by kernel_rfl
def Am:SF:=⟨ae [ab [bw 2 false],ab [aa 3 0,bm 4 102 [3],c4 5 4,aa 2 5],.ret],
 [.tmp 2],6⟩
theorem Dz:aO Tryz.prog 101 []=some Am:=by kernel_rfl
theorem Cn (s:ByteArray):j8 s ⟨#[]⟩=decide ((gF s).length=0):=by
 unfold j8
 rw[<-fF]
 have:(s.data.toList == ([]:List UInt8))=decide (s.data.toList.length=0):=by
  cases s.data.toList <;> rfl
 show (s.data.toList == ([]:List UInt8))=_
 rw[this]
 rfl
theorem Wa (s:ByteArray) (H:View):av Tryz.prog 102 [gs s] H λr _=>r=gb (iD (gF s)):=by
 refine av.of mixed I8 ?_
 repeat' (first | ((first|apply ah.dec|apply ah.eq|apply ah.ne|apply ah.split)<;>intro)|(simp(disch:=omega)only[↓wr,seval,wq,F3,fF,Cn]))
 .rename_i h
  congr 2;simp[iD,h]
 .rename_i h1 h
  congr 2;simp[iD,show ¬ (gF s).length<=20 by omega]
 .rename_i h1 o
  cases e:gF s with
  | nil=>simp[e] at h1
  | cons c l =>
   have f:=λd (hd:d∈c :: l)=>IL (s:=s) (c:=d) (by rw[e];exact hd)
   have g:=f c (by simp)
   repeat' (first | ((first|apply ah.dec|apply ah.eq|apply ah.ne|apply ah.split)<;>intro)|(simp(disch:=omega)only[↓wr,seval,wq,e,aa0,fF]))
   refine ay.pure (yJ wm Pv c g.1 g.2) ?_
   repeat' (first | ((first|apply ah.dec|apply ah.eq|apply ah.ne|apply ah.split)<;>intro)|(simp(disch:=omega)only[↓wr,seval,wq,e,aa0,fF]))
   .rename_i p
    rw[e] at h1 o
    refine aS.intro (λk T H'=>∃ i:Nat,i+k=(c :: l).length/\((c :: l).take i).all qA=true/\T 0=gs s/\T 18=gi (c :: l).length/\T 19=gi i) (c :: l).length ?_ ?_
    .exact⟨0,by omega,by simp,rfl,rfl,rfl⟩
    .rintro k T H' ⟨i,hk,hi,m,a,b⟩
     simp(disch:=omega)only[↓wr,seval,wq,BR,m,a,b,fF,e]
     apply ah.dec<;>intro q
     .simp only[aaK] at q hk o
      have n:(c :: l)[i]?=some ((c :: l)[i]'(by simp;omega)):=aar (by simp;omega)
      have hm:(c :: l)[i]'(by simp;omega)∈c :: l:=aaC _
      generalize (c :: l)[i]'(by simp;omega)=d at n hm
      have j:=f d hm
      simp(disch:=omega)only[↓wr,seval,wq,m,a,b,fF,e,n]
      refine ay.pure (yJ wm RE d j.1 j.2) ?_
      repeat' (first | ((first|apply ah.dec|apply ah.eq|apply ah.ne|apply ah.split)<;>intro)|(simp(disch:=omega)only[↓wr,seval,wq,m,a,b,fF,e,n]))
      .rename_i hd
       refine⟨k - 1,by omega,i+1,by omega,?_,by first | rfl | exact⟨rfl,rfl⟩⟩
       rw[aaQ,n]
       simp only[Option.toList_some,List.all_append,hi,abP,hd,List.all_nil,Bool.and_self]
      .rename_i hd
       congr 2
       have:(c :: l).all qA=false:=by
        rw[List.all_eq_false];exact⟨d,hm,by simp[hd]⟩
       simp only[iD,this,Bool.and_false]
     .simp(disch:=omega)only[↓wr,seval,wq,m,a,b]
      simp only[aaK] at q hk o
      rw[aaJ (by simp;omega)] at hi
      congr 2
      simp only[iD,hi,aaK]
      simp[p];omega
   .rename_i p
    congr 2;simp[iD,p]
theorem L3 (s:ByteArray):az Tryz.prog 102 [gs s] (gb (iD (gF s))):=az.val (rG s) (Wa s)
def mz (l:List Int):Int × Int :=
 if Bh (l.getD 1 0)=true then (2,0) else if l.getD 1 0≠92 then (0,3) else if l.length < 3 then (0,4) else if Gm (l.getD 2 0)=true then (3,0) else (0,3)
def oU (l:List Int):Int × Int :=
 if l.length < 2 then (0,4) else if (mz l).2≠0 then (0,(mz l).2) else if (l.length:Int)<=(mz l).1 then (0,4) else if l.getD (mz l).1.toNat 0≠39 then (0,3) else ((mz l).1+1,0)
theorem QZ {l:List Int} {n:Int} (a:mz l=(n,0)) (b:¬ l.length < 2):oU l=if (l.length:Int)<=n then (0,4) else if l.getD n.toNat 0≠39 then (0,3) else (n+1,0):=by
 rw[oU,aat b,a];simp
theorem JZ {l:List Int} {e:Int} (a:mz l=(0,e)) (he:e≠0) (b:¬ l.length < 2):oU l=(0,e):=by
 rw[oU,aat b,a];simp[he]
theorem ON (l:List Int) (hr:∀ c∈l,0<=c/\c<=255) (H:View):av Tryz.prog 224 [.aE (l.map λx=>[gy x])] H λr _=>r=.bD [gi (oU l).1,gi (oU l).2]:=by
 refine av.of mixed Ei ?_
 simp(disch:=omega)only[↓wr,seval,wq,Ao]
 apply ah.dec<;>intro h
 .simp(disch:=omega)only[↓wr,seval,wq]
  rw[oU,aaw (by omega)]
 .have h1:l[1]?=some (l[1]'(by omega)):=aar (by omega)
  have g1:l.getD 1 0=l[1]'(by omega):=by simp[aaq,h1]
  have m1:l[1]'(by omega)∈l:=aaC _
  generalize l[1]'(by omega)=b at h1 g1 m1
  have o:=hr b m1
  simp(disch:=omega)only[↓wr,seval,wq,aav,h1]
  refine ay.pure (yJ wm Q9 b o.1 o.2) ?_
  simp(disch:=omega)only[↓wr,seval,wq]
  apply ah.split<;>intro hp
  .have p:mz l=(2,0):=by rw[mz,aaw (by rw[g1];exact hp)]
   simp(disch:=omega)only[↓wr,seval,wq]
   have a:=QZ p (by omega)
   apply ah.dec<;>intro m
   .simp(disch:=omega)only[↓wr,seval,wq]
    rw[a,aaw (by omega)]
   .rw[aat (by omega)] at a
    have g:l[2]?=some (l[2]'(by omega)):=aar (by omega)
    have g2:l.getD (2:Int).toNat 0=l[2]'(by omega):=by simp[aaq,g]
    generalize l[2]'(by omega)=c at g g2
    rw[g2] at a
    simp(disch:=omega)only[↓wr,seval,wq,aav,g]
    apply ah.ne<;>intro i
    .simp(disch:=omega)only[↓wr,seval,wq]
     rw[a,aaw i]
    .simp(disch:=omega)only[↓wr,↓reduceIte,wq,Nat.reduceEqDiff,Nat.reduceAdd,Nat.reduceLT,Nat.reduceLeDiff,Int.reduceNeg,Int.reduceToNat,reduceCtorEq]
     rw[a,aat (λq=>q i)]
  .simp(disch:=omega)only[↓wr,seval,wq,aav,h1]
   apply ah.ne<;>intro k
   .simp(disch:=omega)only[↓wr,seval,wq]
    rw[JZ (e:=3) (by rw[mz,aat (by rw[g1,hp];simp),aaw (by rw[g1];exact k)]) (by simp) (by omega)]
   .simp(disch:=omega)only[↓wr,seval,wq]
    apply ah.dec<;>intro s
    .simp(disch:=omega)only[↓wr,seval,wq]
     rw[JZ (e:=4) (by rw[mz,aat (by rw[g1,hp];simp),aat (by rw[g1];exact λq=>q k),aaw (by omega)]) (by simp) (by omega)]
    .have g:l[2]?=some (l[2]'(by omega)):=aar (by omega)
     have g2:l.getD 2 0=l[2]'(by omega):=by simp[aaq,g]
     have m2:l[2]'(by omega)∈l:=aaC _
     generalize l[2]'(by omega)=c at g g2 m2
     have j:=hr c m2
     have f:mz l=if Gm c=true then (3,0) else (0,3):=by rw[mz,aat (by rw[g1,hp];simp),aat (by rw[g1];exact λq=>q k),aat (by omega),g2]
     simp(disch:=omega)only[↓wr,seval,wq,aav,g]
     refine ay.pure (yJ wm XN c j.1 j.2) ?_
     simp(disch:=omega)only[↓wr,seval,wq]
     apply ah.split<;>intro he
     .rw[aaw he] at f
      have a:=QZ f (by omega)
      simp(disch:=omega)only[↓wr,seval,wq]
      apply ah.dec<;>intro m
      .simp(disch:=omega)only[↓wr,seval,wq]
       rw[a,aaw (by omega)]
      .rw[aat (by omega)] at a
       have n:l[3]?=some (l[3]'(by omega)):=aar (by omega)
       have g3:l.getD (3:Int).toNat 0=l[3]'(by omega):=by simp[aaq,n]
       generalize l[3]'(by omega)=d at n g3
       rw[g3] at a
       simp(disch:=omega)only[↓wr,seval,wq,aav,n]
       apply ah.ne<;>intro i
       .simp(disch:=omega)only[↓wr,seval,wq]
        rw[a,aaw i]
       .simp(disch:=omega)only[↓wr,↓reduceIte,wq,Nat.reduceEqDiff,Nat.reduceAdd,Nat.reduceLT,Nat.reduceLeDiff,Int.reduceNeg,Int.reduceToNat,reduceCtorEq]
        rw[a,aat (λq=>q i)]
     .rw[aat (by rw[he];simp)] at f
      simp(disch:=omega)only[↓wr,seval,wq]
      rw[JZ f (by simp) (by omega)]
end Gv
