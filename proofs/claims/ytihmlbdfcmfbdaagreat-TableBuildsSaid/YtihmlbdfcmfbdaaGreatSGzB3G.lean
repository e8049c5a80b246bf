/-
  Part 7 of the proof: what the machine does and what the functions answer.
  Conditions: those that each lemma names.
-/
import Derived.Test.YtihmlbdfcmfbdaaGreatSGzB3F
set_option linter.unusedSimpArgs false
set_option linter.unusedVariables false
set_option maxRecDepth 100000
set_option maxHeartbeats 20000000
namespace Gv
open Go Go.Proofs
section
variable {P:Program} {n:Nat} {all:List Oper}
def jM (h:aF) (e:ES):Prop:=e.V=h.view/\e.n=h.length
def Calm (e e':ES) (h h':aF):Prop:=h.length<=h'.length/\(∀ id,id < h.length->¬ id∈e'.w->h'.view id=h.view id/\¬ id∈e.w)
theorem Calm.trans {a b c:ES} {h1 e f:aF} (x:Calm a b h1 e) (y:Calm b c e f):Calm a c h1 f :=
 ⟨aai x.1 y.1,λid d hw =>
  let ⟨g,d1⟩:=y.2 id (ZX d x.1) hw
  let ⟨h,d2⟩:=x.2 id d d1
  ⟨g.trans h,d2⟩⟩
theorem Calm.refl (e:ES) (h:aF):Calm e e h h:=⟨Zt _,λ_ _ hw=>⟨rfl,hw⟩⟩
def mb (P:Program) (call:jm):Prop:=∀ g vs e v e' h,call g vs e=some (v,e')->jM h e ->
 dS P g=true/\∃ h',bZ P g vs h v h'/\jM h' e'/\(∀ id,id < h.length->¬ id∈e'.w->h'.view id=h.view id)/\∀ id,id∈e'.w->id < h.length
def zl (P:Program) (run:Ad):Prop:=∀ (n:Nat) (fz:List Nat) (c:Code) (sc:DC),j7 P n fz c=some sc->n<=8000->∀ (e e':ES) (r:Exit) (h:aF),run sc e=some (r,e')->jM h e ->
 ∃ h',dp P n c e.T h r e'.T h'/\jM h' e'/\Calm e e' h h'/\∀ c0,c=.loop c0->rN P n c0 e.T h r e'.T h'
theorem To {h:aF} {e:ES} {d:Option Nat} {v:V} (he:jM h e):jM h (e.put d v):=by cases d <;> exact he
theorem VM {e:ES} {d:Option Nat} {v:V} : (e.put d v).w=e.w:=by cases d <;> rfl
theorem TS {h:aF} {e e':ES} {b:aF} {d:Option Nat} {v:V} (x:Calm e e' h b):Calm e (e'.put d v) h b:=⟨x.1,λid a hw=>x.2 id a (by rw[VM] at hw;exact hw)⟩
theorem EA {a:Nat} (h:Nat.ble a 8000=true):a+1 < 2 ^ 13:=by
 have:=Nat.le_of_ble_eq_true h
 omega
theorem VZ {h:aF} {e e':ES} {v v':V} {eff:bH} {rd:List Nat} {c:Rec} (he:jM h e) (a:KO v eff rd e=some (v',e',c)) :
  v'=v/\e'.T=e.T/\e'.V=eff.view h.view h.length/\e'.n=(eff.apply h).length/\c=⟨rd,eff.wr,false,h.length,(eff.apply h).length⟩/\e'.w=eff.wr ++ e.w:=by
 obtain⟨h1,b⟩:=he
 unfold KO at a
 cases eff with
 | none =>
  simp only[Zl,Zo] at a
  obtain⟨rfl,rfl,rfl⟩:=a
  exact⟨rfl,rfl,h1,b,by rw[b];rfl,rfl⟩
 | new o =>
  simp only at a
  split at a
  .rename_i d
   simp only[Zl,Zo] at a
   obtain⟨rfl,rfl,rfl⟩:=a
   refine⟨rfl,rfl,?_,by simp[iy,b],by simp[iy,b,bH.wr],rfl⟩
   funext k
   simp only[ES.V,bH.view,View.set]
   rw[cX.oV _ _ _ _ _ _ (EA d),b]
   have:=congrFun h1 k
   simp only[ES.V] at this
   rw[this]
  .simp at a
 | fK id o =>
  simp only at a
  split at a
  .rename_i d
   simp only[Zl,Zo] at a
   obtain⟨rfl,rfl,rfl⟩:=a
   refine⟨rfl,rfl,?_,by simp[iy,b],by simp[iy,b,bH.wr],rfl⟩
   funext k
   simp only[ES.V,bH.view,View.set]
   rw[cX.oV _ _ _ _ _ _ (EA d)]
   have:=congrFun h1 k
   simp only[ES.V] at this
   rw[this]
  .simp at a
 | er id o =>
  simp only at a
  split at a
  .rename_i f g
   simp only[Zl,Zo] at a
   obtain⟨rfl,rfl,rfl⟩:=a
   refine⟨rfl,rfl,?_,by simp[iy,b],by simp[iy,b,bH.wr],rfl⟩
   funext k
   simp only[ES.V,bH.view,View.set]
   rw[cX.oV _ _ _ _ _ _ (EA f),cX.oV _ _ _ _ _ _ (EA g),b]
   have:=congrFun h1 k
   simp only[ES.V] at this
   rw[this]
  .simp at a
theorem WV {o:Oper} {e e':ES} {h:aF} {s:SI} {v:V} {c:Rec} (g:dM n all e.T o=some true) (i:∀ v eff rd,sI P s e.T h.view h.length=some (v,eff,rd)->cx P o e.T h.view h.length=some (v,eff,rd))
  (he:jM h e) (b:QX P s e=some (v,e',c)):∃ d,eh P n all o e.T h v d c.rd c.wr c.call/\jM d e'/\e'.T=e.T/\Calm e e' h d/\mn (vZ P s) c.rd c.wr c.call h.length d.length/\c.lo=h.length/\c.hi=d.length:=by
 unfold QX at b
 rw[Oj,he.1,he.2] at b
 split at b
 .rename_i v0 eff rd hs
  obtain⟨rfl,g1,g2,g3,rfl,g5⟩:=VZ he b
  have f:=i _ _ _ hs
  have st:=eh.op (P:=P) (n:=n) (all:=all) g f
  refine⟨eff.apply h,st,⟨?_,g3⟩,g1,⟨vJ st,λid a hw=>?_⟩,⟨λj=>?_,λh1=>?_⟩,rfl,rfl⟩
  .rw[mR (λid a=>(oB f id a).1)];exact g2
  .rw[g5] at hw
   simp only[ZN,not_or] at hw
   exact⟨tM st a hw.1,hw.2⟩
  .obtain⟨rfl,rfl⟩:=(tY hs).1 j
   exact⟨rfl,rfl,rfl,rfl⟩
  .rcases ZI (vZ P s) 1 with k | k
   .obtain⟨rfl,rfl⟩:=(tY hs).1 (by omega);rfl
   .exact(tY hs).2 (by omega)
 .simp at b
theorem XO {call:jm} (i:mb P call) {p:Fz} {o:Oper} {e e':ES} {h:aF} {v:V} {c:Rec} (q:dM n all e.T o=some true) (he:jM h e) (a:eB P call (nV P p o) e=some (v,e',c)) :
  ∃ j,eh P n all o e.T h v j c.rd c.wr c.call/\jM j e'/\e'.T=e.T/\Calm e e' h j/\mn (jT P false (nV P p o)) c.rd c.wr c.call h.length j.length/\c.lo=h.length/\c.hi=j.length:=by
 rcases Cy P p o with ⟨f,args,A,l,b | b⟩ | ⟨t,x,l,b⟩ | ⟨s,d,x,l,r,b⟩ | b
 rotate_left
 .rw[b] at a
  simp[eB] at a
 rotate_right
 .rw[b] at a ⊢
  simp only[eB,Qx] at a
  split at a
  .rename_i g first cap z
   rw[DU] at a
   rw[SX.cZ] at z
   split at a
   .rename_i v0 E B
    obtain⟨k,j,hr,m,hd,u⟩:=i _ _ _ _ _ _ B he
    simp only[Zl,Zo] at a
    obtain⟨rfl,rfl,rfl⟩:=a
    exact⟨j,.call q l z k hr hd u,m,rfl,⟨hr.1,λid w hw=>by
     simp only[ZN,not_or] at hw
     exact⟨hd id w hw.1,hw.2⟩⟩,VF (by simp[jT]),he.2,m.2⟩
   .simp at a
  .simp at a
 .rw[b] at a ⊢
  simp only[eB,QX,Oj,sI,SX.cZ] at a
  split at a
  .rename_i v0 eff rd hs
   split at hs
   .rename_i k
    simp only[Zl,Zo] at hs
    obtain⟨rfl,rfl,rfl⟩:=hs
    simp only[KO,Zl,Zo] at a
    obtain⟨rfl,rfl,rfl⟩:=a
    exact⟨h,.kf q l k,he,rfl,Calm.refl _ _,⟨λ_=>⟨rfl,rfl,rfl,rfl⟩,λ_=>rfl⟩,he.2,he.2⟩
   .simp at hs
  .simp at a
 .rw[b] at a ⊢
  obtain⟨ty,h1,C,D⟩:=CD r
  simp only[eB,QX,Oj,sI,SX.cZ] at a
  split at a
  .rename_i v0 eff rd hs
   split at hs
   .rename_i st y
    simp only[Zl,Zo] at hs
    obtain⟨rfl,rfl,rfl⟩:=hs
    simp only[KO,Zl,Zo] at a
    obtain⟨rfl,rfl,rfl⟩:=a
    exact⟨h,.hX q l h1 C D y,he,rfl,Calm.refl _ _,⟨λ_=>⟨rfl,rfl,rfl,rfl⟩,λ_=>rfl⟩,he.2,he.2⟩
   .simp at hs
  .simp at a
 .rw[b] at a ⊢
  exact WV (s:=AJ P p.fr (comp P o)) q (λv eff rd hs=>M6 (Mp hs)) he a
theorem Xg {o:Oper} (hd:tK n o=true) (a:n<=8000):∀ t,o.dst=some t->t < 8000:=by
 intro t b
 unfold tK at hd
 rw[b] at hd
 have:t < n:=by simpa using hd
 exact ZX this a
theorem V7 {c:Rec} {a b:Nat} (h1:c.lo=a) (d:c.hi=b):c=⟨c.rd,c.wr,c.call,a,b⟩:=by cases c;subst h1;subst d;rfl
theorem IW {call:jm} (i:mb P call) (N:n<=8000) {R:Fz} (g:Option (Nat × Bool)):∀ (l:List (Option Nat × SB)) (os:List Oper) (e e':ES) (h:aF) (a u:List Rec),
  dV P n all R os=some (l.map λ(d,b)=>⟨d,g,b⟩)->(∀ d w,g=some (d,w)->e.T d=.val (.bool w)/\(l.all λx=>x.1 != some d)=true)->jM h e->L1 P call l a e=some (e',u) ->
  ∃ f z,u=a ++ f/\Tr P n all os e.T h f e'.T z/\jM z e'/\Calm e e' h z/\gU P false (l.map λ(d,b)=>⟨d,g,b⟩) f
 | [],os,e,e',h,a,u,A,B,he,k=>by
  have:=mD A;subst this
  simp only[L1,Zl,Zo] at k;obtain⟨rfl,rfl⟩:=k
  exact⟨[],h,by simp,.nil,he,Calm.refl _ _,.nil⟩
 | (d,b) :: l,os,e,e',h,a,u,A,B,he,k=>by
  obtain⟨o,r,rfl,h1,S⟩:=nD A
  obtain⟨hd,j,q,s⟩:=vK h1
  simp only at j q s
  have C:dM n all e.T o=some true:=by
   cases g with
   | none=>exact FI s
   | some p =>
    obtain⟨D,w⟩:=p
    have:=(mQ (T:=e.T) s).1 w (B D w rfl).1
    rw[this];simp
  simp only[L1] at k
  rw[q] at k
  split at k
  .rename_i v O c U
   obtain⟨E,st,F,G,H,hl,I,J⟩:=XO i C he U
   have m:(O.put d v).T=e.T.put o.dst v:=by
    rw[ES.Vl (by rw[j];exact Xg hd N),G,j]
   obtain⟨f,K,V,Q,L,y,M⟩:=IW i N g l r (O.put d v) e' E _ u S (λD w eq=>by
    have:=B D w eq
    simp only[aaG,Zw,abo,ne_eq] at this
    refine⟨?_,this.2.2⟩
    rw[<-this.1,m,<-j]
    cases d with
    | none=>rfl
    | some t=>simp only[Env.put];rw[Zk];intro e;subst e;exact this.2.1 rfl) (To F) k
   rw[m] at Q
   refine⟨_,K,?_,.cons st hd Q,L,(TS H).trans y,M.cons (by rw[q];exact hl)⟩
   rw[V,Z2,<-V7 I J];rfl
  .simp at k
theorem Kb {C:Fz} (A:n<=8000) (d:Nat) (w:Bool) (h:aF):∀ (l:List (Option Nat × SB)) (os:List Oper) (e e':ES) (a k:List Rec),
  dV P n all C os=some (l.map λ(g,b)=>⟨g,some (d,w),b⟩)->(e.T d=.val (.bool !w)∨e.T d=.bt [])->(l.all λx=>x.1 != some d)=true->jM h e->zh l a e=(e',k) ->
  ∃ c,k=a ++ c/\Tr P n all os e.T h c e'.T h/\jM h e'/\e'.w=e.w/\gU P false (l.map λ(g,b)=>⟨g,some (d,w),b⟩) c
 | [],os,e,e',a,k,q,hd,hl,he,m=>by
  have:=mD q;subst this
  simp only[zh,Zo] at m;obtain⟨rfl,rfl⟩:=m
  exact⟨[],by simp,.nil,he,rfl,.nil⟩
 | (g,b) :: l,os,e,e',a,k,q,hd,hl,he,m=>by
  obtain⟨o,r,rfl,h1,D⟩:=nD q
  obtain⟨p,f,s,j⟩:=vK h1
  simp only at f s j
  have u:dM n all e.T o=some false:=by
   rcases hd with hd | hd
   .rw[(mQ (T:=e.T) j).1 _ hd];cases w <;> rfl
   .exact(mQ (T:=e.T) j).2 hd
  simp only[aaG,Zw,abo,ne_eq] at hl
  have i:(e.put g (.bt [])).T=e.T.put o.dst (.bt []):=by
   rw[ES.Vl (by rw[f];exact Xg p A),f]
  simp only[zh] at m
  obtain⟨c,E,B,v,y,z⟩:=Kb A d w h l r (e.put g (.bt [])) e' _ k D (by
   have:(e.put g (.bt [])).T d=e.T d:=by
    rw[i,<-f]
    cases g with
    | none=>rfl
    | some t=>simp only[Env.put];rw[Zk];intro e;subst e;exact hl.1 rfl
   rw[this];exact hd) hl.2 (To he) m
  rw[i] at B
  refine⟨_,?_,Tr.cons (.skip u) p B,v,by rw[y,VM],z.cons (r:=⟨[],[],false,h.length,h.length⟩) ⟨λ_=>⟨rfl,rfl,rfl,rfl⟩,λ_=>rfl⟩⟩
  rw[E,Z2,Vt,he.2];rfl
theorem Iq {j:Fz} (k:n<=8000) {d:Nat} {w:Bool} {h:aF} {l:List (Option Nat × SB)} {os:List Oper} {e e':ES} {a f:List Rec}
  (m:dV P n all j os=some (l.map λ(g,b)=>⟨g,some (d,w),b⟩)) (hd:e.T d=.val (.bool !w)∨e.T d=.bt []) (hl:(l.all λx=>x.1 != some d)=true) (he:jM h e) (o:zh l a e=(e',f)) :
  ∃ c i,f=a ++ c/\Tr P n all os e.T h c e'.T i/\jM i e'/\Calm e e' h i/\gU P false (l.map λ(g,b)=>⟨g,some (d,w),b⟩) c:=by
 obtain⟨c,h1,p,q,r,s⟩:=Kb k d w h l os e e' a f m hd hl he o
 exact⟨c,h,h1,p,q,⟨Zt _,λid _ hw=>⟨rfl,by rw[r] at hw;exact hw⟩⟩,s⟩
theorem XV {call:jm} (i:mb P call) (m:n<=8000) {s:Fz} {g:SG} {os:List Oper} {e e':ES} {h:aF} {a o:List Rec} (k:dV P n all s os=some g.flat) (c:wu g=true) (he:jM h e) (f:eG P call g a e=some (e',o)) :
  ∃ j q,o=a ++ j/\Tr P n all os e.T h j e'.T q/\jM q e'/\Calm e e' h q/\gU P false g.flat j:=by
 unfold eG at f
 unfold SG.flat at k ⊢
 unfold wu at c
 split at f
 .rename_i r
  rw[r] at k ⊢
  exact IW i m none g.ops os e e' h a o k (λd w e=>by simp at e) he f
 .rename_i d want r
  rw[r] at k c ⊢
  simp only at c
  unfold Tg at f
  split at f
  .rename_i b p
   split at f
   .rename_i l
    simp only[Zl] at f
    have e':b = !want:=by cases b <;> cases want <;> simp_all
    subst e'
    exact Iq m k (.inl p) c he f
   .rename_i l
    have e':b=want:=by cases b <;> cases want <;> simp_all
    subst e'
    exact IW i m (some (d,b)) g.ops os e _ h a o k (λt w e=>by simp at e;obtain⟨rfl,rfl⟩:=e;exact⟨p,c⟩) he f
  .rename_i p
   simp only[Zl] at f
   exact Iq m k (.inr p) c he f
  .simp at f
theorem P3 {call:jm} (b:mb P call) (z:n<=8000) {A:Fz} : ∀ (gs:List SG) (os:List Oper) (e e':ES) (h:aF) (a i:List Rec),dV P n all A os=some (lR gs)->gs.all wu=true->jM h e->Q5 P call gs a e=some (e',i) ->
  ∃ c k,i=a ++ c/\Tr P n all os e.T h c e'.T k/\jM k e'/\Calm e e' h k/\gU P false (lR gs) c
 | [],os,e,e',h,a,i,j,_,he,d=>by
  have:=mD j;subst this
  simp only[Q5,Zl,Zo] at d;obtain⟨rfl,rfl⟩:=d
  exact⟨[],h,by simp,.nil,he,Calm.refl _ _,.nil⟩
 | g :: gs,os,e,e',h,a,i,j,f,he,d=>by
  simp only[lR,ZJ,List.flatten_cons] at j ⊢
  simp only[aaG,Zw] at f
  obtain⟨F,B,rfl,h1,C⟩:=td j
  simp only[Q5] at d
  split at d
  .rename_i D E l
   obtain⟨G,m,o,p,q,r,s⟩:=XV b z h1 f.1 he l
   obtain⟨H,t,u,v,w,x,y⟩:=P3 b z gs B D e' m E i C f.2 q d
   exact⟨_,t,by rw[u,o,Z2],p.append v,w,r.trans x,s.append y⟩
  .simp at d
theorem SD {ls:List Nat} {i k x y:Nat} (a:i < k) (b:ls[i]?=some x) (c:ls[k]?=some y) (d:ordered (gD all []) i k=false) (h:¬ (x=0∨y=0∨(x<=1/\y<=1))):(i,k)∈Ew all ls:=by
 unfold Ew
 simp only[List.mem_flatten,ZF]
 refine⟨_,⟨(x,i),by rw[aax];exact b,rfl⟩,?_⟩
 simp only[ZF,aag]
 refine⟨(y,k),⟨by rw[aax];exact c,?_⟩,rfl⟩
 simp only[a,decide_true,d,abu,aaH,abv,Bool.or_eq_false_iff,beq_eq_false_iff_ne,Bool.and_eq_false_iff,aaI]
 omega
theorem Tx {ls:List Nat} {d:List Rec} (h:SE d (Ew all ls)=true) (hl:ls.length=d.length) (hr:∀ (i x:Nat) (r:Rec),ls[i]?=some x->d[i]?=some r->mn x r.rd r.wr r.call r.lo r.hi):xb all d:=by
 intro i k a b l m n t
 have hi:i < d.length:=(Zy.1 m).1
 have hk:k < d.length:=(Zy.1 n).1
 have j:ls[i]?=some (ls[i]'(by omega)):=Zj (by omega)
 have o:ls[k]?=some (ls[k]'(by omega)):=Zj (by omega)
 generalize ls[i]'(by omega)=x at j
 generalize ls[k]'(by omega)=y at o
 have q:=hr i _ a j m
 have s:=hr k _ b o n
 by_cases f:x=0∨y=0∨(x<=1/\y<=1)
 .rcases f with h1 | h1 | h1
  .obtain⟨g,e,p,u⟩:=q.1 h1
   exact⟨λid c=>by simp[e] at c,λid _=>by simp[g],λf=>by simp[p] at f,λ_=>e,λid _ j=>by omega⟩
  .obtain⟨g,e,p,u⟩:=s.1 h1
   exact⟨λid _=>by simp[g],λid c=>by simp[e] at c,λ_=>e,λf=>by simp[p] at f,λid c=>by simp[e] at c⟩
  .have g:=q.2 h1.1
   have e:=s.2 h1.2
   exact⟨λid c=>by simp[g] at c,λid c=>by simp[e] at c,λ_=>e,λ_=>g,λid c=>by simp[e] at c⟩
 .have:=ZZ.1 h _ (SD l j o t f)
  simp only[m,n] at this
  exact SY this
theorem Wj (hm:P.follows .mixedOrders=true) {call:jm} (g:mb P call) (C:n<=8000) {w:List Nat} {id:Nat} {ops:Array Oper} {draw:Bool} {y:DC} {run:Ad} {e e':ES} {r:Exit} {h:aF}
  (c:Jj P n w ops.toList draw=some y) (he:jM h e) (a:nX P call run y e=some (r,e')) :
  ∃ f,dp P n (.region id ops draw) e.T h r e'.T f/\jM f e'/\Calm e e' h f:=by
 unfold Jj at c
 split at c
 .simp at c
 .rename_i l hl
  split at c
  .simp at c
  .rename_i j
   have j:(group l).all wu=true:=by simpa using j
   have o:dV P n ops.toList ⟨w,false⟩ ops.toList=some (lR (group l)):=by rw[iv];exact hl
   have key:∀ p,nX P call run (.region p (group l)) e=some (r,e')->(draw=true->nG ops.toList=true/\p=Ew ops.toList (l.map λs=>jT P false s.b)) ->
     ∃ f,dp P n (.region id ops draw) e.T h r e'.T f/\jM f e'/\Calm e e' h f:=by
    intro p a q
    simp only[nX,NS] at a
    split at a
    .rename_i D d t
     split at a
     .rename_i m
      simp only[Zl,Zo] at a
      obtain⟨rfl,rfl⟩:=a
      obtain⟨z,f,A,B,hk,u,k⟩:=P3 g C (group l) ops.toList e D h [] d o j he t
      simp only[aar] at A
      subst A
      rw[iv] at k
      refine⟨f,?_,hk,u⟩
      cases hd:draw with
      | false=>simpa using Jd (id:=id) B
      | true =>
       obtain⟨h1,rfl⟩:=q hd
       have v:xb ops.toList d:=Tx m (by simpa using k.1) (λi x r a hr=>by
        simp only[Zm,Zu] at a
        obtain⟨s,hs,rfl⟩:=a
        exact k.2 i s r hs hr)
       simpa using BJ hm (id:=id) B h1 v
     .simp at a
    .simp at a
   split at c
   .rename_i hd
    split at c
    .rename_i E
     simp at c;subst c
     exact key _ a (λ_=>⟨E,rfl⟩)
    .simp at c
   .rename_i hd
    simp at c;subst c
    exact key _ a (λe=>absurd e hd)
theorem Vh (hm:P.follows .mixedOrders=true) {call:jm} (q:mb P call) {run:Ad} (f:zl P run):zl P (nX P call run):=by
 intro n p c I k o e e' r h g he
 cases c with
 | skip =>
  simp[j7] at k;subst k
  simp only[nX,Rl,Zl,Zo] at g
  obtain⟨rfl,rfl⟩:=g
  exact⟨h,.skip,he,Calm.refl _ _,λ_ h=>by simp at h⟩
 | region id ops draw =>
  obtain⟨G,a,b,d⟩:=Wj (id:=id) hm q o k he g
  exact⟨G,a,b,d,λ_ h=>by simp at h⟩
 | seq x y =>
  simp only[j7] at k
  split at k
  .rename_i a b h1 B
   simp at k;subst k
   simp only[nX,WK] at g
   split at g
   .rename_i s m
    obtain⟨i,l,j,c1,w⟩:=f n p x a h1 o e s .normal h m he
    obtain⟨t,E,u,c2,F⟩:=f n p y b B o s e' r i g j
    exact⟨t,l.seq E,u,c1.trans c2,λ_ h=>by simp at h⟩
   .rename_i v
    obtain⟨i,l,j,c1,w⟩:=f n p x a h1 o e e' r h g he
    refine⟨i,l.Mq (λe=>?_),j,c1,λ_ h=>by simp at h⟩
    subst e
    exact absurd g (v e')
  .simp at k
 | cond J x y =>
  simp only[j7] at k
  split at k
  .rename_i a b h1 B
   simp at k;subst k
   simp only[nX,VD,SX.cZ] at g
   split at g
   .rename_i C
    obtain⟨i,l,j,c1,w⟩:=f n p x a h1 o e e' r h g he
    exact⟨i,.cond C l,j,c1,λ_ h=>by simp at h⟩
   .rename_i C
    obtain⟨i,l,j,c1,w⟩:=f n p y b B o e e' r h g he
    exact⟨i,.cond C l,j,c1,λ_ h=>by simp at h⟩
   .simp at g
  .simp at k
 | block id c =>
  simp only[j7,Zu] at k
  obtain⟨a,h1,rfl⟩:=k
  simp only[nX,QV] at g
  split at g
  .rename_i H s m
   simp only[Zl,Zo] at g
   obtain⟨rfl,rfl⟩:=g
   obtain⟨i,l,j,c1,w⟩:=f n p c a h1 o e s H h m he
   exact⟨i,l.block,j,c1,λ_ h=>by simp at h⟩
  .simp at g
 | loop c =>
  have D:=k
  simp only[j7,Zu] at k
  obtain⟨a,h1,rfl⟩:=k
  simp only[nX,VK] at g
  split at g
  .rename_i s m
   obtain⟨i,l,j,c1,w⟩:=f n p c a h1 o e s .normal h m he
   obtain⟨t,E,u,c2,F⟩:=f n p (.loop c) (.loop a) D o s e' r i g j
   have z:=rN.step l (F c rfl)
   exact⟨t,.loop z,u,c1.trans c2,λc0 A=>by simp only[Code.loop.injEq] at A;subst A;exact z⟩
  .rename_i v
   obtain⟨i,l,j,c1,w⟩:=f n p c a h1 o e e' r h g he
   have z:=rN.out l (λe=>by subst e;exact absurd g (v e'))
   exact⟨i,.loop z,j,c1,λc0 A=>by simp only[Code.loop.injEq] at A;subst A;exact z⟩
 | exit id =>
  simp[j7] at k;subst k
  simp only[nX,Zl,Zo] at g
  obtain⟨rfl,rfl⟩:=g
  exact⟨h,.exit,he,Calm.refl _ _,λ_ h=>by simp at h⟩
 | ret =>
  simp[j7] at k;subst k
  simp only[nX,Zl,Zo] at g
  obtain⟨rfl,rfl⟩:=g
  exact⟨h,.ret,he,Calm.refl _ _,λ_ h=>by simp at h⟩
 | _=>simp[j7] at k
theorem HQ:∀ (vs:List V) (i:Nat) (t:cX V),i+vs.length<=8000->∀ k,(oJ vs i t).get .any k=if i<=k/\k < i+vs.length then vs.getD (k - i) .any else t.get .any k
 | [],i,t,h,k=>by
  rw[oJ,Zk (by simp only[ZW];omega)]
 | v :: vs,i,t,h,k=>by
  simp only[ZB] at h
  rw[oJ,HQ vs (i+1) _ (by omega),cX.oV _ _ _ _ _ _ (by simp only[deep];omega)]
  simp only[ZB]
  by_cases h1:k=i
  .subst h1;rw[Zk (by omega),Zn rfl,Zn (by omega)];simp
  .by_cases a:i+1<=k/\k < i+1+vs.length
   .rw[Zn a,Zn (by omega)]
    have:k - i=(k - (i+1))+1:=by omega
    rw[this];rfl
   .rw[Zk a,Zk h1,Zk (by omega)]
theorem LB (vs:List V) (h:vs.length<=8000):(oJ vs 0 .nil).get .any=mE vs:=by
 funext k
 rw[HQ vs 0 .nil (by omega)]
 simp only[mE,aaY,true_and,aaw,Nat.sub_zero]
 split
 .rfl
 .rename_i hk
  rw[Zi,ZT (by omega)];rfl
theorem WH {e:ES} {h:aF} {r:ResultVar} {rest:List ResultVar} {l:List SR} (he:jM h e) (c:gE P (r :: rest)=some l):∃ s l',l=s :: l'/\gE P rest=some l'/\∀ v,UB s e=some v->uK P e.T h r=some v:=by
 cases r with
 | tmp t =>
  simp only[gE,Zu] at c
  obtain⟨l',h1,rfl⟩:=c
  exact⟨.tmp t,l',rfl,h1,λv b=>b⟩
 | cell a t =>
  simp only[gE] at c
  split at c
  .rename_i k l' h1 g
   simp at c;subst c
   refine⟨.cell a k,l',rfl,g,λv b=>?_⟩
   simp only[UB] at b
   simp only[uK,od,yA h1]
   rw[he.1] at b
   split at b
   .rename_i id i j d
    split at b
    .rename_i es hH
     split at b
     .rename_i f
      rw[d];simp only[hH];rw[Zn f,b];rfl
     .simp at b
    .simp at b
   .rename_i e j d
    rw[d];simp only;rw[b];rfl
   .simp at b
  .simp at c
theorem Li {e:ES} {h:aF} (he:jM h e):∀ (rs:List ResultVar) (l:List SR) (vs:List V),gE P rs=some l->y0 l e=some vs->nC P e.T h rs=some vs
 | [],l,vs,a,hw=>by simp[gE] at a;subst a;simp[y0] at hw;subst hw;rfl
 | r :: rest,l,vs,a,hw=>by
  obtain⟨s,l',rfl,h1,d⟩:=WH (e:=e) (h:=h) he a
  simp only[y0] at hw
  split at hw
  .rename_i v b f c
   simp at hw;subst hw
   simp[nC,d v f,Li he rest l' b h1 c]
  .simp at hw
def tN (P:Program) (tab:List (FuncId × DF)):Prop:=∀ p∈tab,∃ fz,Kx P p.1 fz=some p.2
def uZ (P:Program) (ext:Bv):Prop:=∀ g vs H t,ext g vs H=some t->dS P g=true/\∀ h:aF,h.view=H->bZ P g vs h t h
theorem La {q:List (FuncId × DF)} {ext:Bv} (N:tN P q) (z:uZ P ext) {run:Ad} (s:zl P run):mb P (IT P q ext run):=by
 intro g vs e v e' h b he
 unfold IT at b
 split at b
 .rename_i t u
  simp only[Zl,Zo] at b
  obtain⟨rfl,rfl⟩:=b
  obtain⟨h1,C⟩:=z _ _ _ _ u
  exact⟨h1,h,C h he.1.symm,he,λ_ _ _=>rfl,λ_ hw=>by simp at hw⟩
 .split at b
  .rename_i A F K
   have x:=List.mem_of_find?_eq_some K
   have D:A=g:=by
    have:=List.find?_some K
    exact abh this
   subst D
   obtain⟨O,k⟩:=N _ x
   simp only at k
   unfold Kx at k
   split at k
   .rename_i fn E
    split at k
    .rename_i c Q
     split at k
     .rename_i M rs h1 C R
      simp at k;subst k
      refine⟨R,?_⟩
      unfold Xs at b
      split at b
      .rename_i hlen B
       have hlen:=Nat.le_of_ble_eq_true hlen
       have B:=Nat.le_of_ble_eq_true B
       simp only at hlen B
       unfold Xj at b
       split at b
       .rename_i v1 d f
        simp only[Zl,Zo] at b
        obtain⟨rfl,rfl⟩:=b
        unfold Xk at f
        have go:∀ (r:Exit) (p:ES),(r=.ret∨r=.normal)->run M ⟨oJ vs 0 .nil,e.H,e.n,[]⟩=some (r,p)->(y0 rs p).map (λvs=>(zG vs,p))=some (v1,d) ->
          ∃ i,bZ P A vs h v1 i/\jM i d/\(∀ id,id < h.length->¬ id∈d.w->i.view id=h.view id):=by
         intro r p hr j o
         simp only[Zu,Zo] at o
         obtain⟨G,I,rfl,rfl⟩:=o
         obtain⟨i,z,y,J,_⟩:=s fn.ntmps O c M h1 B _ p r h j he
         have S:(ES.T ⟨oJ vs 0 .nil,e.H,e.n,[]⟩)=mE vs:=LB vs (by omega)
         rw[S] at z
         refine⟨i,bZ.Mg E Q hlen z (by rcases hr with rfl | rfl <;> simp) ?_,y,λid m hw=>(J.2 id m hw).1⟩
         unfold Pd
         rw[Li y _ _ _ C I]
         cases G with
         | nil=>rfl
         | cons a l=>cases l <;> rfl
        have done:(∃ i,bZ P A vs h v1 i/\jM i d/\(∀ id,id < h.length->¬ id∈d.w->i.view id=h.view id)) ->
          ∃ i,bZ P A vs h v1 i/\jM i ⟨d.L,d.H,d.n,d.w.filter λid=>Nat.blt id e.n⟩/\(∀ id,id < h.length->¬ id∈d.w.filter (λid=>Nat.blt id e.n)->i.view id=h.view id)/\∀ id,id∈d.w.filter (λid=>Nat.blt id e.n)->id < h.length:=by
         rintro⟨i,U,k2,V⟩
         refine⟨i,U,k2,λid m hw=>V id m (λhm=>hw ?_),λid hw=>?_⟩
         .rw[aag]
          exact⟨hm,by rw[he.2];exact Nat.ble_eq_true_of_le m⟩
         .rw[aag] at hw
          have:=Nat.le_of_ble_eq_true hw.2
          rw[he.2] at this;exact this
        split at f
        .rename_i p j;exact done (go _ _ (.inl rfl) j f)
        .rename_i p j;exact done (go _ _ (.inr rfl) j f)
        .simp at f
       .simp at b
      .simp at b
     .simp at k
    .simp at k
   .simp at k
  .simp at b
theorem MO (hm:P.follows .mixedOrders=true) {a:List (FuncId × DF)} {ext:Bv} (b:tN P a) (d:uZ P ext):∀ k,zl P (KE P a ext k)
 | 0=>λn g c i j l e e' r h hr he=>by simp[KE] at hr
 | k+1=>by
  have f:=MO hm b d k
  have:=Vh hm (La b d f) f
  exact this
end
inductive dg (h:aF):V->V->Prop
 | val (v:Value):dg h (.val v) (.val v)
 | emp (k:Nat):dg h (.emp k) (.aD [])
 | sl (id off len esz z:Nat) (es es':List (List V)):h.view id=.arr z es->off+len<=es.length->es'.length=len ->
  (∀ i,i < len->(es'.getD i []).length=(es.getD (off+i) []).length) ->
  (∀ i j,i < len->j < (es'.getD i []).length->dg h ((es.getD (off+i) []).getD j .any) ((es'.getD i []).getD j .any))->dg h (.sl id off len esz) (.aD es')
 | agg (cs cs':List V):cs'.length=cs.length->(∀ i,i < cs.length->dg h (cs.getD i .any) (cs'.getD i .any))->dg h (.agg cs) (.agg cs')
 | bt (cs cs':List V):cs'.length=cs.length->(∀ i,i < cs.length->dg h (cs.getD i .any) (cs'.getD i .any))->dg h (.bt cs) (.bt cs')
theorem V4 {h:aF} {Z:Nat->Prop} {μ B:Mu} {F:View} {hp:Array Obj} (hr:iU Z μ hp (cat h F)) {v t:V} (fr:dg h v t):∀ {x:Value},aC Z μ hp v x->aC (j6 μ) B hp t x:=by
 have l:∀ id,h.view id≠.dead->cat h F id=h.view id:=λid hd=>by simp only[cat];rw[Zn (jj hd)]
 induction fr with
 | val v=>intro x d;cases d with | val _ s=>exact .val _ s
 | emp k=>intro x d;cases d with | emp _ a=>exact .js a 0 (λ_=>rfl)
 | sl id off len esz z es es' hH hle hlen hl _ m =>
  intro x d
  cases d with
  | qX _ _ _ a =>
   have:es'=[]:=aaJ.1 hlen
   subst this
   exact .js a 0 (λ_=>rfl)
  | sl _ _ _ _ b o0 cap c e f hm C H hs =>
   have o:=hr.obj id
   rw[l id (by rw[hH];simp),hH] at o
   obtain⟨rfl,_,D,E⟩:=o b o0 esz hm
   have d:∀ i,∃ ci:Nat->Value,∀ j,j < esz->i < len->cellAt hp b (o0+off * esz+i * esz+j)=some (ci j)/\aC Z μ hp ((es.getD (off+i) []).getD j .any) (ci j):=by
    intro i
    by_cases hi:i < len
    .obtain⟨ci,u⟩:=qu (n:=esz) (p:=λj x=>cellAt hp b (o0+off * esz+i * esz+j)=some x/\aC Z μ hp ((es.getD (off+i) []).getD j .any) x) (λj g=>by
      obtain⟨x,d,s⟩:=E (off+i) j (by omega) g
      rw[aaf,<-abc] at d
      exact⟨x,d,s⟩)
     exact⟨ci,λj g _=>u j g⟩
    .exact⟨λ_=>undef,λj _ h=>absurd h hi⟩
   obtain⟨G,q⟩:=Classical.axiomOfChoice d
   have r:∀ i,i < es'.length->(es'.getD i []).length=esz:=λi hi=>by rw[hl i (by omega)];exact D _ (by omega)
   have:=aC.aD (Z:=j6 μ) (μ:=B) (hp:=hp) es' b (o0+off * esz) esz cap G ⟨id,o0,esz,hm⟩ (by omega) r
    (λi j hi g=>(q i j g (by omega)).1) (λi j hi g=>m i j (by omega) (by rw[r i hi];exact g) (q i j g (by omega)).2)
   rw[hlen] at this
   exact this
 | agg cs w hlen _ m =>
  intro x d
  cases d with
  | agg _ y h1 A=>exact .agg _ _ (by omega) (λi hi=>m i (by omega) (A i (by omega)))
 | bt cs w hlen _ m =>
  intro x d
  cases d with
  | bt _ y h1 A=>exact .bt _ _ (by omega) (λi hi=>m i (by omega) (A i (by omega)))
def cE (P:Program) (f:FuncId) (vs:List V) (t:V):Prop :=
 ∀ Z μ (w:World) (xs:List Value),gS Z μ w.heap vs xs->(∀ b,Z b->b < w.heap.size) ->
  Calls P f xs.toArray w λe w'=>∃ x Z',e=.returned x/\(∀ ν,aC Z' ν w'.heap t x)/\fk w w'/\(∀ b,Z' b->w.heap.size<=b/\b < w'.heap.size)/\gX w.heap w'.heap (λ_=>False)
theorem cE.pure {P:Program} {f:FuncId} {vs:List V} {t:V} (h:cE P f vs t):az P f vs t:=by
 intro Z μ w xs a d
 refine(h Z μ w xs a d).mono ?_
 rintro e w' ⟨x,g,rfl,i,hs,c,j⟩
 exact⟨x,λb=>Z b∨g b,rfl,λk=>(i k).mono ⟨λ_ h=>.inr h,λ_ _=>rfl,λ_ _ h=>h,gB.refl _⟩,hs,λ_ h=>.inl h,λb l=>l.imp id (c b),j⟩
theorem cE.yS {P:Program} {f:FuncId} {vs:List V} {r t:V} {k:aF} (m:∀ v∈vs,Tree v) (n:bZ P f vs [] r k) (p:dg k r t):cE P f vs t:=by
 intro Z μ w xs a q
 have c:gS Z (λ_=>none) w.heap vs xs:=⟨a.1,λi hi=>zL (a.2 i hi) (by
  simp only[Zi,Zj hi,ZC]
  exact m _ (Zs _))⟩
 have g:iU Z (λ_=>none) w.heap (cat [] λ_=>.dead):=by
  rw[FY]
  exact⟨λ_=>trivial,λi j b o s y z _ h=>by simp at h,λid b o s h=>by simp at h,q,λid b o s h=>by simp at h⟩
 refine(n.2 Z _ _ w xs c g (λ_ _ _=>rfl)).mono ?_
 rintro e w' ⟨x,A,μ',rfl,u,l,hex,_⟩
 refine⟨x,j6 μ',rfl,λB=>V4 l p u,hex.same,?_,λb d _=>hex.frame b d (by rintro⟨_,_,_,h⟩;simp at h)⟩
 rintro b ⟨id,o,s,d⟩
 rcases hex.EM _ _ _ _ d with h1 | ⟨_,h1 | ⟨_,_,_,h1⟩⟩
 .simp at h1
 .exact⟨h1,l.lt _ _ _ _ d⟩
 .simp at h1
theorem cE.of {P:Program} {f:FuncId} {vs:List V} {t:V} (b:∀ v∈vs,Tree v) (h:au P f vs (λ_=>.dead) λr H'=>∀ a:aF,a.view=H'->dg a r t):cE P f vs t:=by
 obtain⟨r,a,c,_,d⟩:=h.2 [] GQ
 exact cE.yS b c (d a rfl)
theorem bZ.xY {P:Program} {f:FuncId} {j vs:List V} {t:V} {h:aF} (u:cE P f j t) (hl:j.length=vs.length)
  (l:∀ i,i < vs.length->Fr h (vs.getD i .any) (j.getD i .any)):bZ P f vs h t h:=by
 refine⟨Zt _,λZ μ F w xs c hr m=>?_⟩
 have n:gS (λb=>Z b∨j6 μ b) μ w.heap j xs:=⟨by rw[hl,c.1],λi hi=>E2 hr (l i (by omega)) (c.2 i (by omega))⟩
 have p:∀ b,(Z b∨j6 μ b)->b < w.heap.size:=by
  rintro b (a | ⟨id,o,s,a⟩)
  .exact hr.c4 b a
  .exact hr.lt _ _ _ _ a
 refine(u _ μ w xs n p).mono ?_
 rintro e w' ⟨x,r,rfl,v,hs,d,k⟩
 have hm:iO Z (λb=>Z b∨r b) μ μ w.heap w'.heap:=⟨λ_ h=>.inl h,λb a=>k b (hr.c4 b a) (λx=>x),λ_ _ h=>h,k.sJ⟩
 refine⟨x,λb=>Z b∨r b,μ,rfl,(v μ).mono ⟨λ_ h=>.inr h,λ_ _=>rfl,λ_ _ h=>h,gB.refl _⟩,⟨λid=>(hr.obj id).mono hm rfl (λb o s g=>k b (hr.lt _ _ _ _ g) (λx=>x)),hr.inj,λid b o s g=>ZX (hr.lt _ _ _ _ g) hs.size,λb a=>?_,λid b o s g q=>?_⟩,
  ⟨hs,hm,λb a _=>k b a (λx=>x),λb a=>a.imp id (λh=>(d b h).1),λ_ _ _ _ h=>.inl h⟩,λ_ _=>rfl⟩
 .rcases a with a | a
  .exact ZX (hr.c4 b a) hs.size
  .exact(d b a).2
 .rcases q with a | a
  .exact hr.iJ _ _ _ _ g a
  .have:=hr.lt _ _ _ _ g;have:=(d b a).1;omega
theorem ax.xY {P:Program} {q:Bool} {f:FuncId} {H:View} {vs c:List V} {K:V->View->Prop} {v:cO (H,K)} {t:V} (d:cE P f c t) (a:dS P f=true) (hl:c.length=vs.length)
  (b:∀ i,i < vs.length->ep H (vs.getD i .any) (c.getD i .any)) (hk:K t H):ax P q f vs H K v:=by
 unfold ax
 cases q with
 | true=>exact⟨a,λh e=>⟨t,h,bZ.xY d hl (λi hi=>b i hi h e),λ_ _=>rfl,e ▸ hk⟩⟩
 | false =>
  refine⟨a,?_⟩
  rintro h rfl
  exact⟨t,h,bZ.xY d hl (λi hi=>b i hi h rfl),.refl _,hk⟩
noncomputable def pX (fz:V->Option V):List V->Option (List V)
 | []=>some []
 | v :: l=>match fz v,pX fz l with
  | some a,some b=>some (a :: b)
  | _,_=>none
noncomputable def Gr (fz:V->Option V):List (List V)->Option (List (List V))
 | []=>some []
 | v :: l=>match pX fz v,Gr fz l with
  | some a,some b=>some (a :: b)
  | _,_=>none
noncomputable def BQ (H:View):Nat->V->Option V
 | 0,_=>none
 | k+1,v=>match v with
  | .val x=>some (.val x)
  | .emp _=>some (.aD [])
  | .sl id off len _=>match H id with
   | .arr _ es=>if off+len<=es.length then (Gr (BQ H k) ((es.drop off).take len)).map .aD else none
   | _=>none
  | .agg cs=>(pX (BQ H k) cs).map .agg
  | .bt cs=>(pX (BQ H k) cs).map .bt
  | _=>none
theorem ji {c:V->Option V} : ∀ (l l':List V),pX c l=some l'->l'.length=l.length/\∀ i,i < l.length->c (l.getD i .any)=some (l'.getD i .any)
 | [],l',h=>by simp only[pX,Zl] at h;subst h;exact⟨rfl,λi hi=>by simp at hi⟩
 | v :: l,l',h=>by
  simp only[pX] at h
  split at h
  .rename_i a b h1 d
   simp only[Zl] at h;subst h
   obtain⟨g1,g2⟩:=ji l b d
   refine⟨by simp[g1],λi hi=>?_⟩
   cases i with
   | zero=>exact h1
   | succ i=>exact g2 i (by simpa using hi)
  .simp at h
theorem Gf {c:V->Option V} : ∀ (l l':List (List V)),Gr c l=some l'->l'.length=l.length/\∀ i,i < l.length->pX c (l.getD i [])=some (l'.getD i [])
 | [],l',h=>by simp only[Gr,Zl] at h;subst h;exact⟨rfl,λi hi=>by simp at hi⟩
 | v :: l,l',h=>by
  simp only[Gr] at h
  split at h
  .rename_i a b h1 d
   simp only[Zl] at h;subst h
   obtain⟨g1,g2⟩:=Gf l b d
   refine⟨by simp[g1],λi hi=>?_⟩
   cases i with
   | zero=>exact h1
   | succ i=>exact g2 i (by simpa using hi)
  .simp at h
theorem NK (h:aF):∀ (k:Nat) (v t:V),BQ h.view k v=some t->dg h v t
 | 0,v,t,a=>by simp[BQ] at a
 | k+1,v,t,a=>by
  have b:=NK h k
  simp only[BQ] at a
  split at a
  .simp only[Zl] at a;subst a;exact .val _
  .simp only[Zl] at a;subst a;exact .emp _
  .rename_i id off len esz
   split at a
   .rename_i z es hH
    split at a
    .rename_i hle
     simp only[Zu] at a
     obtain⟨es',he,rfl⟩:=a
     obtain⟨g1,g2⟩:=Gf _ _ he
     have hlen:es'.length=len:=by rw[g1];simp;omega
     have c:∀ i,i < len->((es.drop off).take len).getD i []=es.getD (off+i) []:=λi hi=>by
      simp[Zi,aaZ,hi]
     have g3:∀ i,i < len->pX (BQ h.view k) (es.getD (off+i) [])=some (es'.getD i []):=λi hi=>by
      rw[<-c i hi];exact g2 i (by rw[<-g1,hlen];exact hi)
     exact .sl id off len esz z es es' hH hle hlen (λi hi=>(ji _ _ (g3 i hi)).1) (λi j hi d=>b _ _ ((ji _ _ (g3 i hi)).2 j (by rw[<-(ji _ _ (g3 i hi)).1];exact d)))
    .simp at a
   .simp at a
  .simp only[Zu] at a
   obtain⟨l,hl,rfl⟩:=a
   obtain⟨g1,g2⟩:=ji _ _ hl
   exact .agg _ _ g1 (λi hi=>b _ _ (g2 i hi))
  .simp only[Zu] at a
   obtain⟨l,hl,rfl⟩:=a
   obtain⟨g1,g2⟩:=ji _ _ hl
   exact .bt _ _ g1 (λi hi=>b _ _ (g2 i hi))
  .simp at a
noncomputable def VI:Option (V × ES)->Option V
 | some (v,e)=>BQ e.V 50 v
 | none=>none
noncomputable def x7 (P:Program) (tab:List (FuncId × DF)) (ext:Bv) (f:FuncId) (vs:List V):Option V :=
 VI (IT P tab ext (KE P tab ext 100000) f vs ⟨.nil,.nil,0,[]⟩)
theorem tV {P:Program} (hm:P.follows .mixedOrders=true) {a:List (FuncId × DF)} {ext:Bv} (c:tN P a) (d:uZ P ext) {f:FuncId} {vs:List V} {t:V} (b:∀ v∈vs,Tree v) (h:x7 P a ext f vs=some t) :
  cE P f vs t:=by
 unfold x7 VI at h
 split at h
 .rename_i v e hr
  obtain⟨h1,g,i,j,_⟩:=La c d (MO hm c d 100000) f vs _ v e [] hr ⟨by funext k;rfl,rfl⟩
  rw[j.1] at h
  exact cE.yS b i (NK g 50 v t h)
 .simp at h
def Cm (P:Program) (fs:List (FuncId × List Nat)):List (FuncId × DF):=fs.filterMap λf=>(Kx P f.1 f.2).map (f.1,·)
theorem zf (P:Program) (a:List (FuncId × List Nat)):tN P (Cm P a):=by
 intro p hp
 unfold Cm at hp
 obtain⟨f,_,h⟩:=aaD.1 hp
 simp only[Zu] at h
 obtain⟨d,h1,rfl⟩:=h
 exact⟨f.2,h1⟩
structure aj.dP (g:aj):Prop where
 af:g.af.length<=24
 pM:1<=g.ak.length
 ak:g.ak.length<=16
 Y6:1<=g.rules.length
 rules:g.rules.length<=40
 nM:0<=g.start
 start:g.start < g.ak.length
 left:∀ r∈g.rules,0<=r.left/\r.left < g.ak.length
 right:∀ r∈g.rules,r.right.length<=6
 sym:∀ r∈g.rules,∀ s∈r.right,fT g s=true
 prec:∀ r∈g.rules,-1<=r.prec/\r.prec < g.af.length
theorem B6 {g:aj} : ∀ (l:List bu) (top:Int),iS g l top=true->top<=(g.ak.length:Int) - 1/\∀ r∈l,0<=r.left/\r.left < g.ak.length/\ju g r=true
 | [],top,h=>by simp[iS] at h;exact⟨by omega,λr hr=>by simp at hr⟩
 | r :: l,top,h=>by
  simp only[iS,Zw,ZA] at h
  obtain⟨⟨⟨h1,d⟩,a⟩,b⟩:=h
  obtain⟨e,k2⟩:=B6 l _ b
  have f:r.left<=(if r.left > top then r.left else top):=by split <;> omega
  have i:top<=(if r.left > top then r.left else top):=by split <;> omega
  refine⟨by omega,λc hr=>?_⟩
  rcases Zz.1 hr with rfl | hr
  .exact⟨h1,by omega,a⟩
  .exact k2 c hr
theorem bD {g:aj} (h:bI g=true):g.dP:=by
 simp only[bI,lf,lU,Zw,ZA] at h
 obtain⟨⟨⟨⟨⟨⟨⟨h1,_⟩,⟨b,c⟩,_⟩,d⟩,e⟩,f⟩,i⟩,j⟩:=h
 have k:=(B6 _ _ j).2
 have a:∀ r∈g.rules,r.right.length<=6/\-1<=r.prec/\r.prec < g.af.length/\∀ s∈r.right,fT g s=true:=λr hr=>by
  have:=(k r hr).2.2
  simp only[ju,Zw,ZA,ZZ,oz] at this
  exact⟨this.1.1.1,this.1.1.2,this.1.2,λs hs=>(this.2 s hs).1⟩
 exact⟨h1,b,c,d,e,f,i,λr hr=>⟨(k r hr).1,(k r hr).2.1⟩,λr hr=>(a r hr).1,λr hr=>(a r hr).2.2.2,λr hr=>⟨(a r hr).2.1,(a r hr).2.2.1⟩⟩
theorem aj.dP.neg {g:aj} (h:g.dP) {r:bu} (hr:r∈g.rules) {s:Int} (hs:s∈r.right) (a:s < 0) : -1 - s < g.ak.length:=by
 have:=h.sym r hr s hs
 simp only[fT] at this
 rw[Zk (by omega)] at this
 simpa using this
theorem K9 (l:List Int) (is:List Bool) (t:Bool) (hl:aJ l) (hs:∀ s∈l,cp s/\(s < 0->-1 - s < is.length)):az Tryz.prog 117 [encI l,bP is,gb t] (gb (c7 l is t)) :=
 az.val (by
  intro v a;simp at a
  rcases a with rfl | rfl | rfl
  .exact ew _
  .exact iA _
  .exact .val _) (λH=>(W4 l is t hl hs H).mono λr H' h=>h.1)
abbrev dH (is:List Bool):List (List V):=is.map λx=>[gb x]
theorem BL {h:aF} {id:Nat} {is:List Bool} (b:h.view id=.arr 1 (dH is)):dg h (.sl id 0 is.length 1) (bP is):=by
 refine .sl id 0 is.length 1 1 (dH is) _ b (by simp) (by simp) (λi hi=>by simp) (λi j hi a=>?_)
 rw[aaw]
 have e:(dH is).getD i []=[gb is[i]]:=by simp[Zi,hi]
 rw[e] at a ⊢
 have:j=0:=by simp at a;omega
 subst this
 exact .val _
theorem DS {H:View} {id n:Nat} {is:List Bool} (b:H id=.arr 1 (dH is)) (c:n=is.length):ep H (.sl id 0 n 1) (bP is):=by
 have d:∀ e∈dH is,∀ v∈e,Tree v:=by
  intro e he v b
  obtain⟨a,_,rfl⟩:=ZF.1 he
  rw[aaj] at b
  subst b
  exact .val _
 have:=ep.sl (off:=0) (len:=n) (esz:=1) b (by simp[c]) d
 rwa [aaE,Zx (by simp[c])] at this
theorem mg {is:List Bool} {i:Nat} (h:i < is.length):(dH is).getD i []=[gb is[i]]:=by simp[Zi,h]
theorem mA (is:List Bool) (i:Nat) (b:Bool):(dH is).set i [gb b]=dH (is.set i b):=by simp[aaR]
theorem AU (n:Nat) (b:Bool):List.replicate n [gb b]=dH (List.replicate n b):=by simp
def iter {α:Type} (f:α->α):Nat->α->α
 | 0,x=>x
 | n+1,x=>iter f n (f x)
def eW (t:Bool) (is:List Bool) (r:bu):List Bool:=if c7 r.right is t=true then is.set r.left.toNat true else is
def kY (g:aj) (t:Bool) (is:List Bool):List Bool:=g.rules.foldl (eW t) is
def cy (g:aj):List Bool:=List.replicate g.ak.length false
def av (g:aj) (t:Bool):List Bool:=if bI g=true then iter (kY g t) g.ak.length (cy g) else []
theorem OM (t:Bool) (is:List Bool) (r:bu):(eW t is r).length=is.length:=by unfold eW;split <;> simp
def oX:SC :=
 ae [ae [ab [aa 22 7,ao 23 2 2,ai 24 23,aP 25 24,aS 26 .lss 22 25],bT 26 (.exit 2)],.block 3 (ae [ab [ao 29 2 2,ai 30 29,aa 31 7,aH 32 3 30 31,ao 33 1 32,ai 34 33,aa 35 5,aa 36 1,bh 37 117 [34,35,36]],bc 37 (ab [aa 38 5,ao 39 2 2,ai 40 39,aa 41 7,aH 42 3 40 41,ao 43 0 42,ai 44 43,aH 45 1 38 44,(none,.op (.store 1 (.tmp 45) (.val (.val (.bool true)))))])]),ab [aa 27 7,aG 28 .add 27 1,aa 7 28]]
def pg:SC :=
 ae [ae [ab [aa 15 6,ao 16 1 2,ai 17 16,aP 18 17,aS 19 .lss 15 18],bT 19 (.exit 0)],.block 1 (ae [ab [aQ 7 0],bU 2 oX]),ab [aa 20 6,aG 21 .add 20 1,aa 6 21]]
def qJ:SF:=⟨ae [ab [cw 2 0,cq 4 1],ae [ab [aT 8 4 2,bh 9 54 [8],c6 10 9],bc 10 (ae [ab [cq 4 1],.ret])],ab [ao 11 1 2,ai 12 11,aP 13 12,((some 14),.op (.make 1 1 [(.val (.bool false))] (.tmp 13) (.tmp 13))),aa 5 14],ae [ab [aQ 6 0],bU 0 pg],ab [aa 46 5,aa 4 46],.ret],
 [.tmp 4],47⟩
theorem wY:aN Tryz.prog 125 [2]=some qJ:=by kernel_rfl
def nL:SF:=⟨ae [ab [cw 1 0,cq 2 1],ab [aT 3 4 1,qb 4 125 [(.tmp 3),(.val (.val (.bool false)))],aa 2 4],.ret],
 [.tmp 2],5⟩
theorem tP:aN Tryz.prog 81 [1]=some nL:=by kernel_rfl
def l0:SF:=⟨ae [ab [cw 1 0,cq 2 1],ab [aT 3 4 1,qb 4 125 [(.tmp 3),(.val (.val (.bool true)))],aa 2 4],.ret],
 [.tmp 2],5⟩
theorem sO:aN Tryz.prog 115 [1]=some l0:=by kernel_rfl
theorem UX (g:aj) (t:Bool):∀ v∈[V.agg (ag g),gb t],Tree v:=by
 intro v a;simp at a
 rcases a with rfl | rfl
 .exact cb _ (cY g)
 .exact .val _
theorem TB (g:aj) (C:g.Ok) (t:Bool) (H:View):au Tryz.prog 125 [.agg (ag g),gb t] H λr H'=>∀ w:aF,w.view=H'->dg w r (bP (av g t)):=by
 refine au.of mixed wY ?_
 simp(disch:=omega)only[↓wr,seval,wq,qJ,ag,encS]
 refine ax.pure (kH g C) ?_
 repeat' (first | ((first|apply ah.dec|apply ah.eq|apply ah.ne|apply ah.split)<;>intro)|(simp(disch:=omega)only[↓wr,seval,wq,ag,encS]))
 .rename_i hr
  have u:=bD hr
  obtain⟨D,E⟩:=And.intro u.pM u.ak
  refine⟨⟨by omega,by unfold aA;omega,by unfold aA;omega⟩,λM=>by omega,λ_ m hm=>?_⟩
  try simp(disch:=omega)only[↓wr,seval,wq,ag,encS]
  refine aR.intro (λk T H'=>∃ (i:Nat) (is:List Bool),i+k=g.ak.length/\is.length=g.ak.length/\iter (kY g t) k is=iter (kY g t) g.ak.length (cy g)/\T 1=gb t/\T 2=.aI (ag g) 0/\T 5=.sl m 0 g.ak.length 1/\H' m=.arr 1 (dH is)/\T 6=gi i) g.ak.length ?_ ?_
  .refine⟨0,cy g,by omega,by simp[cy],rfl,?_⟩
   simp(disch:=omega)only[↓wr,↓reduceIte,wq,Nat.reduceEqDiff,Nat.reduceAdd,Nat.reduceLT,Nat.reduceLeDiff,Int.reduceNeg,Int.reduceToNat,reduceCtorEq,ag,encS]
   exact⟨by rw[AU];rfl,rfl⟩
  .rintro k T H' ⟨i,is,hk,hlen,hi,f1,f2,f5,y,f6⟩
   simp(disch:=omega)only[↓wr,seval,wq,pg,f1,f2,f5,f6,ag,encS]
   apply ah.dec<;>intro F
   .simp(disch:=omega)only[↓wr,seval,wq,f1,f2,f5,f6,ag,encS]
    refine aR.intro (λx T H'=>∃ (j:Nat) (a:List Bool),j+x=g.rules.length/\a.length=g.ak.length/\(g.rules.drop j).foldl (eW t) a=kY g t is/\T 1=gb t/\T 2=.aI (ag g) 0/\T 5=.sl m 0 g.ak.length 1/\H' m=.arr 1 (dH a)/\T 6=gi i/\T 7=gi j) g.rules.length ?_ ?_
    .refine⟨0,is,by omega,hlen,rfl,?_⟩
     simp(disch:=omega)only[↓wr,↓reduceIte,wq,Nat.reduceEqDiff,Nat.reduceAdd,Nat.reduceLT,Nat.reduceLeDiff,Int.reduceNeg,Int.reduceToNat,reduceCtorEq,f1,f2,f5,f6,y,ag,encS]
     rfl
    .rintro x N G ⟨j,a,I,b,d,h,l,n,em,o,p⟩
     simp(disch:=omega)only[↓wr,seval,wq,oX,h,l,n,o,p,ag]
     apply ah.dec<;>intro hd
     .have hle:=u.rules
      have e:g.rules[j]?=some (g.rules[j]'(by omega)):=Zj (by omega)
      rw[fw (show j < g.rules.length by omega)] at d
      have c:g.rules[j]'(by omega)∈g.rules:=Zs _
      generalize g.rules[j]'(by omega)=r at e d c
      simp only[ZS] at d
      obtain⟨J,K⟩:=u.left r c
      obtain⟨_,_,z,A⟩:=C.aw r c
      have v:=K9 r.right a t z (λs hs=>⟨A s hs,λL=>by have:=u.neg c hs L;omega⟩)
      simp(disch:=omega)only[↓wr,seval,wq,h,l,n,o,p,ag,encS,aO,Zm,e,Zq]
      refine ax.borrow v (by kernel_rfl) (.val _) rfl (λq hq=>?_) ?_
      .match q,hq with
       | 0,_=>exact ep.tree (ew _)
       | 1,_=>exact DS em b.symm
       | 2,_=>exact ep.tree (.val _)
      .simp(disch:=omega)only[↓wr,seval,wq,h,l,n,o,p,ag,encS,aO,Zm,e,Zq]
       apply ah.split<;>intro B
       .have f:eW t a r=a.set r.left.toNat true:=by rw[eW,Zn B]
        simp(disch:=omega)only[↓wr,seval,wq,h,l,n,o,p,em,ag,encS,aO,Zm,e,Zq,mg (show r.left.toNat < a.length by omega)]
        rw[f] at d
        exact⟨by omega,by omega,x - 1,by omega,j+1,a.set r.left.toNat true,by omega,by simp[b],d,by rw[mA],rfl⟩
       .have f:eW t a r=a:=by rw[eW,Zk (by rw[B];simp)]
        rw[f] at d
        simp(disch:=omega)only[↓wr,seval,wq,h,l,n,o,p]
        exact⟨x - 1,by omega,j+1,a,by omega,b,d,by first | rfl | exact⟨rfl,rfl⟩ | exact⟨em,rfl⟩ | exact⟨rfl,em,rfl⟩⟩
     .rw[ZQ (by omega),aaC] at d
      simp(disch:=omega)only[↓wr,seval,wq,h,l,n,o,p]
      obtain⟨q,rfl⟩:∃ q,k=q+1:=⟨k - 1,by omega⟩
      exact⟨q,by omega,i+1,a,by omega,b,by rw[d];exact hi,rfl,em,rfl⟩
   .simp(disch:=omega)only[↓wr,seval,wq,f1,f2,f5,f6,y]
    have:k=0:=by omega
    subst this
    rintro w rfl
    simp only[av,Zn hr,<-hi,iter]
    rw[<-hlen]
    exact BL y
 .rename_i hr
  rintro w rfl
  simp only[av,hr]
  exact .emp 1
theorem KQ (g:aj) (a:g.Ok) (t:Bool):cE Tryz.prog 125 [.agg (ag g),gb t] (bP (av g t)):=cE.of (UX g t) (TB g a t _)
theorem IF (g:aj) (a:g.Ok) (H:View):au Tryz.prog 81 [.agg (ag g)] H λr H'=>r=bP (av g false)/\H'=H:=by
 refine au.of mixed tP ?_
 simp(disch:=omega)only[↓wr,seval,wq,nL,ag,encS]
 refine ax.pure (KQ g a false).pure ?_
 simp(disch:=omega)only[↓wr,seval,wq,ag,encS]
theorem z8 (g:aj) (a:g.Ok):az Tryz.prog 81 [.agg (ag g)] (bP (av g false)) :=
 az.of (dT g) ((IF g a _).mono λr H' h b _=>by rw[h.1];exact .tree _ (iA _))
theorem EU (g:aj) (a:g.Ok) (H:View):au Tryz.prog 115 [.agg (ag g)] H λr H'=>r=bP (av g true)/\H'=H:=by
 refine au.of mixed sO ?_
 simp(disch:=omega)only[↓wr,seval,wq,l0,ag,encS]
 refine ax.pure (KQ g a true).pure ?_
 simp(disch:=omega)only[↓wr,seval,wq,ag,encS]
theorem vU (g:aj) (a:g.Ok):az Tryz.prog 115 [.agg (ag g)] (bP (av g true)) :=
 az.of (dT g) ((EU g a _).mono λr H' h b _=>by rw[h.1];exact .tree _ (iA _))
def mark (is:List Bool) (s:Int):List Bool:=if s < 0 then is.set (-1 - s).toNat true else is
def jb (p is:List Bool) (r:bu):List Bool:=if (is.getD r.left.toNat false && c7 r.right p true)=true then r.right.foldl mark is else is
def sn (g:aj) (p is:List Bool):List Bool:=g.rules.foldl (jb p) is
def cd (g:aj):List Bool:=if bI g=true then iter (sn g (av g true)) g.ak.length ((cy g).set g.start.toNat true) else []
theorem Uv (is:List Bool) (s:Int):(mark is s).length=is.length:=by unfold mark;split <;> simp
theorem Hb:∀ (l:List Int) (is:List Bool),(l.foldl mark is).length=is.length
 | [],_=>rfl
 | s :: l,is=>by rw[ZS,Hb l,Uv]
theorem PN (p is:List Bool) (r:bu):(jb p is r).length=is.length:=by unfold jb;split <;> simp[Hb]
theorem Dp {f:List Bool->List Bool} (a:∀ is,(f is).length=is.length):∀ (n:Nat) (is:List Bool),(iter f n is).length=is.length
 | 0,_=>rfl
 | n+1,is=>by rw[iter,Dp a n,a]
theorem C7 {α:Type} {f:List Bool->α->List Bool} (a:∀ is x,(f is x).length=is.length):∀ (l:List α) (is:List Bool),(l.foldl f is).length=is.length
 | [],_=>rfl
 | x :: l,is=>by rw[ZS,C7 a l,a]
theorem fV {g:aj} (h:bI g=true) (t:Bool):(av g t).length=g.ak.length:=by
 have hl:∀ is,(kY g t is).length=is.length:=λis=>C7 (OM t) _ _
 rw[av,Zn h,Dp hl]
 simp[cy]
def lO:SC :=
 ae [ae [.region false [⟨none,[aa 41 8,ao 42 1 7,ai 43 42,aP 44 43,aS 45 .lss 41 44,aa 46 45]⟩,⟨(some (46,true)),[aa 47 4,ao 48 0 7,ai 49 48,aH 50 1 47 49,ai 51 50]⟩,⟨none,[eF 52 46 51,aa 53 52]⟩,⟨(some (53,true)),[ao 54 1 7,ai 55 54,aa 56 3,qb 57 117 [(.tmp 55),(.tmp 56),(.val (.val (.bool true)))]]⟩,⟨none,[eF 58 53 57]⟩],bT 58 (.exit 4)],.block 5 (ae [ab [ao 61 1 7,ai 62 61,aa 63 8,aH 64 1 62 63,ai 65 64,aG 66 .lss 65 0],bc 66 (ab [aa 67 4,ao 68 1 7,ai 69 68,aa 70 8,aH 71 1 69 70,ai 72 71,((some 73),.op (.arith .sub (.val (.val (.int .i64 (-1)))) (.tmp 72))),aH 74 1 67 73,(none,.op (.store 1 (.tmp 74) (.val (.val (.bool true)))))])]),ab [aa 59 8,aG 60 .add 59 1,aa 8 60]]
def lI:SC :=
 ae [ae [ab [aa 29 6,ao 30 2 1,ai 31 30,aP 32 31,aS 33 .lss 29 32],bT 33 (.exit 2)],.block 3 (ae [ab [ao 36 2 1,ai 37 36,aa 38 6,aH 39 3 37 38,aT 40 3 39,((some 7),.op (.alloc [(.val (.int .i64 0)),(.emp 1),(.val (.int .i64 0))])),bK 3 7 40],ab [aQ 8 0],bU 4 lO]),ab [aa 34 6,aG 35 .add 34 1,aa 6 35]]
def lE:SC :=
 ae [ae [ab [aa 22 5,ao 23 1 1,ai 24 23,aP 25 24,aS 26 .lss 22 25],bT 26 (.exit 0)],.block 1 (ae [ab [aQ 6 0],bU 2 lI]),ab [aa 27 5,aG 28 .add 27 1,aa 5 28]]
def na:SF:=⟨ae [ab [cw 1 0,cq 2 1],ae [ab [aT 9 4 1,bh 10 54 [9],c6 11 10],bc 11 (ae [ab [cq 2 1],.ret])],ab [aT 12 4 1,bh 13 115 [12],aa 3 13],ab [ao 14 1 1,ai 15 14,aP 16 15,((some 17),.op (.make 1 1 [(.val (.bool false))] (.tmp 16) (.tmp 16))),aa 4 17],ab [aa 18 4,ao 19 3 1,ai 20 19,aH 21 1 18 20,(none,.op (.store 1 (.tmp 21) (.val (.val (.bool true)))))],ae [ab [aQ 5 0],bU 0 lE],ab [aa 75 4,aa 2 75],.ret],
 [.tmp 2],76⟩
theorem s9:aN Tryz.prog 116 [1]=some na:=by kernel_rfl
theorem Up {l:List Bool} {i j:Nat} (h:l.getD j false=true):(l.set i true).getD j false=true:=by
 simp only[Zi,aaV] at h ⊢
 by_cases e:i=j
 .subst e
  by_cases hi:i < l.length
  .simp[hi]
  .rw[ZT (by omega)] at h;simp at h
 .rw[Zk e];exact h
theorem U9 {H:View} {m n:Nat} {o:cU} (hm:H m=o) (a:H n=.dead) (b:o≠.dead):m≠n:=by rintro rfl;exact b (hm.symm.trans a)
theorem FV (g:aj) (X:g.Ok) (H:View):au Tryz.prog 116 [.agg (ag g)] H λr H'=>∀ W:aF,W.view=H'->dg W r (bP (cd g)):=by
 refine au.of mixed s9 ?_
 simp(disch:=omega)only[↓wr,seval,wq,na,ag,encS]
 refine ax.pure (kH g X) ?_
 repeat' (first | ((first|apply ah.dec|apply ah.eq|apply ah.ne|apply ah.split)<;>intro)|(simp(disch:=omega)only[↓wr,seval,wq,ag,encS]))
 .rename_i hr
  have y:=bD hr
  obtain⟨a7,a8⟩:=And.intro y.pM y.ak
  refine ax.pure (vU g X) ?_
  have Y:=fV hr true
  have n:cd g=iter (sn g (av g true)) g.ak.length ((cy g).set g.start.toNat true):=by rw[cd,Zn hr]
  generalize av g true=p at Y n
  have o:=y.nM
  have a1:=y.start
  have G:List.replicate g.ak.length [V.val (Value.bool false)]=dH (cy g):=AU _ _
  have Z:(cy g).length=g.ak.length:=by simp[cy]
  simp(disch:=omega)only[↓wr,seval,wq,ag,encS]
  refine⟨⟨by omega,by unfold aA;omega,by unfold aA;omega⟩,λhz=>by omega,λ_ m hm=>?_⟩
  rw[G]
  have an:(dH (cy g)).getD g.start.toNat []=[gb ((cy g)[g.start.toNat]'(by omega))]:=mg (by omega)
  simp(disch:=omega)only[↓wr,seval,wq,ag,encS,mg (show g.start.toNat < (cy g).length by omega),mA,Zr]
  refine⟨by omega,by omega,?_⟩
  refine aR.intro (λk T H'=>∃ (i:Nat) (is:List Bool),i+k=g.ak.length/\is.length=g.ak.length/\iter (sn g p) k is=cd g/\T 1=.aI (ag g) 0/\T 3=bP p/\T 4=.sl m 0 g.ak.length 1/\H' m=.arr 1 (dH is)/\T 5=gi i) g.ak.length ?_ ?_
  .refine⟨0,(cy g).set g.start.toNat true,by omega,by simp[Z],n.symm,?_⟩
   simp(disch:=omega)only[↓wr,↓reduceIte,wq,Nat.reduceEqDiff,Nat.reduceAdd,Nat.reduceLT,Nat.reduceLeDiff,Int.reduceNeg,Int.reduceToNat,reduceCtorEq,ag,encS]
   rw[an]
   exact⟨by rw[<-mA];rfl,rfl⟩
  .rintro k T H' ⟨i,is,hk,hlen,hi,f1,f3,f4,fm,f5⟩
   simp(disch:=omega)only[↓wr,seval,wq,lE,f1,f3,f4,f5,ag,encS]
   apply ah.dec<;>intro hc
   .simp(disch:=omega)only[↓wr,seval,wq,f1,f3,f4,f5,ag,encS]
    refine aR.intro (λI T H'=>∃ (j:Nat) (d:List Bool),j+I=g.rules.length/\d.length=g.ak.length/\(g.rules.drop j).foldl (jb p) d=sn g p is/\T 1=.aI (ag g) 0/\T 3=bP p/\T 4=.sl m 0 g.ak.length 1/\H' m=.arr 1 (dH d)/\T 5=gi i/\T 6=gi j) g.rules.length ?_ ?_
    .refine⟨0,is,by omega,hlen,rfl,?_⟩
     simp(disch:=omega)only[↓wr,seval,wq,f1,f3,f4,f5,fm,ag,encS]
     first | done | exact⟨rfl,rfl⟩ | rfl
    .rintro I T' bb ⟨j,d,bd,t,C,J,K,L,em,M,N⟩
     simp(disch:=omega)only[↓wr,seval,wq,lI,J,K,L,M,N,ag]
     apply ah.dec<;>intro hd
     .have hle:=y.rules
      have O:g.rules[j]?=some (g.rules[j]'(by omega)):=Zj (by omega)
      rw[fw (show j < g.rules.length by omega)] at C
      have f:g.rules[j]'(by omega)∈g.rules:=Zs _
      generalize g.rules[j]'(by omega)=r at O C f
      simp only[ZS] at C
      obtain⟨bl,bn⟩:=y.left r f
      obtain⟨_,_,aq,P⟩:=X.aw r f
      have bq:=y.right r f
      have Q:=K9 r.right p true aq (λs hs=>⟨P s hs,λhn=>by have:=y.neg f hs hn;omega⟩)
      simp(disch:=omega)only[↓wr,seval,wq,J,K,L,M,N,ag,encS,aO,encI,Zm,O,Zq]
      intro b hb
      have R:m≠b:=U9 em hb (by simp)
      try simp(disch:=omega)only[↓wr,seval,wq,J,K,L,M,N,ag,encS,aO,encI]
      refine aR.intro (λq T H'=>∃ (a:Nat) (c:List Bool),a+q=r.right.length/\c.length=g.ak.length/\(r.right.drop a).foldl mark c=r.right.foldl mark d/\((a=0/\c=d)∨((d.getD r.left.toNat false && c7 r.right p true)=true/\c.getD r.left.toNat false=true)) /\
       T 1=.aI (ag g) 0/\T 3=bP p/\T 4=.sl m 0 g.ak.length 1/\H' m=.arr 1 (dH c)/\T 5=gi i/\T 6=gi j/\T 7=.ptr b 0 0/\H' b=.arr 3 [aO r]/\T 8=gi a) r.right.length ?_ ?_
      .refine⟨0,d,by omega,t,rfl,.inl ⟨rfl,rfl⟩,?_⟩
       simp(disch:=omega)only[↓wr,↓reduceIte,wq,Nat.reduceEqDiff,Nat.reduceAdd,Nat.reduceLT,Nat.reduceLeDiff,Int.reduceNeg,Int.reduceToNat,reduceCtorEq,J,K,L,M,N,em,R,ag,encS,aO]
       exact⟨rfl,rfl⟩
      .rintro q T3 H3 ⟨a,c,hq,e,w,h,d1,d3,d4,z,d5,d6,d7,x,d8⟩
       simp(disch:=omega)only[↓wr,seval,wq,lO,d1,d3,d4,d5,d6,d7,d8,x,aO,encI]
       have S:c[r.left.toNat]?=some (c[r.left.toNat]'(by omega)):=Zj (by omega)
       have l:c.getD r.left.toNat false=c[r.left.toNat]'(by omega):=by simp[Zi,S]
       have A:=mg (show r.left.toNat < c.length by omega)
       have U:(d.getD r.left.toNat false && c7 r.right p true)=false->jb p d r=c:=λhW=>by
        rcases h with ⟨_,rfl⟩ | ⟨h1,_⟩
        .rw[jb,hW];rfl
        .rw[hW] at h1;simp at h1
       generalize c[r.left.toNat]'(by omega)=tl at S l A
       apply ah.dec<;>intro ht
       .have D:r.right[a]?=some (r.right[a]'(by omega)):=Zj (by omega)
        rw[fw (show a < r.right.length by omega)] at w
        have E:r.right[a]'(by omega)∈r.right:=Zs _
        generalize r.right[a]'(by omega)=s at D w E
        simp only[ZS] at w
        have ar:=P s E
        simp(disch:=omega)only[↓wr,seval,wq,d1,d3,d4,d5,d6,d7,d8,x,z,aO,encI,A,Zr]
        refine⟨by omega,by omega,?_⟩
        apply ah.split<;>intro u
        .simp(disch:=omega)only[↓wr,seval,wq,d1,d3,d4,d5,d6,d7,d8,x,z,aO,encI,A,Zr]
         refine ax.pure Q ?_
         simp(disch:=omega)only[↓wr,seval,wq,d1,d3,d4,d5,d6,d7,d8,x,z,aO,encI]
         apply ah.split<;>intro F
         .simp(disch:=omega)only[↓wr,seval,wq,d1,d3,d4,d5,d6,d7,d8,x,z,aO,encI,Zm,D,Zq]
          have hW:(d.getD r.left.toNat false && c7 r.right p true)=true/\c.getD r.left.toNat false=true:=by
           rcases h with ⟨_,rfl⟩ | h1
           .exact⟨by rw[l,u,F];rfl,by rw[l,u]⟩
           .exact h1
          apply ah.dec<;>intro B
          .have br:=y.neg f E B
           have a6:=ar.1
           have v:mark c s=c.set (-1 - s).toNat true:=by rw[mark,Zn B]
           simp(disch:=omega)only[↓wr,seval,wq,d1,d3,d4,d5,d6,d7,d8,x,z,aO,encI,Zm,D,Zq,mg (show (-1 - s).toNat < c.length by omega),Zr,R.symm]
           rw[v] at w
           exact⟨by omega,by omega,q - 1,by omega,a+1,c.set (-1 - s).toNat true,by omega,by simp[e],w,.inr ⟨hW.1,Up hW.2⟩,by rw[mA],by first | rfl | exact⟨rfl,rfl⟩⟩
          .have v:mark c s=c:=by rw[mark,Zk B]
           rw[v] at w
           simp(disch:=omega)only[↓wr,seval,wq,d1,d3,d4,d5,d6,d7,d8,x,z]
           exact⟨q - 1,by omega,a+1,c,by omega,e,w,.inr hW,by first | rfl | exact⟨rfl,rfl⟩ | exact⟨rfl,rfl,rfl⟩⟩
         .simp(disch:=omega)only[↓wr,seval,wq,d1,d3,d4,d5,d6,d7,d8,x,z,aO,encI]
          have o:=U (by rw[F,Bool.and_false])
          exact⟨I - 1,by omega,j+1,c,by omega,e,by rw[<-o];exact C,rfl,rfl,rfl⟩
        .simp(disch:=omega)only[↓wr,seval,wq,d1,d3,d4,d5,d6,d7,d8,x,z,aO,encI,A,Zr]
         have o:jb p d r=c:=by
          rcases h with ⟨_,rfl⟩ | ⟨_,h1⟩
          .rw[jb,l,u];rfl
          .rw[l,u] at h1;simp at h1
         exact⟨I - 1,by omega,j+1,c,by omega,e,by rw[<-o];exact C,rfl,rfl,rfl⟩
       .simp(disch:=omega)only[↓wr,seval,wq,d1,d3,d4,d5,d6,d7,d8,x,z,aO,encI]
        rw[ZQ (by omega),aaC] at w
        have o:jb p d r=c:=by
         rcases h with ⟨h0,rfl⟩ | ⟨h1,_⟩
         .unfold jb
          split
          .exact w.symm
          .rfl
         .rw[jb,Zn h1];exact w.symm
        exact⟨I - 1,by omega,j+1,c,by omega,e,by rw[<-o];exact C,rfl,rfl,rfl⟩
     .rw[ZQ (by omega),aaC] at C
      simp(disch:=omega)only[↓wr,seval,wq,J,K,L,M,N]
      obtain⟨q,rfl⟩:∃ q,k=q+1:=⟨k - 1,by omega⟩
      exact⟨q,by omega,i+1,d,by omega,t,by rw[C];exact hi,rfl,em,rfl⟩
   .simp(disch:=omega)only[↓wr,seval,wq,f1,f3,f4,f5,fm]
    have:k=0:=by omega
    subst this
    rintro W rfl
    simp only[<-hi,iter]
    rw[<-hlen]
    exact BL fm
 .rename_i hr
  rintro W rfl
  simp only[cd,hr]
  exact .emp 1
theorem GA (g:aj) (a:g.Ok):cE Tryz.prog 116 [.agg (ag g)] (bP (cd g)):=cE.of (dT g) (FV g a _)
noncomputable def BY:List (FuncId × DF):=Cm Tryz.prog [(148,[]),(147,[]),(233,[]),(234,[])]
theorem vQ:tN Tryz.prog BY:=zf _ _
theorem Vn (P:Program):uZ P (λ_ _ _=>none):=λ_ _ _ _ h=>by simp at h
def Xv (o:Option V) (b:Bool):Bool:=match o with
 | some (.val (.bool c))=>c == b
 | _=>false
theorem WS {o:Option V} {b:Bool} (h:Xv o b=true):o=some (gb b):=by
 unfold Xv at h
 split at h
 .rw[aaz] at h;rw[h]
 .simp at h
noncomputable def BG (tab:List (FuncId × DF)) (f:FuncId) (p:Int->Bool):Bool:=(List.range 256).all λc=>Xv (x7 Tryz.prog tab (λ_ _ _=>none) f [gy (c:Int)]) (p (c:Int))
theorem zF {a:List (FuncId × DF)} (d:tN Tryz.prog a) {f:FuncId} {p:Int->Bool} (h:BG a f p=true) (c:Int) (e:0<=c) (h1:c<=255):az Tryz.prog f [gy c] (gb (p c)):=by
 have:=ZZ.1 h c.toNat (by simp;omega)
 rw[show ((c.toNat:Nat):Int)=c by omega] at this
 exact(tV mixed d (Vn _) (by intro v b;simp at b;subst b;exact .val _) (WS this)).pure
def AE (c:Int):Bool:=decide (32<=c) && decide (c<=126) && c != 39 && c != 92
def Ge (c:Int):Bool:=c == 110 || c == 116 || c == 92 || c == 39
theorem OK:BG BY 147 xS=true:=by kernel_rfl
theorem Ro:BG BY 148 pQ=true:=by kernel_rfl
theorem RA:BG BY 233 AE=true:=by kernel_rfl
theorem Wo:BG BY 234 Ge=true:=by kernel_rfl
theorem G6 {s:ByteArray} {c:Int} (h:c∈gx s):0<=c/\c<=255:=by
 unfold gx at h
 obtain⟨b,_,rfl⟩:=ZF.1 h
 have:=b.toNat_lt
 omega
theorem QP (s:ByteArray):iD s=(gx s).map λx=>[gy x]:=by simp[iD,gx]
noncomputable def NI:List (FuncId × DF):=Cm Tryz.prog [(49,[]),(94,[]),(134,[]),(177,[]),(212,[]),(213,[]),(214,[]),(215,[]),(232,[]),(178,[]),(216,[]),(179,[]),(194,[]),(193,[]),(192,[]),(217,[]),(218,[]),(219,[]),(135,[]),(183,[]),(182,[]),(220,[]),(221,[]),(181,[]),(184,[]),(180,[]),(95,[1]),(138,[3]),(151,[]),(154,[]),(140,[4]),(186,[4]),(139,[2]),(152,[2]),(223,[3]),(136,[]),(185,[5]),(222,[]),(137,[])]
theorem PA:tN Tryz.prog NI:=zf _ _
def DD (l:List Int):V:=.aD (l.map λx=>[gy x])
theorem Rz (l:List Int):Tree (DD l):=dZ _ _ λx _ v a=>by simp at a;subst a;exact .val _
def uf (g:aj):V:=.bt [.agg (ag g),.val (.complex .f64 0 0),gi 0]
theorem MT {l:List Int} {g:aj} (h:x7 Tryz.prog NI (λ_ _ _=>none) 49 [DD l]=some (uf g)):cE Tryz.prog 49 [DD l] (uf g) :=
 tV mixed PA (Vn _) (by intro v a;simp at a;subst a;exact Rz _) h
abbrev bW (κ:Type):=List (κ × V × Nat)
def cH {κ:Type} (key:κ->Value) (m:bW κ):List (V × V × Nat):=m.map λx=>(.val (key x.1),x.2.1,x.2.2)
def getM {κ:Type} [BEq κ] (m:bW κ) (k:κ):Option V:=(m.find? λx=>k == x.1).map (·.2.1)
def bN {κ:Type} [BEq κ] (k:κ) (v:V) (c:Nat):bW κ->bW κ
 | []=>[(k,v,c)]
 | x :: r=>if k == x.1 then (k,v,x.2.2) :: r else x :: bN k v c r
structure Db {κ:Type} [BEq κ] (P:Program) (kt:TypeId) (key:κ->Value):Prop where
 ty:∃ d,P.underlying kt=some d/\(∀ a b,Instr.sameNow d (key a) (key b)=some (a == b))/\(∀ a e,bM P (Instr.checkKey e 10000 kt (key a))=some ())
 bits:∀ a b,(a == b)=true->Instr.sameBits 10000 (key b) (key a)=true
theorem yu {κ:Type} (key:κ->Value):∀ m:bW κ,iY (cH key m)=some (m.map λx=>{ key:=key x.1,val:=.nilFunc,born:=x.2.2 })
 | []=>rfl
 | x :: r=>by
  have:=yu key r
  simp only[cH] at this
  simp[cH,iY,dx,this]
def iB {κ:Type} [BEq κ] (k:κ):bW κ->Option Nat
 | []=>none
 | x :: r=>if k == x.1 then some 0 else (iB k r).map (·+1)
theorem CP {κ:Type} [BEq κ] {key:κ->Value} {d:TypeDesc} (h:∀ a b,Instr.sameNow d (key a) (key b)=some (a == b)) (k:κ):∀ (m:bW κ) (i:Nat),
  Instr.findNow d (key k) (m.map λx=>{ key:=key x.1,val:=.nilFunc,born:=x.2.2 }) i=some ((iB k m).map λj=>(i+j,.nilFunc))
 | [],i=>rfl
 | x :: r,i=>by
  simp only[ZJ,Instr.findNow,h,iB]
  cases hk:k == x.1 with
  | true=>simp
  | false =>
   simp only[CP h k r (i+1),ZM,if_false,Option.map_map]
   congr 2
   funext j
   simp only[Function.comp]
   congr 1
   omega
theorem Bz {κ:Type} [BEq κ] {P:Program} {kt:TypeId} {key:κ->Value} (h:Db P kt key) (k:κ) (e:Bool) (m:bW κ):oc P kt (.val (key k)) e (cH key m)=some (iB k m):=by
 obtain⟨d,hd,a,b⟩:=h.ty
 have hu:bM P (underlying kt)=some d:=eP hd
 simp only[oc,dx,yu,bC,b,aaa]
 have:bM P (Instr.findKey kt (key k) (m.map λx=>{ key:=key x.1,val:=.nilFunc,born:=x.2.2 }))=some ((iB k m).map λj=>(0+j,.nilFunc)):=by
  unfold Instr.findKey
  rw[bC,hu,aaa,CP a]
  rfl
 rw[this]
 cases iB k m with
 | none=>rfl
 | some j=>simp
theorem zD {P:Program} {kt:TypeId} {d:TypeDesc} (h:P.underlying kt=some d) (hd:match d with | .int _ | .string | .bool=>True | _=>False) (e:Bool) (n:Nat) (v:Value):bM P (Instr.checkKey e (n+1) kt v)=some ():=by
 unfold Instr.checkKey
 rw[bC,eP h,aaa]
 cases d <;> first | exact hd.elim | rfl
theorem mj {P:Program} {kt:TypeId} (k:IntKind) (h:P.underlying kt=some (.int k)):Db P kt (Value.int k) where
 ty:=⟨_,h,λa b=>by simp[Instr.sameNow],λa e=>zD h trivial e 9999 _⟩
 bits:=λa b c=>by
  have:a=b:=by simpa using c
  subst this
  simp[Instr.sameBits]
theorem zj {κ:Type} [BEq κ] {key:κ->Value} (k:κ):∀ m:bW κ,match iB k m with
  | some i=>∃ x,m[i]?=some x/\(k == x.1)=true/\getM m k=some x.2.1/\(cH key m)[i]?=some (.val (key x.1),x.2.1,x.2.2)/\∀ v c,(cH key m).set i (.val (key k),v,x.2.2)=cH key (bN k v c m)/\(bN k v c m).length=m.length
  | none=>getM m k=none/\∀ v c,cH key m ++ [(.val (key k),v,c)]=cH key (bN k v c m)/\(bN k v c m).length=m.length+1
 | []=>⟨rfl,λv c=>⟨rfl,rfl⟩⟩
 | x :: r=>by
  have a:=zj (key:=key) k r
  simp only[iB]
  cases hk:k == x.1 with
  | true=>exact⟨x,rfl,hk,by simp[getM,hk],rfl,λv c=>by simp[bN,hk,cH]⟩
  | false =>
   simp only[ZM,if_false]
   cases hi:iB k r with
   | some i =>
    rw[hi] at a
    obtain⟨y,h1,b,d,e,f⟩:=a
    refine⟨y,by simpa using h1,b,by simpa [getM,hk] using d,by simpa [cH] using e,λv c=>?_⟩
    obtain⟨g1,g2⟩:=f v c
    exact⟨by simp only[cH] at g1 ⊢;simp[bN,hk,g1],by simp[bN,hk,g2]⟩
   | none =>
    rw[hi] at a
    refine⟨by simpa [getM,hk] using a.1,λv c=>?_⟩
    obtain⟨g1,g2⟩:=a.2 v c
    exact⟨by simp only[cH] at g1 ⊢;simp[bN,hk,g1],by simp[bN,hk,g2]⟩
section
variable {P:Program} {T:Env} {H:View} {κ:Type} [BEq κ] {key:κ->Value} {kt et t ty:TypeId}
theorem Cg {K:V->View->Prop} {w:cO (T,H,K)} {x i:Operand} {z:V} {id c:Nat} {m:bW κ} {k:κ} (hm:dK P t=some (kt,et)) (d:zeroV P et=some z) (hk:Db P kt key)
  (e:ev T x=.mp id) (hi:ev T i=.val (key k)) (hH:H id=.map (cH key m) c) (h:K ((getM m k).getD z) H):j5 P (.lookup t x i false) ty T H K w:=by
 intro n _
 have f:=Bz hk k (cH key m).isEmpty m
 have a:=zj (key:=key) k m
 refine⟨(getM m k).getD z,.none,[id],?_,h⟩
 simp only[sI,cx,oper,gF,hm,d,e,hi,hH,f]
 cases b:iB k m with
 | some j =>
  rw[b] at a
  obtain⟨y,h1,o,g,l,_⟩:=a
  simp[l,g]
 | none =>
  rw[b] at a
  simp[a.1]
theorem Vq {K:V->View->Prop} {w:cO (T,H,K)} {x i:Operand} {z:V} {id c:Nat} {m:bW κ} {k:κ} (hm:dK P t=some (kt,et)) (d:zeroV P et=some z) (hk:Db P kt key)
  (e:ev T x=.mp id) (hi:ev T i=.val (key k)) (hH:H id=.map (cH key m) c) (h:K (.bt [(getM m k).getD z,.val (.bool (getM m k).isSome)]) H):j5 P (.lookup t x i true) ty T H K w:=by
 intro n _
 have f:=Bz hk k (cH key m).isEmpty m
 have a:=zj (key:=key) k m
 refine⟨_,.none,[id],?_,h⟩
 simp only[sI,cx,oper,gF,hm,d,e,hi,hH,f]
 cases b:iB k m with
 | some j =>
  rw[b] at a
  obtain⟨y,h1,o,g,l,_⟩:=a
  simp[l,g]
 | none =>
  rw[b] at a
  simp[a.1]
theorem UF (hk:Db P kt key) (k a:κ) (h:(k == a)=true):sameKey (.val (key a)) (.val (key k))=true:=by
 simp only[sameKey,dx];exact hk.bits _ _ h
theorem yq {K:V->View->Prop} {w:cO (T,H,K)} {x i y:Operand} {id c:Nat} {m:bW κ} {k:κ} {v:V} (hm:dK P t=some (kt,et)) (hk:Db P kt key)
  (d:ev T x=.mp id) (hi:ev T i=.val (key k)) (e:ev T y=v) (hH:H id=.map (cH key m) c)
  (h:∀ g,K .any (H.set id (.map (cH key (bN k v c m)) g))):j5 P (.mapUpdate t x i y) ty T H K w:=by
 intro n _
 have a:=Bz hk k false m
 have b:=zj (key:=key) k m
 cases f:iB k m with
 | some j =>
  rw[f] at b a
  obtain⟨z,h1,l,q,o,p⟩:=b
  refine⟨.any,.fK id (.map ((cH key m).set j (.val (key k),v,z.2.2)) c),[id],?_,?_⟩
  .simp only[sI,cx,oper,fX,hm,d,hi,e,hH,a,o,UF hk k z.1 l,if_true]
  .rw[(p v c).1];exact h c
 | none =>
  rw[f] at b a
  refine⟨.any,.fK id (.map (cH key m ++ [(.val (key k),v,c)]) (c+1)),[id],?_,?_⟩
  .simp only[sI,cx,oper,fX,hm,d,hi,e,hH,a]
  .rw[(b.2 v c).1];exact h (c+1)
theorem Xl {P:Program} {T:Env} {H:View} {t ty:TypeId} {x i y:Operand} {K:V->View->Prop} {w:cO (T,H,K)} : j5 P (.insert t x i y) ty T H K w=j5 P (.mapUpdate t x i y) ty T H K w:=propext Iff.rfl
omit [BEq κ] in
theorem Xo {K:V->View->Prop} {w:cO (T,H,K)} {x:Operand} {id c:Nat} {m:bW κ} (hm:dK P t=some (kt,et)) (d:ev T x=.mp id) (hH:H id=.map (cH key m) c) (h:K (jd m.length) H) :
  j5 P (.call { callee:=.builtin .len,args:=#[x],argTypes:=#[t] }) ty T H K w:=by
 intro n _
 have hu:∃ a b,P.underlying t=some (.map a b):=by
  unfold dK at hm
  split at hm
  .rename_i a b h1;exact⟨a,b,h1⟩
  .simp at hm
 obtain⟨a,b,hu⟩:=hu
 refine⟨jd m.length,.none,[id],?_,h⟩
 have hl:(cH key m).length=m.length:=by simp[cH]
 simp only[sI,cx,oper,aaW,ZB,ZW,xk,hu,d,hH,hl]
 simp[hu,d,hH,hl,xk]
end
theorem rz {κ:Type} [BEq κ] [LawfulBEq κ] (k a:κ) (v:V) (c:Nat):∀ m:bW κ,getM (bN k v c m) a=if a == k then some v else getM m a
 | []=>by
  by_cases h:a=k
  .subst h;simp[bN,getM]
  .simp[bN,getM,h]
 | x :: r=>by
  have b:=rz k a v c r
  simp only[bN]
  by_cases hk:k=x.1
  .by_cases h:a=k
   .subst h;simp[hk,getM]
   .have:¬ a=x.1:=λe=>h (e.trans hk.symm)
    simp[hk,getM,this]
  .simp only[aaz,hk,if_false]
   by_cases h:a=x.1
   .have:¬ a=k:=λe=>hk (e.symm.trans h)
    simp[getM,h]
    subst h
    simp[this]
   .simp only[getM,aa5,beq_eq_false_iff_ne.2 h] at b ⊢
    exact b
def eV {κ β:Type} [BEq κ] (a:List (κ × β)) (k:κ):Option β:=(a.find? λx=>k == x.1).map (·.2)
def lj {κ β:Type} [BEq κ] (k:κ) (v:β):List (κ × β)->List (κ × β)
 | []=>[(k,v)]
 | x :: r=>if k == x.1 then (k,v) :: r else x :: lj k v r
def pR {κ β:Type} (encV:β->V):List (κ × β)->bW κ->Prop
 | [],[]=>True
 | x :: a,y :: m=>y.1=x.1/\y.2.1=encV x.2/\pR encV a m
 | _,_=>False
theorem pR.get {κ β:Type} [BEq κ] {encV:β->V} (k:κ):∀ {a:List (κ × β)} {m:bW κ},pR encV a m->getM m k=(eV a k).map encV
 | [],[],_=>rfl
 | x :: a,y :: m,⟨h1,c,d⟩=>by
  have b:=pR.get k d
  simp only[getM,eV,aa5,h1] at b ⊢
  cases k == x.1 with
  | true=>simp[c]
  | false=>simpa using b
theorem pR.put {κ β:Type} [BEq κ] {encV:β->V} (k:κ) (v:β) (c:Nat):∀ {a:List (κ × β)} {m:bW κ},pR encV a m->pR encV (lj k v a) (bN k (encV v) c m)
 | [],[],_=>⟨rfl,rfl,trivial⟩
 | x :: a,y :: m,⟨h1,d,b⟩=>by
  have e:=pR.put k v c b
  simp only[lj,bN,h1]
  cases k == x.1 with
  | true=>exact⟨rfl,rfl,b⟩
  | false=>exact⟨h1,d,e⟩
theorem pR.len {κ β:Type} {encV:β->V} : ∀ {a:List (κ × β)} {m:bW κ},pR encV a m->m.length=a.length
 | [],[],_=>rfl
 | x :: a,y :: m,⟨_,_,b⟩=>by simp[pR.len b]
theorem K3 {κ β:Type} [BEq κ] [LawfulBEq κ] (k b:κ) (v:β):∀ a:List (κ × β),eV (lj k v a) b=if b == k then some v else eV a b
 | []=>by
  by_cases h:b=k
  .subst h;simp[lj,eV]
  .simp[lj,eV,h]
 | x :: r=>by
  have c:=K3 k b v r
  simp only[lj]
  by_cases hk:k=x.1
  .by_cases h:b=k
   .subst h;simp[hk,eV]
   .have:¬ b=x.1:=λe=>h (e.trans hk.symm)
    simp[hk,eV,this]
  .simp only[aaz,hk,if_false]
   by_cases h:b=x.1
   .have:¬ b=k:=λe=>hk (e.symm.trans h)
    simp[eV,h]
    subst h
    simp[this]
   .simp only[eV,aa5,beq_eq_false_iff_ne.2 h] at c ⊢
    exact c
def FM (n k:Nat) (J:Nat->Env->View->Prop) (T:Env) (H:View):Prop:=∃ i,i+k=n/\J i T H
theorem aR.up {P:Program} {T:Env} {H:View} {c:SC} {Q:Exit->Env->View->Prop} {v:cO (T,H,Q)} (n:Nat) (J:Nat->Env->View->Prop) (d:J 0 T H)
  (hs:∀ i k T H,i+k=n->J i T H->wS P c T H λe a H'=>CG e (∃ b,b < k/\FM n b J a H') (Q e a H')):aR P c T H Q v :=
 aR.intro (λk T H=>FM n k J T H) n ⟨0,by omega,d⟩ λk T H ⟨i,hk,f⟩=>hs i k T H hk f
theorem aE {n i k:Nat} {J:Nat->Env->View->Prop} {T:Env} {H:View} (hk:i+k=n) (b:i < n) (c:J (i+1) T H):∃ a,a < k/\FM n a J T H:=⟨k - 1,by omega,i+1,by omega,c⟩
def owner:V->Option Nat
 | .sl id _ _ _=>some id
 | _=>none
def aV (H:View) (u:V) (sz:Nat) (es:List (List V)):Prop :=
 (es=[]/\∃ k,u=.emp k)∨(∃ n,u=.sl n 0 es.length sz/\H n=.arr sz es)
theorem aV.nil {H:View} {sz k:Nat} : aV H (.emp k) sz []:=.inl ⟨rfl,k,rfl⟩
theorem aV.len {H:View} {u:V} {sz:Nat} {es:List (List V)} (h:aV H u sz es):cT u=some es.length:=by
 rcases h with ⟨rfl,k,rfl⟩ | ⟨n,rfl,_⟩ <;> rfl
theorem aV.live {H:View} {u:V} {sz:Nat} {es:List (List V)} (h:aV H u sz es) {id:Nat} (a:owner u=some id):H id=.arr sz es/\u=.sl id 0 es.length sz:=by
 rcases h with ⟨rfl,k,rfl⟩ | ⟨n,rfl,b⟩
 .simp[owner] at a
 .simp[owner] at a;subst a;exact⟨b,rfl⟩
theorem aV.keep {H H':View} {u:V} {sz:Nat} {es:List (List V)} (h:aV H u sz es) (hk:∀ id,owner u=some id->H' id=H id):aV H' u sz es:=by
 rcases h with ⟨rfl,k,rfl⟩ | ⟨n,rfl,a⟩
 .exact .inl ⟨rfl,k,rfl⟩
 .exact .inr ⟨n,rfl,by rw[hk n rfl];exact a⟩
theorem aV.fresh {H:View} {u:V} {sz m:Nat} {es:List (List V)} {o:cU} (h:aV H u sz es) (hm:H m=.dead):aV (H.set m o) u sz es :=
 h.keep λid a=>by
  have:=(h.live a).1
  have e:id≠m:=by rintro rfl;rw[hm] at this;simp at this
  simp[View.set,e]
theorem aV.ne {H:View} {u:V} {sz m:Nat} {es:List (List V)} (h:aV H u sz es) (hm:H m=.dead):owner u≠some m:=λe=>by
 have:=(h.live e).1;rw[hm] at this;simp at this
theorem aV.other {H:View} {u:V} {sz m:Nat} {es:List (List V)} {o:cU} (h:aV H u sz es) (hm:owner u≠some m):aV (H.set m o) u sz es :=
 h.keep λid a=>by
  have e:id≠m:=by rintro rfl;exact hm a
  simp[View.set,e]
theorem aV.new {H:View} {n sz:Nat} {es:List (List V)} : aV (H.set n (.arr sz es)) (.sl n 0 es.length sz) sz es:=.inr ⟨n,rfl,by simp[View.set]⟩
theorem bm {H:View} {m z sz:Nat} {e:List V} : bR (View.set H m (.arr z [e])) (.sl m 0 1 sz)=some ([e],[m]):=by
 simp[bR,View.set]
def Left (H H':View) (u u':V):Prop:=∀ id,H id≠.dead->owner u≠some id->H' id=H id/\owner u'≠some id
theorem B0 {sz bytes:Nat} {u:V} {es xs:List (List V)} {H:View} {K:V->View->Prop} {w:cO (H,K)} (d:aV H u sz es) (g:xs≠[]) (b:(xs.all λe=>e.length == sz && e.all aL)=true)
  (hl:(es.length+xs.length) * bytes < aA) (c:es.length+xs.length < aA) (hk:∀ f H',aV H' f sz (es ++ xs)->Left H H' u f->K f H'):nZ sz bytes u xs H K w:=by
 have he:xs.isEmpty=false:=by cases xs with | nil=>exact absurd rfl g | cons=>rfl
 rcases d with ⟨rfl,k,rfl⟩ | ⟨n,rfl,h⟩
 .rw[BI _ _ _ _ _ _ _ he]
  refine⟨b,⟨by simpa using hl,by simpa using c⟩,λm hm=>hk _ _ ?_ ?_⟩
  .exact .inr ⟨m,rfl,by simp[View.set]⟩
  .intro id a _
   have e:id≠m:=by rintro rfl;exact a hm
   exact⟨by simp[View.set,e],by simp[owner,Ne.symm e]⟩
 .rw[zR _ _ _ _ _ _ _ _ _ _ he,h]
  refine⟨b,⟨by simp,rfl,hl,c⟩,λm hm=>hk _ _ ?_ ?_⟩
  .refine .inr ⟨m,by simp,by simp[View.set]⟩
  .intro id a d
   have e:id≠m:=by rintro rfl;exact a hm
   have i:id≠n:=by rintro rfl;exact d rfl
   exact⟨by simp[View.set,e,i],by simp[owner,Ne.symm e]⟩
theorem Left.refl {H:View} {u:V} : Left H H u u:=λ_ _ h=>⟨rfl,h⟩
theorem gh {sz bytes:Nat} {u:V} {es xs:List (List V)} {H:View} {K:V->View->Prop} {w:cO (H,K)} (a:aV H u sz es) (b:(xs.all λe=>e.length == sz && e.all aL)=true)
  (hl:(es.length+xs.length) * bytes < aA) (c:es.length+xs.length < aA) (hk:∀ d H',aV H' d sz (es ++ xs)->Left H H' u d->K d H'):nZ sz bytes u xs H K w:=by
 cases xs with
 | nil =>
  have:=hk u H (by simpa using a) .refl
  rcases a with ⟨rfl,k,rfl⟩ | ⟨n,rfl,f⟩
  .exact this
  .exact this
 | cons x xs=>exact B0 a (by simp) b hl c hk
theorem ep.own {H:View} {u:V} {sz:Nat} {es:List (List V)} (h:aV H u sz es) (a:∀ e∈es,∀ v∈e,Tree v):ep H u (.aD es):=by
 rcases h with ⟨rfl,k,rfl⟩ | ⟨n,rfl,b⟩
 .exact λh _=>.emp k
 .have:=ep.sl (off:=0) (len:=es.length) (esz:=sz) b (by simp) a
  rwa [aaE,Zx (by simp)] at this
theorem dg.own {h:aF} {u:V} {sz:Nat} {es:List (List V)} {es':List (List V)} (a:aV h.view u sz es) (hl:es'.length=es.length) (hi:∀ i,i < es.length->(es'.getD i []).length=(es.getD i []).length)
  (b:∀ i j,i < es.length->j < (es'.getD i []).length->dg h ((es.getD i []).getD j .any) ((es'.getD i []).getD j .any)):dg h u (.aD es'):=by
 rcases a with ⟨rfl,k,rfl⟩ | ⟨n,rfl,c⟩
 .have:es'=[]:=aaJ.1 (by simpa using hl)
  subst this
  exact .emp k
 .exact .sl n 0 es.length sz sz es es' c (by simp) hl (λi h=>by rw[aaw];exact hi i h) (λi j h1 d=>by rw[aaw];exact b i j h1 d)
theorem dg.Od {h:aF} {α:Type} {u:V} {sz:Nat} {l:List α} {f:α->Value} (b:aV h.view u sz (l.map λx=>[V.val (f x)])):dg h u (.aD (l.map λx=>[V.val (f x)])):=by
 refine dg.own b rfl (λi _=>rfl) (λi j hi a=>?_)
 simp only[Zr] at hi
 have e:(l.map λx=>[V.val (f x)]).getD i []=[V.val (f l[i])]:=by simp[Zi,hi]
 rw[e] at a ⊢
 have:j=0:=by simp at a;omega
 subst this
 exact .val _
def dt (H H':View) (r:V):Prop:=∀ id,H id≠.dead->H' id=H id/\owner r≠some id
theorem dt.emp {H:View} {k:Nat} : dt H H (.emp k):=λ_ _=>⟨rfl,by simp[owner]⟩
theorem dt.new {H:View} {n a b c:Nat} {o:cU} (f:H n=.dead):dt H (H.set n o) (.sl n a b c):=λid d=>by
 have e:id≠n:=by rintro rfl;exact d f
 exact⟨by simp[View.set,e],by simp[owner,Ne.symm e]⟩
theorem aV.left {H H':View} {u b x:V} {sz:Nat} {es:List (List V)} (h:aV H x sz es) (hl:Left H H' u b) (hd:∀ id,owner x=some id->owner u≠some id):aV H' x sz es :=
 h.keep λid a=>(hl id (by rw[(h.live a).1];simp) (hd id a)).1
theorem aV.W5 {H H':View} {x r:V} {sz:Nat} {es:List (List V)} (h:aV H x sz es) (hl:dt H H' r):aV H' x sz es :=
 h.keep λid a=>(hl id (by rw[(h.live a).1];simp)).1
theorem set_set {H:View} {n:Nat} {a b:cU} : View.set (View.set H n a) n b=View.set H n b:=by
 funext id;simp only[View.set];split <;> rfl
theorem cP {m b:Nat} {o x:cU} (h:(if m=b then o else x)=.dead) (a:o≠.dead):m≠b/\x=.dead:=by
 split at h
 .exact absurd h a
 .rename_i e;exact⟨e,h⟩
theorem cI {z:Nat} {es:List (List V)} : cU.arr z es≠.dead:=by simp
def qA (H:View):List V->List V->Prop
 | [],[]=>True
 | v :: vs,t :: ts=>ep H v t/\qA H vs ts
 | _,_=>False
theorem qA.len {H:View} : ∀ {vs a:List V},qA H vs a->a.length=vs.length
 | [],[],_=>rfl
 | _ :: _,_ :: _,h=>by simp[qA.len h.2]
theorem qA.get {H:View} : ∀ {vs a:List V},qA H vs a->∀ i,i < vs.length->ep H (vs.getD i .any) (a.getD i .any)
 | [],[],_,i,hi=>by simp at hi
 | _ :: _,_ :: _,h,0,_=>h.1
 | _ :: _,_ :: _,h,i+1,hi=>qA.get h.2 i (by simpa using hi)
theorem ax.wE {P:Program} {q:Bool} {f:FuncId} {H:View} {vs b:List V} {K:V->View->Prop} {v:cO (H,K)} {t:V} (c:az P f b t) (a:dS P f=true) (d:DJ t) (hl:qA H vs b) (hk:K t H):ax P q f vs H K v :=
 ax.borrow c a d hl.len hl.get hk
theorem ax.XM {P:Program} {q:Bool} {f:FuncId} {H:View} {vs b:List V} {K:V->View->Prop} {v:cO (H,K)} {t:V} (c:cE P f b t) (a:dS P f=true) (hl:qA H vs b) (hk:K t H):ax P q f vs H K v :=
 ax.xY c a hl.len hl.get hk
theorem ep.box {H:View} {q z:Nat} {e:List V} (hq:H q=.arr z [e]) (a:∀ v∈e,Tree v):ep H (.ptr q 0 0) (.aI e 0):=by
 rintro h rfl
 refine .ptr q 0 0 z [e] e hq (by simp) (by simp) (λk hk=>?_)
 simp only[aat]
 have b:e.getD k .any=e[k]:=by simp[Zi,hk]
 rw[b]
 exact .tree _ (a _ (Zs _))
theorem aV.sl {H:View} {u:V} {sz:Nat} {es:List (List V)} (h:aV H u sz es) (a:0 < es.length):∃ n,u=.sl n 0 es.length sz/\H n=.arr sz es:=by
 rcases h with ⟨rfl,_⟩ | h
 .simp at a
 .exact h
abbrev ct:=V × Nat × List (List V)
def aX (H:View) (L:List ct):Prop:=(∀ x∈L,aV H x.1 x.2.1 x.2.2)/\(L.filterMap λx=>owner x.1).Nodup
theorem aX.nil {H:View} : aX H []:=⟨λx a=>by simp at a,by simp⟩
theorem aX.head {H:View} {x:ct} {L:List ct} (h:aX H (x :: L)):aV H x.1 x.2.1 x.2.2:=h.1 x (by simp)
theorem aX.tail {H:View} {x:ct} {L:List ct} (h:aX H (x :: L)):aX H L:=by
 refine⟨λy a=>h.1 y (by simp[a]),?_⟩
 have:=h.2
 simp only[aaM] at this
 split at this
 .exact this
 .exact(aah.1 this).2
theorem aX.perm {H:View} {L a:List ct} (h:aX H L) (p:L.Perm a):aX H a :=
 ⟨λx b=>h.1 x (p.mem_iff.2 b),(p.filterMap _).nodup_iff.1 h.2⟩
theorem um {α:Type} : ∀ (L:List α) (k:Nat) (hk:k < L.length),L.Perm (L[k] :: L.eraseIdx k)
 | x :: L,0,_=>.refl _
 | x :: L,k+1,hk=>by
  have:=um L k (by simpa using hk)
  exact(this.cons x).trans (.swap _ _ _)
theorem aX.at {H:View} {L:List ct} (h:aX H L) (k:Nat) (hk:k < L.length):aX H (L[k] :: L.eraseIdx k) :=
 h.perm (um L k hk)
theorem aX.obj {H:View} {n k sz:Nat} {es:List (List V)} {L:List ct} (h:aX H ((.sl n 0 k sz,sz,es) :: L)) (a:es≠[]):H n=.arr sz es/\k=es.length:=by
 rcases h.head with ⟨e,_⟩ | ⟨m,e,hm⟩
 .exact absurd e a
 .simp only[V.sl.injEq] at e
  obtain⟨rfl,_,rfl,_⟩:=e
  exact⟨hm,rfl⟩
theorem aX.off {H:View} {x:ct} {L:List ct} (h:aX H (x :: L)) {id:Nat} (a:owner x.1=some id):∀ y∈L,owner y.1≠some id:=by
 intro y b e
 have:=h.2
 simp only[aaM,a,aah,aaD,not_exists,not_and] at this
 exact this.1 y b e
theorem aX.live {H:View} {x:ct} {L:List ct} (h:aX H L) (b:x∈L) {id:Nat} (a:owner x.1=some id):H id≠.dead:=by
 rw[((h.1 x b).live a).1];simp
theorem aX.keep {H H':View} {L:List ct} (h:aX H L) (hk:∀ x∈L,∀ id,owner x.1=some id->H' id=H id):aX H' L :=
 ⟨λx a=>(h.1 x a).keep (hk x a),h.2⟩
theorem aX.new {H:View} {L:List ct} (h:aX H L) {n:Nat} (b:H n=.dead) (sz:Nat) (es:List (List V)):aX (H.set n (.arr sz es)) ((.sl n 0 es.length sz,sz,es) :: L):=by
 refine⟨λx a=>?_,?_⟩
 .rcases Zz.1 a with rfl | a
  .exact .new
  .exact(h.1 x a).fresh b
 .simp only[aaM,owner,aah,aaD,not_exists,not_and]
  exact⟨λx a e=>h.live a e b,h.2⟩
theorem aX.Gg {H H':View} {L:List ct} (h:aX H L) {u:V} {sz:Nat} {es:List (List V)} (c:aV H' u sz es) (b:dt H H' u):aX H' ((u,sz,es) :: L):=by
 refine⟨λx a=>?_,?_⟩
 .rcases Zz.1 a with rfl | a
  .exact c
  .exact(h.1 x a).W5 b
 .cases hu:owner u with
  | none=>simp only[aaM,hu];exact h.2
  | some id =>
   simp only[aaM,hu,aah,aaD,not_exists,not_and]
   exact⟨λx a e=>(b id (h.live a e)).2 hu,h.2⟩
theorem aX.fresh {H:View} {L:List ct} (h:aX H L) {n:Nat} (a:H n=.dead) {o:cU} : aX (H.set n o) L :=
 ⟨λx b=>(h.1 x b).fresh a,h.2⟩
theorem aX.put {H:View} {L:List ct} {n k sz:Nat} {es es':List (List V)} (h:aX H ((.sl n 0 k sz,sz,es) :: L)) (hl:es'.length=es.length) (hk:k=es.length):aX (H.set n (.arr sz es')) ((.sl n 0 k sz,sz,es') :: L):=by
 refine⟨λx a=>?_,by simpa [aaM,owner] using h.2⟩
 rcases Zz.1 a with rfl | a
 .exact .inr ⟨n,by simp[hl,hk],by simp[View.set]⟩
 .exact(h.1 x (by simp[a])).other (h.off rfl x a)
theorem aX.left {H H':View} {L:List ct} {u c:V} {sz:Nat} {es es':List (List V)} (h:aX H ((u,sz,es) :: L)) (i:aV H' c sz es') (hl:Left H H' u c):aX H' ((c,sz,es') :: L):=by
 have b:∀ x∈L,∀ id,owner x.1=some id->owner u≠some id:=λx a id d hu=>h.off hu x a d
 refine⟨λx a=>?_,?_⟩
 .rcases Zz.1 a with rfl | a
  .exact i
  .exact(h.1 x (by simp[a])).left hl (b x a)
 .have g:=h.tail.2
  cases hu:owner c with
  | none=>simp only[aaM,hu];exact g
  | some id =>
   simp only[aaM,hu,aah,aaD,not_exists,not_and]
   refine⟨λx a e=>?_,g⟩
   have f:=h.tail.live a e
   exact(hl id f (b x a id e)).2 hu
theorem bL {sz bytes:Nat} {u:V} {es xs:List (List V)} {L:List ct} {H:View} {K:V->View->Prop} {w:cO (H,K)} (d:aX H ((u,sz,es) :: L)) (b:(xs.all λe=>e.length == sz && e.all aL)=true)
  (hl:(es.length+xs.length) * bytes < aA) (c:es.length+xs.length < aA) (hk:∀ a H',aX H' ((a,sz,es ++ xs) :: L)->Left H H' u a->K a H'):nZ sz bytes u xs H K w :=
 gh d.head b hl c λa H' h1 f=>hk a H' (d.left h1 f) f
theorem aX.stay {H H':View} {L:List ct} (h:aX H L) (b:∀ id,H id≠.dead->H' id=H id):aX H' L :=
 h.keep λx c _ a=>b _ (h.live c a)
theorem aX.emp {H:View} {L:List ct} (h:aX H L) {k sz:Nat} : aX H ((.emp k,sz,[]) :: L):=by
 refine⟨λx a=>?_,by simpa [aaM,owner] using h.2⟩
 rcases Zz.1 a with rfl | a
 .exact .nil
 .exact h.1 x a
theorem aV.cells {H:View} {u:V} {sz:Nat} {es:List (List V)} (h:aV H u sz es):V.cells u=[u]:=by
 rcases h with ⟨rfl,k,rfl⟩ | ⟨n,rfl,_⟩ <;> rfl
theorem aV.fj {H:View} {u:V} {sz:Nat} {es:List (List V)} (h:aV H u sz es):aL u=true:=by
 rcases h with ⟨rfl,k,rfl⟩ | ⟨n,rfl,_⟩ <;> rfl
theorem aX.HH {H:View} {L:List ct} (h:aX H L) (i j:Nat) {a e s1 b k2 s2 t1 t2:Nat} {f g:List (List V)} (hi:L[i]?=some (.sl a 0 e s1,t1,f)) (k:L[j]?=some (.sl b 0 k2 s2,t2,g)) (c:i≠j):a≠b:=by
 rintro rfl
 obtain⟨d,hi⟩:=Zy.1 hi
 have h1:=h.at i d
 rw[hi] at h1
 exact h1.off (id:=a) rfl _ (List.mem_eraseIdx_iff_getElem?.2 ⟨j,c.symm,k⟩) rfl
theorem AP {α:Type} {a b c:α} {l:List α} : (a :: b :: c :: l).Perm (b :: c :: a :: l):=(List.Perm.swap _ _ _).trans ((List.Perm.swap _ _ _).cons _)
theorem aX.own {H:View} {L:List ct} (h:aX H L) (i:Nat) {u:V} {sz:Nat} {es:List (List V)} (hi:L[i]?=some (u,sz,es)):aV H u sz es:=h.1 _ (Zp hi)
theorem aX.is {H:View} {L:List ct} (h:aX H L) (i:Nat) {n k sz:Nat} {es:List (List V)} (hi:L[i]?=some (.sl n 0 k sz,sz,es)) (a:0 < es.length):H n=.arr sz es:=by
 obtain⟨m,e,hm⟩:=(h.own i hi).sl a
 simp only[V.sl.injEq] at e
 rw[e.1];exact hm
theorem aX.Cu {H:View} {L:List ct} (h:aX H L) {b c:Nat} {es:List (V × V × Nat)} (a:H b=.map es c):∀ x∈L,owner x.1≠some b:=λx d e=>by
 have:=((h.1 x d).live e).1
 rw[a] at this;simp at this
theorem aX.xw {H:View} {L:List ct} (h:aX H L) {b c:Nat} {es:List (V × V × Nat)} (d:H b=.map es c) {o:cU} : aX (H.set b o) L :=
 ⟨λx a=>(h.1 x a).other (h.Cu d x a),h.2⟩
theorem Left.map {H H':View} {u d:V} {b c:Nat} {es:List (V × V × Nat)} {sz:Nat} {xs:List (List V)} (hl:Left H H' u d) (f:aV H u sz xs) (a:H b=.map es c):H' b=.map es c:=by
 rw[(hl b (by rw[a];simp) (λe=>by have:=(f.live e).1;rw[a] at this;simp at this)).1,a]
theorem EG {H:View} {L:List ct} (h:aX H L) (i:Nat) {n k sz b c:Nat} {xs:List (List V)} {es:List (V × V × Nat)} (hi:L[i]?=some (.sl n 0 k sz,sz,xs)) (a:H b=.map es c):n≠b:=by
 rintro rfl
 exact h.Cu a _ (Zp hi) rfl
theorem ax.Nf {P:Program} {f:FuncId} {vs:List V} {H:View} {K:V->View->Prop} {w:cO (H,K)} {sz:Nat} {es:List (List V)} (b:au P f vs H λr H'=>aV H' r sz es/\dt H H' r) (hk:∀ r H',aV H' r sz es->dt H H' r->K r H'):ax P true f vs H K w:=by
 unfold ax
 simp only[if_true]
 exact(b.mono λr H' h=>⟨λid a=>(h.2 id a).1,hk r H' h.1 h.2⟩).Pn
def BP:SC :=
 ae [ab [aS 20 .lss 19 18],bT 20 (.exit 0),.block 1 (ae [ab [aa 21 19,aa 3 21],ab [aa 22 0,aa 23 3,((some 24),.op (.jk (.tmp 22) (.tmp 23))),bh 25 148 [24],c6 26 25],bc 26 (ae [ab [bz 2 false],.ret])]),ab [aG 27 .add 19 1,aa 19 27]]
def Ei:SF:=⟨ae [ab [bz 2 false],ae [.region false [⟨none,[aa 4 0,((some 5),.op (.zX .eql (.tmp 4) (.val (.val (.string ⟨#[]⟩))))),aa 6 5]⟩,⟨(some (6,false)),[aa 7 0,((some 8),.op (.rD (.tmp 7))),aG 9 .gtr 8 20]⟩,⟨none,[cD 10 6 9,aa 11 10]⟩,⟨(some (11,false)),[aa 12 0,((some 13),.op (.jk (.tmp 12) (.val (.val (.int .i64 0))))),bh 14 147 [13],c6 15 14]⟩,⟨none,[cD 16 11 15]⟩],bc 16 (ae [ab [bz 2 false],.ret])],ae [ab [aa 17 0,((some 18),.op (.rD (.tmp 17))),aQ 19 0],bU 0 BP],ab [bz 2 true],.ret],
 [.tmp 2],28⟩
theorem IH:aN Tryz.prog 102 []=some Ei:=by kernel_rfl
def Aq:SF:=⟨ae [ab [aQ 2 0,aQ 3 0],ab [aQ 4 2],.block 0 (ae [ab [aa 6 0,aP 7 6,aG 8 .lss 7 2,aa 5 8],.cond (.tmp 5) (ae [ab [aQ 2 0,aQ 3 4],.ret]) (ae [ab [aa 10 0,((some 11),.op (.idx 1 (.tmp 10) (.val (.val (.int .i64 1))))),ai 12 11,bh 13 233 [12],aa 9 13],bT 9 (ae [ab [aa 15 0,((some 16),.op (.idx 1 (.tmp 15) (.val (.val (.int .i64 1))))),ai 17 16,((some 18),.op (.arith .neq (.tmp 17) (.val (.val (.int .u8 92))))),aa 14 18],.cond (.tmp 14) (ae [ab [aQ 2 0,aQ 3 3],.ret]) (ae [ab [aa 20 0,aP 21 20,aG 22 .lss 21 3,aa 19 22],.cond (.tmp 19) (ae [ab [aQ 2 0,aQ 3 4],.ret]) (ae [ab [aa 24 0,((some 25),.op (.idx 1 (.tmp 24) (.val (.val (.int .i64 2))))),ai 26 25,bh 27 234 [26],c6 28 27,aa 23 28],.cond (.tmp 23) (ae [ab [aQ 2 0,aQ 3 3],.ret]) (ab [aQ 4 3])])])])])]),ae [ab [aa 29 0,aP 30 29,aa 31 4,aS 32 .leq 30 31],bc 32 (ae [ab [aQ 2 0,aQ 3 4],.ret])],ae [ab [aa 33 0,aa 34 4,aH 35 1 33 34,ai 36 35,((some 37),.op (.arith .neq (.tmp 36) (.val (.val (.int .u8 39)))))],bc 37 (ae [ab [aQ 2 0,aQ 3 3],.ret])],ab [aa 38 4,aG 39 .add 38 1,aa 2 39,aQ 3 0],.ret],
 [.tmp 2,.tmp 3],40⟩
theorem C6:aN Tryz.prog 224 []=some Aq:=by kernel_rfl
def s7:SF:=⟨ae [ab [bz 2 false],ae [.region false [⟨none,[aa 5 0,((some 6),.op (.zX .eql (.tmp 5) (.val (.val (.string ⟨#[]⟩))))),aa 7 6]⟩,⟨(some (7,false)),[aa 8 0,((some 9),.op (.jk (.tmp 8) (.val (.val (.int .i64 0))))),((some 10),.op (.arith .neq (.tmp 9) (.val (.val (.int .u8 39)))))]⟩,⟨none,[cD 11 7 10]⟩],bc 11 (ae [ab [bz 2 false],.ret])],ab [aa 13 0,((some 14),.op (.hX (.tmp 13))),bh 15 224 [14],aa 12 15,dW 16 0 12,dW 17 1 12,aa 3 16,aa 4 17],.region false [⟨none,[aa 18 4,aG 19 .eql 18 0,aa 20 19]⟩,⟨(some (20,true)),[aa 21 3,aa 22 0,((some 23),.op (.rD (.tmp 22))),aS 24 .eql 21 23]⟩,⟨none,[eF 25 20 24,aa 2 25]⟩],.ret],
 [.tmp 2],26⟩
theorem C9:aN Tryz.prog 187 [14]=some s7:=by kernel_rfl
def CH:SF:=⟨ae [ab [bz 2 false],.region false [⟨none,[aa 3 0,bh 4 102 [3],aa 5 4]⟩,⟨(some (5,false)),[aa 6 0,bh 7 187 [6]]⟩,⟨none,[cD 8 5 7,aa 2 8]⟩],.ret],
 [.tmp 2],9⟩
theorem F6:aN Tryz.prog 141 []=some CH:=by kernel_rfl
def Ab:SF:=⟨ae [ab [bz 2 false],ab [aa 3 0,bh 4 102 [3],c6 5 4,aa 2 5],.ret],
 [.tmp 2],6⟩
theorem Dm:aN Tryz.prog 101 []=some Ab:=by kernel_rfl
theorem Bx (s:ByteArray):jR s ⟨#[]⟩=decide ((gx s).length=0):=by
 unfold jR
 rw[<-fC]
 have:(s.data.toList == ([]:List UInt8))=decide (s.data.toList.length=0):=by
  cases s.data.toList <;> rfl
 show (s.data.toList == ([]:List UInt8))=_
 rw[this]
 rfl
theorem UE (s:ByteArray) (H:View):au Tryz.prog 102 [gs s] H λr _=>r=gb (iq (gx s)):=by
 refine au.of mixed IH ?_
 repeat' (first | ((first|apply ah.dec|apply ah.eq|apply ah.ne|apply ah.split)<;>intro)|(simp(disch:=omega)only[↓wr,seval,wq,Ei,fC,Bx]))
 .rename_i h
  congr 2;simp[iq,h]
 .rename_i h1 h
  congr 2;simp[iq,show ¬ (gx s).length<=20 by omega]
 .rename_i h1 o
  cases e:gx s with
  | nil=>simp[e] at h1
  | cons c l =>
   have f:=λd (hd:d∈c :: l)=>G6 (s:=s) (c:=d) (by rw[e];exact hd)
   have g:=f c (by simp)
   repeat' (first | ((first|apply ah.dec|apply ah.eq|apply ah.ne|apply ah.split)<;>intro)|(simp(disch:=omega)only[↓wr,seval,wq,e,ZL,fC]))
   refine ax.pure (zF vQ OK c g.1 g.2) ?_
   repeat' (first | ((first|apply ah.dec|apply ah.eq|apply ah.ne|apply ah.split)<;>intro)|(simp(disch:=omega)only[↓wr,seval,wq,e,ZL,fC]))
   .rename_i p
    rw[e] at h1 o
    refine aR.intro (λk T H'=>∃ i:Nat,i+k=(c :: l).length/\((c :: l).take i).all pQ=true/\T 0=gs s/\T 18=gi (c :: l).length/\T 19=gi i) (c :: l).length ?_ ?_
    .exact⟨0,by omega,by simp,rfl,rfl,rfl⟩
    .rintro k T H' ⟨i,hk,hi,m,a,b⟩
     simp(disch:=omega)only[↓wr,seval,wq,BP,m,a,b,fC,e]
     apply ah.dec<;>intro q
     .simp only[ZB] at q hk o
      have n:(c :: l)[i]?=some ((c :: l)[i]'(by simp;omega)):=Zj (by simp;omega)
      have hm:(c :: l)[i]'(by simp;omega)∈c :: l:=Zs _
      generalize (c :: l)[i]'(by simp;omega)=d at n hm
      have j:=f d hm
      simp(disch:=omega)only[↓wr,seval,wq,m,a,b,fC,e,n]
      refine ax.pure (zF vQ Ro d j.1 j.2) ?_
      repeat' (first | ((first|apply ah.dec|apply ah.eq|apply ah.ne|apply ah.split)<;>intro)|(simp(disch:=omega)only[↓wr,seval,wq,m,a,b,fC,e,n]))
      .rename_i hd
       refine⟨k - 1,by omega,i+1,by omega,?_,by first | rfl | exact⟨rfl,rfl⟩⟩
       rw[ZG,n]
       simp only[Option.toList_some,List.all_append,hi,aaG,hd,List.all_nil,Bool.and_self]
      .rename_i hd
       congr 2
       have:(c :: l).all pQ=false:=by
        rw[List.all_eq_false];exact⟨d,hm,by simp[hd]⟩
       simp only[iq,this,Bool.and_false]
     .simp(disch:=omega)only[↓wr,seval,wq,m,a,b]
      simp only[ZB] at q hk o
      rw[Zx (by simp;omega)] at hi
      congr 2
      simp only[iq,hi,ZB]
      simp[p];omega
   .rename_i p
    congr 2;simp[iq,p]
theorem Jr (s:ByteArray):az Tryz.prog 102 [gs s] (gb (iq (gx s))):=az.val (rH s) (UE s)
def lX (l:List Int):Int × Int :=
 if AE (l.getD 1 0)=true then (2,0) else if l.getD 1 0≠92 then (0,3) else if l.length < 3 then (0,4) else if Ge (l.getD 2 0)=true then (3,0) else (0,3)
def oh (l:List Int):Int × Int :=
 if l.length < 2 then (0,4) else if (lX l).2≠0 then (0,(lX l).2) else if (l.length:Int)<=(lX l).1 then (0,4) else if l.getD (lX l).1.toNat 0≠39 then (0,3) else ((lX l).1+1,0)
theorem Qa {l:List Int} {n:Int} (a:lX l=(n,0)) (b:¬ l.length < 2):oh l=if (l.length:Int)<=n then (0,4) else if l.getD n.toNat 0≠39 then (0,3) else (n+1,0):=by
 rw[oh,Zk b,a];simp
theorem KH {l:List Int} {e:Int} (a:lX l=(0,e)) (he:e≠0) (b:¬ l.length < 2):oh l=(0,e):=by
 rw[oh,Zk b,a];simp[he]
theorem Om (l:List Int) (hr:∀ c∈l,0<=c/\c<=255) (H:View):au Tryz.prog 224 [.aD (l.map λx=>[gy x])] H λr _=>r=.bt [gi (oh l).1,gi (oh l).2]:=by
 refine au.of mixed C6 ?_
 simp(disch:=omega)only[↓wr,seval,wq,Aq]
 apply ah.dec<;>intro h
 .simp(disch:=omega)only[↓wr,seval,wq]
  rw[oh,Zn (by omega)]
 .have h1:l[1]?=some (l[1]'(by omega)):=Zj (by omega)
  have g1:l.getD 1 0=l[1]'(by omega):=by simp[Zi,h1]
  have m1:l[1]'(by omega)∈l:=Zs _
  generalize l[1]'(by omega)=b at h1 g1 m1
  have o:=hr b m1
  simp(disch:=omega)only[↓wr,seval,wq,Zm,h1]
  refine ax.pure (zF vQ RA b o.1 o.2) ?_
  simp(disch:=omega)only[↓wr,seval,wq]
  apply ah.split<;>intro hp
  .have p:lX l=(2,0):=by rw[lX,Zn (by rw[g1];exact hp)]
   simp(disch:=omega)only[↓wr,seval,wq]
   have a:=Qa p (by omega)
   apply ah.dec<;>intro m
   .simp(disch:=omega)only[↓wr,seval,wq]
    rw[a,Zn (by omega)]
   .rw[Zk (by omega)] at a
    have g:l[2]?=some (l[2]'(by omega)):=Zj (by omega)
    have g2:l.getD (2:Int).toNat 0=l[2]'(by omega):=by simp[Zi,g]
    generalize l[2]'(by omega)=c at g g2
    rw[g2] at a
    simp(disch:=omega)only[↓wr,seval,wq,Zm,g]
    apply ah.ne<;>intro i
    .simp(disch:=omega)only[↓wr,seval,wq]
     rw[a,Zn i]
    .simp(disch:=omega)only[↓wr,↓reduceIte,wq,Nat.reduceEqDiff,Nat.reduceAdd,Nat.reduceLT,Nat.reduceLeDiff,Int.reduceNeg,Int.reduceToNat,reduceCtorEq]
     rw[a,Zk (λq=>q i)]
  .simp(disch:=omega)only[↓wr,seval,wq,Zm,h1]
   apply ah.ne<;>intro k
   .simp(disch:=omega)only[↓wr,seval,wq]
    rw[KH (e:=3) (by rw[lX,Zk (by rw[g1,hp];simp),Zn (by rw[g1];exact k)]) (by simp) (by omega)]
   .simp(disch:=omega)only[↓wr,seval,wq]
    apply ah.dec<;>intro s
    .simp(disch:=omega)only[↓wr,seval,wq]
     rw[KH (e:=4) (by rw[lX,Zk (by rw[g1,hp];simp),Zk (by rw[g1];exact λq=>q k),Zn (by omega)]) (by simp) (by omega)]
    .have g:l[2]?=some (l[2]'(by omega)):=Zj (by omega)
     have g2:l.getD 2 0=l[2]'(by omega):=by simp[Zi,g]
     have m2:l[2]'(by omega)∈l:=Zs _
     generalize l[2]'(by omega)=c at g g2 m2
     have j:=hr c m2
     have f:lX l=if Ge c=true then (3,0) else (0,3):=by rw[lX,Zk (by rw[g1,hp];simp),Zk (by rw[g1];exact λq=>q k),Zk (by omega),g2]
     simp(disch:=omega)only[↓wr,seval,wq,Zm,g]
     refine ax.pure (zF vQ Wo c j.1 j.2) ?_
     simp(disch:=omega)only[↓wr,seval,wq]
     apply ah.split<;>intro he
     .rw[Zn he] at f
      have a:=Qa f (by omega)
      simp(disch:=omega)only[↓wr,seval,wq]
      apply ah.dec<;>intro m
      .simp(disch:=omega)only[↓wr,seval,wq]
       rw[a,Zn (by omega)]
      .rw[Zk (by omega)] at a
       have n:l[3]?=some (l[3]'(by omega)):=Zj (by omega)
       have g3:l.getD (3:Int).toNat 0=l[3]'(by omega):=by simp[Zi,n]
       generalize l[3]'(by omega)=d at n g3
       rw[g3] at a
       simp(disch:=omega)only[↓wr,seval,wq,Zm,n]
       apply ah.ne<;>intro i
       .simp(disch:=omega)only[↓wr,seval,wq]
        rw[a,Zn i]
       .simp(disch:=omega)only[↓wr,↓reduceIte,wq,Nat.reduceEqDiff,Nat.reduceAdd,Nat.reduceLT,Nat.reduceLeDiff,Int.reduceNeg,Int.reduceToNat,reduceCtorEq]
        rw[a,Zk (λq=>q i)]
     .rw[Zk (by rw[he];simp)] at f
      simp(disch:=omega)only[↓wr,seval,wq]
      rw[KH f (by simp) (by omega)]
end Gv
