/-
  Part 7 of the proof: what the machine does and what the functions answer.
  Conditions: those that each lemma names.
-/
import Derived.Test.YtihmlbdfcmfbdaaGreatSGzB4F
set_option linter.unusedSimpArgs false
set_option linter.unusedVariables false
set_option maxRecDepth 100000
set_option maxHeartbeats 20000000
namespace Gv
open Go Go.Proofs
section
variable {P:Program} {n:Nat} {all:List Oper}
def jw (h:aC) (e:ES):Prop:=e.V=h.view∧e.n=h.length
def Calm (e e':ES) (h h':aC):Prop:=h.length≤h'.length∧(∀ id,id < h.length→¬ id∈e'.w→h'.view id=h.view id∧¬ id∈e.w)
theorem Calm.trans {a b c:ES} {h1 e f:aC} (x:Calm a b h1 e) (y:Calm b c e f):Calm a c h1 f :=
 ⟨X7 x.1 y.1,fun id d hw =>
  let ⟨g,d1⟩:=y.2 id (XM d x.1) hw
  let ⟨h,d2⟩:=x.2 id d d1
  ⟨g.trans h,d2⟩⟩
theorem Calm.refl (e:ES) (h:aC):Calm e e h h:=⟨Xo _,fun _ _ hw=>⟨rfl,hw⟩⟩
def lh (P:Program) (call:iZ):Prop:=∀ g vs e v e' h,call g vs e=some (v,e')→jw h e →
 dJ P g=true∧∃ h',bS P g vs h v h'∧jw h' e'∧(∀ id,id < h.length→¬ id∈e'.w→h'.view id=h.view id)∧∀ id,id∈e'.w→id < h.length
def xn (P:Program) (run:x8):Prop:=∀ (n:Nat) (fz:List Nat) (c:Code) (sc:DC),jJ P n fz c=some sc→n≤8000→∀ (e e':ES) (r:Exit) (h:aC),run sc e=some (r,e')→jw h e →
 ∃ h',c4 P n c e.T h r e'.T h'∧jw h' e'∧Calm e e' h h'∧∀ c0,c=.loop c0→qG P n c0 e.T h r e'.T h'
theorem OB {h:aC} {e:ES} {d:Option Nat} {v:V} (he:jw h e):jw h (e.put d v):=by cases d <;> exact he
theorem Tu {e:ES} {d:Option Nat} {v:V} : (e.put d v).w=e.w:=by cases d <;> rfl
theorem RE {h:aC} {e e':ES} {b:aC} {d:Option Nat} {v:V} (x:Calm e e' h b):Calm e (e'.put d v) h b:=⟨x.1,fun id a hw=>x.2 id a (by rw[Tu] at hw; exact hw)⟩
theorem Dg {a:Nat} (h:Nat.ble a 8000=true):a+1 < 2 ^ 13:=by
 have:=Nat.le_of_ble_eq_true h
 omega
theorem TT {h:aC} {e e':ES} {v v':V} {eff:bA} {rd:List Nat} {c:Rec} (he:jw h e) (a:G3 v eff rd e=some (v',e',c)) :
  v'=v∧e'.T=e.T∧e'.V=eff.view h.view h.length∧e'.n=(eff.apply h).length∧c=⟨rd,eff.wr,false,h.length,(eff.apply h).length⟩∧e'.w=eff.wr ++ e.w:=by
 obtain ⟨h1,b⟩:=he
 unfold G3 at a
 cases eff with
 | none =>
  simp only[Xe,Xh] at a
  obtain ⟨rfl,rfl,rfl⟩:=a
  exact ⟨rfl,rfl,h1,b,by rw[b]; rfl,rfl⟩
 | new o =>
  simp only at a
  split at a
  ·rename_i d
   simp only[Xe,Xh] at a
   obtain ⟨rfl,rfl,rfl⟩:=a
   refine ⟨rfl,rfl,?_,by simp[hX,b],by simp[hX,b,bA.wr],rfl⟩
   funext k
   simp only[ES.V,bA.view,View.set]
   rw[cK.oq _ _ _ _ _ _ (Dg d),b]
   have:=congrFun h1 k
   simp only[ES.V] at this
   rw[this]
  ·simp at a
 | fk id o =>
  simp only at a
  split at a
  ·rename_i d
   simp only[Xe,Xh] at a
   obtain ⟨rfl,rfl,rfl⟩:=a
   refine ⟨rfl,rfl,?_,by simp[hX,b],by simp[hX,b,bA.wr],rfl⟩
   funext k
   simp only[ES.V,bA.view,View.set]
   rw[cK.oq _ _ _ _ _ _ (Dg d)]
   have:=congrFun h1 k
   simp only[ES.V] at this
   rw[this]
  ·simp at a
 | fa id o =>
  simp only at a
  split at a
  ·rename_i f g
   simp only[Xe,Xh] at a
   obtain ⟨rfl,rfl,rfl⟩:=a
   refine ⟨rfl,rfl,?_,by simp[hX,b],by simp[hX,b,bA.wr],rfl⟩
   funext k
   simp only[ES.V,bA.view,View.set]
   rw[cK.oq _ _ _ _ _ _ (Dg f),cK.oq _ _ _ _ _ _ (Dg g),b]
   have:=congrFun h1 k
   simp only[ES.V] at this
   rw[this]
  ·simp at a
theorem UX {o:Oper} {e e':ES} {h:aC} {s:SI} {v:V} {c:Rec} (g:dH n all e.T o=some true) (i:∀ v eff rd,sI P s e.T h.view h.length=some (v,eff,rd)→cp P o e.T h.view h.length=some (v,eff,rd))
  (he:jw h e) (b:Pl P s e=some (v,e',c)):∃ d,dR P n all o e.T h v d c.rd c.wr c.call∧jw d e'∧e'.T=e.T∧Calm e e' h d∧ln (ux P s) c.rd c.wr c.call h.length d.length∧c.lo=h.length∧c.hi=d.length:=by
 unfold Pl at b
 rw[MT,he.1,he.2] at b
 split at b
 ·rename_i v0 eff rd hs
  obtain ⟨rfl,g1,g2,g3,rfl,g5⟩:=TT he b
  have f:=i _ _ _ hs
  have st:=dR.op (P:=P) (n:=n) (all:=all) g f
  refine ⟨eff.apply h,st,⟨?_,g3⟩,g1,⟨uD st,fun id a hw=>?_⟩,⟨fun j=>?_,fun h1=>?_⟩,rfl,rfl⟩
  ·rw[mg (fun id a=>(nq f id a).1)]; exact g2
  ·rw[g5] at hw
   simp only[XE,not_or] at hw
   exact ⟨sC st a hw.1,hw.2⟩
  ·obtain ⟨rfl,rfl⟩:=(sL hs).1 j
   exact ⟨rfl,rfl,rfl,rfl⟩
  ·rcases XB (ux P s) 1 with k | k
   ·obtain ⟨rfl,rfl⟩:=(sL hs).1 (by omega); rfl
   ·exact (sL hs).2 (by omega)
 ·simp at b
theorem Vx {call:iZ} (i:lh P call) {p:Fz} {o:Oper} {e e':ES} {h:aC} {v:V} {c:Rec} (q:dH n all e.T o=some true) (he:jw h e) (a:eB P call (nf P p o) e=some (v,e',c)) :
  ∃ j,dR P n all o e.T h v j c.rd c.wr c.call∧jw j e'∧e'.T=e.T∧Calm e e' h j∧ln (jz P false (nf P p o)) c.rd c.wr c.call h.length j.length∧c.lo=h.length∧c.hi=j.length:=by
 rcases A6 P p o with ⟨f,args,A,l,b | b⟩ | ⟨t,x,l,b⟩ | ⟨s,d,x,l,r,b⟩ | b
 rotate_left
 ·rw[b] at a
  simp[eB] at a
 rotate_right
 ·rw[b] at a ⊢
  simp only[eB,Qf] at a
  split at a
  ·rename_i g first cap z
   rw[DU] at a
   rw[SX.cP] at z
   split at a
   ·rename_i v0 E B
    obtain ⟨k,j,hr,m,hd,u⟩:=i _ _ _ _ _ _ B he
    simp only[Xe,Xh] at a
    obtain ⟨rfl,rfl,rfl⟩:=a
    exact ⟨j,.call q l z k hr hd u,m,rfl,⟨hr.1,fun id w hw=>by
     simp only[XE,not_or] at hw
     exact ⟨hd id w hw.1,hw.2⟩⟩,Tw (by simp[jz]),he.2,m.2⟩
   ·simp at a
  ·simp at a
 ·rw[b] at a ⊢
  simp only[eB,Pl,MT,sI,SX.cP] at a
  split at a
  ·rename_i v0 eff rd hs
   split at hs
   ·rename_i k
    simp only[Xe,Xh] at hs
    obtain ⟨rfl,rfl,rfl⟩:=hs
    simp only[G3,Xe,Xh] at a
    obtain ⟨rfl,rfl,rfl⟩:=a
    exact ⟨h,.jQ q l k,he,rfl,Calm.refl _ _,⟨fun _=>⟨rfl,rfl,rfl,rfl⟩,fun _=>rfl⟩,he.2,he.2⟩
   ·simp at hs
  ·simp at a
 ·rw[b] at a ⊢
  obtain ⟨ty,h1,C,D⟩:=Bd r
  simp only[eB,Pl,MT,sI,SX.cP] at a
  split at a
  ·rename_i v0 eff rd hs
   split at hs
   ·rename_i st y
    simp only[Xe,Xh] at hs
    obtain ⟨rfl,rfl,rfl⟩:=hs
    simp only[G3,Xe,Xh] at a
    obtain ⟨rfl,rfl,rfl⟩:=a
    exact ⟨h,.gH q l h1 C D y,he,rfl,Calm.refl _ _,⟨fun _=>⟨rfl,rfl,rfl,rfl⟩,fun _=>rfl⟩,he.2,he.2⟩
   ·simp at hs
  ·simp at a
 ·rw[b] at a ⊢
  exact UX (s:=zw P p.fr (comp P o)) q (fun v eff rd hs=>KC (LK hs)) he a
theorem Vg {o:Oper} (hd:sD n o=true) (a:n≤8000):∀ t,o.dst=some t→t < 8000:=by
 intro t b
 unfold sD at hd
 rw[b] at hd
 have:t < n:=by simpa using hd
 exact XM this a
theorem TY {c:Rec} {a b:Nat} (h1:c.lo=a) (d:c.hi=b):c=⟨c.rd,c.wr,c.call,a,b⟩:=by cases c; subst h1; subst d; rfl
theorem Jy {call:iZ} (i:lh P call) (N:n≤8000) {R:Fz} (g:Option (Nat × Bool)):∀ (l:List (Option Nat × SB)) (os:List Oper) (e e':ES) (h:aC) (a u:List Rec),
  dN P n all R os=some (l.map fun (d,b)=>⟨d,g,b⟩)→(∀ d w,g=some (d,w)→e.T d=.val (.bool w)∧(l.all fun x=>x.1 != some d)=true)→jw h e→LJ P call l a e=some (e',u) →
  ∃ f z,u=a ++ f∧Tr P n all os e.T h f e'.T z∧jw z e'∧Calm e e' h z∧gD P false (l.map fun (d,b)=>⟨d,g,b⟩) f
 | [],os,e,e',h,a,u,A,B,he,k=>by
  have:=l0 A; subst this
  simp only[LJ,Xe,Xh] at k; obtain ⟨rfl,rfl⟩:=k
  exact ⟨[],h,by simp,.nil,he,Calm.refl _ _,.nil⟩
 | (d,b) :: l,os,e,e',h,a,u,A,B,he,k=>by
  obtain ⟨o,r,rfl,h1,S⟩:=mY A
  obtain ⟨hd,j,q,s⟩:=tR h1
  simp only at j q s
  have C:dH n all e.T o=some true:=by
   cases g with
   | none=>exact DB s
   | some p =>
    obtain ⟨D,w⟩:=p
    have:=(lU (T:=e.T) s).1 w (B D w rfl).1
    rw[this]; simp
  simp only[LJ] at k
  rw[q] at k
  split at k
  ·rename_i v O c U
   obtain ⟨E,st,F,G,H,hl,I,J⟩:=Vx i C he U
   have m:(O.put d v).T=e.T.put o.dst v:=by
    rw[ES.Te (by rw[j]; exact Vg hd N),G,j]
   obtain ⟨f,K,V,Q,L,y,M⟩:=Jy i N g l r (O.put d v) e' E _ u S (fun D w eq=>by
    have:=B D w eq
    simp only[Yv,Xl,Zk,ne_eq] at this
    refine ⟨?_,this.2.2⟩
    rw[← this.1,m,← j]
    cases d with
    | none=>rfl
    | some t=>simp only[Env.put]; rw[Xd]; intro e; subst e; exact this.2.1 rfl) (OB F) k
   rw[m] at Q
   refine ⟨_,K,?_,.cons st hd Q,L,(RE H).trans y,M.cons (by rw[q]; exact hl)⟩
   rw[V,XO,← TY I J]; rfl
  ·simp at k
theorem Hu {C:Fz} (A:n≤8000) (d:Nat) (w:Bool) (h:aC):∀ (l:List (Option Nat × SB)) (os:List Oper) (e e':ES) (a k:List Rec),
  dN P n all C os=some (l.map fun (g,b)=>⟨g,some (d,w),b⟩)→(e.T d=.val (.bool !w)∨e.T d=.bp [])→(l.all fun x=>x.1 != some d)=true→jw h e→xh l a e=(e',k) →
  ∃ c,k=a ++ c∧Tr P n all os e.T h c e'.T h∧jw h e'∧e'.w=e.w∧gD P false (l.map fun (g,b)=>⟨g,some (d,w),b⟩) c
 | [],os,e,e',a,k,q,hd,hl,he,m=>by
  have:=l0 q; subst this
  simp only[xh,Xh] at m; obtain ⟨rfl,rfl⟩:=m
  exact ⟨[],by simp,.nil,he,rfl,.nil⟩
 | (g,b) :: l,os,e,e',a,k,q,hd,hl,he,m=>by
  obtain ⟨o,r,rfl,h1,D⟩:=mY q
  obtain ⟨p,f,s,j⟩:=tR h1
  simp only at f s j
  have u:dH n all e.T o=some false:=by
   rcases hd with hd | hd
   ·rw[(lU (T:=e.T) j).1 _ hd]; cases w <;> rfl
   ·exact (lU (T:=e.T) j).2 hd
  simp only[Yv,Xl,Zk,ne_eq] at hl
  have i:(e.put g (.bp [])).T=e.T.put o.dst (.bp []):=by
   rw[ES.Te (by rw[f]; exact Vg p A),f]
  simp only[xh] at m
  obtain ⟨c,E,B,v,y,z⟩:=Hu A d w h l r (e.put g (.bp [])) e' _ k D (by
   have:(e.put g (.bp [])).T d=e.T d:=by
    rw[i,← f]
    cases g with
    | none=>rfl
    | some t=>simp only[Env.put]; rw[Xd]; intro e; subst e; exact hl.1 rfl
   rw[this]; exact hd) hl.2 (OB he) m
  rw[i] at B
  refine ⟨_,?_,Tr.cons (.skip u) p B,v,by rw[y,Tu],z.cons (r:=⟨[],[],false,h.length,h.length⟩) ⟨fun _=>⟨rfl,rfl,rfl,rfl⟩,fun _=>rfl⟩⟩
  rw[E,XO,S4,he.2]; rfl
theorem F9 {j:Fz} (k:n≤8000) {d:Nat} {w:Bool} {h:aC} {l:List (Option Nat × SB)} {os:List Oper} {e e':ES} {a f:List Rec}
  (m:dN P n all j os=some (l.map fun (g,b)=>⟨g,some (d,w),b⟩)) (hd:e.T d=.val (.bool !w)∨e.T d=.bp []) (hl:(l.all fun x=>x.1 != some d)=true) (he:jw h e) (o:xh l a e=(e',f)) :
  ∃ c i,f=a ++ c∧Tr P n all os e.T h c e'.T i∧jw i e'∧Calm e e' h i∧gD P false (l.map fun (g,b)=>⟨g,some (d,w),b⟩) c:=by
 obtain ⟨c,h1,p,q,r,s⟩:=Hu k d w h l os e e' a f m hd hl he o
 exact ⟨c,h,h1,p,q,⟨Xo _,fun id _ hw=>⟨rfl,by rw[r] at hw; exact hw⟩⟩,s⟩
theorem VB {call:iZ} (i:lh P call) (m:n≤8000) {s:Fz} {g:SG} {os:List Oper} {e e':ES} {h:aC} {a o:List Rec} (k:dN P n all s os=some g.flat) (c:uH g=true) (he:jw h e) (f:eG P call g a e=some (e',o)) :
  ∃ j q,o=a ++ j∧Tr P n all os e.T h j e'.T q∧jw q e'∧Calm e e' h q∧gD P false g.flat j:=by
 unfold eG at f
 unfold SG.flat at k ⊢
 unfold uH at c
 split at f
 ·rename_i r
  rw[r] at k ⊢
  exact Jy i m none g.ops os e e' h a o k (fun d w e=>by simp at e) he f
 ·rename_i d want r
  rw[r] at k c ⊢
  simp only at c
  unfold NR at f
  split at f
  ·rename_i b p
   split at f
   ·rename_i l
    simp only[Xe] at f
    have e':b = !want:=by cases b <;> cases want <;> simp_all
    subst e'
    exact F9 m k (.inl p) c he f
   ·rename_i l
    have e':b=want:=by cases b <;> cases want <;> simp_all
    subst e'
    exact Jy i m (some (d,b)) g.ops os e _ h a o k (fun t w e=>by simp at e; obtain ⟨rfl,rfl⟩:=e; exact ⟨p,c⟩) he f
  ·rename_i p
   simp only[Xe] at f
   exact F9 m k (.inr p) c he f
  ·simp at f
theorem PR {call:iZ} (b:lh P call) (z:n≤8000) {A:Fz} : ∀ (gs:List SG) (os:List Oper) (e e':ES) (h:aC) (a i:List Rec),dN P n all A os=some (kW gs)→gs.all uH=true→jw h e→OE P call gs a e=some (e',i) →
  ∃ c k,i=a ++ c∧Tr P n all os e.T h c e'.T k∧jw k e'∧Calm e e' h k∧gD P false (kW gs) c
 | [],os,e,e',h,a,i,j,_,he,d=>by
  have:=l0 j; subst this
  simp only[OE,Xe,Xh] at d; obtain ⟨rfl,rfl⟩:=d
  exact ⟨[],h,by simp,.nil,he,Calm.refl _ _,.nil⟩
 | g :: gs,os,e,e',h,a,i,j,f,he,d=>by
  simp only[kW,XF,List.flatten_cons] at j ⊢
  simp only[Yv,Xl] at f
  obtain ⟨F,B,rfl,h1,C⟩:=rW j
  simp only[OE] at d
  split at d
  ·rename_i D E l
   obtain ⟨G,m,o,p,q,r,s⟩:=VB b z h1 f.1 he l
   obtain ⟨H,t,u,v,w,x,y⟩:=PR b z gs B D e' m E i C f.2 q d
   exact ⟨_,t,by rw[u,o,XO],p.append v,w,r.trans x,s.append y⟩
  ·simp at d
theorem Qs {ls:List Nat} {i k x y:Nat} (a:i < k) (b:ls[i]?=some x) (c:ls[k]?=some y) (d:ordered (fW all []) i k=false) (h:¬ (x=0∨y=0∨(x≤1∧y≤1))):(i,k)∈Dw all ls:=by
 unfold Dw
 simp only[List.mem_flatten,Xw]
 refine ⟨_,⟨(x,i),by rw[Yn]; exact b,rfl⟩,?_⟩
 simp only[Xw,XY]
 refine ⟨(y,k),⟨by rw[Yn]; exact c,?_⟩,rfl⟩
 simp only[a,decide_true,d,Bool.false_or,Ys,Zj,Bool.or_eq_false_iff,beq_eq_false_iff_ne,Bool.and_eq_false_iff,YO]
 omega
theorem RN {ls:List Nat} {d:List Rec} (h:QB d (Dw all ls)=true) (hl:ls.length=d.length) (hr:∀ (i x:Nat) (r:Rec),ls[i]?=some x→d[i]?=some r→ln x r.rd r.wr r.call r.lo r.hi):uQ all d:=by
 intro i k a b l m n t
 have hi:i < d.length:=(Xq.1 m).1
 have hk:k < d.length:=(Xq.1 n).1
 have j:ls[i]?=some (ls[i]'(by omega)):=Xc (by omega)
 have o:ls[k]?=some (ls[k]'(by omega)):=Xc (by omega)
 generalize ls[i]'(by omega)=x at j
 generalize ls[k]'(by omega)=y at o
 have q:=hr i _ a j m
 have s:=hr k _ b o n
 by_cases f:x=0∨y=0∨(x≤1∧y≤1)
 ·rcases f with h1 | h1 | h1
  ·obtain ⟨g,e,p,u⟩:=q.1 h1
   exact ⟨fun id c=>by simp[e] at c,fun id _=>by simp[g],fun f=>by simp[p] at f,fun _=>e,fun id _ j=>by omega⟩
  ·obtain ⟨g,e,p,u⟩:=s.1 h1
   exact ⟨fun id _=>by simp[g],fun id c=>by simp[e] at c,fun _=>e,fun f=>by simp[p] at f,fun id c=>by simp[e] at c⟩
  ·have g:=q.2 h1.1
   have e:=s.2 h1.2
   exact ⟨fun id c=>by simp[g] at c,fun id c=>by simp[e] at c,fun _=>e,fun _=>g,fun id c=>by simp[e] at c⟩
 ·have:=XI.1 h _ (Qs l j o t f)
  simp only[m,n] at this
  exact Qx this
theorem T9 (hm:P.follows .mixedOrders=true) {call:iZ} (g:lh P call) (C:n≤8000) {w:List Nat} {id:Nat} {ops:Array Oper} {draw:Bool} {y:DC} {run:x8} {e e':ES} {r:Exit} {h:aC}
  (c:Hc P n w ops.toList draw=some y) (he:jw h e) (a:nh P call run y e=some (r,e')) :
  ∃ f,c4 P n (.region id ops draw) e.T h r e'.T f∧jw f e'∧Calm e e' h f:=by
 unfold Hc at c
 split at c
 ·simp at c
 ·rename_i l hl
  split at c
  ·simp at c
  ·rename_i j
   have j:(group l).all uH=true:=by simpa using j
   have o:dN P n ops.toList ⟨w,false⟩ ops.toList=some (kW (group l)):=by rw[gU]; exact hl
   have key:∀ p,nh P call run (.region p (group l)) e=some (r,e')→(draw=true→mQ ops.toList=true∧p=Dw ops.toList (l.map fun s=>jz P false s.b)) →
     ∃ f,c4 P n (.region id ops draw) e.T h r e'.T f∧jw f e'∧Calm e e' h f:=by
    intro p a q
    simp only[nh,K2] at a
    split at a
    ·rename_i D d t
     split at a
     ·rename_i m
      simp only[Xe,Xh] at a
      obtain ⟨rfl,rfl⟩:=a
      obtain ⟨z,f,A,B,hk,u,k⟩:=PR g C (group l) ops.toList e D h [] d o j he t
      simp only[Yq] at A
      subst A
      rw[gU] at k
      refine ⟨f,?_,hk,u⟩
      cases hd:draw with
      | false=>simpa using Jq (id:=id) B
      | true =>
       obtain ⟨h1,rfl⟩:=q hd
       have v:uQ ops.toList d:=RN m (by simpa using k.1) (fun i x r a hr=>by
        simp only[Xf,Xn] at a
        obtain ⟨s,hs,rfl⟩:=a
        exact k.2 i s r hs hr)
       simpa using Aj hm (id:=id) B h1 v
     ·simp at a
    ·simp at a
   split at c
   ·rename_i hd
    split at c
    ·rename_i E
     simp at c; subst c
     exact key _ a (fun _=>⟨E,rfl⟩)
    ·simp at c
   ·rename_i hd
    simp at c; subst c
    exact key _ a (fun e=>absurd e hd)
theorem Ss (hm:P.follows .mixedOrders=true) {call:iZ} (q:lh P call) {run:x8} (f:xn P run):xn P (nh P call run):=by
 intro n p c I k o e e' r h g he
 cases c with
 | skip =>
  simp[jJ] at k; subst k
  simp only[nh,PQ,Xe,Xh] at g
  obtain ⟨rfl,rfl⟩:=g
  exact ⟨h,.skip,he,Calm.refl _ _,fun _ h=>by simp at h⟩
 | region id ops draw =>
  obtain ⟨G,a,b,d⟩:=T9 (id:=id) hm q o k he g
  exact ⟨G,a,b,d,fun _ h=>by simp at h⟩
 | seq x y =>
  simp only[jJ] at k
  split at k
  ·rename_i a b h1 B
   simp at k; subst k
   simp only[nh,Vi] at g
   split at g
   ·rename_i s m
    obtain ⟨i,l,j,c1,w⟩:=f n p x a h1 o e s .normal h m he
    obtain ⟨t,E,u,c2,F⟩:=f n p y b B o s e' r i g j
    exact ⟨t,l.seq E,u,c1.trans c2,fun _ h=>by simp at h⟩
   ·rename_i v
    obtain ⟨i,l,j,c1,w⟩:=f n p x a h1 o e e' r h g he
    refine ⟨i,l.K6 (fun e=>?_),j,c1,fun _ h=>by simp at h⟩
    subst e
    exact absurd g (v e')
  ·simp at k
 | cond J x y =>
  simp only[jJ] at k
  split at k
  ·rename_i a b h1 B
   simp at k; subst k
   simp only[nh,SU,SX.cP] at g
   split at g
   ·rename_i C
    obtain ⟨i,l,j,c1,w⟩:=f n p x a h1 o e e' r h g he
    exact ⟨i,.cond C l,j,c1,fun _ h=>by simp at h⟩
   ·rename_i C
    obtain ⟨i,l,j,c1,w⟩:=f n p y b B o e e' r h g he
    exact ⟨i,.cond C l,j,c1,fun _ h=>by simp at h⟩
   ·simp at g
  ·simp at k
 | block id c =>
  simp only[jJ,Xn] at k
  obtain ⟨a,h1,rfl⟩:=k
  simp only[nh,Qv] at g
  split at g
  ·rename_i H s m
   simp only[Xe,Xh] at g
   obtain ⟨rfl,rfl⟩:=g
   obtain ⟨i,l,j,c1,w⟩:=f n p c a h1 o e s H h m he
   exact ⟨i,l.block,j,c1,fun _ h=>by simp at h⟩
  ·simp at g
 | loop c =>
  have D:=k
  simp only[jJ,Xn] at k
  obtain ⟨a,h1,rfl⟩:=k
  simp only[nh,Tf] at g
  split at g
  ·rename_i s m
   obtain ⟨i,l,j,c1,w⟩:=f n p c a h1 o e s .normal h m he
   obtain ⟨t,E,u,c2,F⟩:=f n p (.loop c) (.loop a) D o s e' r i g j
   have z:=qG.step l (F c rfl)
   exact ⟨t,.loop z,u,c1.trans c2,fun c0 A=>by simp only[Code.loop.injEq] at A; subst A; exact z⟩
  ·rename_i v
   obtain ⟨i,l,j,c1,w⟩:=f n p c a h1 o e e' r h g he
   have z:=qG.out l (fun e=>by subst e; exact absurd g (v e'))
   exact ⟨i,.loop z,j,c1,fun c0 A=>by simp only[Code.loop.injEq] at A; subst A; exact z⟩
 | exit id =>
  simp[jJ] at k; subst k
  simp only[nh,Xe,Xh] at g
  obtain ⟨rfl,rfl⟩:=g
  exact ⟨h,.exit,he,Calm.refl _ _,fun _ h=>by simp at h⟩
 | ret =>
  simp[jJ] at k; subst k
  simp only[nh,Xe,Xh] at g
  obtain ⟨rfl,rfl⟩:=g
  exact ⟨h,.ret,he,Calm.refl _ _,fun _ h=>by simp at h⟩
 | _=>simp[jJ] at k
theorem Gf:∀ (vs:List V) (i:Nat) (t:cK V),i+vs.length≤8000→∀ k,(oz vs i t).get .any k=if i≤k∧k < i+vs.length then vs.getD (k - i) .any else t.get .any k
 | [],i,t,h,k=>by
  rw[oz,Xd (by simp only[XN]; omega)]
 | v :: vs,i,t,h,k=>by
  simp only[Xt] at h
  rw[oz,Gf vs (i+1) _ (by omega),cK.oq _ _ _ _ _ _ (by simp only[deep]; omega)]
  simp only[Xt]
  by_cases h1:k=i
  ·subst h1; rw[Xd (by omega),Xg rfl,Xg (by omega)]; simp
  ·by_cases a:i+1≤k∧k < i+1+vs.length
   ·rw[Xg a,Xg (by omega)]
    have:k - i=(k - (i+1))+1:=by omega
    rw[this]; rfl
   ·rw[Xd a,Xd h1,Xd (by omega)]
theorem JT (vs:List V) (h:vs.length≤8000):(oz vs 0 .nil).get .any=lW vs:=by
 funext k
 rw[Gf vs 0 .nil (by omega)]
 simp only[lW,YM,true_and,Yi,Nat.sub_zero]
 split
 ·rfl
 ·rename_i hk
  rw[Xb,XL (by omega)]; rfl
theorem TM {e:ES} {h:aC} {r:ResultVar} {rest:List ResultVar} {l:List SR} (he:jw h e) (c:ga P (r :: rest)=some l):∃ s l',l=s :: l'∧ga P rest=some l'∧∀ v,Sz s e=some v→tg P e.T h r=some v:=by
 cases r with
 | tmp t =>
  simp only[ga,Xn] at c
  obtain ⟨l',h1,rfl⟩:=c
  exact ⟨.tmp t,l',rfl,h1,fun v b=>b⟩
 | cell a t =>
  simp only[ga] at c
  split at c
  ·rename_i k l' h1 g
   simp at c; subst c
   refine ⟨.cell a k,l',rfl,g,fun v b=>?_⟩
   simp only[Sz] at b
   simp only[tg,na,xV h1]
   rw[he.1] at b
   split at b
   ·rename_i id i j d
    split at b
    ·rename_i es hH
     split at b
     ·rename_i f
      rw[d]; simp only[hH]; rw[Xg f,b]; rfl
     ·simp at b
    ·simp at b
   ·rename_i e j d
    rw[d]; simp only; rw[b]; rfl
   ·simp at b
  ·simp at c
theorem ID {e:ES} {h:aC} (he:jw h e):∀ (rs:List ResultVar) (l:List SR) (vs:List V),ga P rs=some l→xw l e=some vs→mW P e.T h rs=some vs
 | [],l,vs,a,hw=>by simp[ga] at a; subst a; simp[xw] at hw; subst hw; rfl
 | r :: rest,l,vs,a,hw=>by
  obtain ⟨s,l',rfl,h1,d⟩:=TM (e:=e) (h:=h) he a
  simp only[xw] at hw
  split at hw
  ·rename_i v b f c
   simp at hw; subst hw
   simp[mW,d v f,ID he rest l' b h1 c]
  ·simp at hw
def sj (P:Program) (tab:List (FuncId × DF)):Prop:=∀ p∈tab,∃ fz,I9 P p.1 fz=some p.2
def tE (P:Program) (ext:zN):Prop:=∀ g vs H t,ext g vs H=some t→dJ P g=true∧∀ h:aC,h.view=H→bS P g vs h t h
theorem Jx {q:List (FuncId × DF)} {ext:zN} (N:sj P q) (z:tE P ext) {run:x8} (s:xn P run):lh P (GY P q ext run):=by
 intro g vs e v e' h b he
 unfold GY at b
 split at b
 ·rename_i t u
  simp only[Xe,Xh] at b
  obtain ⟨rfl,rfl⟩:=b
  obtain ⟨h1,C⟩:=z _ _ _ _ u
  exact ⟨h1,h,C h he.1.symm,he,fun _ _ _=>rfl,fun _ hw=>by simp at hw⟩
 ·split at b
  ·rename_i A F K
   have x:=List.mem_of_find?_eq_some K
   have D:A=g:=by
    have:=List.find?_some K
    exact Y8 this
   subst D
   obtain ⟨O,k⟩:=N _ x
   simp only at k
   unfold I9 at k
   split at k
   ·rename_i fn E
    split at k
    ·rename_i c Q
     split at k
     ·rename_i M rs h1 C R
      simp at k; subst k
      refine ⟨R,?_⟩
      unfold UQ at b
      split at b
      ·rename_i hlen B
       have hlen:=Nat.le_of_ble_eq_true hlen
       have B:=Nat.le_of_ble_eq_true B
       simp only at hlen B
       unfold U2 at b
       split at b
       ·rename_i v1 d f
        simp only[Xe,Xh] at b
        obtain ⟨rfl,rfl⟩:=b
        unfold UG at f
        have go:∀ (r:Exit) (p:ES),(r=.ret∨r=.normal)→run M ⟨oz vs 0 .nil,e.H,e.n,[]⟩=some (r,p)→(xw rs p).map (fun vs=>(xZ vs,p))=some (v1,d) →
          ∃ i,bS P A vs h v1 i∧jw i d∧(∀ id,id < h.length→¬ id∈d.w→i.view id=h.view id):=by
         intro r p hr j o
         simp only[Xn,Xh] at o
         obtain ⟨G,I,rfl,rfl⟩:=o
         obtain ⟨i,z,y,J,_⟩:=s fn.ntmps O c M h1 B _ p r h j he
         have S:(ES.T ⟨oz vs 0 .nil,e.H,e.n,[]⟩)=lW vs:=JT vs (by omega)
         rw[S] at z
         refine ⟨i,bS.Ko E Q hlen z (by rcases hr with rfl | rfl <;> simp) ?_,y,fun id m hw=>(J.2 id m hw).1⟩
         unfold MY
         rw[ID y _ _ _ C I]
         cases G with
         | nil=>rfl
         | cons a l=>cases l <;> rfl
        have done:(∃ i,bS P A vs h v1 i∧jw i d∧(∀ id,id < h.length→¬ id∈d.w→i.view id=h.view id)) →
          ∃ i,bS P A vs h v1 i∧jw i ⟨d.L,d.H,d.n,d.w.filter fun id=>Nat.blt id e.n⟩∧(∀ id,id < h.length→¬ id∈d.w.filter (fun id=>Nat.blt id e.n)→i.view id=h.view id)∧∀ id,id∈d.w.filter (fun id=>Nat.blt id e.n)→id < h.length:=by
         rintro ⟨i,U,k2,V⟩
         refine ⟨i,U,k2,fun id m hw=>V id m (fun hm=>hw ?_),fun id hw=>?_⟩
         ·rw[XY]
          exact ⟨hm,by rw[he.2]; exact Nat.ble_eq_true_of_le m⟩
         ·rw[XY] at hw
          have:=Nat.le_of_ble_eq_true hw.2
          rw[he.2] at this; exact this
        split at f
        ·rename_i p j; exact done (go _ _ (.inl rfl) j f)
        ·rename_i p j; exact done (go _ _ (.inr rfl) j f)
        ·simp at f
       ·simp at b
      ·simp at b
     ·simp at k
    ·simp at k
   ·simp at k
  ·simp at b
theorem K8 (hm:P.follows .mixedOrders=true) {a:List (FuncId × DF)} {ext:zN} (b:sj P a) (d:tE P ext):∀ k,xn P (HK P a ext k)
 | 0=>fun n g c i j l e e' r h hr he=>by simp[HK] at hr
 | k+1=>by
  have f:=K8 hm b d k
  have:=Ss hm (Jx b d f) f
  exact this
end
inductive dB (h:aC):V→V→Prop
 | val (v:Value):dB h (.val v) (.val v)
 | emp (k:Nat):dB h (.emp k) (.aE [])
 | sl (id off len esz z:Nat) (es es':List (List V)):h.view id=.arr z es→off+len≤es.length→es'.length=len →
  (∀ i,i < len→(es'.getD i []).length=(es.getD (off+i) []).length) →
  (∀ i j,i < len→j < (es'.getD i []).length→dB h ((es.getD (off+i) []).getD j .any) ((es'.getD i []).getD j .any))→dB h (.sl id off len esz) (.aE es')
 | agg (cs cs':List V):cs'.length=cs.length→(∀ i,i < cs.length→dB h (cs.getD i .any) (cs'.getD i .any))→dB h (.agg cs) (.agg cs')
 | bp (cs cs':List V):cs'.length=cs.length→(∀ i,i < cs.length→dB h (cs.getD i .any) (cs'.getD i .any))→dB h (.bp cs) (.bp cs')
theorem Ut {h:aC} {Z:Nat→Prop} {μ B:Mu} {F:View} {hp:Array Obj} (hr:iH Z μ hp (cat h F)) {v t:V} (fr:dB h v t):∀ {x:Value},az Z μ hp v x→az (jG μ) B hp t x:=by
 have l:∀ id,h.view id≠.dead→cat h F id=h.view id:=fun id hd=>by simp only[cat]; rw[Xg (iS hd)]
 induction fr with
 | val v=>intro x d; cases d with | val _ s=>exact .val _ s
 | emp k=>intro x d; cases d with | emp _ a=>exact .iX a 0 (fun _=>rfl)
 | sl id off len esz z es es' hH hle hlen hl _ m =>
  intro x d
  cases d with
  | pO _ _ _ a =>
   have:es'=[]:=YD.1 hlen
   subst this
   exact .iX a 0 (fun _=>rfl)
  | sl _ _ _ _ b o0 cap c e f hm C H hs =>
   have o:=hr.obj id
   rw[l id (by rw[hH]; simp),hH] at o
   obtain ⟨rfl,_,D,E⟩:=o b o0 esz hm
   have d:∀ i,∃ ci:Nat→Value,∀ j,j < esz→i < len→cellAt hp b (o0+off * esz+i * esz+j)=some (ci j)∧az Z μ hp ((es.getD (off+i) []).getD j .any) (ci j):=by
    intro i
    by_cases hi:i < len
    ·obtain ⟨ci,u⟩:=pg (n:=esz) (p:=fun j x=>cellAt hp b (o0+off * esz+i * esz+j)=some x∧az Z μ hp ((es.getD (off+i) []).getD j .any) x) (fun j g=>by
      obtain ⟨x,d,s⟩:=E (off+i) j (by omega) g
      rw[X5,← Y4] at d
      exact ⟨x,d,s⟩)
     exact ⟨ci,fun j g _=>u j g⟩
    ·exact ⟨fun _=>undef,fun j _ h=>absurd h hi⟩
   obtain ⟨G,q⟩:=Classical.axiomOfChoice d
   have r:∀ i,i < es'.length→(es'.getD i []).length=esz:=fun i hi=>by rw[hl i (by omega)]; exact D _ (by omega)
   have:=az.aE (Z:=jG μ) (μ:=B) (hp:=hp) es' b (o0+off * esz) esz cap G ⟨id,o0,esz,hm⟩ (by omega) r
    (fun i j hi g=>(q i j g (by omega)).1) (fun i j hi g=>m i j (by omega) (by rw[r i hi]; exact g) (q i j g (by omega)).2)
   rw[hlen] at this
   exact this
 | agg cs w hlen _ m =>
  intro x d
  cases d with
  | agg _ y h1 A=>exact .agg _ _ (by omega) (fun i hi=>m i (by omega) (A i (by omega)))
 | bp cs w hlen _ m =>
  intro x d
  cases d with
  | bp _ y h1 A=>exact .bp _ _ (by omega) (fun i hi=>m i (by omega) (A i (by omega)))
def dc (P:Program) (f:FuncId) (vs:List V) (t:V):Prop :=
 ∀ Z μ (w:World) (xs:List Value),gA Z μ w.heap vs xs→(∀ b,Z b→b < w.heap.size) →
  Calls P f xs.toArray w fun e w'=>∃ x Z',e=.returned x∧(∀ ν,az Z' ν w'.heap t x)∧eM w w'∧(∀ b,Z' b→w.heap.size≤b∧b < w'.heap.size)∧gF w.heap w'.heap (fun _=>False)
theorem dc.pure {P:Program} {f:FuncId} {vs:List V} {t:V} (h:dc P f vs t):aA P f vs t:=by
 intro Z μ w xs a d
 refine (h Z μ w xs a d).mono ?_
 rintro e w' ⟨x,g,rfl,i,hs,c,j⟩
 exact ⟨x,fun b=>Z b∨g b,rfl,fun k=>(i k).mono ⟨fun _ h=>.inr h,fun _ _=>rfl,fun _ _ h=>h,fV.refl _⟩,hs,fun _ h=>.inl h,fun b l=>l.imp id (c b),j⟩
theorem dc.wV {P:Program} {f:FuncId} {vs:List V} {r t:V} {k:aC} (m:∀ v∈vs,Tree v) (n:bS P f vs [] r k) (p:dB k r t):dc P f vs t:=by
 intro Z μ w xs a q
 have c:gA Z (fun _=>none) w.heap vs xs:=⟨a.1,fun i hi=>xi (a.2 i hi) (by
  simp only[Xb,Xc hi,Xu]
  exact m _ (Xm _))⟩
 have g:iH Z (fun _=>none) w.heap (cat [] fun _=>.dead):=by
  rw[D1]
  exact ⟨fun _=>trivial,fun i j b o s y z _ h=>by simp at h,fun id b o s h=>by simp at h,q,fun id b o s h=>by simp at h⟩
 refine (n.2 Z _ _ w xs c g (fun _ _ _=>rfl)).mono ?_
 rintro e w' ⟨x,A,μ',rfl,u,l,hex,_⟩
 refine ⟨x,jG μ',rfl,fun B=>Ut l p u,hex.same,?_,fun b d _=>hex.frame b d (by rintro ⟨_,_,_,h⟩; simp at h)⟩
 rintro b ⟨id,o,s,d⟩
 rcases hex.Cr _ _ _ _ d with h1 | ⟨_,h1 | ⟨_,_,_,h1⟩⟩
 ·simp at h1
 ·exact ⟨h1,l.lt _ _ _ _ d⟩
 ·simp at h1
theorem dc.of {P:Program} {f:FuncId} {vs:List V} {t:V} (b:∀ v∈vs,Tree v) (h:aw P f vs (fun _=>.dead) fun r H'=>∀ a:aC,a.view=H'→dB a r t):dc P f vs t:=by
 obtain ⟨r,a,c,_,d⟩:=h.2 [] Gr
 exact dc.wV b c (d a rfl)
theorem bS.vG {P:Program} {f:FuncId} {j vs:List V} {t:V} {h:aC} (u:dc P f j t) (hl:j.length=vs.length)
  (l:∀ i,i < vs.length→Fr h (vs.getD i .any) (j.getD i .any)):bS P f vs h t h:=by
 refine ⟨Xo _,fun Z μ F w xs c hr m=>?_⟩
 have n:gA (fun b=>Z b∨jG μ b) μ w.heap j xs:=⟨by rw[hl,c.1],fun i hi=>CT hr (l i (by omega)) (c.2 i (by omega))⟩
 have p:∀ b,(Z b∨jG μ b)→b < w.heap.size:=by
  rintro b (a | ⟨id,o,s,a⟩)
  ·exact hr.cQ b a
  ·exact hr.lt _ _ _ _ a
 refine (u _ μ w xs n p).mono ?_
 rintro e w' ⟨x,r,rfl,v,hs,d,k⟩
 have hm:ix Z (fun b=>Z b∨r b) μ μ w.heap w'.heap:=⟨fun _ h=>.inl h,fun b a=>k b (hr.cQ b a) (fun x=>x),fun _ _ h=>h,k.rv⟩
 refine ⟨x,fun b=>Z b∨r b,μ,rfl,(v μ).mono ⟨fun _ h=>.inr h,fun _ _=>rfl,fun _ _ h=>h,fV.refl _⟩,⟨fun id=>(hr.obj id).mono hm rfl (fun b o s g=>k b (hr.lt _ _ _ _ g) (fun x=>x)),hr.inj,fun id b o s g=>XM (hr.lt _ _ _ _ g) hs.size,fun b a=>?_,fun id b o s g q=>?_⟩,
  ⟨hs,hm,fun b a _=>k b a (fun x=>x),fun b a=>a.imp id (fun h=>(d b h).1),fun _ _ _ _ h=>.inl h⟩,fun _ _=>rfl⟩
 ·rcases a with a | a
  ·exact XM (hr.cQ b a) hs.size
  ·exact (d b a).2
 ·rcases q with a | a
  ·exact hr.ie _ _ _ _ g a
  ·have:=hr.lt _ _ _ _ g; have:=(d b a).1; omega
theorem ay.vG {P:Program} {q:Bool} {f:FuncId} {H:View} {vs c:List V} {K:V→View→Prop} {v:cD (H,K)} {t:V} (d:dc P f c t) (a:dJ P f=true) (hl:c.length=vs.length)
  (b:∀ i,i < vs.length→eO H (vs.getD i .any) (c.getD i .any)) (hk:K t H):ay P q f vs H K v:=by
 unfold ay
 cases q with
 | true=>exact ⟨a,fun h e=>⟨t,h,bS.vG d hl (fun i hi=>b i hi h e),fun _ _=>rfl,e ▸ hk⟩⟩
 | false =>
  refine ⟨a,?_⟩
  rintro h rfl
  exact ⟨t,h,bS.vG d hl (fun i hi=>b i hi h rfl),.refl _,hk⟩
noncomputable def oR (fz:V→Option V):List V→Option (List V)
 | []=>some []
 | v :: l=>match fz v,oR fz l with
  | some a,some b=>some (a :: b)
  | _,_=>none
noncomputable def ET (fz:V→Option V):List (List V)→Option (List (List V))
 | []=>some []
 | v :: l=>match oR fz v,ET fz l with
  | some a,some b=>some (a :: b)
  | _,_=>none
noncomputable def z6 (H:View):Nat→V→Option V
 | 0,_=>none
 | k+1,v=>match v with
  | .val x=>some (.val x)
  | .emp _=>some (.aE [])
  | .sl id off len _=>match H id with
   | .arr _ es=>if off+len≤es.length then (ET (z6 H k) ((es.drop off).take len)).map .aE else none
   | _=>none
  | .agg cs=>(oR (z6 H k) cs).map .agg
  | .bp cs=>(oR (z6 H k) cs).map .bp
  | _=>none
theorem iT {c:V→Option V} : ∀ (l l':List V),oR c l=some l'→l'.length=l.length∧∀ i,i < l.length→c (l.getD i .any)=some (l'.getD i .any)
 | [],l',h=>by simp only[oR,Xe] at h; subst h; exact ⟨rfl,fun i hi=>by simp at hi⟩
 | v :: l,l',h=>by
  simp only[oR] at h
  split at h
  ·rename_i a b h1 d
   simp only[Xe] at h; subst h
   obtain ⟨g1,g2⟩:=iT l b d
   refine ⟨by simp[g1],fun i hi=>?_⟩
   cases i with
   | zero=>exact h1
   | succ i=>exact g2 i (by simpa using hi)
  ·simp at h
theorem D9 {c:V→Option V} : ∀ (l l':List (List V)),ET c l=some l'→l'.length=l.length∧∀ i,i < l.length→oR c (l.getD i [])=some (l'.getD i [])
 | [],l',h=>by simp only[ET,Xe] at h; subst h; exact ⟨rfl,fun i hi=>by simp at hi⟩
 | v :: l,l',h=>by
  simp only[ET] at h
  split at h
  ·rename_i a b h1 d
   simp only[Xe] at h; subst h
   obtain ⟨g1,g2⟩:=D9 l b d
   refine ⟨by simp[g1],fun i hi=>?_⟩
   cases i with
   | zero=>exact h1
   | succ i=>exact g2 i (by simpa using hi)
  ·simp at h
theorem Lp (h:aC):∀ (k:Nat) (v t:V),z6 h.view k v=some t→dB h v t
 | 0,v,t,a=>by simp[z6] at a
 | k+1,v,t,a=>by
  have b:=Lp h k
  simp only[z6] at a
  split at a
  ·simp only[Xe] at a; subst a; exact .val _
  ·simp only[Xe] at a; subst a; exact .emp _
  ·rename_i id off len esz
   split at a
   ·rename_i z es hH
    split at a
    ·rename_i hle
     simp only[Xn] at a
     obtain ⟨es',he,rfl⟩:=a
     obtain ⟨g1,g2⟩:=D9 _ _ he
     have hlen:es'.length=len:=by rw[g1]; simp; omega
     have c:∀ i,i < len→((es.drop off).take len).getD i []=es.getD (off+i) []:=fun i hi=>by
      simp[Xb,YN,hi]
     have g3:∀ i,i < len→oR (z6 h.view k) (es.getD (off+i) [])=some (es'.getD i []):=fun i hi=>by
      rw[← c i hi]; exact g2 i (by rw[← g1,hlen]; exact hi)
     exact .sl id off len esz z es es' hH hle hlen (fun i hi=>(iT _ _ (g3 i hi)).1) (fun i j hi d=>b _ _ ((iT _ _ (g3 i hi)).2 j (by rw[← (iT _ _ (g3 i hi)).1]; exact d)))
    ·simp at a
   ·simp at a
  ·simp only[Xn] at a
   obtain ⟨l,hl,rfl⟩:=a
   obtain ⟨g1,g2⟩:=iT _ _ hl
   exact .agg _ _ g1 (fun i hi=>b _ _ (g2 i hi))
  ·simp only[Xn] at a
   obtain ⟨l,hl,rfl⟩:=a
   obtain ⟨g1,g2⟩:=iT _ _ hl
   exact .bp _ _ g1 (fun i hi=>b _ _ (g2 i hi))
  ·simp at a
noncomputable def SY:Option (V × ES)→Option V
 | some (v,e)=>z6 e.V 50 v
 | none=>none
noncomputable def vR (P:Program) (tab:List (FuncId × DF)) (ext:zN) (f:FuncId) (vs:List V):Option V :=
 SY (GY P tab ext (HK P tab ext 100000) f vs ⟨.nil,.nil,0,[]⟩)
theorem sE {P:Program} (hm:P.follows .mixedOrders=true) {a:List (FuncId × DF)} {ext:zN} (c:sj P a) (d:tE P ext) {f:FuncId} {vs:List V} {t:V} (b:∀ v∈vs,Tree v) (h:vR P a ext f vs=some t) :
  dc P f vs t:=by
 unfold vR SY at h
 split at h
 ·rename_i v e hr
  obtain ⟨h1,g,i,j,_⟩:=Jx c d (K8 hm c d 100000) f vs _ v e [] hr ⟨by funext k; rfl,rfl⟩
  rw[j.1] at h
  exact dc.wV b i (Lp g 50 v t h)
 ·simp at h
def Aq (P:Program) (fs:List (FuncId × List Nat)):List (FuncId × DF):=fs.filterMap fun f=>(I9 P f.1 f.2).map (f.1,·)
theorem xU (P:Program) (a:List (FuncId × List Nat)):sj P (Aq P a):=by
 intro p hp
 unfold Aq at hp
 obtain ⟨f,_,h⟩:=Yr.1 hp
 simp only[Xn] at h
 obtain ⟨d,h1,rfl⟩:=h
 exact ⟨f.2,h1⟩
structure ag.dD (g:ag):Prop where
 af:g.af.length≤24
 qU:1≤g.ak.length
 ak:g.ak.length≤16
 WY:1≤g.rules.length
 rules:g.rules.length≤40
 kA:0≤g.start
 start:g.start < g.ak.length
 left:∀ r∈g.rules,0≤r.left∧r.left < g.ak.length
 right:∀ r∈g.rules,r.right.length≤6
 sym:∀ r∈g.rules,∀ s∈r.right,gu g s=true
 prec:∀ r∈g.rules,-1≤r.prec∧r.prec < g.af.length
theorem zZ {g:ag} : ∀ (l:List aW) (top:Int),iA g l top=true→top≤(g.ak.length:Int) - 1∧∀ r∈l,0≤r.left∧r.left < g.ak.length∧jc g r=true
 | [],top,h=>by simp[iA] at h; exact ⟨by omega,fun r hr=>by simp at hr⟩
 | r :: l,top,h=>by
  simp only[iA,Xl,Xr] at h
  obtain ⟨⟨⟨h1,d⟩,a⟩,b⟩:=h
  obtain ⟨e,k2⟩:=zZ l _ b
  have f:r.left≤(if r.left > top then r.left else top):=by split <;> omega
  have i:top≤(if r.left > top then r.left else top):=by split <;> omega
  refine ⟨by omega,fun c hr=>?_⟩
  rcases Xs.1 hr with rfl | hr
  ·exact ⟨h1,by omega,a⟩
  ·exact k2 c hr
theorem bJ {g:ag} (h:bG g=true):g.dD:=by
 simp only[bG,kE,lC,Xl,Xr] at h
 obtain ⟨⟨⟨⟨⟨⟨⟨h1,_⟩,⟨b,c⟩,_⟩,d⟩,e⟩,f⟩,i⟩,j⟩:=h
 have k:=(zZ _ _ j).2
 have a:∀ r∈g.rules,r.right.length≤6∧-1≤r.prec∧r.prec < g.af.length∧∀ s∈r.right,gu g s=true:=fun r hr=>by
  have:=(k r hr).2.2
  simp only[jc,Xl,Xr,XI,nz] at this
  exact ⟨this.1.1.1,this.1.1.2,this.1.2,fun s hs=>(this.2 s hs).1⟩
 exact ⟨h1,b,c,d,e,f,i,fun r hr=>⟨(k r hr).1,(k r hr).2.1⟩,fun r hr=>(a r hr).1,fun r hr=>(a r hr).2.2.2,fun r hr=>⟨(a r hr).2.1,(a r hr).2.2.1⟩⟩
theorem ag.dD.neg {g:ag} (h:g.dD) {r:aW} (hr:r∈g.rules) {s:Int} (hs:s∈r.right) (a:s < 0) : -1 - s < g.ak.length:=by
 have:=h.sym r hr s hs
 simp only[gu] at this
 rw[Xd (by omega)] at this
 simpa using this
theorem He (l:List Int) (is:List Bool) (t:Bool) (hl:aL l) (hs:∀ s∈l,cy s∧(s < 0→-1 - s < is.length)):aA Tryz.prog 117 [encI l,bO is,gb t] (gb (cE l is t)) :=
 aA.val (by
  intro v a; simp at a
  rcases a with rfl | rfl | rfl
  ·exact gp _
  ·exact j7 _
  ·exact .val _) (fun H=>(Vf l is t hl hs H).mono fun r H' h=>h.1)
abbrev dz (is:List Bool):List (List V):=is.map fun x=>[gb x]
theorem zb {h:aC} {id:Nat} {is:List Bool} (b:h.view id=.arr 1 (dz is)):dB h (.sl id 0 is.length 1) (bO is):=by
 refine .sl id 0 is.length 1 1 (dz is) _ b (by simp) (by simp) (fun i hi=>by simp) (fun i j hi a=>?_)
 rw[Yi]
 have e:(dz is).getD i []=[gb is[i]]:=by simp[Xb,hi]
 rw[e] at a ⊢
 have:j=0:=by simp at a; omega
 subst this
 exact .val _
theorem Cj {H:View} {id n:Nat} {is:List Bool} (b:H id=.arr 1 (dz is)) (c:n=is.length):eO H (.sl id 0 n 1) (bO is):=by
 have d:∀ e∈dz is,∀ v∈e,Tree v:=by
  intro e he v b
  obtain ⟨a,_,rfl⟩:=Xw.1 he
  rw[X8] at b
  subst b
  exact .val _
 have:=eO.sl (off:=0) (len:=n) (esz:=1) b (by simp[c]) d
 rwa [Yt,Xv (by simp[c])] at this
theorem lE {is:List Bool} {i:Nat} (h:i < is.length):(dz is).getD i []=[gb is[i]]:=by simp[Xb,h]
theorem lH (is:List Bool) (i:Nat) (b:Bool):(dz is).set i [gb b]=dz (is.set i b):=by simp[YL]
theorem yO (n:Nat) (b:Bool):List.replicate n [gb b]=dz (List.replicate n b):=by simp
def iter {α:Type} (f:α→α):Nat→α→α
 | 0,x=>x
 | n+1,x=>iter f n (f x)
def eC (t:Bool) (is:List Bool) (r:aW):List Bool:=if cE r.right is t=true then is.set r.left.toNat true else is
def kC (g:ag) (t:Bool) (is:List Bool):List Bool:=g.rules.foldl (eC t) is
def cn (g:ag):List Bool:=List.replicate g.ak.length false
def au (g:ag) (t:Bool):List Bool:=if bG g=true then iter (kC g t) g.ak.length (cn g) else []
theorem Ma (t:Bool) (is:List Bool) (r:aW):(eC t is r).length=is.length:=by unfold eC; split <;> simp
def oo:SC :=
 ae [ae [ab [aa 22 7,ao 23 2 2,aj 24 23,aN 25 24,aV 26 .lss 22 25],bY 26 (.exit 2)],.block 3 (ae [ab [ao 29 2 2,aj 30 29,aa 31 7,aQ 32 3 30 31,ao 33 1 32,aj 34 33,aa 35 5,aa 36 1,bz 37 117 [34,35,36]],bf 37 (ab [aa 38 5,ao 39 2 2,aj 40 39,aa 41 7,aQ 42 3 40 41,ao 43 0 42,aj 44 43,aQ 45 1 38 44,(none,.op (.store 1 (.tmp 45) (.val (.val (.bool true)))))])]),ab [aa 27 7,aH 28 .add 27 1,aa 7 28]]
def oB:SC :=
 ae [ae [ab [aa 15 6,ao 16 1 2,aj 17 16,aN 18 17,aV 19 .lss 15 18],bY 19 (.exit 0)],.block 1 (ae [ab [aS 7 0],b6 2 oo]),ab [aa 20 6,aH 21 .add 20 1,aa 6 21]]
def pR:SF:=⟨ae [ab [cI 2 0,df 4 1],ae [ab [bg 8 4 2,bz 9 54 [8],de 10 9],bf 10 (ae [ab [df 4 1],.ret])],ab [ao 11 1 2,aj 12 11,aN 13 12,((some 14),.op (.make 1 1 [(.val (.bool false))] (.tmp 13) (.tmp 13))),aa 5 14],ae [ab [aS 6 0],b6 0 oB],ab [aa 46 5,aa 4 46],.ret],
 [.tmp 4],47⟩
theorem vp:aR Tryz.prog 125 [2]=some pR:=by kernel_rfl
def lN:SF:=⟨ae [ab [cI 1 0,df 2 1],ab [bg 3 4 1,r7 4 125 [(.tmp 3),(.val (.val (.bool true)))],aa 2 4],.ret],
 [.tmp 2],5⟩
theorem rN:aR Tryz.prog 115 [1]=some lN:=by kernel_rfl
theorem Sa (g:ag) (t:Bool):∀ v∈[V.agg (ai g),gb t],Tree v:=by
 intro v a; simp at a
 rcases a with rfl | rfl
 ·exact cq _ (dE g)
 ·exact .val _
theorem SP (g:ag) (C:g.Ok) (t:Bool) (H:View):aw Tryz.prog 125 [.agg (ai g),gb t] H fun r H'=>∀ w:aC,w.view=H'→dB w r (bO (au g t)):=by
 refine aw.of mixed vp ?_
 simp (disch:=omega)only[↓wr,seval,wq,pR,ai,encS]
 refine ay.pure (sJ g C) ?_
 repeat' (first | (refine ah.dec (fun _=>?_) (fun _=>?_)) | (refine ah.eq (fun _=>?_) (fun _=>?_)) | (refine ah.ne (fun _=>?_) (fun _=>?_)) | (refine ah.split (fun _=>?_) (fun _=>?_)) | (simp (disch:=omega)only[↓wr,seval,wq,ai,encS]))
 ·rename_i hr
  have u:=bJ hr
  obtain ⟨D,E⟩:=And.intro u.qU u.ak
  refine ⟨⟨by omega,by unfold aB; omega,by unfold aB; omega⟩,fun M=>by omega,fun _ m hm=>?_⟩
  try simp (disch:=omega)only[↓wr,seval,wq,ai,encS]
  refine aU.intro (fun k T H'=>∃ (i:Nat) (is:List Bool),i+k=g.ak.length∧is.length=g.ak.length∧iter (kC g t) k is=iter (kC g t) g.ak.length (cn g)∧T 1=gb t∧T 2=.aJ (ai g) 0∧T 5=.sl m 0 g.ak.length 1∧H' m=.arr 1 (dz is)∧T 6=gi i) g.ak.length ?_ ?_
  ·refine ⟨0,cn g,by omega,by simp[cn],rfl,?_⟩
   simp (disch:=omega)only[↓wr,↓reduceIte,wq,Nat.reduceEqDiff,Nat.reduceAdd,Nat.reduceLT,Nat.reduceLeDiff,Int.reduceNeg,Int.reduceToNat,reduceCtorEq,ai,encS]
   exact ⟨by rw[yO]; rfl,rfl⟩
  ·rintro k T H' ⟨i,is,hk,hlen,hi,f1,f2,f5,y,f6⟩
   simp (disch:=omega)only[↓wr,seval,wq,oB,f1,f2,f5,f6,ai,encS]
   apply ah.dec<;>intro F
   ·simp (disch:=omega)only[↓wr,seval,wq,f1,f2,f5,f6,ai,encS]
    refine aU.intro (fun x T H'=>∃ (j:Nat) (a:List Bool),j+x=g.rules.length∧a.length=g.ak.length∧(g.rules.drop j).foldl (eC t) a=kC g t is∧T 1=gb t∧T 2=.aJ (ai g) 0∧T 5=.sl m 0 g.ak.length 1∧H' m=.arr 1 (dz a)∧T 6=gi i∧T 7=gi j) g.rules.length ?_ ?_
    ·refine ⟨0,is,by omega,hlen,rfl,?_⟩
     simp (disch:=omega)only[↓wr,↓reduceIte,wq,Nat.reduceEqDiff,Nat.reduceAdd,Nat.reduceLT,Nat.reduceLeDiff,Int.reduceNeg,Int.reduceToNat,reduceCtorEq,f1,f2,f5,f6,y,ai,encS]
     rfl
    ·rintro x N G ⟨j,a,I,b,d,h,l,n,em,o,p⟩
     simp (disch:=omega)only[↓wr,seval,wq,oo,h,l,n,o,p,ai]
     apply ah.dec<;>intro hd
     ·have hle:=u.rules
      have e:g.rules[j]?=some (g.rules[j]'(by omega)):=Xc (by omega)
      rw[fp (show j < g.rules.length by omega)] at d
      have c:g.rules[j]'(by omega)∈g.rules:=Xm _
      generalize g.rules[j]'(by omega)=r at e d c
      simp only[XC] at d
      obtain ⟨J,K⟩:=u.left r c
      obtain ⟨_,_,z,A⟩:=C.ax r c
      have v:=He r.right a t z (fun s hs=>⟨A s hs,fun L=>by have:=u.neg c hs L; omega⟩)
      simp (disch:=omega)only[↓wr,seval,wq,h,l,n,o,p,ai,encS,aP,Xf,e,Xk]
      refine ay.borrow v (by kernel_rfl) (.val _) rfl (fun q hq=>?_) ?_
      ·match q,hq with
       | 0,_=>exact eO.tree (gp _)
       | 1,_=>exact Cj em b.symm
       | 2,_=>exact eO.tree (.val _)
      ·simp (disch:=omega)only[↓wr,seval,wq,h,l,n,o,p,ai,encS,aP,Xf,e,Xk]
       apply ah.split<;>intro B
       ·have f:eC t a r=a.set r.left.toNat true:=by rw[eC,Xg B]
        simp (disch:=omega)only[↓wr,seval,wq,h,l,n,o,p,em,ai,encS,aP,Xf,e,Xk,lE (show r.left.toNat < a.length by omega)]
        rw[f] at d
        exact ⟨by omega,by omega,x - 1,by omega,j+1,a.set r.left.toNat true,by omega,by simp[b],d,by rw[lH],rfl⟩
       ·have f:eC t a r=a:=by rw[eC,Xd (by rw[B]; simp)]
        rw[f] at d
        simp (disch:=omega)only[↓wr,seval,wq,h,l,n,o,p]
        exact ⟨x - 1,by omega,j+1,a,by omega,b,d,by first | rfl | exact ⟨rfl,rfl⟩ | exact ⟨em,rfl⟩ | exact ⟨rfl,em,rfl⟩⟩
     ·rw[XK (by omega),YF] at d
      simp (disch:=omega)only[↓wr,seval,wq,h,l,n,o,p]
      obtain ⟨q,rfl⟩:∃ q,k=q+1:=⟨k - 1,by omega⟩
      exact ⟨q,by omega,i+1,a,by omega,b,by rw[d]; exact hi,rfl,em,rfl⟩
   ·simp (disch:=omega)only[↓wr,seval,wq,f1,f2,f5,f6,y]
    have:k=0:=by omega
    subst this
    rintro w rfl
    simp only[au,Xg hr,← hi,iter]
    rw[← hlen]
    exact zb y
 ·rename_i hr
  rintro w rfl
  simp only[au,hr]
  exact .emp 1
theorem Q8 (g:ag) (a:g.Ok) (t:Bool):dc Tryz.prog 125 [.agg (ai g),gb t] (bO (au g t)):=dc.of (Sa g t) (SP g a t _)
theorem C3 (g:ag) (a:g.Ok) (H:View):aw Tryz.prog 115 [.agg (ai g)] H fun r H'=>r=bO (au g true)∧H'=H:=by
 refine aw.of mixed rN ?_
 simp (disch:=omega)only[↓wr,seval,wq,lN,ai,encS]
 refine ay.pure (Q8 g a true).pure ?_
 simp (disch:=omega)only[↓wr,seval,wq,ai,encS]
theorem tU (g:ag) (a:g.Ok):aA Tryz.prog 115 [.agg (ai g)] (bO (au g true)) :=
 aA.of (fu g) ((C3 g a _).mono fun r H' h b _=>by rw[h.1]; exact .tree _ (j7 _))
def mark (is:List Bool) (s:Int):List Bool:=if s < 0 then is.set (-1 - s).toNat true else is
def gz (p is:List Bool) (r:aW):List Bool:=if (is.getD r.left.toNat false && cE r.right p true)=true then r.right.foldl mark is else is
def pB (g:ag) (p is:List Bool):List Bool:=g.rules.foldl (gz p) is
def bN (g:ag):List Bool:=if bG g=true then iter (pB g (au g true)) g.ak.length ((cn g).set g.start.toNat true) else []
theorem Sn (is:List Bool) (s:Int):(mark is s).length=is.length:=by unfold mark; split <;> simp
theorem Fw:∀ (l:List Int) (is:List Bool),(l.foldl mark is).length=is.length
 | [],_=>rfl
 | s :: l,is=>by rw[XC,Fw l,Sn]
theorem Oi (p is:List Bool) (r:aW):(gz p is r).length=is.length:=by unfold gz; split <;> simp[Fw]
theorem B6 {f:List Bool→List Bool} (a:∀ is,(f is).length=is.length):∀ (n:Nat) (is:List Bool),(iter f n is).length=is.length
 | 0,_=>rfl
 | n+1,is=>by rw[iter,B6 a n,a]
theorem Ca {α:Type} {f:List Bool→α→List Bool} (a:∀ is x,(f is x).length=is.length):∀ (l:List α) (is:List Bool),(l.foldl f is).length=is.length
 | [],_=>rfl
 | x :: l,is=>by rw[XC,Ca a l,a]
theorem gT {g:ag} (h:bG g=true) (t:Bool):(au g t).length=g.ak.length:=by
 have hl:∀ is,(kC g t is).length=is.length:=fun is=>Ca (Ma t) _ _
 rw[au,Xg h,B6 hl]
 simp[cn]
def kR:SC :=
 ae [ae [.region false [⟨none,[aa 41 8,ao 42 1 7,aj 43 42,aN 44 43,aV 45 .lss 41 44,aa 46 45]⟩,⟨(some (46,true)),[aa 47 4,ao 48 0 7,aj 49 48,aQ 50 1 47 49,aj 51 50]⟩,⟨none,[eJ 52 46 51,aa 53 52]⟩,⟨(some (53,true)),[ao 54 1 7,aj 55 54,aa 56 3,r7 57 117 [(.tmp 55),(.tmp 56),(.val (.val (.bool true)))]]⟩,⟨none,[eJ 58 53 57]⟩],bY 58 (.exit 4)],.block 5 (ae [ab [ao 61 1 7,aj 62 61,aa 63 8,aQ 64 1 62 63,aj 65 64,aH 66 .lss 65 0],bf 66 (ab [aa 67 4,ao 68 1 7,aj 69 68,aa 70 8,aQ 71 1 69 70,aj 72 71,((some 73),.op (.arith .sub (.val (.val (.int .i64 (-1)))) (.tmp 72))),aQ 74 1 67 73,(none,.op (.store 1 (.tmp 74) (.val (.val (.bool true)))))])]),ab [aa 59 8,aH 60 .add 59 1,aa 8 60]]
def kQ:SC :=
 ae [ae [ab [aa 29 6,ao 30 2 1,aj 31 30,aN 32 31,aV 33 .lss 29 32],bY 33 (.exit 2)],.block 3 (ae [ab [ao 36 2 1,aj 37 36,aa 38 6,aQ 39 3 37 38,bg 40 3 39,((some 7),.op (.alloc [(.val (.int .i64 0)),(.emp 1),(.val (.int .i64 0))])),bU 3 7 40],ab [aS 8 0],b6 4 kR]),ab [aa 34 6,aH 35 .add 34 1,aa 6 35]]
def kP:SC :=
 ae [ae [ab [aa 22 5,ao 23 1 1,aj 24 23,aN 25 24,aV 26 .lss 22 25],bY 26 (.exit 0)],.block 1 (ae [ab [aS 6 0],b6 2 kQ]),ab [aa 27 5,aH 28 .add 27 1,aa 5 28]]
def mz:SF:=⟨ae [ab [cI 1 0,df 2 1],ae [ab [bg 9 4 1,bz 10 54 [9],de 11 10],bf 11 (ae [ab [df 2 1],.ret])],ab [bg 12 4 1,bz 13 115 [12],aa 3 13],ab [ao 14 1 1,aj 15 14,aN 16 15,((some 17),.op (.make 1 1 [(.val (.bool false))] (.tmp 16) (.tmp 16))),aa 4 17],ab [aa 18 4,ao 19 3 1,aj 20 19,aQ 21 1 18 20,(none,.op (.store 1 (.tmp 21) (.val (.val (.bool true)))))],ae [ab [aS 5 0],b6 0 kP],ab [aa 75 4,aa 2 75],.ret],
 [.tmp 2],76⟩
theorem rX:aR Tryz.prog 116 [1]=some mz:=by kernel_rfl
theorem Rn {l:List Bool} {i j:Nat} (h:l.getD j false=true):(l.set i true).getD j false=true:=by
 simp only[Xb,YC] at h ⊢
 by_cases e:i=j
 ·subst e
  by_cases hi:i < l.length
  ·simp[hi]
  ·rw[XL (by omega)] at h; simp at h
 ·rw[Xd e]; exact h
theorem RC {H:View} {m n:Nat} {o:c6} (hm:H m=o) (a:H n=.dead) (b:o≠.dead):m≠n:=by rintro rfl; exact b (hm.symm.trans a)
theorem Ek (g:ag) (X:g.Ok) (H:View):aw Tryz.prog 116 [.agg (ai g)] H fun r H'=>∀ W:aC,W.view=H'→dB W r (bO (bN g)):=by
 refine aw.of mixed rX ?_
 simp (disch:=omega)only[↓wr,seval,wq,mz,ai,encS]
 refine ay.pure (sJ g X) ?_
 repeat' (first | (refine ah.dec (fun _=>?_) (fun _=>?_)) | (refine ah.eq (fun _=>?_) (fun _=>?_)) | (refine ah.ne (fun _=>?_) (fun _=>?_)) | (refine ah.split (fun _=>?_) (fun _=>?_)) | (simp (disch:=omega)only[↓wr,seval,wq,ai,encS]))
 ·rename_i hr
  have y:=bJ hr
  obtain ⟨a7,a8⟩:=And.intro y.qU y.ak
  refine ay.pure (tU g X) ?_
  have Y:=gT hr true
  have n:bN g=iter (pB g (au g true)) g.ak.length ((cn g).set g.start.toNat true):=by rw[bN,Xg hr]
  generalize au g true=p at Y n
  have o:=y.kA
  have a1:=y.start
  have G:List.replicate g.ak.length [V.val (Value.bool false)]=dz (cn g):=yO _ _
  have Z:(cn g).length=g.ak.length:=by simp[cn]
  simp (disch:=omega)only[↓wr,seval,wq,ai,encS]
  refine ⟨⟨by omega,by unfold aB; omega,by unfold aB; omega⟩,fun hz=>by omega,fun _ m hm=>?_⟩
  rw[G]
  have an:(dz (cn g)).getD g.start.toNat []=[gb ((cn g)[g.start.toNat]'(by omega))]:=lE (by omega)
  simp (disch:=omega)only[↓wr,seval,wq,ai,encS,lE (show g.start.toNat < (cn g).length by omega),lH,Xj]
  refine ⟨by omega,by omega,?_⟩
  refine aU.intro (fun k T H'=>∃ (i:Nat) (is:List Bool),i+k=g.ak.length∧is.length=g.ak.length∧iter (pB g p) k is=bN g∧T 1=.aJ (ai g) 0∧T 3=bO p∧T 4=.sl m 0 g.ak.length 1∧H' m=.arr 1 (dz is)∧T 5=gi i) g.ak.length ?_ ?_
  ·refine ⟨0,(cn g).set g.start.toNat true,by omega,by simp[Z],n.symm,?_⟩
   simp (disch:=omega)only[↓wr,↓reduceIte,wq,Nat.reduceEqDiff,Nat.reduceAdd,Nat.reduceLT,Nat.reduceLeDiff,Int.reduceNeg,Int.reduceToNat,reduceCtorEq,ai,encS]
   rw[an]
   exact ⟨by rw[← lH]; rfl,rfl⟩
  ·rintro k T H' ⟨i,is,hk,hlen,hi,f1,f3,f4,fm,f5⟩
   simp (disch:=omega)only[↓wr,seval,wq,kP,f1,f3,f4,f5,ai,encS]
   apply ah.dec<;>intro hc
   ·simp (disch:=omega)only[↓wr,seval,wq,f1,f3,f4,f5,ai,encS]
    refine aU.intro (fun I T H'=>∃ (j:Nat) (d:List Bool),j+I=g.rules.length∧d.length=g.ak.length∧(g.rules.drop j).foldl (gz p) d=pB g p is∧T 1=.aJ (ai g) 0∧T 3=bO p∧T 4=.sl m 0 g.ak.length 1∧H' m=.arr 1 (dz d)∧T 5=gi i∧T 6=gi j) g.rules.length ?_ ?_
    ·refine ⟨0,is,by omega,hlen,rfl,?_⟩
     simp (disch:=omega)only[↓wr,seval,wq,f1,f3,f4,f5,fm,ai,encS]
     first | done | exact ⟨rfl,rfl⟩ | rfl
    ·rintro I T' bb ⟨j,d,bd,t,C,J,K,L,em,M,N⟩
     simp (disch:=omega)only[↓wr,seval,wq,kQ,J,K,L,M,N,ai]
     apply ah.dec<;>intro hd
     ·have hle:=y.rules
      have O:g.rules[j]?=some (g.rules[j]'(by omega)):=Xc (by omega)
      rw[fp (show j < g.rules.length by omega)] at C
      have f:g.rules[j]'(by omega)∈g.rules:=Xm _
      generalize g.rules[j]'(by omega)=r at O C f
      simp only[XC] at C
      obtain ⟨bl,bn⟩:=y.left r f
      obtain ⟨_,_,aq,P⟩:=X.ax r f
      have bq:=y.right r f
      have Q:=He r.right p true aq (fun s hs=>⟨P s hs,fun hn=>by have:=y.neg f hs hn; omega⟩)
      simp (disch:=omega)only[↓wr,seval,wq,J,K,L,M,N,ai,encS,aP,encI,Xf,O,Xk]
      intro b hb
      have R:m≠b:=RC em hb (by simp)
      try simp (disch:=omega)only[↓wr,seval,wq,J,K,L,M,N,ai,encS,aP,encI]
      refine aU.intro (fun q T H'=>∃ (a:Nat) (c:List Bool),a+q=r.right.length∧c.length=g.ak.length∧(r.right.drop a).foldl mark c=r.right.foldl mark d∧((a=0∧c=d)∨((d.getD r.left.toNat false && cE r.right p true)=true∧c.getD r.left.toNat false=true)) ∧
       T 1=.aJ (ai g) 0∧T 3=bO p∧T 4=.sl m 0 g.ak.length 1∧H' m=.arr 1 (dz c)∧T 5=gi i∧T 6=gi j∧T 7=.ptr b 0 0∧H' b=.arr 3 [aP r]∧T 8=gi a) r.right.length ?_ ?_
      ·refine ⟨0,d,by omega,t,rfl,.inl ⟨rfl,rfl⟩,?_⟩
       simp (disch:=omega)only[↓wr,↓reduceIte,wq,Nat.reduceEqDiff,Nat.reduceAdd,Nat.reduceLT,Nat.reduceLeDiff,Int.reduceNeg,Int.reduceToNat,reduceCtorEq,J,K,L,M,N,em,R,ai,encS,aP]
       exact ⟨rfl,rfl⟩
      ·rintro q T3 H3 ⟨a,c,hq,e,w,h,d1,d3,d4,z,d5,d6,d7,x,d8⟩
       simp (disch:=omega)only[↓wr,seval,wq,kR,d1,d3,d4,d5,d6,d7,d8,x,aP,encI]
       have S:c[r.left.toNat]?=some (c[r.left.toNat]'(by omega)):=Xc (by omega)
       have l:c.getD r.left.toNat false=c[r.left.toNat]'(by omega):=by simp[Xb,S]
       have A:=lE (show r.left.toNat < c.length by omega)
       have U:(d.getD r.left.toNat false && cE r.right p true)=false→gz p d r=c:=fun hW=>by
        rcases h with ⟨_,rfl⟩ | ⟨h1,_⟩
        ·rw[gz,hW]; rfl
        ·rw[hW] at h1; simp at h1
       generalize c[r.left.toNat]'(by omega)=tl at S l A
       apply ah.dec<;>intro ht
       ·have D:r.right[a]?=some (r.right[a]'(by omega)):=Xc (by omega)
        rw[fp (show a < r.right.length by omega)] at w
        have E:r.right[a]'(by omega)∈r.right:=Xm _
        generalize r.right[a]'(by omega)=s at D w E
        simp only[XC] at w
        have ar:=P s E
        simp (disch:=omega)only[↓wr,seval,wq,d1,d3,d4,d5,d6,d7,d8,x,z,aP,encI,A,Xj]
        refine ⟨by omega,by omega,?_⟩
        apply ah.split<;>intro u
        ·simp (disch:=omega)only[↓wr,seval,wq,d1,d3,d4,d5,d6,d7,d8,x,z,aP,encI,A,Xj]
         refine ay.pure Q ?_
         simp (disch:=omega)only[↓wr,seval,wq,d1,d3,d4,d5,d6,d7,d8,x,z,aP,encI]
         apply ah.split<;>intro F
         ·simp (disch:=omega)only[↓wr,seval,wq,d1,d3,d4,d5,d6,d7,d8,x,z,aP,encI,Xf,D,Xk]
          have hW:(d.getD r.left.toNat false && cE r.right p true)=true∧c.getD r.left.toNat false=true:=by
           rcases h with ⟨_,rfl⟩ | h1
           ·exact ⟨by rw[l,u,F]; rfl,by rw[l,u]⟩
           ·exact h1
          apply ah.dec<;>intro B
          ·have br:=y.neg f E B
           have a6:=ar.1
           have v:mark c s=c.set (-1 - s).toNat true:=by rw[mark,Xg B]
           simp (disch:=omega)only[↓wr,seval,wq,d1,d3,d4,d5,d6,d7,d8,x,z,aP,encI,Xf,D,Xk,lE (show (-1 - s).toNat < c.length by omega),Xj,R.symm]
           rw[v] at w
           exact ⟨by omega,by omega,q - 1,by omega,a+1,c.set (-1 - s).toNat true,by omega,by simp[e],w,.inr ⟨hW.1,Rn hW.2⟩,by rw[lH],by first | rfl | exact ⟨rfl,rfl⟩⟩
          ·have v:mark c s=c:=by rw[mark,Xd B]
           rw[v] at w
           simp (disch:=omega)only[↓wr,seval,wq,d1,d3,d4,d5,d6,d7,d8,x,z]
           exact ⟨q - 1,by omega,a+1,c,by omega,e,w,.inr hW,by first | rfl | exact ⟨rfl,rfl⟩ | exact ⟨rfl,rfl,rfl⟩⟩
         ·simp (disch:=omega)only[↓wr,seval,wq,d1,d3,d4,d5,d6,d7,d8,x,z,aP,encI]
          have o:=U (by rw[F,Bool.and_false])
          exact ⟨I - 1,by omega,j+1,c,by omega,e,by rw[← o]; exact C,rfl,rfl,rfl⟩
        ·simp (disch:=omega)only[↓wr,seval,wq,d1,d3,d4,d5,d6,d7,d8,x,z,aP,encI,A,Xj]
         have o:gz p d r=c:=by
          rcases h with ⟨_,rfl⟩ | ⟨_,h1⟩
          ·rw[gz,l,u]; rfl
          ·rw[l,u] at h1; simp at h1
         exact ⟨I - 1,by omega,j+1,c,by omega,e,by rw[← o]; exact C,rfl,rfl,rfl⟩
       ·simp (disch:=omega)only[↓wr,seval,wq,d1,d3,d4,d5,d6,d7,d8,x,z,aP,encI]
        rw[XK (by omega),YF] at w
        have o:gz p d r=c:=by
         rcases h with ⟨h0,rfl⟩ | ⟨h1,_⟩
         ·unfold gz
          split
          ·exact w.symm
          ·rfl
         ·rw[gz,Xg h1]; exact w.symm
        exact ⟨I - 1,by omega,j+1,c,by omega,e,by rw[← o]; exact C,rfl,rfl,rfl⟩
     ·rw[XK (by omega),YF] at C
      simp (disch:=omega)only[↓wr,seval,wq,J,K,L,M,N]
      obtain ⟨q,rfl⟩:∃ q,k=q+1:=⟨k - 1,by omega⟩
      exact ⟨q,by omega,i+1,d,by omega,t,by rw[C]; exact hi,rfl,em,rfl⟩
   ·simp (disch:=omega)only[↓wr,seval,wq,f1,f3,f4,f5,fm]
    have:k=0:=by omega
    subst this
    rintro W rfl
    simp only[← hi,iter]
    rw[← hlen]
    exact zb fm
 ·rename_i hr
  rintro W rfl
  simp only[bN,hr]
  exact .emp 1
theorem EM (g:ag) (a:g.Ok):dc Tryz.prog 116 [.agg (ai g)] (bO (bN g)):=dc.of (fu g) (Ek g a _)
noncomputable def yU:List (FuncId × DF):=Aq Tryz.prog [(148,[]),(147,[]),(233,[]),(234,[])]
theorem uf:sj Tryz.prog yU:=xU _ _
theorem S6 (P:Program):tE P (fun _ _ _=>none):=fun _ _ _ _ h=>by simp at h
def Vc (o:Option V) (b:Bool):Bool:=match o with
 | some (.val (.bool c))=>c == b
 | _=>false
theorem UA {o:Option V} {b:Bool} (h:Vc o b=true):o=some (gb b):=by
 unfold Vc at h
 split at h
 ·rw[Yo] at h; rw[h]
 ·simp at h
noncomputable def Ad (tab:List (FuncId × DF)) (f:FuncId) (p:Int→Bool):Bool:=(List.range 256).all fun c=>Vc (vR Tryz.prog tab (fun _ _ _=>none) f [gy (c:Int)]) (p (c:Int))
theorem wQ {a:List (FuncId × DF)} (d:sj Tryz.prog a) {f:FuncId} {p:Int→Bool} (h:Ad a f p=true) (c:Int) (e:0≤c) (h1:c≤255):aA Tryz.prog f [gy c] (gb (p c)):=by
 have:=XI.1 h c.toNat (by simp; omega)
 rw[show ((c.toNat:Nat):Int)=c by omega] at this
 exact (sE mixed d (S6 _) (by intro v b; simp at b; subst b; exact .val _) (UA this)).pure
def Ae (c:Int):Bool:=decide (32≤c) && decide (c≤126) && c != 39 && c != 92
def EK (c:Int):Bool:=c == 110 || c == 116 || c == 92 || c == 39
theorem Mf:Ad yU 147 vD=true:=by kernel_rfl
theorem PE:Ad yU 148 oL=true:=by kernel_rfl
theorem OM:Ad yU 233 Ae=true:=by kernel_rfl
theorem Ub:Ad yU 234 EK=true:=by kernel_rfl
theorem FV {s:ByteArray} {c:Int} (h:c∈fQ s):0≤c∧c≤255:=by
 unfold fQ at h
 obtain ⟨b,_,rfl⟩:=Xw.1 h
 have:=b.toNat_lt
 omega
theorem OW (s:ByteArray):gX s=(fQ s).map fun x=>[gy x]:=by simp[gX,fQ]
noncomputable def LP:List (FuncId × DF):=Aq Tryz.prog [(49,[]),(94,[]),(134,[]),(177,[]),(212,[]),(213,[]),(214,[]),(215,[]),(232,[]),(178,[]),(216,[]),(179,[]),(194,[]),(193,[]),(192,[]),(217,[]),(218,[]),(219,[]),(135,[]),(183,[]),(182,[]),(220,[]),(221,[]),(181,[]),(184,[]),(180,[]),(95,[1]),(138,[3]),(151,[]),(154,[]),(140,[4]),(186,[4]),(139,[2]),(152,[2]),(223,[3]),(136,[]),(185,[5]),(222,[]),(137,[])]
theorem Mb:sj Tryz.prog LP:=xU _ _
def BI (l:List Int):V:=.aE (l.map fun x=>[gy x])
theorem NG (l:List Int):Tree (BI l):=eN _ _ fun x _ v a=>by simp at a; subst a; exact .val _
def sR (g:ag):V:=.bp [.agg (ai g),.val (.complex .f64 0 0),gi 0]
theorem Kd {l:List Int} {g:ag} (h:vR Tryz.prog LP (fun _ _ _=>none) 49 [BI l]=some (sR g)):dc Tryz.prog 49 [BI l] (sR g) :=
 sE mixed Mb (S6 _) (by intro v a; simp at a; subst a; exact NG _) h
abbrev bQ (κ:Type):=List (κ × V × Nat)
def cx {κ:Type} (key:κ→Value) (m:bQ κ):List (V × V × Nat):=m.map fun x=>(.val (key x.1),x.2.1,x.2.2)
def getM {κ:Type} [BEq κ] (m:bQ κ) (k:κ):Option V:=(m.find? fun x=>k == x.1).map (·.2.1)
def bF {κ:Type} [BEq κ] (k:κ) (v:V) (c:Nat):bQ κ→bQ κ
 | []=>[(k,v,c)]
 | x :: r=>if k == x.1 then (k,v,x.2.2) :: r else x :: bF k v c r
structure B8 {κ:Type} [BEq κ] (P:Program) (kt:TypeId) (key:κ→Value):Prop where
 ty:∃ d,P.underlying kt=some d∧(∀ a b,Instr.sameNow d (key a) (key b)=some (a == b))∧(∀ a e,bD P (Instr.checkKey e 10000 kt (key a))=some ())
 bits:∀ a b,(a == b)=true→Instr.sameBits 10000 (key b) (key a)=true
theorem wg {κ:Type} (key:κ→Value):∀ m:bQ κ,iC (cx key m)=some (m.map fun x=>{ key:=key x.1,val:=.nilFunc,born:=x.2.2 })
 | []=>rfl
 | x :: r=>by
  have:=wg key r
  simp only[cx] at this
  simp[cx,iC,dq,this]
def gV {κ:Type} [BEq κ] (k:κ):bQ κ→Option Nat
 | []=>none
 | x :: r=>if k == x.1 then some 0 else (gV k r).map (·+1)
theorem Be {κ:Type} [BEq κ] {key:κ→Value} {d:TypeDesc} (h:∀ a b,Instr.sameNow d (key a) (key b)=some (a == b)) (k:κ):∀ (m:bQ κ) (i:Nat),
  Instr.findNow d (key k) (m.map fun x=>{ key:=key x.1,val:=.nilFunc,born:=x.2.2 }) i=some ((gV k m).map fun j=>(i+j,.nilFunc))
 | [],i=>rfl
 | x :: r,i=>by
  simp only[XF,Instr.findNow,h,gV]
  cases hk:k == x.1 with
  | true=>simp
  | false =>
   simp only[Be h k r (i+1),Xz,if_false,Option.map_map]
   congr 2
   funext j
   simp only[Function.comp]
   congr 1
   omega
theorem Ah {κ:Type} [BEq κ] {P:Program} {kt:TypeId} {key:κ→Value} (h:B8 P kt key) (k:κ) (e:Bool) (m:bQ κ):mZ P kt (.val (key k)) e (cx key m)=some (gV k m):=by
 obtain ⟨d,hd,a,b⟩:=h.ty
 have hu:bD P (underlying kt)=some d:=er hd
 simp only[mZ,dq,wg,bt,b,XS]
 have:bD P (Instr.findKey kt (key k) (m.map fun x=>{ key:=key x.1,val:=.nilFunc,born:=x.2.2 }))=some ((gV k m).map fun j=>(0+j,.nilFunc)):=by
  unfold Instr.findKey
  rw[bt,hu,XS,Be a]
  rfl
 rw[this]
 cases gV k m with
 | none=>rfl
 | some j=>simp
theorem wN {P:Program} {kt:TypeId} {d:TypeDesc} (h:P.underlying kt=some d) (hd:match d with | .int _ | .string | .bool=>True | _=>False) (e:Bool) (n:Nat) (v:Value):bD P (Instr.checkKey e (n+1) kt v)=some ():=by
 unfold Instr.checkKey
 rw[bt,er h,XS]
 cases d <;> first | exact hd.elim | rfl
theorem lq {P:Program} {kt:TypeId} (k:IntKind) (h:P.underlying kt=some (.int k)):B8 P kt (Value.int k) where
 ty:=⟨_,h,fun a b=>by simp[Instr.sameNow],fun a e=>wN h trivial e 9999 _⟩
 bits:=fun a b c=>by
  have:a=b:=by simpa using c
  subst this
  simp[Instr.sameBits]
theorem xB {κ:Type} [BEq κ] {key:κ→Value} (k:κ):∀ m:bQ κ,match gV k m with
  | some i=>∃ x,m[i]?=some x∧(k == x.1)=true∧getM m k=some x.2.1∧(cx key m)[i]?=some (.val (key x.1),x.2.1,x.2.2)∧∀ v c,(cx key m).set i (.val (key k),v,x.2.2)=cx key (bF k v c m)∧(bF k v c m).length=m.length
  | none=>getM m k=none∧∀ v c,cx key m ++ [(.val (key k),v,c)]=cx key (bF k v c m)∧(bF k v c m).length=m.length+1
 | []=>⟨rfl,fun v c=>⟨rfl,rfl⟩⟩
 | x :: r=>by
  have a:=xB (key:=key) k r
  simp only[gV]
  cases hk:k == x.1 with
  | true=>exact ⟨x,rfl,hk,by simp[getM,hk],rfl,fun v c=>by simp[bF,hk,cx]⟩
  | false =>
   simp only[Xz,if_false]
   cases hi:gV k r with
   | some i =>
    rw[hi] at a
    obtain ⟨y,h1,b,d,e,f⟩:=a
    refine ⟨y,by simpa using h1,b,by simpa [getM,hk] using d,by simpa [cx] using e,fun v c=>?_⟩
    obtain ⟨g1,g2⟩:=f v c
    exact ⟨by simp only[cx] at g1 ⊢; simp[bF,hk,g1],by simp[bF,hk,g2]⟩
   | none =>
    rw[hi] at a
    refine ⟨by simpa [getM,hk] using a.1,fun v c=>?_⟩
    obtain ⟨g1,g2⟩:=a.2 v c
    exact ⟨by simp only[cx] at g1 ⊢; simp[bF,hk,g1],by simp[bF,hk,g2]⟩
section
variable {P:Program} {T:Env} {H:View} {κ:Type} [BEq κ] {key:κ→Value} {kt et t ty:TypeId}
theorem Ar {K:V→View→Prop} {w:cD (T,H,K)} {x i:Operand} {z:V} {id c:Nat} {m:bQ κ} {k:κ} (hm:dA P t=some (kt,et)) (d:zeroV P et=some z) (hk:B8 P kt key)
  (e:ev T x=.mp id) (hi:ev T i=.val (key k)) (hH:H id=.map (cx key m) c) (h:K ((getM m k).getD z) H):jH P (.lookup t x i false) ty T H K w:=by
 intro n _
 have f:=Ah hk k (cx key m).isEmpty m
 have a:=xB (key:=key) k m
 refine ⟨(getM m k).getD z,.none,[id],?_,h⟩
 simp only[sI,cp,oper,gf,hm,d,e,hi,hH,f]
 cases b:gV k m with
 | some j =>
  rw[b] at a
  obtain ⟨y,h1,o,g,l,_⟩:=a
  simp[l,g]
 | none =>
  rw[b] at a
  simp[a.1]
theorem Tc {K:V→View→Prop} {w:cD (T,H,K)} {x i:Operand} {z:V} {id c:Nat} {m:bQ κ} {k:κ} (hm:dA P t=some (kt,et)) (d:zeroV P et=some z) (hk:B8 P kt key)
  (e:ev T x=.mp id) (hi:ev T i=.val (key k)) (hH:H id=.map (cx key m) c) (h:K (.bp [(getM m k).getD z,.val (.bool (getM m k).isSome)]) H):jH P (.lookup t x i true) ty T H K w:=by
 intro n _
 have f:=Ah hk k (cx key m).isEmpty m
 have a:=xB (key:=key) k m
 refine ⟨_,.none,[id],?_,h⟩
 simp only[sI,cp,oper,gf,hm,d,e,hi,hH,f]
 cases b:gV k m with
 | some j =>
  rw[b] at a
  obtain ⟨y,h1,o,g,l,_⟩:=a
  simp[l,g]
 | none =>
  rw[b] at a
  simp[a.1]
theorem Rc (hk:B8 P kt key) (k a:κ) (h:(k == a)=true):sameKey (.val (key a)) (.val (key k))=true:=by
 simp only[sameKey,dq]; exact hk.bits _ _ h
theorem vQ {K:V→View→Prop} {w:cD (T,H,K)} {x i y:Operand} {id c:Nat} {m:bQ κ} {k:κ} {v:V} (hm:dA P t=some (kt,et)) (hk:B8 P kt key)
  (d:ev T x=.mp id) (hi:ev T i=.val (key k)) (e:ev T y=v) (hH:H id=.map (cx key m) c)
  (h:∀ g,K .any (H.set id (.map (cx key (bF k v c m)) g))):jH P (.mapUpdate t x i y) ty T H K w:=by
 intro n _
 have a:=Ah hk k false m
 have b:=xB (key:=key) k m
 cases f:gV k m with
 | some j =>
  rw[f] at b a
  obtain ⟨z,h1,l,q,o,p⟩:=b
  refine ⟨.any,.fk id (.map ((cx key m).set j (.val (key k),v,z.2.2)) c),[id],?_,?_⟩
  ·simp only[sI,cp,oper,fy,hm,d,hi,e,hH,a,o,Rc hk k z.1 l,if_true]
  ·rw[(p v c).1]; exact h c
 | none =>
  rw[f] at b a
  refine ⟨.any,.fk id (.map (cx key m ++ [(.val (key k),v,c)]) (c+1)),[id],?_,?_⟩
  ·simp only[sI,cp,oper,fy,hm,d,hi,e,hH,a]
  ·rw[(b.2 v c).1]; exact h (c+1)
theorem Vq {P:Program} {T:Env} {H:View} {t ty:TypeId} {x i y:Operand} {K:V→View→Prop} {w:cD (T,H,K)} : jH P (.insert t x i y) ty T H K w=jH P (.mapUpdate t x i y) ty T H K w:=propext Iff.rfl
omit [BEq κ] in
theorem U0 {K:V→View→Prop} {w:cD (T,H,K)} {x:Operand} {id c:Nat} {m:bQ κ} (hm:dA P t=some (kt,et)) (d:ev T x=.mp id) (hH:H id=.map (cx key m) c) (h:K (iL m.length) H) :
  jH P (.call { callee:=.builtin .len,args:=#[x],argTypes:=#[t] }) ty T H K w:=by
 intro n _
 have hu:∃ a b,P.underlying t=some (.map a b):=by
  unfold dA at hm
  split at hm
  ·rename_i a b h1; exact ⟨a,b,h1⟩
  ·simp at hm
 obtain ⟨a,b,hu⟩:=hu
 refine ⟨iL m.length,.none,[id],?_,h⟩
 have hl:(cx key m).length=m.length:=by simp[cx]
 simp only[sI,cp,oper,YJ,Xt,XN,uN,hu,d,hH,hl]
 simp[hu,d,hH,hl,uN]
end
theorem qg {κ:Type} [BEq κ] [LawfulBEq κ] (k a:κ) (v:V) (c:Nat):∀ m:bQ κ,getM (bF k v c m) a=if a == k then some v else getM m a
 | []=>by
  by_cases h:a=k
  ·subst h; simp[bF,getM]
  ·simp[bF,getM,h]
 | x :: r=>by
  have b:=qg k a v c r
  simp only[bF]
  by_cases hk:k=x.1
  ·by_cases h:a=k
   ·subst h; simp[hk,getM]
   ·have:¬ a=x.1:=fun e=>h (e.trans hk.symm)
    simp[hk,getM,this]
  ·simp only[Yo,hk,if_false]
   by_cases h:a=x.1
   ·have:¬ a=k:=fun e=>hk (e.symm.trans h)
    simp[getM,h]
    subst h
    simp[this]
   ·simp only[getM,YX,beq_eq_false_iff_ne.2 h] at b ⊢
    exact b
def eA {κ β:Type} [BEq κ] (a:List (κ × β)) (k:κ):Option β:=(a.find? fun x=>k == x.1).map (·.2)
def kL {κ β:Type} [BEq κ] (k:κ) (v:β):List (κ × β)→List (κ × β)
 | []=>[(k,v)]
 | x :: r=>if k == x.1 then (k,v) :: r else x :: kL k v r
def py {κ β:Type} (encV:β→V):List (κ × β)→bQ κ→Prop
 | [],[]=>True
 | x :: a,y :: m=>y.1=x.1∧y.2.1=encV x.2∧py encV a m
 | _,_=>False
theorem py.get {κ β:Type} [BEq κ] {encV:β→V} (k:κ):∀ {a:List (κ × β)} {m:bQ κ},py encV a m→getM m k=(eA a k).map encV
 | [],[],_=>rfl
 | x :: a,y :: m,⟨h1,c,d⟩=>by
  have b:=py.get k d
  simp only[getM,eA,YX,h1] at b ⊢
  cases k == x.1 with
  | true=>simp[c]
  | false=>simpa using b
theorem py.put {κ β:Type} [BEq κ] {encV:β→V} (k:κ) (v:β) (c:Nat):∀ {a:List (κ × β)} {m:bQ κ},py encV a m→py encV (kL k v a) (bF k (encV v) c m)
 | [],[],_=>⟨rfl,rfl,trivial⟩
 | x :: a,y :: m,⟨h1,d,b⟩=>by
  have e:=py.put k v c b
  simp only[kL,bF,h1]
  cases k == x.1 with
  | true=>exact ⟨rfl,rfl,b⟩
  | false=>exact ⟨h1,d,e⟩
theorem py.len {κ β:Type} {encV:β→V} : ∀ {a:List (κ × β)} {m:bQ κ},py encV a m→m.length=a.length
 | [],[],_=>rfl
 | x :: a,y :: m,⟨_,_,b⟩=>by simp[py.len b]
theorem HG {κ β:Type} [BEq κ] [LawfulBEq κ] (k b:κ) (v:β):∀ a:List (κ × β),eA (kL k v a) b=if b == k then some v else eA a b
 | []=>by
  by_cases h:b=k
  ·subst h; simp[kL,eA]
  ·simp[kL,eA,h]
 | x :: r=>by
  have c:=HG k b v r
  simp only[kL]
  by_cases hk:k=x.1
  ·by_cases h:b=k
   ·subst h; simp[hk,eA]
   ·have:¬ b=x.1:=fun e=>h (e.trans hk.symm)
    simp[hk,eA,this]
  ·simp only[Yo,hk,if_false]
   by_cases h:b=x.1
   ·have:¬ b=k:=fun e=>hk (e.symm.trans h)
    simp[eA,h]
    subst h
    simp[this]
   ·simp only[eA,YX,beq_eq_false_iff_ne.2 h] at c ⊢
    exact c
def Ft (n k:Nat) (J:Nat→Env→View→Prop) (T:Env) (H:View):Prop:=∃ i,i+k=n∧J i T H
theorem aU.up {P:Program} {T:Env} {H:View} {c:SC} {Q:Exit→Env→View→Prop} {v:cD (T,H,Q)} (n:Nat) (J:Nat→Env→View→Prop) (d:J 0 T H)
  (hs:∀ i k T H,i+k=n→J i T H→wS P c T H fun e a H'=>Bl e (∃ b,b < k∧Ft n b J a H') (Q e a H')):aU P c T H Q v :=
 aU.intro (fun k T H=>Ft n k J T H) n ⟨0,by omega,d⟩ fun k T H ⟨i,hk,f⟩=>hs i k T H hk f
theorem aF {n i k:Nat} {J:Nat→Env→View→Prop} {T:Env} {H:View} (hk:i+k=n) (b:i < n) (c:J (i+1) T H):∃ a,a < k∧Ft n a J T H:=⟨k - 1,by omega,i+1,by omega,c⟩
def owner:V→Option Nat
 | .sl id _ _ _=>some id
 | _=>none
def aX (H:View) (u:V) (sz:Nat) (es:List (List V)):Prop :=
 (es=[]∧∃ k,u=.emp k)∨(∃ n,u=.sl n 0 es.length sz∧H n=.arr sz es)
theorem aX.nil {H:View} {sz k:Nat} : aX H (.emp k) sz []:=.inl ⟨rfl,k,rfl⟩
theorem aX.len {H:View} {u:V} {sz:Nat} {es:List (List V)} (h:aX H u sz es):cH u=some es.length:=by
 rcases h with ⟨rfl,k,rfl⟩ | ⟨n,rfl,_⟩ <;> rfl
theorem aX.live {H:View} {u:V} {sz:Nat} {es:List (List V)} (h:aX H u sz es) {id:Nat} (a:owner u=some id):H id=.arr sz es∧u=.sl id 0 es.length sz:=by
 rcases h with ⟨rfl,k,rfl⟩ | ⟨n,rfl,b⟩
 ·simp[owner] at a
 ·simp[owner] at a; subst a; exact ⟨b,rfl⟩
theorem aX.keep {H H':View} {u:V} {sz:Nat} {es:List (List V)} (h:aX H u sz es) (hk:∀ id,owner u=some id→H' id=H id):aX H' u sz es:=by
 rcases h with ⟨rfl,k,rfl⟩ | ⟨n,rfl,a⟩
 ·exact .inl ⟨rfl,k,rfl⟩
 ·exact .inr ⟨n,rfl,by rw[hk n rfl]; exact a⟩
theorem aX.fresh {H:View} {u:V} {sz m:Nat} {es:List (List V)} {o:c6} (h:aX H u sz es) (hm:H m=.dead):aX (H.set m o) u sz es :=
 h.keep fun id a=>by
  have:=(h.live a).1
  have e:id≠m:=by rintro rfl; rw[hm] at this; simp at this
  simp[View.set,e]
theorem aX.ne {H:View} {u:V} {sz m:Nat} {es:List (List V)} (h:aX H u sz es) (hm:H m=.dead):owner u≠some m:=fun e=>by
 have:=(h.live e).1; rw[hm] at this; simp at this
theorem aX.other {H:View} {u:V} {sz m:Nat} {es:List (List V)} {o:c6} (h:aX H u sz es) (hm:owner u≠some m):aX (H.set m o) u sz es :=
 h.keep fun id a=>by
  have e:id≠m:=by rintro rfl; exact hm a
  simp[View.set,e]
theorem aX.new {H:View} {n sz:Nat} {es:List (List V)} : aX (H.set n (.arr sz es)) (.sl n 0 es.length sz) sz es:=.inr ⟨n,rfl,by simp[View.set]⟩
theorem bT {H:View} {m z sz:Nat} {e:List V} : bI (View.set H m (.arr z [e])) (.sl m 0 1 sz)=some ([e],[m]):=by
 simp[bI,View.set]
def Left (H H':View) (u u':V):Prop:=∀ id,H id≠.dead→owner u≠some id→H' id=H id∧owner u'≠some id
theorem yF {sz bytes:Nat} {u:V} {es xs:List (List V)} {H:View} {K:V→View→Prop} {w:cD (H,K)} (d:aX H u sz es) (g:xs≠[]) (b:(xs.all fun e=>e.length == sz && e.all aO)=true)
  (hl:(es.length+xs.length) * bytes < aB) (c:es.length+xs.length < aB) (hk:∀ f H',aX H' f sz (es ++ xs)→Left H H' u f→K f H'):oD sz bytes u xs H K w:=by
 have he:xs.isEmpty=false:=by cases xs with | nil=>exact absurd rfl g | cons=>rfl
 rcases d with ⟨rfl,k,rfl⟩ | ⟨n,rfl,h⟩
 ·rw[zH _ _ _ _ _ _ _ he]
  refine ⟨b,⟨by simpa using hl,by simpa using c⟩,fun m hm=>hk _ _ ?_ ?_⟩
  ·exact .inr ⟨m,rfl,by simp[View.set]⟩
  ·intro id a _
   have e:id≠m:=by rintro rfl; exact a hm
   exact ⟨by simp[View.set,e],by simp[owner,Ne.symm e]⟩
 ·rw[xJ _ _ _ _ _ _ _ _ _ _ he,h]
  refine ⟨b,⟨by simp,rfl,hl,c⟩,fun m hm=>hk _ _ ?_ ?_⟩
  ·refine .inr ⟨m,by simp,by simp[View.set]⟩
  ·intro id a d
   have e:id≠m:=by rintro rfl; exact a hm
   have i:id≠n:=by rintro rfl; exact d rfl
   exact ⟨by simp[View.set,e,i],by simp[owner,Ne.symm e]⟩
theorem Left.refl {H:View} {u:V} : Left H H u u:=fun _ _ h=>⟨rfl,h⟩
theorem iQ {sz bytes:Nat} {u:V} {es xs:List (List V)} {H:View} {K:V→View→Prop} {w:cD (H,K)} (a:aX H u sz es) (b:(xs.all fun e=>e.length == sz && e.all aO)=true)
  (hl:(es.length+xs.length) * bytes < aB) (c:es.length+xs.length < aB) (hk:∀ d H',aX H' d sz (es ++ xs)→Left H H' u d→K d H'):oD sz bytes u xs H K w:=by
 cases xs with
 | nil =>
  have:=hk u H (by simpa using a) .refl
  rcases a with ⟨rfl,k,rfl⟩ | ⟨n,rfl,f⟩
  ·exact this
  ·exact this
 | cons x xs=>exact yF a (by simp) b hl c hk
theorem eO.own {H:View} {u:V} {sz:Nat} {es:List (List V)} (h:aX H u sz es) (a:∀ e∈es,∀ v∈e,Tree v):eO H u (.aE es):=by
 rcases h with ⟨rfl,k,rfl⟩ | ⟨n,rfl,b⟩
 ·exact fun h _=>.emp k
 ·have:=eO.sl (off:=0) (len:=es.length) (esz:=sz) b (by simp) a
  rwa [Yt,Xv (by simp)] at this
theorem dB.own {h:aC} {u:V} {sz:Nat} {es:List (List V)} {es':List (List V)} (a:aX h.view u sz es) (hl:es'.length=es.length) (hi:∀ i,i < es.length→(es'.getD i []).length=(es.getD i []).length)
  (b:∀ i j,i < es.length→j < (es'.getD i []).length→dB h ((es.getD i []).getD j .any) ((es'.getD i []).getD j .any)):dB h u (.aE es'):=by
 rcases a with ⟨rfl,k,rfl⟩ | ⟨n,rfl,c⟩
 ·have:es'=[]:=YD.1 (by simpa using hl)
  subst this
  exact .emp k
 ·exact .sl n 0 es.length sz sz es es' c (by simp) hl (fun i h=>by rw[Yi]; exact hi i h) (fun i j h1 d=>by rw[Yi]; exact b i j h1 d)
theorem dB.Rl {h:aC} {α:Type} {u:V} {sz:Nat} {l:List α} {f:α→Value} (b:aX h.view u sz (l.map fun x=>[V.val (f x)])):dB h u (.aE (l.map fun x=>[V.val (f x)])):=by
 refine dB.own b rfl (fun i _=>rfl) (fun i j hi a=>?_)
 simp only[Xj] at hi
 have e:(l.map fun x=>[V.val (f x)]).getD i []=[V.val (f l[i])]:=by simp[Xb,hi]
 rw[e] at a ⊢
 have:j=0:=by simp at a; omega
 subst this
 exact .val _
def dr (H H':View) (r:V):Prop:=∀ id,H id≠.dead→H' id=H id∧owner r≠some id
theorem dr.emp {H:View} {k:Nat} : dr H H (.emp k):=fun _ _=>⟨rfl,by simp[owner]⟩
theorem dr.new {H:View} {n a b c:Nat} {o:c6} (f:H n=.dead):dr H (H.set n o) (.sl n a b c):=fun id d=>by
 have e:id≠n:=by rintro rfl; exact d f
 exact ⟨by simp[View.set,e],by simp[owner,Ne.symm e]⟩
theorem aX.left {H H':View} {u b x:V} {sz:Nat} {es:List (List V)} (h:aX H x sz es) (hl:Left H H' u b) (hd:∀ id,owner x=some id→owner u≠some id):aX H' x sz es :=
 h.keep fun id a=>(hl id (by rw[(h.live a).1]; simp) (hd id a)).1
theorem aX.UZ {H H':View} {x r:V} {sz:Nat} {es:List (List V)} (h:aX H x sz es) (hl:dr H H' r):aX H' x sz es :=
 h.keep fun id a=>(hl id (by rw[(h.live a).1]; simp)).1
theorem set_set {H:View} {n:Nat} {a b:c6} : View.set (View.set H n a) n b=View.set H n b:=by
 funext id; simp only[View.set]; split <;> rfl
theorem cO {m b:Nat} {o x:c6} (h:(if m=b then o else x)=.dead) (a:o≠.dead):m≠b∧x=.dead:=by
 split at h
 ·exact absurd h a
 ·rename_i e; exact ⟨e,h⟩
theorem cJ {z:Nat} {es:List (List V)} : c6.arr z es≠.dead:=by simp
def qO (H:View):List V→List V→Prop
 | [],[]=>True
 | v :: vs,t :: ts=>eO H v t∧qO H vs ts
 | _,_=>False
theorem qO.len {H:View} : ∀ {vs a:List V},qO H vs a→a.length=vs.length
 | [],[],_=>rfl
 | _ :: _,_ :: _,h=>by simp[qO.len h.2]
theorem qO.get {H:View} : ∀ {vs a:List V},qO H vs a→∀ i,i < vs.length→eO H (vs.getD i .any) (a.getD i .any)
 | [],[],_,i,hi=>by simp at hi
 | _ :: _,_ :: _,h,0,_=>h.1
 | _ :: _,_ :: _,h,i+1,hi=>qO.get h.2 i (by simpa using hi)
theorem ay.Bx {P:Program} {q:Bool} {f:FuncId} {H:View} {vs b:List V} {K:V→View→Prop} {v:cD (H,K)} {t:V} (c:aA P f b t) (a:dJ P f=true) (d:BE t) (hl:qO H vs b) (hk:K t H):ay P q f vs H K v :=
 ay.borrow c a d hl.len hl.get hk
theorem ay.VJ {P:Program} {q:Bool} {f:FuncId} {H:View} {vs b:List V} {K:V→View→Prop} {v:cD (H,K)} {t:V} (c:dc P f b t) (a:dJ P f=true) (hl:qO H vs b) (hk:K t H):ay P q f vs H K v :=
 ay.vG c a hl.len hl.get hk
theorem eO.box {H:View} {q z:Nat} {e:List V} (hq:H q=.arr z [e]) (a:∀ v∈e,Tree v):eO H (.ptr q 0 0) (.aJ e 0):=by
 rintro h rfl
 refine .ptr q 0 0 z [e] e hq (by simp) (by simp) (fun k hk=>?_)
 simp only[Yk]
 have b:e.getD k .any=e[k]:=by simp[Xb,hk]
 rw[b]
 exact .tree _ (a _ (Xm _))
theorem aX.sl {H:View} {u:V} {sz:Nat} {es:List (List V)} (h:aX H u sz es) (a:0 < es.length):∃ n,u=.sl n 0 es.length sz∧H n=.arr sz es:=by
 rcases h with ⟨rfl,_⟩ | h
 ·simp at a
 ·exact h
abbrev cw:=V × Nat × List (List V)
def ba (H:View) (L:List cw):Prop:=(∀ x∈L,aX H x.1 x.2.1 x.2.2)∧(L.filterMap fun x=>owner x.1).Nodup
theorem ba.nil {H:View} : ba H []:=⟨fun x a=>by simp at a,by simp⟩
theorem ba.head {H:View} {x:cw} {L:List cw} (h:ba H (x :: L)):aX H x.1 x.2.1 x.2.2:=h.1 x (by simp)
theorem ba.tail {H:View} {x:cw} {L:List cw} (h:ba H (x :: L)):ba H L:=by
 refine ⟨fun y a=>h.1 y (by simp[a]),?_⟩
 have:=h.2
 simp only[YB] at this
 split at this
 ·exact this
 ·exact (X6.1 this).2
theorem ba.perm {H:View} {L a:List cw} (h:ba H L) (p:L.Perm a):ba H a :=
 ⟨fun x b=>h.1 x (p.mem_iff.2 b),(p.filterMap _).nodup_iff.1 h.2⟩
theorem sN {α:Type} : ∀ (L:List α) (k:Nat) (hk:k < L.length),L.Perm (L[k] :: L.eraseIdx k)
 | x :: L,0,_=>.refl _
 | x :: L,k+1,hk=>by
  have:=sN L k (by simpa using hk)
  exact (this.cons x).trans (.swap _ _ _)
theorem ba.at {H:View} {L:List cw} (h:ba H L) (k:Nat) (hk:k < L.length):ba H (L[k] :: L.eraseIdx k) :=
 h.perm (sN L k hk)
theorem ba.obj {H:View} {n k sz:Nat} {es:List (List V)} {L:List cw} (h:ba H ((.sl n 0 k sz,sz,es) :: L)) (a:es≠[]):H n=.arr sz es∧k=es.length:=by
 rcases h.head with ⟨e,_⟩ | ⟨m,e,hm⟩
 ·exact absurd e a
 ·simp only[V.sl.injEq] at e
  obtain ⟨rfl,_,rfl,_⟩:=e
  exact ⟨hm,rfl⟩
theorem ba.off {H:View} {x:cw} {L:List cw} (h:ba H (x :: L)) {id:Nat} (a:owner x.1=some id):∀ y∈L,owner y.1≠some id:=by
 intro y b e
 have:=h.2
 simp only[YB,a,X6,Yr,not_exists,not_and] at this
 exact this.1 y b e
theorem ba.live {H:View} {x:cw} {L:List cw} (h:ba H L) (b:x∈L) {id:Nat} (a:owner x.1=some id):H id≠.dead:=by
 rw[((h.1 x b).live a).1]; simp
theorem ba.keep {H H':View} {L:List cw} (h:ba H L) (hk:∀ x∈L,∀ id,owner x.1=some id→H' id=H id):ba H' L :=
 ⟨fun x a=>(h.1 x a).keep (hk x a),h.2⟩
theorem ba.new {H:View} {L:List cw} (h:ba H L) {n:Nat} (b:H n=.dead) (sz:Nat) (es:List (List V)):ba (H.set n (.arr sz es)) ((.sl n 0 es.length sz,sz,es) :: L):=by
 refine ⟨fun x a=>?_,?_⟩
 ·rcases Xs.1 a with rfl | a
  ·exact .new
  ·exact (h.1 x a).fresh b
 ·simp only[YB,owner,X6,Yr,not_exists,not_and]
  exact ⟨fun x a e=>h.live a e b,h.2⟩
theorem ba.HW {H H':View} {L:List cw} (h:ba H L) {u:V} {sz:Nat} {es:List (List V)} (c:aX H' u sz es) (b:dr H H' u):ba H' ((u,sz,es) :: L):=by
 refine ⟨fun x a=>?_,?_⟩
 ·rcases Xs.1 a with rfl | a
  ·exact c
  ·exact (h.1 x a).UZ b
 ·cases hu:owner u with
  | none=>simp only[YB,hu]; exact h.2
  | some id =>
   simp only[YB,hu,X6,Yr,not_exists,not_and]
   exact ⟨fun x a e=>(b id (h.live a e)).2 hu,h.2⟩
theorem ba.fresh {H:View} {L:List cw} (h:ba H L) {n:Nat} (a:H n=.dead) {o:c6} : ba (H.set n o) L :=
 ⟨fun x b=>(h.1 x b).fresh a,h.2⟩
theorem ba.put {H:View} {L:List cw} {n k sz:Nat} {es es':List (List V)} (h:ba H ((.sl n 0 k sz,sz,es) :: L)) (hl:es'.length=es.length) (hk:k=es.length):ba (H.set n (.arr sz es')) ((.sl n 0 k sz,sz,es') :: L):=by
 refine ⟨fun x a=>?_,by simpa [YB,owner] using h.2⟩
 rcases Xs.1 a with rfl | a
 ·exact .inr ⟨n,by simp[hl,hk],by simp[View.set]⟩
 ·exact (h.1 x (by simp[a])).other (h.off rfl x a)
theorem ba.left {H H':View} {L:List cw} {u c:V} {sz:Nat} {es es':List (List V)} (h:ba H ((u,sz,es) :: L)) (i:aX H' c sz es') (hl:Left H H' u c):ba H' ((c,sz,es') :: L):=by
 have b:∀ x∈L,∀ id,owner x.1=some id→owner u≠some id:=fun x a id d hu=>h.off hu x a d
 refine ⟨fun x a=>?_,?_⟩
 ·rcases Xs.1 a with rfl | a
  ·exact i
  ·exact (h.1 x (by simp[a])).left hl (b x a)
 ·have g:=h.tail.2
  cases hu:owner c with
  | none=>simp only[YB,hu]; exact g
  | some id =>
   simp only[YB,hu,X6,Yr,not_exists,not_and]
   refine ⟨fun x a e=>?_,g⟩
   have f:=h.tail.live a e
   exact (hl id f (b x a id e)).2 hu
theorem cB {sz bytes:Nat} {u:V} {es xs:List (List V)} {L:List cw} {H:View} {K:V→View→Prop} {w:cD (H,K)} (d:ba H ((u,sz,es) :: L)) (b:(xs.all fun e=>e.length == sz && e.all aO)=true)
  (hl:(es.length+xs.length) * bytes < aB) (c:es.length+xs.length < aB) (hk:∀ a H',ba H' ((a,sz,es ++ xs) :: L)→Left H H' u a→K a H'):oD sz bytes u xs H K w :=
 iQ d.head b hl c fun a H' h1 f=>hk a H' (d.left h1 f) f
theorem ba.stay {H H':View} {L:List cw} (h:ba H L) (b:∀ id,H id≠.dead→H' id=H id):ba H' L :=
 h.keep fun x c _ a=>b _ (h.live c a)
theorem ba.emp {H:View} {L:List cw} (h:ba H L) {k sz:Nat} : ba H ((.emp k,sz,[]) :: L):=by
 refine ⟨fun x a=>?_,by simpa [YB,owner] using h.2⟩
 rcases Xs.1 a with rfl | a
 ·exact .nil
 ·exact h.1 x a
theorem aX.cells {H:View} {u:V} {sz:Nat} {es:List (List V)} (h:aX H u sz es):V.cells u=[u]:=by
 rcases h with ⟨rfl,k,rfl⟩ | ⟨n,rfl,_⟩ <;> rfl
theorem aX.iO {H:View} {u:V} {sz:Nat} {es:List (List V)} (h:aX H u sz es):aO u=true:=by
 rcases h with ⟨rfl,k,rfl⟩ | ⟨n,rfl,_⟩ <;> rfl
theorem ba.FD {H:View} {L:List cw} (h:ba H L) (i j:Nat) {a e s1 b k2 s2 t1 t2:Nat} {f g:List (List V)} (hi:L[i]?=some (.sl a 0 e s1,t1,f)) (k:L[j]?=some (.sl b 0 k2 s2,t2,g)) (c:i≠j):a≠b:=by
 rintro rfl
 obtain ⟨d,hi⟩:=Xq.1 hi
 have h1:=h.at i d
 rw[hi] at h1
 exact h1.off (id:=a) rfl _ (List.mem_eraseIdx_iff_getElem?.2 ⟨j,c.symm,k⟩) rfl
theorem EU {α:Type} {a b c:α} {l:List α} : (a :: b :: c :: l).Perm (b :: c :: a :: l):=(List.Perm.swap _ _ _).trans ((List.Perm.swap _ _ _).cons _)
theorem ba.own {H:View} {L:List cw} (h:ba H L) (i:Nat) {u:V} {sz:Nat} {es:List (List V)} (hi:L[i]?=some (u,sz,es)):aX H u sz es:=h.1 _ (Xi hi)
theorem ba.is {H:View} {L:List cw} (h:ba H L) (i:Nat) {n k sz:Nat} {es:List (List V)} (hi:L[i]?=some (.sl n 0 k sz,sz,es)) (a:0 < es.length):H n=.arr sz es:=by
 obtain ⟨m,e,hm⟩:=(h.own i hi).sl a
 simp only[V.sl.injEq] at e
 rw[e.1]; exact hm
theorem ba.AF {H:View} {L:List cw} (h:ba H L) {b c:Nat} {es:List (V × V × Nat)} (a:H b=.map es c):∀ x∈L,owner x.1≠some b:=fun x d e=>by
 have:=((h.1 x d).live e).1
 rw[a] at this; simp at this
theorem ba.wj {H:View} {L:List cw} (h:ba H L) {b c:Nat} {es:List (V × V × Nat)} (d:H b=.map es c) {o:c6} : ba (H.set b o) L :=
 ⟨fun x a=>(h.1 x a).other (h.AF d x a),h.2⟩
theorem Left.map {H H':View} {u d:V} {b c:Nat} {es:List (V × V × Nat)} {sz:Nat} {xs:List (List V)} (hl:Left H H' u d) (f:aX H u sz xs) (a:H b=.map es c):H' b=.map es c:=by
 rw[(hl b (by rw[a]; simp) (fun e=>by have:=(f.live e).1; rw[a] at this; simp at this)).1,a]
theorem CM {H:View} {L:List cw} (h:ba H L) (i:Nat) {n k sz b c:Nat} {xs:List (List V)} {es:List (V × V × Nat)} (hi:L[i]?=some (.sl n 0 k sz,sz,xs)) (a:H b=.map es c):n≠b:=by
 rintro rfl
 exact h.AF a _ (Xi hi) rfl
theorem ay.KE {P:Program} {f:FuncId} {vs:List V} {H:View} {K:V→View→Prop} {w:cD (H,K)} {sz:Nat} {es:List (List V)} (b:aw P f vs H fun r H'=>aX H' r sz es∧dr H H' r) (hk:∀ r H',aX H' r sz es→dr H H' r→K r H'):ay P true f vs H K w:=by
 unfold ay
 simp only[if_true]
 exact (b.mono fun r H' h=>⟨fun id a=>(h.2 id a).1,hk r H' h.1 h.2⟩).M0
def zi:SC :=
 ae [ab [aV 20 .lss 19 18],bY 20 (.exit 0),.block 1 (ae [ab [aa 21 19,aa 3 21],ab [aa 22 0,aa 23 3,((some 24),.op (.ja (.tmp 22) (.tmp 23))),bz 25 148 [24],de 26 25],bf 26 (ae [ab [bu 2 false],.ret])]),ab [aH 27 .add 19 1,aa 19 27]]
def C8:SF:=⟨ae [ab [bu 2 false],ae [.region false [⟨none,[aa 4 0,((some 5),.op (.yc .eql (.tmp 4) (.val (.val (.string ⟨#[]⟩))))),aa 6 5]⟩,⟨(some (6,false)),[aa 7 0,((some 8),.op (.qp (.tmp 7))),aH 9 .gtr 8 20]⟩,⟨none,[cz 10 6 9,aa 11 10]⟩,⟨(some (11,false)),[aa 12 0,((some 13),.op (.ja (.tmp 12) (.val (.val (.int .i64 0))))),bz 14 147 [13],de 15 14]⟩,⟨none,[cz 16 11 15]⟩],bf 16 (ae [ab [bu 2 false],.ret])],ae [ab [aa 17 0,((some 18),.op (.qp (.tmp 17))),aS 19 0],b6 0 zi],ab [bu 2 true],.ret],
 [.tmp 2],28⟩
theorem GI:aR Tryz.prog 102 []=some C8:=by kernel_rfl
def x4:SF:=⟨ae [ab [aS 2 0,aS 3 0],ab [aS 4 2],.block 0 (ae [ab [aa 6 0,aN 7 6,aH 8 .lss 7 2,aa 5 8],.cond (.tmp 5) (ae [ab [aS 2 0,aS 3 4],.ret]) (ae [ab [aa 10 0,((some 11),.op (.idx 1 (.tmp 10) (.val (.val (.int .i64 1))))),aj 12 11,bz 13 233 [12],aa 9 13],bY 9 (ae [ab [aa 15 0,((some 16),.op (.idx 1 (.tmp 15) (.val (.val (.int .i64 1))))),aj 17 16,((some 18),.op (.arith .neq (.tmp 17) (.val (.val (.int .u8 92))))),aa 14 18],.cond (.tmp 14) (ae [ab [aS 2 0,aS 3 3],.ret]) (ae [ab [aa 20 0,aN 21 20,aH 22 .lss 21 3,aa 19 22],.cond (.tmp 19) (ae [ab [aS 2 0,aS 3 4],.ret]) (ae [ab [aa 24 0,((some 25),.op (.idx 1 (.tmp 24) (.val (.val (.int .i64 2))))),aj 26 25,bz 27 234 [26],de 28 27,aa 23 28],.cond (.tmp 23) (ae [ab [aS 2 0,aS 3 3],.ret]) (ab [aS 4 3])])])])])]),ae [ab [aa 29 0,aN 30 29,aa 31 4,aV 32 .leq 30 31],bf 32 (ae [ab [aS 2 0,aS 3 4],.ret])],ae [ab [aa 33 0,aa 34 4,aQ 35 1 33 34,aj 36 35,((some 37),.op (.arith .neq (.tmp 36) (.val (.val (.int .u8 39)))))],bf 37 (ae [ab [aS 2 0,aS 3 3],.ret])],ab [aa 38 4,aH 39 .add 38 1,aa 2 39,aS 3 0],.ret],
 [.tmp 2,.tmp 3],40⟩
theorem BX:aR Tryz.prog 224 []=some x4:=by kernel_rfl
def rY:SF:=⟨ae [ab [bu 2 false],ae [.region false [⟨none,[aa 5 0,((some 6),.op (.yc .eql (.tmp 5) (.val (.val (.string ⟨#[]⟩))))),aa 7 6]⟩,⟨(some (7,false)),[aa 8 0,((some 9),.op (.ja (.tmp 8) (.val (.val (.int .i64 0))))),((some 10),.op (.arith .neq (.tmp 9) (.val (.val (.int .u8 39)))))]⟩,⟨none,[cz 11 7 10]⟩],bf 11 (ae [ab [bu 2 false],.ret])],ab [aa 13 0,((some 14),.op (.gH (.tmp 13))),bz 15 224 [14],aa 12 15,fI 16 0 12,fI 17 1 12,aa 3 16,aa 4 17],.region false [⟨none,[aa 18 4,aH 19 .eql 18 0,aa 20 19]⟩,⟨(some (20,true)),[aa 21 3,aa 22 0,((some 23),.op (.qp (.tmp 22))),aV 24 .eql 21 23]⟩,⟨none,[eJ 25 20 24,aa 2 25]⟩],.ret],
 [.tmp 2],26⟩
theorem BR:aR Tryz.prog 187 [14]=some rY:=by kernel_rfl
def AY:SF:=⟨ae [ab [bu 2 false],.region false [⟨none,[aa 3 0,bz 4 102 [3],aa 5 4]⟩,⟨(some (5,false)),[aa 6 0,bz 7 187 [6]]⟩,⟨none,[cz 8 5 7,aa 2 8]⟩],.ret],
 [.tmp 2],9⟩
theorem EC:aR Tryz.prog 141 []=some AY:=by kernel_rfl
def yo:SF:=⟨ae [ab [bu 2 false],ab [aa 3 0,bz 4 102 [3],de 5 4,aa 2 5],.ret],
 [.tmp 2],6⟩
theorem BG:aR Tryz.prog 101 []=some yo:=by kernel_rfl
theorem zU (s:ByteArray):jo s ⟨#[]⟩=decide ((fQ s).length=0):=by
 unfold jo
 rw[← eV]
 have:(s.data.toList == ([]:List UInt8))=decide (s.data.toList.length=0):=by
  cases s.data.toList <;> rfl
 show (s.data.toList == ([]:List UInt8))=_
 rw[this]
 rfl
theorem RO (s:ByteArray) (H:View):aw Tryz.prog 102 [gs s] H fun r _=>r=gb (gS (fQ s)):=by
 refine aw.of mixed GI ?_
 repeat' (first | (refine ah.dec (fun _=>?_) (fun _=>?_)) | (refine ah.eq (fun _=>?_) (fun _=>?_)) | (refine ah.ne (fun _=>?_) (fun _=>?_)) | (refine ah.split (fun _=>?_) (fun _=>?_)) | (simp (disch:=omega)only[↓wr,seval,wq,C8,eV,zU]))
 ·rename_i h
  congr 2; simp[gS,h]
 ·rename_i h1 h
  congr 2; simp[gS,show ¬ (fQ s).length≤20 by omega]
 ·rename_i h1 o
  cases e:fQ s with
  | nil=>simp[e] at h1
  | cons c l =>
   have f:=fun d (hd:d∈c :: l)=>FV (s:=s) (c:=d) (by rw[e]; exact hd)
   have g:=f c (by simp)
   repeat' (first | (refine ah.dec (fun _=>?_) (fun _=>?_)) | (refine ah.eq (fun _=>?_) (fun _=>?_)) | (refine ah.ne (fun _=>?_) (fun _=>?_)) | (refine ah.split (fun _=>?_) (fun _=>?_)) | (simp (disch:=omega)only[↓wr,seval,wq,e,XG,eV]))
   refine ay.pure (wQ uf Mf c g.1 g.2) ?_
   repeat' (first | (refine ah.dec (fun _=>?_) (fun _=>?_)) | (refine ah.eq (fun _=>?_) (fun _=>?_)) | (refine ah.ne (fun _=>?_) (fun _=>?_)) | (refine ah.split (fun _=>?_) (fun _=>?_)) | (simp (disch:=omega)only[↓wr,seval,wq,e,XG,eV]))
   ·rename_i p
    rw[e] at h1 o
    refine aU.intro (fun k T H'=>∃ i:Nat,i+k=(c :: l).length∧((c :: l).take i).all oL=true∧T 0=gs s∧T 18=gi (c :: l).length∧T 19=gi i) (c :: l).length ?_ ?_
    ·exact ⟨0,by omega,by simp,rfl,rfl,rfl⟩
    ·rintro k T H' ⟨i,hk,hi,m,a,b⟩
     simp (disch:=omega)only[↓wr,seval,wq,zi,m,a,b,eV,e]
     apply ah.dec<;>intro q
     ·simp only[Xt] at q hk o
      have n:(c :: l)[i]?=some ((c :: l)[i]'(by simp; omega)):=Xc (by simp; omega)
      have hm:(c :: l)[i]'(by simp; omega)∈c :: l:=Xm _
      generalize (c :: l)[i]'(by simp; omega)=d at n hm
      have j:=f d hm
      simp (disch:=omega)only[↓wr,seval,wq,m,a,b,eV,e,n]
      refine ay.pure (wQ uf PE d j.1 j.2) ?_
      repeat' (first | (refine ah.dec (fun _=>?_) (fun _=>?_)) | (refine ah.eq (fun _=>?_) (fun _=>?_)) | (refine ah.ne (fun _=>?_) (fun _=>?_)) | (refine ah.split (fun _=>?_) (fun _=>?_)) | (simp (disch:=omega)only[↓wr,seval,wq,m,a,b,eV,e,n]))
      ·rename_i hd
       refine ⟨k - 1,by omega,i+1,by omega,?_,by first | rfl | exact ⟨rfl,rfl⟩⟩
       rw[XH,n]
       simp only[Option.toList_some,List.all_append,hi,Yv,hd,List.all_nil,Bool.and_self]
      ·rename_i hd
       congr 2
       have:(c :: l).all oL=false:=by
        rw[List.all_eq_false]; exact ⟨d,hm,by simp[hd]⟩
       simp only[gS,this,Bool.and_false]
     ·simp (disch:=omega)only[↓wr,seval,wq,m,a,b]
      simp only[Xt] at q hk o
      rw[Xv (by simp; omega)] at hi
      congr 2
      simp only[gS,hi,Xt]
      simp[p]; omega
   ·rename_i p
    congr 2; simp[gS,p]
theorem G4 (s:ByteArray):aA Tryz.prog 102 [gs s] (gb (gS (fQ s))):=aA.val (qA s) (RO s)
def lL (l:List Int):Int × Int :=
 if Ae (l.getD 1 0)=true then (2,0) else if l.getD 1 0≠92 then (0,3) else if l.length < 3 then (0,4) else if EK (l.getD 2 0)=true then (3,0) else (0,3)
def nC (l:List Int):Int × Int :=
 if l.length < 2 then (0,4) else if (lL l).2≠0 then (0,(lL l).2) else if (l.length:Int)≤(lL l).1 then (0,4) else if l.getD (lL l).1.toNat 0≠39 then (0,3) else ((lL l).1+1,0)
theorem N8 {l:List Int} {n:Int} (a:lL l=(n,0)) (b:¬ l.length < 2):nC l=if (l.length:Int)≤n then (0,4) else if l.getD n.toNat 0≠39 then (0,3) else (n+1,0):=by
 rw[nC,Xd b,a]; simp
theorem Iu {l:List Int} {e:Int} (a:lL l=(0,e)) (he:e≠0) (b:¬ l.length < 2):nC l=(0,e):=by
 rw[nC,Xd b,a]; simp[he]
theorem MV (l:List Int) (hr:∀ c∈l,0≤c∧c≤255) (H:View):aw Tryz.prog 224 [.aE (l.map fun x=>[gy x])] H fun r _=>r=.bp [gi (nC l).1,gi (nC l).2]:=by
 refine aw.of mixed BX ?_
 simp (disch:=omega)only[↓wr,seval,wq,x4]
 apply ah.dec<;>intro h
 ·simp (disch:=omega)only[↓wr,seval,wq]
  rw[nC,Xg (by omega)]
 ·have h1:l[1]?=some (l[1]'(by omega)):=Xc (by omega)
  have g1:l.getD 1 0=l[1]'(by omega):=by simp[Xb,h1]
  have m1:l[1]'(by omega)∈l:=Xm _
  generalize l[1]'(by omega)=b at h1 g1 m1
  have o:=hr b m1
  simp (disch:=omega)only[↓wr,seval,wq,Xf,h1]
  refine ay.pure (wQ uf OM b o.1 o.2) ?_
  simp (disch:=omega)only[↓wr,seval,wq]
  apply ah.split<;>intro hp
  ·have p:lL l=(2,0):=by rw[lL,Xg (by rw[g1]; exact hp)]
   simp (disch:=omega)only[↓wr,seval,wq]
   have a:=N8 p (by omega)
   apply ah.dec<;>intro m
   ·simp (disch:=omega)only[↓wr,seval,wq]
    rw[a,Xg (by omega)]
   ·rw[Xd (by omega)] at a
    have g:l[2]?=some (l[2]'(by omega)):=Xc (by omega)
    have g2:l.getD (2:Int).toNat 0=l[2]'(by omega):=by simp[Xb,g]
    generalize l[2]'(by omega)=c at g g2
    rw[g2] at a
    simp (disch:=omega)only[↓wr,seval,wq,Xf,g]
    apply ah.ne<;>intro i
    ·simp (disch:=omega)only[↓wr,seval,wq]
     rw[a,Xg i]
    ·simp (disch:=omega)only[↓wr,↓reduceIte,wq,Nat.reduceEqDiff,Nat.reduceAdd,Nat.reduceLT,Nat.reduceLeDiff,Int.reduceNeg,Int.reduceToNat,reduceCtorEq]
     rw[a,Xd (fun q=>q i)]
  ·simp (disch:=omega)only[↓wr,seval,wq,Xf,h1]
   apply ah.ne<;>intro k
   ·simp (disch:=omega)only[↓wr,seval,wq]
    rw[Iu (e:=3) (by rw[lL,Xd (by rw[g1,hp]; simp),Xg (by rw[g1]; exact k)]) (by simp) (by omega)]
   ·simp (disch:=omega)only[↓wr,seval,wq]
    apply ah.dec<;>intro s
    ·simp (disch:=omega)only[↓wr,seval,wq]
     rw[Iu (e:=4) (by rw[lL,Xd (by rw[g1,hp]; simp),Xd (by rw[g1]; exact fun q=>q k),Xg (by omega)]) (by simp) (by omega)]
    ·have g:l[2]?=some (l[2]'(by omega)):=Xc (by omega)
     have g2:l.getD 2 0=l[2]'(by omega):=by simp[Xb,g]
     have m2:l[2]'(by omega)∈l:=Xm _
     generalize l[2]'(by omega)=c at g g2 m2
     have j:=hr c m2
     have f:lL l=if EK c=true then (3,0) else (0,3):=by rw[lL,Xd (by rw[g1,hp]; simp),Xd (by rw[g1]; exact fun q=>q k),Xd (by omega),g2]
     simp (disch:=omega)only[↓wr,seval,wq,Xf,g]
     refine ay.pure (wQ uf Ub c j.1 j.2) ?_
     simp (disch:=omega)only[↓wr,seval,wq]
     apply ah.split<;>intro he
     ·rw[Xg he] at f
      have a:=N8 f (by omega)
      simp (disch:=omega)only[↓wr,seval,wq]
      apply ah.dec<;>intro m
      ·simp (disch:=omega)only[↓wr,seval,wq]
       rw[a,Xg (by omega)]
      ·rw[Xd (by omega)] at a
       have n:l[3]?=some (l[3]'(by omega)):=Xc (by omega)
       have g3:l.getD (3:Int).toNat 0=l[3]'(by omega):=by simp[Xb,n]
       generalize l[3]'(by omega)=d at n g3
       rw[g3] at a
       simp (disch:=omega)only[↓wr,seval,wq,Xf,n]
       apply ah.ne<;>intro i
       ·simp (disch:=omega)only[↓wr,seval,wq]
        rw[a,Xg i]
       ·simp (disch:=omega)only[↓wr,↓reduceIte,wq,Nat.reduceEqDiff,Nat.reduceAdd,Nat.reduceLT,Nat.reduceLeDiff,Int.reduceNeg,Int.reduceToNat,reduceCtorEq]
        rw[a,Xd (fun q=>q i)]
     ·rw[Xd (by rw[he]; simp)] at f
      simp (disch:=omega)only[↓wr,seval,wq]
      rw[Iu f (by simp) (by omega)]
end Gv
