/-
  Part 5 of the proof: what the machine does and what the functions answer.
  Conditions: those that each lemma names.
-/
import Derived.Test.YtiophifnkakjgaaGreatProg
import Derived.KernelRfl
import Derived.Test.YtiophifnkakjgaaGreatSGzB6D
set_option linter.unusedSimpArgs false
set_option linter.unusedVariables false
set_option maxRecDepth 100000
set_option maxHeartbeats 20000000
namespace Gv
open Go Go.Proofs
section
variable {P:Program} {n:Nat} {all:List Oper}
theorem Qb (h:aB):h.view h.length=.dead:=by simp[aB.view,U5]
theorem TK {o:Oper} {T:Env} {h:aB} {s:SI} {K:V->View->Prop} (g:dg n all T o=some true) (i:∀ v aA rd,sI P s T h.view h.length=some (v,aA,rd)->bZ P o T h.view h.length=some (v,aA,rd)) (hw:wI P s T h.view K) :
  ∃ v d rd wr,dz P n all o T h v d rd wr false/\iH h d/\K v d.view/\kA (sF P s) rd wr false h.length d.length:=by
 obtain⟨v,aA,rd,e,hk⟩:=TD hw (Qb h)
 have f:=i _ _ _ e
 have a:∀ id,id∈aA.wr->h.view id≠.dead:=λid b=>(mr f id b).1
 refine⟨v,aA.apply h,rd,aA.wr,.op g f,?_,?_,?_,?_⟩
 .intro id b c
  rw[k5 a]
  cases aA with
  | none=>exact c
  | new o=>simp only[bk.view,View.set];rw[U8 (by omega)];exact c
  | fj k o =>
   simp only[bk.view,View.set]
   rw[U8 (by rintro rfl;exact a id (by simp[bk.wr]) c)];exact c
  | ee k o =>
   simp only[bk.view,View.set]
   rw[U8 (by omega)]
   split
   .rfl
   .exact c
 .rw[k5 (λid b=>(mr f id b).1)];exact hk
 .intro j
  obtain⟨rfl,rfl⟩:=(rz e).1 j
  exact⟨rfl,rfl,rfl,rfl⟩
 .intro h1
  rcases Vw (sF P s) 1 with l | l
  .obtain⟨rfl,rfl⟩:=(rz e).1 (by omega);rfl
  .exact(rz e).2 (by omega)
theorem JZ {P:Program} {fr:Bool} {s:SI} {T:Env} {H:View} {n:Nat} {v:V} {aA:bk} {rd:List Nat} (h:sI P (yR P fr s) T H n=some (v,aA,rd)):sI P s T H n=some (v,aA,rd):=by
 unfold yR at h
 split at h
 .split at h
  .exact Qr h
  .exact h
 .split at h
  .rename_i a
   simp only[Vd] at a
   exact Rt a.2 h
  .exact h
 .exact h
theorem zy (P:Program) (a:Fz) (o:Oper) :
  (∃ f args b,o.op=.call { callee:=.value f,args:=args,argTypes:=b }/\(lV P a o=.call (SX.of f) (args.toList.map SX.of)∨lV P a o=.y8 (SX.of f) (args.toList.map SX.of))) ∨
  (∃ t x,o.op=.box t x/\lV P a o=.op (.iZ (SX.of x)))∨(∃ s d x,o.op=.convert s d x/\uF P s d=true/\lV P a o=.op (.fJ (SX.of x)))∨lV P a o=.op (yR P a.fr (comp P o)):=by
 unfold lV
 split
 .rename_i f args b e
  refine .inl ⟨f,args,b,e,?_⟩
  by_cases g:(match o.dst with | some d=>a.l.contains (200000+d) | none=>false)=true
  .exact .inr (Va g)
  .exact .inl (U8 g)
 .rename_i t x e
  by_cases c:(match o.dst with | some d=>a.l.contains d | none=>false)=true
  .exact .inr (.inl ⟨t,x,e,Va c⟩)
  .refine .inr (.inr (.inr ?_))
   refine(U8 c).trans ?_
   simp only[comp,e,yR]
 .rename_i s d x e
  by_cases c:((match o.dst with | some d=>a.l.contains d | none=>false) && uF P s d)=true
  .exact .inr (.inr (.inl ⟨s,d,x,e,by simp only[Vd] at c;exact c.2,Va c⟩))
  .exact .inr (.inr (.inr (U8 c)))
 .exact .inr (.inr (.inr rfl))
theorem dz.len {o:Oper} {T:Env} {h a:aB} {v:V} {rd wr:List Nat} {call:Bool} (st:dz P n all o T h v a rd wr call):h.length<=a.length:=by
 cases st with
 | skip=>exact Vh _
 | op _ _=>rename_i aA _ _ ;cases aA <;> simp[bk.apply]
 | iZ _ _ _=>exact Vh _
 | fJ _ _ _ _ _ _=>exact Vh _
 | call _ _ _ _ b _ _=>exact b.1
theorem RF {q:Fz} {o:Oper} {T:Env} {h:aB} {quiet:Bool} {K:V->View->Prop} (l:dg n all T o=some true) (hw:wB P quiet (lV P q o) T h.view K) :
  ∃ v b rd wr call,dz P n all o T h v b rd wr call/\iH h b/\K v b.view/\kA (iF P quiet (lV P q o)) rd wr call h.length b.length:=by
 rcases zy P q o with ⟨f,args,C,k,j | j⟩ | ⟨t,x,k,j⟩ | ⟨s,d,x,k,u,j⟩ | j
 rotate_left
 .rw[j] at hw ⊢
  simp only[wB] at hw
  split at hw
  .rename_i g first cap m
   rw[AE] at hw
   rw[SX.cI] at m
   obtain⟨c,i⟩:=hw
   obtain⟨r,b,hr,hold,hk⟩:=i h rfl
   refine⟨r,b,[],[],true,.call l k m c hr (λid a _=>hold id a) (λid a=>by simp at a),λid a w=>(hold id a).trans w,hk,?_,?_⟩
   .intro p;simp[iF] at p
   .intro _;rfl
  .exact hw.elim
 rotate_right
 .rw[j] at hw ⊢
  simp only[wB] at hw
  split at hw
  .rename_i g first cap m
   rw[AE] at hw
   rw[SX.cI] at m
   split at hw
   .rename_i y
    obtain⟨c,i⟩:=hw
    obtain⟨r,b,hr,hold,hk⟩:=i h rfl
    refine⟨r,b,[],[],true,.call l k m c hr (λid a _=>hold id a) (λid a=>by simp at a),λid a w=>(hold id a).trans w,hk,?_,?_⟩
    .intro p;simp[iF,y] at p
    .intro _;rfl
   .rename_i y
    obtain⟨c,i⟩:=hw
    obtain⟨r,b,hr,z,hk⟩:=i h rfl
    refine⟨r,b,[],List.range h.length,true,.call l k m c hr (λid a D=>?_) (λid a=>by simpa using a),z,hk,QN (by simp[iF,y])⟩
    exact absurd (by simpa using a) D
  .exact hw.elim
 .rw[j] at hw ⊢
  simp only[wB,wI,SX.cI] at hw
  exact⟨_,h,[],[],false,.iZ l k hw.1,.refl _,hw.2,λ_=>⟨rfl,rfl,rfl,rfl⟩,λ_=>rfl⟩
 .rw[j] at hw ⊢
  simp only[wB,wI,SX.cI] at hw
  obtain⟨e,h1,A,B⟩:=zL u
  split at hw
  .rename_i st E
   exact⟨_,h,[],[],false,.fJ l k h1 A B E,.refl _,hw,λ_=>⟨rfl,rfl,rfl,rfl⟩,λ_=>rfl⟩
  .exact hw.elim
 .rw[j] at hw ⊢
  obtain⟨v,b,rd,wr,h1,p,A,B⟩:=TK (s:=yR P q.fr (comp P o)) l (λv aA rd F=>JS (JZ F)) hw
  exact⟨v,b,rd,wr,false,h1,p,A,B⟩
def fI (P:Program) (quiet:Bool) (l:List SO) (recs:List Rec):Prop :=
 l.length=recs.length/\∀ (i:Nat) (s:SO) (r:Rec),l[i]?=some s->recs[i]?=some r->kA (iF P quiet s.b) r.rd r.wr r.call r.lo r.hi
theorem fI.nil {quiet:Bool} : fI P quiet [] []:=⟨rfl,λi s r h=>by simp at h⟩
theorem fI.cons {quiet:Bool} {l:List SO} {a:List Rec} {s:SO} {r:Rec} (h:fI P quiet l a) (hr:kA (iF P quiet s.b) r.rd r.wr r.call r.lo r.hi):fI P quiet (s :: l) (r :: a):=by
 refine⟨by simp[h.1],λi e f d c=>?_⟩
 cases i with
 | zero=>simp at d c;subst d c;exact hr
 | succ i=>exact h.2 i e f (by simpa using d) (by simpa using c)
theorem fI.append {quiet:Bool} {l d:List SO} {b a:List Rec} (h:fI P quiet l b) (e:fI P quiet d a):fI P quiet (l ++ d) (b ++ a):=by
 refine⟨by simp[h.1,e.1],λi s r c hr=>?_⟩
 by_cases hi:i < l.length
 .rw[VG hi] at c
  rw[VG (h.1 ▸ hi)] at hr
  exact h.2 i s r c hr
 .rw[VQ (by omega)] at c
  rw[VQ (by have:=h.1;omega)] at hr
  exact e.2 (i - l.length) s r c (by rw[h.1];exact hr)
theorem sO {a:Fz} {o:Oper} {s:SO} (h:E8 P n all a o=some s):q9 n o=true/\s.dst=o.dst/\s.b=lV P a o/\vh n all o=some s.guard:=by
 unfold E8 at h
 split at h
 .rename_i c
  simp only[Vk] at h
  obtain⟨g,d,rfl⟩:=h
  exact⟨c,rfl,rfl,d⟩
 .simp at h
theorem AV {o:Oper} {T:Env} (h:vh n all o=some none):dg n all T o=some true:=by
 unfold vh at h
 unfold dg
 split at h
 .rename_i a;rw[a]
 .split at h
  .split at h
   .simp at h
   .simp at h
  .simp at h
theorem kU {o:Oper} {T:Env} {d:Nat} {want:Bool} (h:vh n all o=some (some (d,want))) :
  (∀ b,T d=.val (.bool b)->dg n all T o=some (b == want))/\(T d=.bm []->dg n all T o=some false):=by
 unfold vh at h
 unfold dg
 split at h
 .simp at h
 .rename_i j w e
  rw[e]
  split at h
  .rename_i g f
   split at h
   .rename_i a
    simp at h
    obtain⟨rfl,rfl⟩:=h
    simp only[f,a,if_true]
    exact⟨λb c=>by rw[c],λc=>by rw[c]⟩
   .simp at h
  .simp at h
theorem kM {a:Fz} {os:List Oper} (h:dq P n all a os=some []):os=[]:=by
 cases os with
 | nil=>rfl
 | cons o r =>
  simp only[dq] at h
  split at h <;> simp at h
theorem lC {a:Fz} {os:List Oper} {s:SO} {l:List SO} (h:dq P n all a os=some (s :: l)):∃ o r,os=o :: r/\E8 P n all a o=some s/\dq P n all a r=some l:=by
 cases os with
 | nil=>simp[dq] at h
 | cons o r =>
  simp only[dq] at h
  split at h
  .rename_i c d h1 b
   simp at h
   obtain⟨rfl,rfl⟩:=h
   exact⟨o,r,rfl,h1,b⟩
  .simp at h
theorem qO {d:Fz} : ∀ {l c:List SO} {os:List Oper},dq P n all d os=some (l ++ c)->∃ a b,os=a ++ b/\dq P n all d a=some l/\dq P n all d b=some c
 | [],c,os,h=>⟨[],os,rfl,rfl,h⟩
 | s :: l,c,os,h=>by
  obtain⟨o,r,rfl,h1,e⟩:=lC h
  obtain⟨a,b,rfl,f,g⟩:=qO e
  exact⟨o :: a,b,rfl,by simp[dq,h1,f],g⟩
theorem Tr.append {a b:List Oper} {T c d:Env} {h h1 e:aB} {f g:List Rec} (x:Tr P n all a T h f c h1) (y:Tr P n all b c h1 g d e):Tr P n all (a ++ b) T h (f ++ g) d e:=by
 induction x with
 | nil=>exact y
 | cons st i _ j=>exact .cons st i (j y)
theorem Am {T:Env} {d:Nat} {v:V} (h:T d=v):T.put (some d) v=T:=by
 funext t
 simp only[Env.put]
 split
 .rename_i e;subst e;exact h.symm
 .rfl
theorem F0 {E:Fz} {quiet:Bool} {K:Env->View->Prop} (g:Option (Nat × Bool)):∀ (l:List (Option Nat × SB)) (os:List Oper) (T:Env) (h:aB),
  dq P n all E os=some (l.map λ(d,b)=>⟨d,g,b⟩)->(∀ d w,g=some (d,w)->T d=.val (.bool w)/\(l.all λx=>x.1 != some d)=true)->yu P quiet l T h.view K ->
  ∃ a m j,Tr P n all os T h a m j/\(iH h j/\h.length<=j.length)/\K m j.view/\fI P quiet (l.map λ(d,b)=>⟨d,g,b⟩) a
 | [],os,T,h,q,s,hw=>by
  have:=kM q;subst this
  exact⟨[],T,h,.nil,⟨.refl _,Vh _⟩,hw,.nil⟩
 | (d,b) :: l,os,T,h,q,s,hw=>by
  obtain⟨o,r,rfl,h1,F⟩:=lC q
  obtain⟨G,k,f,i⟩:=sO h1
  simp only at k f i
  have u:dg n all T o=some true:=by
   cases g with
   | none=>exact AV i
   | some p =>
    obtain⟨y,w⟩:=p
    have:=(kU (T:=T) i).1 w (s y w rfl).1
    rw[this];simp
  simp only[yu] at hw
  rw[f] at hw
  obtain⟨v,j,rd,wr,call,st,z,hk,H⟩:=RF u hw
  obtain⟨a,m,A,D,c,B,C⟩:=F0 g l r (T.put d v) j F (λy w e=>by
   have:=s y w e
   simp only[Wb,Vd,Xe,ne_eq] at this
   refine⟨?_,this.2.2⟩
   rw[<-this.1]
   cases d with
   | none=>rfl
   | some t=>simp only[Env.put];rw[U8];intro e;subst e;exact this.2.1 rfl) hk
  rw[k] at D
  have hlen:=st.len
  exact⟨_,m,A,.cons st G D,⟨z.trans c.1 hlen,VU hlen c.2⟩,B,C.cons (by rw[f];exact H)⟩
theorem Db {v:Fz} {quiet:Bool} (d:Nat) (w:Bool) (h:aB):∀ (l:List (Option Nat × SB)) (os:List Oper) (T:Env),
  dq P n all v os=some (l.map λ(c,b)=>⟨c,some (d,w),b⟩)->(T d=.val (.bool !w)∨T d=.bm [])->(l.all λx=>x.1 != some d)=true ->
  ∃ a,Tr P n all os T h a (iw l T) h/\fI P quiet (l.map λ(c,b)=>⟨c,some (d,w),b⟩) a
 | [],os,T,k,f,j=>by
  have:=kM k;subst this
  exact⟨[],.nil,.nil⟩
 | (c,b) :: l,os,T,k,f,j=>by
  obtain⟨o,r,rfl,h1,y⟩:=lC k
  obtain⟨m,g,p,i⟩:=sO h1
  simp only at g p i
  have q:dg n all T o=some false:=by
   rcases f with f | f
   .rw[(kU (T:=T) i).1 _ f];cases w <;> rfl
   .exact(kU (T:=T) i).2 f
  simp only[Wb,Vd,Xe,ne_eq] at j
  obtain⟨a,u,s⟩:=Db d w h l r (T.put c (.bm [])) y (by
   have:(T.put c (.bm [])) d=T d:=by
    cases c with
    | none=>rfl
    | some t=>simp only[Env.put];rw[U8];intro e;subst e;exact j.1 rfl
   rw[this];exact f) j.2
  rw[g] at u
  refine⟨_,?_,s.cons (r:=⟨[],[],false,h.length,h.length⟩) ⟨λ_=>⟨rfl,rfl,rfl,rfl⟩,λ_=>rfl⟩⟩
  have:=Tr.cons (.skip q) m u
  rw[iw,g]
  exact this
theorem Tv {p:Fz} {quiet:Bool} {K:Env->View->Prop} {g:SG} {os:List Oper} {T:Env} {h:aB} (f:dq P n all p os=some g.flat) (c:tx g=true) (hw:wG P quiet g T h.view K) :
  ∃ a o k,Tr P n all os T h a o k/\(iH h k/\h.length<=k.length)/\K o k.view/\fI P quiet g.flat a:=by
 unfold wG at hw
 unfold SG.flat at f ⊢
 unfold tx at c
 split at hw
 .rename_i l
  rw[l] at f ⊢
  exact F0 none g.ops os T h f (λd w e=>by simp at e) hw
 .rename_i d want l
  rw[l] at f c ⊢
  simp only at c
  split at hw
  .rename_i b j
   by_cases e:b=want
   .subst e
    have:=hw.1 rfl
    rw[Am j] at this
    exact F0 (some (d,b)) g.ops os T h f (λq w e=>by simp at e;obtain⟨rfl,rfl⟩:=e;exact⟨j,c⟩) this
   .have e':b = !want:=by cases b <;> cases want <;> simp_all
    have:=hw.2 e'
    subst e'
    rw[Am j] at this
    obtain⟨a,m,i⟩:=Db (quiet:=quiet) d want h g.ops os T f (.inl j) c
    exact⟨a,_,h,m,⟨.refl _,Vh _⟩,this,i⟩
  .rename_i j
   obtain⟨a,m,i⟩:=Db (quiet:=quiet) d want h g.ops os T f (.inr j) c
   exact⟨a,_,h,m,⟨.refl _,Vh _⟩,hw,i⟩
  .exact hw.elim
theorem ym {s:Fz} {quiet:Bool} {K:Env->View->Prop} : ∀ (gs:List SG) (os:List Oper) (T:Env) (h:aB),dq P n all s os=some (j3 gs)->gs.all tx=true->xb P quiet gs T h.view K ->
  ∃ c r e,Tr P n all os T h c r e/\(iH h e/\h.length<=e.length)/\K r e.view/\fI P quiet (j3 gs) c
 | [],os,T,h,f,_,hw=>by
  have:=kM f;subst this
  exact⟨[],T,h,.nil,⟨.refl _,Vh _⟩,hw,.nil⟩
 | g :: gs,os,T,h,f,d,hw=>by
  simp only[j3,VF,List.flatten_cons] at f ⊢
  simp only[Wb,Vd] at d
  obtain⟨a,b,rfl,h1,t⟩:=qO f
  obtain⟨w,u,i,j,st1,k,l⟩:=Tv h1 d.1 hw
  obtain⟨x,v,m,o,st2,p,q⟩:=ym gs b u i t d.2 k
  exact⟨_,v,m,j.append o,⟨st1.1.trans st2.1 st1.2,VU st1.2 st2.2⟩,p,l.append q⟩
theorem Tr.at_ {os:List Oper} {T g:Env} {h j:aB} {b:List Rec} (k:Tr P n all os T h b g j):∀ (i:Nat) (o:Oper),os[i]?=some o ->
  ∃ c h1 v e rd wr call a,b[i]?=some ⟨rd,wr,call,h1.length,e.length⟩/\dz P n all o c h1 v e rd wr call/\h.length<=h1.length/\Tr P n all (os.drop (i+1)) (c.put o.dst v) e a g j/\(∀ m,a[m]?=b[i+1+m]?) /\
   (∀ t,(∀ l∈os.take i,l.dst≠some t)->c t=T t):=by
 induction k with
 | nil=>intro i o hi;simp at hi
 | @cons o0 rest T g h h1 j v rd wr call b st D k s =>
  intro i o hi
  cases i with
  | zero =>
   simp at hi;subst hi
   exact⟨T,h,v,h1,rd,wr,call,b,rfl,st,Vh _,by simpa using k,λm=>by rw[show 0+1+m=m+1 by omega,VW],λt _=>rfl⟩
  | succ i =>
   simp at hi
   obtain⟨c,e,v2,u,p,Se,call2,a,w,x,y,z,A,B⟩:=s i o hi
   have hlen:h.length<=h1.length:=by
    cases st with
    | skip=>exact Vh _
    | op _ _=>rename_i aA _ _;cases aA <;> simp[bk.apply]
    | iZ _ _ _=>exact Vh _
    | fJ _ _ _ _ _ _=>exact Vh _
    | call _ _ _ _ C _ _=>exact C.1
   refine⟨c,e,v2,u,p,Se,call2,a,by simpa using w,x,VU hlen y,by simpa using z,λm=>?_,λt q=>?_⟩
   .rw[A,show i+1+1+m=(i+1+m)+1 by omega,VW]
   .simp only[List.take_succ_cons,Vq] at q
    rw[B t λl r=>q l (.inr r)]
    have:=q o0 (.inl rfl)
    cases f:o0.dst with
    | none=>rfl
    | some d=>simp only[Env.put];rw[U8];rintro rfl;exact this f
theorem Km {o:Oper} {T:Env} {h g:aB} {v:V} {rd wr:List Nat} {call:Bool} (st:dz P n all o T h v g rd wr call) (b:AB o=true) (i:o.guard=none):v=.ptr h.length 0 0:=by
 unfold AB at b
 have d:dg n all T o=some true:=by unfold dg;rw[i]
 cases st with
 | skip f=>rw[d] at f;simp at f
 | op _ a =>
  split at b
  .rename_i e c
   simp only[bZ,c] at a
   split at a
   .unfold lp at a
    split at a
    .simp at a;exact a.1.symm
    .simp at a
   .simp at a
  .simp at b
 | iZ _ c _=>rw[c] at b;simp at b
 | fJ _ c _ _ _ _=>rw[c] at b;simp at b
 | call _ c _ _ _ _ _=>rw[c] at b;simp at b
theorem K8 {o:Oper} {T:Env} {h g:aB} {v:V} {rd wr:List Nat} {call:Bool} {t id i j:Nat} (st:dz P n all o T h v g rd wr call) (c:ky o=some t) (k:T t=.ptr id i j):wr=[id]/\call=false:=by
 unfold ky at c
 split at c
 .rename_i ty l x d m
  simp at c;subst c
  have e:dg n all T o=some true:=by unfold dg;rw[m]
  cases st with
  | skip f=>rw[e] at f;simp at f
  | op _ b =>
   have p:ev T (.tmp l)=.ptr id i j:=k
   simp only[bZ,d,p,qo] at b
   split at b
   .split at b
    .simp only[U7,Vb] at b
     obtain⟨_,he,_⟩:=b
     rw[<-he];exact⟨rfl,rfl⟩
    .simp at b
   .simp at b
  | iZ _ a _=>rw[d] at a;simp at a
  | fJ _ a _ _ _ _=>rw[d] at a;simp at a
  | call _ a _ _ _ _ _=>rw[d] at a;simp at a
 .simp at c
theorem MJ {o:Oper} {T:Env} {h g:aB} {v:V} {rd wr:List Nat} {call:Bool} (st:dz P n all o T h v g rd wr call) (d:CF o=true):wr=[]/\call=false/\∀ id,id∈rd->id < h.length:=by
 unfold CF at d
 cases st with
 | skip _=>exact⟨rfl,rfl,λid c=>by simp at c⟩
 | op _ b =>
  split at d
  .rename_i e a f
   simp only[bZ,f,l0] at b
   split at b
   .rename_i id i j l
    split at b
    .rename_i z es hH
     split at b
     .simp only[Vk] at b
      obtain⟨_,_,b⟩:=b
      simp at b
      obtain⟨_,rfl,rfl⟩:=b
      refine⟨rfl,rfl,λk c=>?_⟩
      simp at c;subst c
      exact jD (by rw[hH];simp)
     .simp at b
    .simp at b
   .simp only[Vk] at b
    obtain⟨_,_,b⟩:=b
    simp at b
    obtain⟨_,rfl,rfl⟩:=b
    exact⟨rfl,rfl,λid c=>by simp at c⟩
   .simp at b
  .simp at d
 | iZ _ f _=>rw[f] at d;simp at d
 | fJ _ f _ _ _ _=>rw[f] at d;simp at d
 | call _ f _ _ _ _ _=>rw[f] at d;simp at d
theorem wJ {T G:Env} {h H:aB} {e:List Rec} (I:Tr P n all all T h e G H) {i k:Nat} {a b:Rec} (hp:zn all i k=true) (g:e[i]?=some a) (J:e[k]?=some b):nS a b:=by
 unfold zn at hp
 split at hp
 .rename_i K L l m
  rw[Vd] at hp
  obtain⟨M,hp⟩:=hp
  split at hp
  .rename_i t o
   rw[WC] at hp
   obtain⟨j,N,hp⟩:=hp
   rw[Wa] at N
   rw[Vd,Vj] at hp
   obtain⟨O,c⟩:=hp
   unfold S7 at c
   split at c
   .rename_i Q p
    simp only[Vd,V8,Vr,Xe,ne_eq,Option.isNone_iff_eq_none] at c
    obtain⟨⟨⟨R,S⟩,U⟩,V⟩:=c
    obtain⟨T1,h1,v1,W,X,TS,c1,q,D,E,e3,Y,Z,_⟩:=I.at_ i K l
    obtain⟨Tj,r,vj,an,aq,ar,cj,s,f1,f2,f3,f4,f5,_⟩:=Y.at_ (j - (i+1)) Q (by rw[WY,show i+1+(j - (i+1))=j by omega];exact p)
    have u:(all.drop (i+1)).drop (j - (i+1)+1)=all.drop (j+1):=by rw[List.drop_drop];congr 1;omega
    rw[u] at f4
    obtain⟨Tk,v,vk,w,x,y,ck,z,g1,g2,g3,_,_,g6⟩:=f4.at_ (k - (j+1)) L (by rw[WY,show j+1+(k - (j+1))=k by omega];exact m)
    rw[g] at D
    have A:=(W9 D)
    have f:e[k]?=some ⟨x,y,ck,v.length,w.length⟩:=by
     rw[<-g1,f5,Z];congr 1;omega
    rw[J] at f
    have f:=W9 f
    have hv:=Km f2 U S
    have B:Tk t=.ptr r.length 0 0:=by
     rw[g6 t λo' C=>V o' C,R,hv]
     simp[Env.put]
    obtain⟨s1,s2⟩:=K8 g2 o B
    obtain⟨F,l2,l3⟩:=MJ E M
    rw[A,f]
    have hlen:h1.length<=W.length:=by
     cases E with
     | skip=>exact Vh _
     | op _ _=>rename_i aA _ _;cases aA <;> simp[bk.apply]
     | iZ _ _ _=>exact Vh _
     | fJ _ _ _ _ _ _=>exact Vh _
     | call _ _ _ _ g _ _=>exact g.1
    refine⟨λid d=>by simp[F] at d,λid d=>?_,λhc=>by simp[l2] at hc,λ_=>F,λid d=>?_⟩
    .simp only[s1,Wh] at d
     subst d
     intro hr
     have:=l3 _ hr
     omega
    .simp only[s1,Wh] at d
     subst d
     simp only
     omega
   .simp at c
  .simp at hp
 .simp at hp
theorem P5 {ls:List Nat} {d:List Rec} {T t:Env} {hp g:aB} (u:Tr P n all all T hp d t g) (h:E5 all ls=true) (y:ls.length=d.length) (hr:∀ (i x:Nat) (r:Rec),ls[i]?=some x->d[i]?=some r->kA x r.rd r.wr r.call r.lo r.hi):tP all d:=by
 intro i k a b j l m v
 have hi:i < d.length:=(Vf.1 l).1
 have hk:k < d.length:=(Vf.1 m).1
 unfold E5 at h
 simp only[Vr] at h
 have h1:=h (ls[i]'(by omega),i) (by rw[V7];simp[U6 (show i < ls.length by omega)])
  (ls[k]'(by omega),k) (by rw[V7];simp[U6 (show k < ls.length by omega)])
 have q:=hr i _ a (U6 (by omega)) l
 have s:=hr k _ b (U6 (by omega)) m
 simp only[j,decide_true,Xb,v,Xa,VP,V8,Vd,Vj] at h1
 rcases h1 with ((h1 | h1) | h1) | h1
 .obtain⟨f,e,o,w⟩:=q.1 h1
  exact⟨λid c=>by simp[e] at c,λid _=>by simp[f],λp=>by simp[o] at p,λ_=>e,λid _ z=>by omega⟩
 .obtain⟨f,e,o,w⟩:=s.1 h1
  exact⟨λid _=>by simp[f],λid c=>by simp[e] at c,λ_=>e,λp=>by simp[o] at p,λid c=>by simp[e] at c⟩
 .have f:=q.2 h1.1
  have e:=s.2 h1.2
  exact⟨λid c=>by simp[f] at c,λid c=>by simp[e] at c,λ_=>e,λ_=>f,λid c=>by simp[e] at c⟩
 .exact wJ u h1 l m
theorem Tr.keep {os:List Oper} {T c:Env} {h e:aB} {a:List Rec} (f:Tr P n all os T h a c e) {t:Nat} (g:∀ o∈os,o.dst≠some t):c t=T t:=by
 induction f with
 | nil=>rfl
 | @cons o0 rest T c h h1 e v rd wr call a st k f i =>
  rw[i λo j=>g o (by simp[j])]
  have:=g o0 (by simp)
  cases b:o0.dst with
  | none=>rfl
  | some d=>simp only[Env.put];rw[U8];rintro rfl;exact this b
theorem vO {o:Oper} {T:Env} {h g:aB} {v:V} {rd wr:List Nat} {call:Bool} {t:Nat} (st:dz P n all o T h v g rd wr call) (d:rD o=some t):wr=[]/\call=false/\g.length=h.length/\∀ id,id∈rd->∃ i j,T t=.ptr id i j:=by
 unfold rD at d
 split at d
 .rename_i e m f
  simp at d;subst d
  cases st with
  | skip _=>exact⟨rfl,rfl,rfl,λid c=>by simp at c⟩
  | op _ a =>
   simp only[bZ,f,l0] at a
   split at a
   .rename_i id i j k
    split at a
    .split at a
     .simp only[Vk] at a
      obtain⟨_,_,a⟩:=a
      simp at a
      obtain⟨_,rfl,rfl⟩:=a
      refine⟨rfl,rfl,rfl,λl c=>?_⟩
      simp at c;subst c
      exact⟨i,j,k⟩
     .simp at a
    .simp at a
   .simp only[Vk] at a
    obtain⟨_,_,a⟩:=a
    simp at a
    obtain⟨_,rfl,rfl⟩:=a
    exact⟨rfl,rfl,rfl,λid c=>by simp at c⟩
   .simp at a
  | iZ _ b _=>rw[f] at b;simp at b
  | fJ _ b _ _ _ _=>rw[f] at b;simp at b
  | call _ b _ _ _ _ _=>rw[f] at b;simp at b
 .simp at d
theorem wC {i t:Nat} (h:stays all i t=true):∀ o∈all.drop i,o.dst≠some t:=by
 intro o a
 have:=Vr.1 h o a
 simpa using this
theorem Aq {a:List (Nat × Nat)} {T:Env} {K:Prop} (b:yN a T K):∀ p∈a,gG (T p.1) (T p.2):=by
 induction a with
 | nil=>intro p hp;simp at hp
 | cons q l c =>
  intro p hp
  rcases Vq.1 hp with rfl | hp
  .exact b.1
  .exact c b.2 p hp
theorem yN.rest {a:List (Nat × Nat)} {T:Env} {K:Prop} (b:yN a T K):K:=by
 induction a with
 | nil=>exact b
 | cons q l c=>exact c b.2
theorem p9 {T l:Env} {h m:aB} {a:List Rec} (p:Tr P n all all T h a l m) {i t:Nat} {o:Oper} (j:all[i]?=some o) (q:stays all i t=true) {r:Rec} (hr:a[i]?=some r) :
  ∃ e h1 v f,dz P n all o e h1 v f r.rd r.wr r.call/\r.lo=h1.length/\r.hi=f.length/\e t=l t:=by
 obtain⟨e,h1,v,f,rd,wr,call,k,g,s,x,u,y,z⟩:=p.at_ i o j
 rw[hr] at g
 have g:=W9 g
 subst g
 refine⟨e,h1,v,f,s,rfl,rfl,?_⟩
 have hk:=wC q
 have hi:i < all.length:=(Vf.1 j).1
 have b:all[i]=o:=(Vf.1 j).2
 rw[VL hi,b] at hk
 rw[u.keep λw b=>hk w (by simp[b])]
 have:=hk o (by simp)
 cases c:o.dst with
 | none=>rfl
 | some d=>simp only[Env.put];rw[U8];rintro rfl;exact this c
theorem zl {i a b j c d:Nat} (h:gG (.ptr i a b) (.ptr j c d)):i≠j:=h
theorem Bp {i a b j c d e:Nat} (h:gG (.ptr i a b) (.sl j c d e)):i≠j:=h
theorem q6 {o:Oper} {T:Env} {h q:aB} {v:V} {rd wr:List Nat} {call:Bool} {t:Nat} (st:dz P n all o T h v q rd wr call) (g:pv o=some t) :
  call=false/\∀ id,id∈wr->(∃ i j,T t=.ptr id i j)∨∃ a b c,T t=.sl id a b c:=by
 unfold pv at g
 split at g
 .rename_i w m
  simp at g;subst g
  unfold ky at m
  split at m
  .rename_i ty t2 x k r
   simp at m;subst m
   cases st with
   | skip _=>exact⟨rfl,λid f=>by simp at f⟩
   | op _ d =>
    simp only[bZ,k,qo] at d
    split at d
    .rename_i id i j p
     split at d
     .split at d
      .simp only[U7,Vb] at d
       obtain⟨_,he,_⟩:=d
       rw[<-he]
       refine⟨rfl,λl f=>?_⟩
       simp[bk.wr] at f;subst f
       exact .inl ⟨i,j,p⟩
      .simp at d
     .simp at d
    .simp at d
   | iZ _ e _=>rw[k] at e;simp at e
   | fJ _ e _ _ _ _=>rw[k] at e;simp at e
   | call _ e _ _ _ _ _=>rw[k] at e;simp at e
  .simp at m
 .unfold Nu at g
  split at g
  .rename_i args s k r
   split at g
   .rename_i t2 y u
    simp at g;subst g
    cases st with
    | skip _=>exact⟨rfl,λid f=>by simp at f⟩
    | op _ d =>
     simp only[bZ,k,u] at d
     split at d
     .unfold mP at d
      split at d
      .split at d
       .simp at d
       .split at d
        .split at d <;> first | (simp only[U7,Vb] at d;obtain⟨_,he,_⟩:=d;rw[<-he];exact⟨rfl,λl f=>by simp[bk.wr] at f⟩) | simp at d
        .split at d
         .simp at d
         .split at d
          .split at d
           .simp only[U7,Vb] at d
            obtain⟨_,he,_⟩:=d
            rw[<-he];exact⟨rfl,λl f=>by simp[bk.wr] at f⟩
           .simp at d
          .rename_i id off len esz p
           split at d
           .split at d
            .simp only[U7,Vb] at d
             obtain⟨_,he,_⟩:=d
             rw[<-he]
             refine⟨rfl,λl f=>?_⟩
             simp[bk.wr] at f;subst f
             exact .inr ⟨off,len,esz,p⟩
            .simp at d
           .simp at d
          .simp at d
      .simp at d
     .split at d
      .unfold wH at d
       repeat' (split at d)
       all_goals first | (simp only[U7,Vb] at d;obtain⟨_,he,_⟩:=d;rw[<-he];exact⟨rfl,λl f=>by simp[bk.wr] at f⟩) | simp at d
      .simp at d
    | iZ _ e _=>rw[k] at e;simp at e
    | fJ _ e _ _ _ _=>rw[k] at e;simp at e
    | call _ e _ _ _ _ _=>rw[k] at e;simp at e
   .simp at g
  .simp at g
theorem Qk {o:Oper} {T:Env} {h g:aB} {v:V} {rd wr:List Nat} {call:Bool} (st:dz P n all o T h v g rd wr call) (b:Gf o=true):rd=[]/\wr=[]/\call=false:=by
 unfold Gf at b
 cases st with
 | skip _=>exact⟨rfl,rfl,rfl⟩
 | op _ a =>
  split at b
  .rename_i ty len parts c
   simp only[bZ,c,gR] at a
   have key:∀ {x:Option (V × bk × List Nat)} {e:bk},x=some (v,e,rd)->(∀ y,x=some y->y.2.1.wr=[]/\y.2.2=[])->rd=[]/\e.wr=[]:=λf d=>⟨(d _ f).2,(d _ f).1⟩
   obtain⟨i,k2⟩:=key a (by
    intro y d
    repeat' (first | (split at d)|(simp only[U7] at d;subst d;exact⟨rfl,rfl⟩)|(simp at d;done)))
   exact⟨i,k2,rfl⟩
  .rename_i e c
   simp only[bZ,c] at a
   split at a
   .unfold lp at a
    split at a
    .simp only[U7,Vb] at a
     obtain⟨_,he,hr⟩:=a
     rw[<-he,<-hr];exact⟨rfl,rfl,rfl⟩
    .simp at a
   .simp at a
  .simp at b
 | iZ _ c _=>rw[c] at b;simp at b
 | fJ _ c _ _ _ _=>rw[c] at b;simp at b
 | call _ c _ _ _ _ _=>rw[c] at b;simp at b
theorem uA {o:Oper} {t:Nat} (h:ky o=some t):pv o=some t:=by unfold pv;rw[h]
theorem NN {T w:Env} {h Q:aB} {l:List Rec} (u:Tr P n all all T h l w Q) {i k:Nat} {a b:Rec} {p:Nat × Nat} (hp:AR all i k=some p) (j:gG (w p.1) (w p.2)) (N:l[i]?=some a) (O:l[k]?=some b):nS a b:=by
 unfold AR at hp
 split at hp
 .rename_i Z ob q r
  split at hp
  .rename_i s t x y
   split at hp
   .rename_i g
    simp only[Vd] at g
    simp at hp;subst hp
    obtain⟨z,A,R,B,C,D,E,F⟩:=p9 u q g.1 N
    obtain⟨Tb,G,S,H,I,_,_,J⟩:=p9 u r g.2 O
    obtain⟨o,K,U,L⟩:=vO C x
    have j:gG (z s) (Tb t):=by rw[F,J];exact j
    refine⟨λid f=>by simp[o] at f,λid f hr=>?_,λv=>by simp[K] at v,λ_=>o,λid _ hx=>by omega⟩
    obtain⟨V,W,M⟩:=L id hr
    rw[M] at j
    rcases (q6 I (uA y)).2 id f with ⟨c,d,m⟩ | ⟨c,d,e,m⟩
    .rw[m] at j;exact zl j rfl
    .rw[m] at j;exact Bp j rfl
   .simp at hp
  .split at hp
   .rename_i t s y x
    split at hp
    .rename_i g
     simp only[Vd] at g
     simp at hp;subst hp
     obtain⟨z,A,R,B,C,D,E,F⟩:=p9 u q g.1 N
     obtain⟨Tb,G,S,H,I,X,Y,J⟩:=p9 u r g.2 O
     obtain⟨o,K,U,L⟩:=vO I x
     have j:gG (Tb s) (z t):=by rw[F,J];exact j
     refine⟨λid f hr=>?_,λid f=>by simp[o] at f,λv=>o,λv=>by simp[K] at v,λid f=>by simp[o] at f⟩
     obtain⟨V,W,M⟩:=L id hr
     rw[M] at j
     rcases (q6 C (uA y)).2 id f with ⟨c,d,m⟩ | ⟨c,d,e,m⟩
     .rw[m] at j;exact zl j rfl
     .rw[m] at j;exact Bp j rfl
    .simp at hp
   .simp at hp
 .simp at hp
theorem LW {T w:Env} {h Q:aB} {l:List Rec} (u:Tr P n all all T h l w Q) {i k:Nat} {a b:Rec} {p:Nat × Nat} (hp:CP all i k=some p) (j:gG (w p.1) (w p.2)) (N:l[i]?=some a) (O:l[k]?=some b):nS a b:=by
 unfold CP at hp
 split at hp
 .rename_i Z ob q r
  split at hp
  .rename_i s t x y
   split at hp
   .rename_i g
    simp only[Vd] at g
    simp at hp;subst hp
    obtain⟨z,A,R,B,C,D,E,F⟩:=p9 u q g.1 N
    obtain⟨Tb,G,S,H,I,_,_,J⟩:=p9 u r g.2 O
    obtain⟨o,K,U,L⟩:=vO C x
    have j:gG (z s) (Tb t):=by rw[F,J];exact j
    refine⟨λid f=>by simp[o] at f,λid f hr=>?_,λv=>by simp[K] at v,λ_=>o,λid _ hx=>by omega⟩
    obtain⟨V,W,M⟩:=L id hr
    rw[M] at j
    rcases (q6 I y).2 id f with ⟨c,d,m⟩ | ⟨c,d,e,m⟩
    .rw[m] at j;exact zl j rfl
    .rw[m] at j;exact Bp j rfl
   .simp at hp
  .split at hp
   .rename_i t s y x
    split at hp
    .rename_i g
     simp only[Vd] at g
     simp at hp;subst hp
     obtain⟨z,A,R,B,C,D,E,F⟩:=p9 u q g.1 N
     obtain⟨Tb,G,S,H,I,X,Y,J⟩:=p9 u r g.2 O
     obtain⟨o,K,U,L⟩:=vO I x
     have j:gG (Tb s) (z t):=by rw[F,J];exact j
     refine⟨λid f hr=>?_,λid f=>by simp[o] at f,λv=>o,λv=>by simp[K] at v,λid f=>by simp[o] at f⟩
     obtain⟨V,W,M⟩:=L id hr
     rw[M] at j
     rcases (q6 C y).2 id f with ⟨c,d,m⟩ | ⟨c,d,e,m⟩
     .rw[m] at j;exact zl j rfl
     .rw[m] at j;exact Bp j rfl
    .simp at hp
   .simp at hp
 .simp at hp
theorem Nv {l:List (Nat × Nat)} {a:List (Nat × Nat)} (h:BG all l=some a):∀ q∈l,∃ p∈a,AR all q.1 q.2=some p:=by
 induction l generalizing a with
 | nil=>intro q b;simp at b
 | cons x r d =>
  obtain⟨i,k⟩:=x
  simp only[BG] at h
  split at h
  .rename_i p j h1 f
   simp at h;subst h
   intro q b
   rcases Vq.1 b with rfl | b
   .exact⟨p,by simp,h1⟩
   .obtain⟨g,c,e⟩:=d f q b
    exact⟨g,by simp[c],e⟩
  .simp at h
theorem Lt {l:List (Nat × Nat)} {a:List (Nat × Nat)} (h:uV all l=some a):∀ q∈l,∃ f,(∀ p∈f,p∈a)/\ze all q.1 q.2=some f:=by
 induction l generalizing a with
 | nil=>intro q b;simp at b
 | cons x r g =>
  obtain⟨i,k⟩:=x
  simp only[uV] at h
  split at h
  .rename_i p n h1 j
   simp at h;subst h
   intro q b
   rcases Vq.1 b with rfl | b
   .exact⟨p,λx c=>by simp[c],h1⟩
   .obtain⟨m,d,e⟩:=g j q b
    exact⟨m,λx c=>by simp[d x c],e⟩
  .simp at h
theorem Nd {H:View} {x:V} {xs:List (List V)} {rd:List Nat} (h:cm H x=some (xs,rd)):∀ id,id∈rd->∃ a b c,x=.sl id a b c:=by
 unfold cm at h
 split at h
 .simp at h;obtain⟨_,rfl⟩:=h;intro id d;simp at d
 .simp at h;obtain⟨_,rfl⟩:=h;intro id d;simp at d
 .simp at h;obtain⟨_,rfl⟩:=h;intro id d;simp at d
 .simp at h;obtain⟨_,rfl⟩:=h;intro id d;simp at d
 .split at h
  .split at h
   .simp at h
    obtain⟨_,rfl⟩:=h
    intro id d
    simp at d;subst d
    exact⟨_,_,_,rfl⟩
   .simp at h
  .simp at h
 .simp at h;obtain⟨_,rfl⟩:=h;intro id d;simp at d
 .simp at h
theorem Hj {o:Oper} {T:Env} {h s:aB} {v:V} {rd wr:List Nat} {call:Bool} {t y d:Nat} (st:dz P n all o T h v s rd wr call) (l:zq o=some (t,y,d)) :
  call=false/\(∀ id,id∈wr->∃ a b c,T t=.sl id a b c)/\(∀ id,id∈rd->(∃ a b c,T t=.sl id a b c)∨∃ a b c,T y=.sl id a b c)/\(h.length < s.length->∃ a b c,v=.sl h.length a b c)/\s.length<=h.length+1/\o.dst=some d:=by
 unfold zq at l
 split at l
 .rename_i args A B r E m
  split at l
  .rename_i t2 C D
   simp at l
   obtain⟨rfl,rfl,rfl⟩:=l
   cases st with
   | skip _=>exact⟨rfl,λid g=>by simp at g,λid g=>by simp at g,λh=>by omega,by omega,m⟩
   | op _ f =>
    simp only[bZ,r,D] at f
    have w:∀ {x:V} {i:bk} {k:List Nat},some (x,bk.none,([]:List Nat))=some (v,i,k)->false=false/\(∀ id,id∈i.wr->∃ a b c,T t2=.sl id a b c)/\(∀ id,id∈k->(∃ a b c,T t2=.sl id a b c)∨∃ a b c,T C=.sl id a b c)/\(h.length < (i.apply h).length->∃ a b c,v=.sl h.length a b c)/\(i.apply h).length<=h.length+1/\o.dst=some B:=by
     intro x i k e
     simp only[U7,Vb] at e
     obtain⟨_,rfl,rfl⟩:=e
     exact⟨rfl,λid g=>by simp[bk.wr] at g,λid g=>by simp at g,λh=>by simp[bk.apply] at h,by simp[bk.apply],m⟩
    split at f
    .unfold mP at f
     split at f
     .rename_i e xs k _ u
      have p:=Nd u
      split at f
      .simp at f
      .split at f
       .split at f <;> first | exact w f | simp at f
       .split at f
        .simp at f
        .split at f
         .split at f
          .simp only[U7,Vb] at f
           obtain⟨rfl,rfl,rfl⟩:=f
           exact⟨rfl,λid g=>by simp[bk.wr] at g,λid g=>.inr (p id g),λ_=>⟨_,_,_,rfl⟩,by simp[bk.apply],m⟩
          .simp at f
         .rename_i id off len esz z
          split at f
          .split at f
           .simp only[U7,Vb] at f
            obtain⟨rfl,rfl,rfl⟩:=f
            refine⟨rfl,λq g=>?_,λq g=>?_,λ_=>⟨_,_,_,rfl⟩,by simp[bk.apply],m⟩
            .simp[bk.wr] at g;subst g
             exact⟨off,len,esz,z⟩
            .rcases Vq.1 g with rfl | g
             .exact .inl ⟨off,len,esz,z⟩
             .exact .inr (p q g)
           .simp at f
          .simp at f
         .simp at f
     .simp at f
    .split at f
     .unfold wH at f
      split at f
      .split at f
       .split at f
        .exact w f
        .split at f
         .simp only[U7,Vb] at f
          obtain⟨rfl,rfl,rfl⟩:=f
          exact⟨rfl,λid g=>by simp[bk.wr] at g,λid g=>by simp at g,λ_=>⟨_,_,_,rfl⟩,by simp[bk.apply],m⟩
         .simp at f
       .simp at f
      .simp at f
     .simp at f
   | iZ _ j _=>rw[r] at j;simp at j
   | fJ _ j _ _ _ _=>rw[r] at j;simp at j
   | call _ j _ _ _ _ _=>rw[r] at j;simp at j
  .simp at l
 .simp at l
theorem MQ {T j:Env} {h q:aB} {a:List Rec} (s:Tr P n all all T h a j q) {i:Nat} {o:Oper} (k:all[i]?=some o) {r:Rec} (hr:a[i]?=some r) :
  ∃ e h1 v f,dz P n all o e h1 v f r.rd r.wr r.call/\r.lo=h1.length/\r.hi=f.length/\(∀ t,stays all i t=true->e t=j t)/\∀ d,o.dst=some d->stays all (i+1) d=true->j d=v:=by
 obtain⟨e,h1,v,f,rd,wr,call,l,g,u,y,p,z,A⟩:=s.at_ i o k
 rw[hr] at g
 have g:=W9 g
 subst g
 refine⟨e,h1,v,f,u,rfl,rfl,λt m=>?_,λd w m=>?_⟩
 .have hk:=wC m
  have hi:i < all.length:=(Vf.1 k).1
  have b:all[i]=o:=(Vf.1 k).2
  rw[VL hi,b] at hk
  rw[p.keep λx b=>hk x (by simp[b])]
  have:=hk o (by simp)
  cases c:o.dst with
  | none=>rfl
  | some d=>simp only[Env.put];rw[U8];rintro rfl;exact this c
 .rw[p.keep (wC m),w]
  simp[Env.put]
theorem yL {i a b c j d e f:Nat} (h:gG (.sl i a b c) (.sl j d e f)):i≠j:=h
theorem KC {T r:Env} {h E:aB} {c:List Rec} (A:Tr P n all all T h c r E) {i k:Nat} {a b:Rec} {B:List (Nat × Nat)} (hp:C4 all i k=some B) (o:∀ p∈B,gG (r p.1) (r p.2)) (F:c[i]?=some a) (G:c[k]?=some b):nS a b:=by
 unfold C4 at hp
 split at hp
 .rename_i oa ob s u
  split at hp
  .rename_i t y d g C d' h1 H
   split at hp
   .rename_i l
    simp only[Vd] at l
    obtain⟨⟨⟨⟨s1,s2⟩,I⟩,v⟩,J⟩:=l
    simp at hp;subst hp
    have j:=o (t,g) (by simp)
    have a2:=o (t,C) (by simp)
    have a3:=o (g,y) (by simp)
    have a4:=o (d,g) (by simp)
    simp only at j a2 a3 a4
    obtain⟨Ta,w,va,K,L,M,N,x,z⟩:=MQ A s F
    obtain⟨Tb,O,vb,Q,R,_,_,q,_⟩:=MQ A u G
    obtain⟨S,U,V,W,p5,X⟩:=Hj L h1
    obtain⟨Y,D,Z,_⟩:=Hj R H
    have z:=z d X I
    rw[<-x t s1,<-q g v] at j
    rw[<-x t s1,<-q C J] at a2
    rw[<-q g v,<-x y s2] at a3
    rw[z,<-q g v] at a4
    refine⟨λid f hr=>?_,λid f hr=>?_,λm=>by rw[S] at m;simp at m,λm=>by rw[Y] at m;simp at m,λid f hx=>?_⟩
    .obtain⟨_,_,_,e⟩:=U id f
     rcases Z id hr with ⟨_,_,_,e'⟩ | ⟨_,_,_,e'⟩
     .rw[e,e'] at j;exact yL j rfl
     .rw[e,e'] at a2;exact yL a2 rfl
    .obtain⟨_,_,_,e⟩:=D id f
     rcases V id hr with ⟨_,_,_,e'⟩ | ⟨_,_,_,e'⟩
     .rw[e',e] at j;exact yL j rfl
     .rw[e,e'] at a3;exact yL a3 rfl
    .obtain⟨_,_,_,e⟩:=D id f
     obtain⟨_,_,_,e'⟩:=W (by omega)
     have:id=w.length:=by omega
     subst this
     rw[e,e'] at a4;exact yL a4 rfl
   .simp at hp
  .simp at hp
 .simp at hp
theorem Lx {T d:Env} {h m:aB} {c:List Rec} (e:Tr P n all all T h c d m) {i k:Nat} {a b:Rec} {f:List (Nat × Nat)} (hp:ze all i k=some f) (g:∀ p∈f,gG (d p.1) (d p.2)) (j:c[i]?=some a) (l:c[k]?=some b):nS a b:=by
 unfold ze at hp
 split at hp
 .rename_i p h1
  simp at hp;subst hp
  exact LW e h1 (g p (by simp)) j l
 .exact KC e hp g j l
theorem O4 {ls:List Nat} {d:List Rec} {T o:Env} {hp q:aB} {j:List (Nat × Nat)} (v:Tr P n all all T hp d o q) (h:BG all (kb all ls)=some j) (z:∀ p∈j,gG (o p.1) (o p.2)) (D:ls.length=d.length)
  (hr:∀ (i x:Nat) (r:Rec),ls[i]?=some x->d[i]?=some r->kA x r.rd r.wr r.call r.lo r.hi):tP all d:=by
 intro i k a b s l m A
 have hi:i < d.length:=(Vf.1 l).1
 have hk:k < d.length:=(Vf.1 m).1
 have w:=hr i _ a (U6 (by omega)) l
 have y:=hr k _ b (U6 (by omega)) m
 have B:(ls[i]'(by omega),i)∈ls.zipIdx:=by rw[V7];simp[U6 (show i < ls.length by omega)]
 have mk:(ls[k]'(by omega),k)∈ls.zipIdx:=by rw[V7];simp[U6 (show k < ls.length by omega)]
 by_cases h1:yx all (ls[i]'(by omega)) i (ls[k]'(by omega)) k=true
 .unfold yx at h1
  simp only[s,decide_true,Xb,A,Xa,VP,V8,Vd,Vj] at h1
  rcases h1 with ((h1 | h1) | h1) | h1
  .obtain⟨g,f,t,C⟩:=w.1 h1
   exact⟨λid c=>by simp[f] at c,λid _=>by simp[g],λu=>by simp[t] at u,λ_=>f,λid _ E=>by omega⟩
  .obtain⟨g,f,t,C⟩:=y.1 h1
   exact⟨λid _=>by simp[g],λid c=>by simp[f] at c,λ_=>f,λu=>by simp[t] at u,λid c=>by simp[f] at c⟩
  .have g:=w.2 h1.1
   have f:=y.2 h1.2
   exact⟨λid c=>by simp[g] at c,λid c=>by simp[f] at c,λ_=>f,λ_=>g,λid c=>by simp[f] at c⟩
  .exact wJ v h1 l m
 .have hm:(i,k)∈kb all ls:=by
   unfold kb
   rw[List.mem_flatMap]
   refine⟨_,B,?_⟩
   rw[Wz]
   exact⟨_,mk,by simp only;rw[U8 h1]⟩
  obtain⟨p,hp,e⟩:=Nv h (i,k) hm
  exact NN v e (z p hp) l m
theorem Dm {P:Program} {t:TypeId} {id:Nat} {q:V} {ok:Bool} {H1 a:View} (h:H1 id=a id):eN P t (.mp id) q ok H1=eN P t (.mp id) q ok a:=by
 unfold eN
 simp only[h]
theorem KF {P:Program} {t:TypeId} {id:Nat} {q:V} {H1 a:View} (h:H1 id=a id):dP P t (.mp id) q H1=dP P t (.mp id) q a:=by
 cases hm:dS P t with
 | none=>simp only[dP,hm]
 | some x=>simp only[dP,hm,h]
theorem PX {P:Program} {t:TypeId} {id:Nat} {q:V} {H:View} {v:V} {aA:bk} {rd:List Nat} (h:eN P t (.mp id) q false H=some (v,aA,rd)):aA=.none/\rd=[id]:=by
 simp only[eN,VE,if_false] at h
 repeat' (first | (simp only[U7,Vb] at h;exact⟨h.2.1.symm,h.2.2.symm⟩)|(split at h)|(simp at h;done))
theorem NH {P:Program} {t:TypeId} {id:Nat} {q:V} {H:View} {v:V} {aA:bk} {rd:List Nat} (h:dP P t (.mp id) q H=some (v,aA,rd)):∃ obj,aA=.fj id obj:=by
 cases hm:dS P t with
 | none=>simp[dP,hm] at h
 | some x =>
  simp only[dP,hm] at h
  repeat' (first | (simp only[U7,Vb] at h;exact⟨_,h.2.1.symm⟩)|(split at h)|(simp at h;done))
theorem Gq {o:Oper} {T:Env} {h f:aB} {v:V} {rd wr:List Nat} {call:Bool} (st:dz P n all o T h v f rd wr call) (i:dg n all T o=some true) (j:∀ e x,o.op≠.box e x) (k:∀ s d x,o.op≠.convert s d x) (l:∀ c,o.op≠.call c) :
  ∃ aA,bZ P o T h.view h.length=some (v,aA,rd)/\f=aA.apply h/\wr=aA.wr/\call=false:=by
 cases st with
 | skip g=>rw[i] at g;simp at g
 | op _ b=>exact⟨_,b,rfl,rfl,rfl⟩
 | iZ _ a _=>exact absurd a (j _ _)
 | fJ _ a _ _ _ _=>exact absurd a (k _ _ _)
 | call _ a _ _ _ _ _=>exact absurd a (l _)
theorem R9 {a:List Rec} {f:Nat->Env} {b:Nat->aB} {vs:Nat->V} (d:z6 P n all a f b vs) (i:a.length=all.length) {k:Nat} (hk:k<=all.length) (hw:∀ j r,j < k->a[j]?=some r->r.wr=[]) :
  ∀ j,j<=k->(b 0).length<=(b j).length/\∀ id,id < (b 0).length->(b j).view id=(b 0).view id:=by
 intro j
 induction j with
 | zero=>intro _;exact⟨Vh _,λ_ _=>rfl⟩
 | succ j g =>
  intro l
  obtain⟨e,h⟩:=g (by omega)
  obtain⟨st,_,_,_,_⟩:=d j all[j] (a[j]'(by omega)) (U6 (by omega)) (U6 (by omega))
  refine⟨VU e (sR st),λid c=>?_⟩
  rw[q5 st (VB c e) (by rw[hw j _ (by omega) (U6 (by omega))];simp)]
  exact h id c
theorem pK {a:List Rec} {b:Nat->Env} {e:Nat->aB} {vs:Nat->V} (c:z6 P n all a b e vs) (m:a.length=all.length) {i t:Nat} (h:stays all i t=true):∀ j,i<=j->j<=all.length->b j t=b i t:=by
 intro j d f
 refine yY (vs:=vs) (N:=all.length) (λk o hk=>?_) rfl i j d f λk o h1 p g=>wC h o (by
  rw[List.mem_iff_getElem?]
  exact⟨k - i,by rw[WY,show i+(k - i)=k by omega];exact g⟩)
 have l:k < all.length:=(Vf.1 hk).1
 exact(c k o (a[k]'(by omega)) hk (U6 (by omega))).2.2.1
theorem FX {ls:List Nat} {d:List Rec} {T I:Env} {hp bd:aB} {W:List (Nat × Nat)} {tp:Option (Nat × Nat)} (tr:Tr P n all all T hp d I bd) (h:uV all (Fb all ls tp)=some W) (hA:∀ p∈W,gG (I p.1) (I p.2)) (hl:ls.length=d.length)
  (hr:∀ (i x:Nat) (r:Rec),ls[i]?=some x->d[i]?=some r->kA x r.rd r.wr r.call r.lo r.hi) (X:∀ p,tp=some p->∃ D,E9 all ls p.1 p.2=some D/\HE P D.1 (I D.2.1) (I D.2.2) hp.view):LA P n all d T I hp:=by
 have main:∀ i k a b,i < k->d[i]?=some a->d[k]?=some b->ordered (fo all []) i k=false->tp≠some (i,k)->nS a b:=by
  intro i k a b K V S ho bl
  have hi:i < d.length:=(Vf.1 V).1
  have hk:k < d.length:=(Vf.1 S).1
  have la:=hr i _ a (U6 (by omega)) V
  have lb:=hr k _ b (U6 (by omega)) S
  have mi:(ls[i]'(by omega),i)∈ls.zipIdx:=by rw[V7];simp[U6 (show i < ls.length by omega)]
  have mk:(ls[k]'(by omega),k)∈ls.zipIdx:=by rw[V7];simp[U6 (show k < ls.length by omega)]
  by_cases h1:yx all (ls[i]'(by omega)) i (ls[k]'(by omega)) k=true
  .unfold yx at h1
   simp only[K,decide_true,Xb,ho,Xa,VP,V8,Vd,Vj] at h1
   rcases h1 with ((h1 | h1) | h1) | h1
   .obtain⟨y,s,Y,e4⟩:=la.1 h1
    exact⟨λid c=>by simp[s] at c,λid _=>by simp[y],λZ=>by simp[Y] at Z,λ_=>s,λid _ hx=>by omega⟩
   .obtain⟨y,s,Y,e4⟩:=lb.1 h1
    exact⟨λid _=>by simp[y],λid c=>by simp[s] at c,λ_=>s,λZ=>by simp[Y] at Z,λid c=>by simp[s] at c⟩
   .have y:=la.2 h1.1
    have s:=lb.2 h1.2
    exact⟨λid c=>by simp[y] at c,λid c=>by simp[s] at c,λ_=>s,λ_=>y,λid c=>by simp[s] at c⟩
   .exact wJ tr h1 V S
  .have hm:(i,k)∈kb all ls:=by
    unfold kb
    rw[List.mem_flatMap]
    refine⟨_,mi,?_⟩
    rw[Wz]
    exact⟨_,mk,by simp only;rw[U8 h1]⟩
   by_cases hn:newAt all k=true
   .unfold newAt at hn
    split at hn
    .rename_i ob L
     obtain⟨T1,cr,v,J,rd,wr,call,bn,y,s,_⟩:=tr.at_ k ob L
     rw[S] at y
     have y:=W9 y
     subst y
     obtain⟨n1,n2,n3⟩:=Qk s hn
     exact⟨λid _=>by simp[n1],λid c=>by simp[n2] at c,λ_=>n2,λZ=>by simp[n3] at Z,λid c=>by simp[n2] at c⟩
    .simp at hn
   .obtain⟨p,hp,e⟩:=Lt h (i,k) (by
     unfold Fb
     rw[VV]
     refine⟨hm,?_⟩
     simp only[Vd,Xc,Xe,ne_eq]
     exact⟨by simpa using hn,bl⟩)
    exact Lx tr e (λq hq=>hA q (hp q hq)) V S
 cases tp with
 | none=>exact tP.TP λi k a b h1 J h3 h4=>main i k a b h1 J h3 h4 (by simp)
 | some p =>
  obtain⟨i0,C⟩:=p
  obtain⟨D,f,u⟩:=X _ rfl
  intro M hs vs cu N an E w i
  by_cases hi:i=i0
  .subst hi
   refine⟨some C,λk a b h1 J h3 h4 h5=>main i k a b h1 J h3 h4 (λe=>h5 (by simp at e;rw[e])),λk a b o hk V S ho=>?_⟩
   simp at hk;subst hk
   unfold E9 at f
   simp only at f
   split at f
   .rename_i oa ob O L
    rw[ho] at O
    have O:=W9 O
    subst O
    split at f
    .rename_i t m q t' m' q' l z br bs
     split at f
     .rename_i F
      simp only[Vd,V8,Vj,Vr,Wa] at F
      obtain⟨⟨⟨⟨⟨⟨⟨⟨rfl,rfl⟩,rfl⟩,s1⟩,s2⟩,s3⟩,s4⟩,K⟩,U⟩:=F
      simp only[U7] at f
      subst f
      simp only at u
      have bx:C < all.length:=(Vf.1 L).1
      have b0:∀ j r,j < C->d[j]?=some r->r.wr=[]:=λj r hj b1=>by
       have h1:=U j hj
       have aq:j < ls.length:=by omega
       rw[U5,U6 aq] at h1
       exact(hr j _ r (U6 aq) b1).2 h1
      have G:=R9 w E (Nat.le_of_lt bx) b0
      have em:∀ j,i<=j->j<=all.length->M j m=I m:=λj h1 J=>by
       rw[<-an,pK w E s1 j h1 J,pK w E s1 all.length (by omega) (Vh _)]
      have eq:∀ j,i<=j->j<=all.length->M j q=I q:=λj h1 J=>by
       rw[<-an,pK w E s2 j h1 J,pK w E s2 all.length (by omega) (Vh _)]
      obtain⟨b2,_,_,b3,b4⟩:=w i o a ho V
      obtain⟨b5,_,_,_,_⟩:=w C ob b L S
      have gi:dg n all (M i) o=some true:=by unfold dg;rw[br]
      have gk:dg n all (M C) ob=some true:=by unfold dg;rw[bs]
      unfold HE at u
      split at u
      .rename_i id c
       obtain⟨⟨cv,c0,H⟩,u⟩:=u
       have Q:id < hp.length:=jD (by rw[H];simp)
       have ar:(hs C).view id=hp.view id:=by rw[(G C (Vh _)).2 id (by rw[N];exact Q),N]
       have a1:(hs i).view id=hp.view id:=by rw[(G i (Nat.le_of_lt K)).2 id (by rw[N];exact Q),N]
       obtain⟨cj,A,b7,b8,b9⟩:=Gq b2 gi (by rw[l];simp) (by rw[l];simp) (by rw[l];simp)
       obtain⟨ck,B,ca,cc,cC⟩:=Gq b5 gk (by rw[z];simp) (by rw[z];simp) (by rw[z];simp)
       simp only[bZ,l] at A
       simp only[bZ,z] at B
       have y:ev (M i) (.tmp m)=.mp id:=(em i (Vh _) (by omega)).trans c
       have s:ev (M i) (.tmp q)=I q:=eq i (Vh _) (by omega)
       have Y:ev (M C) (.tmp m)=.mp id:=(em C (by omega) (by omega)).trans c
       have e4:ev (M C) (.tmp q)=I q:=eq C (by omega) (by omega)
       rw[y,s] at A
       rw[Y,e4,KF ar] at B
       obtain⟨l1,l2⟩:=PX A
       obtain⟨obj,l3⟩:=NH B
       subst l1 l3
       have cf:(hs (C+1)).view id=obj:=by
        rw[ca,k5 (λcN R=>by
         simp only[bk.wr,Wh] at R
         subst R
         rw[ar,H];simp)]
        simp[bk.view,View.set]
       refine⟨K,b8,b9,by rw[b3,b4,b7];rfl,λg hg cg=>?_⟩
       have a6:id < (hs i).length:=jD (by rw[a1,H];simp)
       have a7:g.view id=(hp.view.set id obj) id:=by
        rw[cg id a6,cc,Va (by simp[bk.wr]),cf]
        simp[View.set]
       have ch:=u _ _ _ B
       have a8:bZ P o (M i) g.view g.length=some (vs i,.none,a.rd):=by
        simp only[bZ,l]
        rw[y,s,Dm a7,ch,<-Dm a1]
        exact A
       exact .op gi a8
      .exact u.elim
     .simp at f
    .simp at f
   .simp at f
  .exact⟨none,λk a b h1 J h3 h4 _=>main i k a b h1 J h3 h4 (λe=>hi (by simp at e;exact e.1.symm)),λk a b o h1=>by simp at h1⟩
theorem PF (hm:P.follows .mixedOrders=true) {p:Fz} {id:Nat} {ops:Array Oper} {q:SC} {T:Env} {h:aB} {Q:Exit->Env->View->Prop} (a:A5 P n p ops.toList=some q) (hw:wS P q T h.view Q) :
  ∃ e g d,cU P n (.region id ops true) T h e g d/\(iH h d/\h.length<=d.length)/\Q e g d.view:=by
 unfold A5 at a
 split at a
 .simp at a
 .rename_i l v
  split at a
  .simp at a
  .rename_i b
   have b:(group l).all tx=true:=by simpa using b
   have j:dq P n ops.toList p ops.toList=some (j3 (group l)):=by rw[fT];exact v
   split at a
   .rename_i w
    simp only[Vk] at a
    obtain⟨y,k,rfl⟩:=a
    obtain⟨f,g,d,t,m,hk,c⟩:=ym (group l) ops.toList T h j b hw
    rw[fT] at c
    refine⟨.normal,g,d,?_,m,hk.rest⟩
    have o:tP ops.toList f:=O4 t k (Aq hk) (by simpa using c.1) (λi x r u hr=>by
     simp only[U9,Vk] at u
     obtain⟨s,z,rfl⟩:=u
     exact c.2 i s r z hr)
    simpa using xF hm (id:=id) t w o
   .simp at a
theorem P2 (hm:P.follows .mixedOrders=true) {A:Fz} {id:Nat} {ops:Array Oper} {B:SC} {T:Env} {h:aB} {Q:Exit->Env->View->Prop} (b:Bu P n A ops.toList=some B) (hw:wS P B T h.view Q) :
  ∃ e k d,cU P n (.region id ops true) T h e k d/\(iH h d/\h.length<=d.length)/\Q e k d.view:=by
 unfold Bu at b
 split at b
 .simp at b
 .rename_i l D
  split at b
  .simp at b
  .rename_i c
   have c:(group l).all tx=true:=by simpa using c
   have m:dq P n ops.toList A ops.toList=some (j3 (group l)):=by rw[fT];exact D
   split at b
   .rename_i C
    split at b
    .simp only[Vk] at b
     obtain⟨v,f,rfl⟩:=b
     obtain⟨o,k,d,q,g,hk,a⟩:=ym (group l) ops.toList T h m c hw
     rw[fT] at a
     refine⟨.normal,k,d,?_,g,hk.rest⟩
     have j:=FX q f (Aq hk) (by simpa using a.1) (λi x r t hr=>by
      simp only[U9,Vk] at t
      obtain⟨s,w,rfl⟩:=t
      exact a.2 i s r w hr) (λp hp=>by simp at hp)
     simpa using vr hm (id:=id) q C j
    .rename_i p hp
     split at b
     .rename_i y z
      simp only[Vk] at b
      obtain⟨v,f,rfl⟩:=b
      obtain⟨o,k,d,q,g,hk,a⟩:=ym (group l) ops.toList T h m c hw
      rw[fT] at a
      refine⟨.normal,k,d,?_,g,hk.2.rest⟩
      have j:=FX q f (Aq hk.2) (by simpa using a.1) (λi x r t hr=>by
       simp only[U9,Vk] at t
       obtain⟨s,w,rfl⟩:=t
       exact a.2 i s r w hr) (λE u=>by
        simp only[U7] at u
        subst u
        exact⟨y,z,hk.1⟩)
      simpa using vr hm (id:=id) q C j
     .simp at b
   .simp at b
theorem rU (hm:P.follows .mixedOrders=true) {u:Fz} {id:Nat} {ops:Array Oper} {draw quiet:Bool} {v:SC} {T:Env} {h:aB} {Q:Exit->Env->View->Prop} (a:rf P n u ops.toList draw quiet=some v) (hw:wS P v T h.view Q) :
  ∃ e d c,cU P n (.region id ops draw) T h e d c/\(iH h c/\h.length<=c.length)/\Q e d c.view:=by
 unfold rf at a
 split at a
 .simp at a
 .rename_i l y
  split at a
  .simp at a
  .rename_i f
   have f:(group l).all tx=true:=by simpa using f
   have m:dq P n ops.toList u ops.toList=some (j3 (group l)):=by rw[fT];exact y
   have key:xb P quiet (group l) T h.view (Q .normal)->(draw=true->lL ops.toList=true/\E5 ops.toList (l.map λs=>iF P quiet s.b)=true) ->
     ∃ e d c,cU P n (.region id ops draw) T h e d c/\(iH h c/\h.length<=c.length)/\Q e d c.view:=by
    intro hw o
    obtain⟨j,d,c,p,q,hk,g⟩:=ym (group l) ops.toList T h m f hw
    rw[fT] at g
    refine⟨.normal,d,c,?_,q,hk⟩
    cases k:draw with
    | false=>simpa using FJ (id:=id) p
    | true =>
     obtain⟨h1,z⟩:=o k
     have t:tP ops.toList j:=P5 p z (by simpa using g.1) (λi x r w hr=>by
      simp only[U9,Vk] at w
      obtain⟨s,A,rfl⟩:=w
      exact g.2 i s r A hr)
     simpa using xF hm (id:=id) p h1 t
   split at a
   .rename_i k
    split at a
    .rename_i B
     simp at a;subst a
     exact key hw (λ_=>by simpa using B)
    .simp at a
   .rename_i k
    simp at a;subst a
    exact key hw (λe=>absurd e k)
theorem eT {a b:Option SC} {c:SC} (h:orElse' a b=some c):a=some c∨b=some c:=by
 cases a with
 | none=>exact .inr h
 | some x=>exact .inl h
theorem Ov (hm:P.follows .mixedOrders=true) {k:List Nat} {id:Nat} {ops:Array Oper} {draw:Bool} {i:SC} {T:Env} {h:aB} {Q:Exit->Env->View->Prop} (c:B8 P n k ops.toList draw=some i) (hw:wS P i T h.view Q) :
  ∃ e j b,cU P n (.region id ops draw) T h e j b/\(iH h b/\h.length<=b.length)/\Q e j b.view:=by
 unfold B8 at c
 rcases eT c with h1 | h1
 .exact rU hm h1 hw
 .clear c
  split at h1
  .rename_i l
   subst l
   rcases eT h1 with a | h1
   .split at a
    .exact P2 hm a hw
    .simp at a
   rcases eT h1 with a | h1
   .split at a
    .exact rU hm a hw
    .simp at a
   rcases eT h1 with d | d
   .exact PF hm d hw
   .rcases eT d with f | f
    .exact rU hm f hw
    .rcases eT f with g | g
     .exact rU hm g hw
     .exact rU hm g hw
  .simp at h1
theorem D2 {e:Exit} {a b:Prop} (h:zu e a b):(e=.normal/\a)∨(e≠.normal/\b):=by
 cases e with
 | normal=>exact .inl ⟨rfl,h⟩
 | _=>exact .inr ⟨by simp,h⟩
def q8 (P:Program) (n:Nat) (fz:List Nat) (c:Code):Prop:=∀ sc:SC,c5 P n fz c=some sc->∀ (T:Env) (h:aB) (Q:Exit->Env->View->Prop),wS P sc T h.view Q ->
 ∃ e T' h',cU P n c T h e T' h'/\(iH h h'/\h.length<=h'.length)/\Q e T' h'.view
theorem D7 {b:List Nat} : q8 P n b .skip:=by
 intro c a T h Q hw;simp[c5] at a;subst a;exact⟨_,T,h,.skip,⟨.refl _,Vh _⟩,hw⟩
theorem Hi {g:List Nat} {x y:Code} (i:q8 P n g x) (j:q8 P n g y):q8 P n g (.seq x y):=by
 intro u c T h Q hw
 simp only[c5] at c
 split at c
 .rename_i a b h1 q
  simp at c;subst c
  simp only[wS] at hw
  obtain⟨e,o,d,p,st1,f⟩:=i a h1 T h _ hw
  rcases D2 f with ⟨rfl,f⟩ | ⟨k,f⟩
  .obtain⟨r,s,l,t,st2,m⟩:=j b q o d _ f
   exact⟨r,s,l,p.seq t,⟨st1.1.trans st2.1 st1.2,VU st1.2 st2.2⟩,m⟩
  .exact⟨e,o,d,p.Jz k,st1,f⟩
 .simp at c
theorem oq {b:Fz} {ops:List Oper} {draw quiet:Bool} {a:SC} (h:rf P n b ops draw quiet=some a) (l:Nat):nq a l=none:=by
 unfold rf at h
 repeat' (first | (simp only[U7] at h;subst h;rfl)|(split at h)|(simp at h;done))
theorem K0 {b:Fz} {ops:List Oper} {a:SC} (h:A5 P n b ops=some a) (l:Nat):nq a l=none:=by
 unfold A5 at h
 repeat' (first | (simp only[Vk] at h;obtain⟨_,_,rfl⟩:=h;rfl)|(split at h)|(simp at h;done))
theorem Kw {b:Fz} {ops:List Oper} {a:SC} (h:Bu P n b ops=some a) (l:Nat):nq a l=none:=by
 unfold Bu at h
 repeat' (first | (simp only[Vk] at h;obtain⟨_,_,rfl⟩:=h;rfl)|(split at h)|(simp at h;done))
theorem Ld {f:List Nat} {ops:List Oper} {draw:Bool} {e:SC} (h:B8 P n f ops draw=some e) (l:Nat):nq e l=none:=by
 unfold B8 at h
 rcases eT h with h1 | h1
 .exact oq h1 l
 .split at h1
  .rcases eT h1 with a | h1
   .split at a
    .exact Kw a l
    .simp at a
   rcases eT h1 with a | h1
   .split at a
    .exact oq a l
    .simp at a
   rcases eT h1 with b | b
   .exact K0 b l
   .rcases eT b with c | c
    .exact oq c l
    .rcases eT c with d | d
     .exact oq d l
     .exact oq d l
  .simp at h1
theorem N7 {j:List Nat} : ∀ (c:Code) (f:SC),c5 P n j c=some f->∀ l,match findLabel c l with
  | some rest=>∃ r,nq f l=some r/\c5 P n j rest=some r
  | none=>nq f l=none:=by
 intro c
 induction c with
 | seq x y h i =>
  intro f d l
  simp only[c5] at d
  split at d
  .rename_i a b h1 k
   simp at d;subst d
   have g:=h a h1 l
   have p:=i b k l
   simp only[findLabel,nq]
   cases m:findLabel x l with
   | some rx =>
    rw[m] at g
    obtain⟨r,q,s⟩:=g
    exact⟨.seq r b,by rw[q],by simp only[c5,s,k]⟩
   | none =>
    rw[m] at g
    simp only at g ⊢
    rw[g]
    exact p
  .simp at d
 | label o =>
  intro f d l
  simp[c5] at d;subst d
  simp only[findLabel,nq]
  by_cases e:(o == l)=true
  .rw[Va e];exact⟨.skip,by rw[Va e],by simp[c5]⟩
  .rw[U8 e];simp only;rw[U8 e]
 | region id ops draw=>intro f d l;simp only[c5] at d;simp only[findLabel];exact Ld d l
 | cond x y z _ _ =>
  intro f d l
  simp only[c5] at d
  split at d
  .simp at d;subst d;rfl
  .simp at d
 | block id c _=>intro f d l;simp only[c5,Vk] at d;obtain⟨_,_,rfl⟩:=d;rfl
 | loop c _=>intro f d l;simp only[c5,Vk] at d;obtain⟨_,_,rfl⟩:=d;rfl
 | scope c _ =>
  intro f d l
  simp only[c5] at d
  split at d
  .split at d
   .simp only[Vk] at d;obtain⟨_,_,rfl⟩:=d;rfl
   .simp at d
  .simp at d
 | skip=>intro f d l;simp[c5] at d;subst d;rfl
 | exit id=>intro f d l;simp[c5] at d;subst d;rfl
 | ret=>intro f d l;simp[c5] at d;subst d;rfl
 | goto o=>intro f d l;simp[c5] at d;subst d;rfl
 | _=>intro f d;simp[c5] at d
theorem KP {v:List Nat} {c:Code} (F:q8 P n v c) (hr:∀ l rest,findLabel c l=some rest->q8 P n v rest):q8 P n v (.scope c):=by
 intro J d T h Q hw
 simp only[c5] at d
 split at d
 .rename_i a h1
  split at d
  .rename_i l L
   simp only[Vk] at d
   obtain⟨r,w,rfl⟩:=d
   have j:=N7 c a h1 l
   cases m:findLabel c l with
   | none=>rw[m] at j;simp only at j;rw[j] at w;simp at w
   | some rest =>
    rw[m] at j
    obtain⟨M,t,o⟩:=j
    rw[w] at t
    have t:=W9 t
    subst t
    simp only[wS] at hw
    obtain⟨I,K,x,y⟩:=hw
    have go:∀ k T (h:aB),I k T h.view->∃ e E u,rn P n c rest T h e E u/\(iH h u/\h.length<=u.length)/\Q e E u.view:=by
     intro k
     induction k using Nat.strongRecOn with
     | ind k z =>
      intro T h G
      obtain⟨e,p,b,q,st1,s⟩:=hr l rest m r o T h _ (y k T h.view G)
      cases e with
      | goto H =>
       obtain⟨rfl,A,B,f⟩:=s
       obtain⟨o,C,g,D,st2,i⟩:=z A B p b f
       exact⟨o,C,g,rn.jump q m D,⟨st1.1.trans st2.1 st1.2,VU st1.2 st2.2⟩,i⟩
      | _=>exact⟨_,p,b,.out q rfl,st1,s⟩
    obtain⟨e,p,b,q,st1,s⟩:=F a h1 T h _ x
    cases e with
    | goto H =>
     obtain⟨rfl,A,_,f⟩:=s
     obtain⟨o,C,g,D,st2,i⟩:=go A p b f
     exact⟨o,C,g,.scope (rn.jump q m D),⟨st1.1.trans st2.1 st1.2,VU st1.2 st2.2⟩,i⟩
    | _=>exact⟨_,p,b,.scope (.out q rfl),st1,s⟩
  .simp at d
 .simp at d
theorem Pa (hm:P.follows .mixedOrders=true) {E:List Nat} : ∀ c:Code,q8 P n E c/\∀ l rest,findLabel c l=some rest->q8 P n E rest:=by
 intro c
 induction c with
 | skip=>exact⟨D7,λl rest h=>by simp[findLabel] at h⟩
 | region id ops draw=>exact⟨λp d T h Q hw=>Ov hm d hw,λl rest h=>by simp[findLabel] at h⟩
 | seq x y o g =>
  refine⟨Hi o.1 g.1,λl rest h=>?_⟩
  simp only[findLabel] at h
  split at h
  .rename_i r hr
   simp only[U7] at h;subst h
   exact Hi (o.2 _ _ hr) g.1
  .exact g.2 _ _ h
 | cond c x y o g =>
  refine⟨?_,λl rest h=>by simp[findLabel] at h⟩
  intro p d T h Q hw
  simp only[c5] at d
  split at d
  .rename_i a b h1 H
   simp at d;subst d
   simp only[wS] at hw
   split at hw
   .rename_i t u
    have F:sS (SX.of c) t T=T:=by
     unfold sS
     split
     .rename_i k hk
      rw[hk] at u
      exact Am u
     .rfl
    rw[SX.cI] at u
    cases t with
    | true =>
     have:=hw.1 rfl
     rw[F] at this
     obtain⟨e,j,f,m,st,i⟩:=o.1 a h1 T h Q this
     exact⟨e,j,f,.cond u m,st,i⟩
    | false =>
     have:=hw.2 rfl
     rw[F] at this
     obtain⟨e,j,f,m,st,i⟩:=g.1 b H T h Q this
     exact⟨e,j,f,.cond u m,st,i⟩
   .exact hw.elim
  .simp at d
 | block id c s =>
  refine⟨?_,λl rest h=>by simp[findLabel] at h⟩
  intro p d T h Q hw
  simp only[c5,Vk] at d
  obtain⟨a,h1,rfl⟩:=d
  simp only[wS] at hw
  obtain⟨e,j,f,m,st,i⟩:=s.1 a h1 T h _ hw
  exact⟨_,j,f,m.block,st,i⟩
 | loop c s =>
  refine⟨?_,λl rest h=>by simp[findLabel] at h⟩
  intro p d T h Q hw
  simp only[c5,Vk] at d
  obtain⟨a,h1,rfl⟩:=d
  simp only[wS] at hw
  obtain⟨I,⟨k,hk⟩,q⟩:=hw
  have go:∀ k T (h:aB),I k T h.view->∃ e j f,pL P n c T h e j f/\(iH h f/\h.length<=f.length)/\Q e j f.view:=by
   intro k
   induction k using Nat.strongRecOn with
   | ind k w =>
    intro T h J
    obtain⟨e,G,v,m,st1,i⟩:=s.1 a h1 T h _ (q k T h.view J)
    rcases D2 i with ⟨rfl,K,z,A⟩ | ⟨B,i⟩
    .obtain⟨L,M,C,N,st2,D⟩:=w K z G v A
     exact⟨L,M,C,.step m N,⟨st1.1.trans st2.1 st1.2,VU st1.2 st2.2⟩,D⟩
    .exact⟨e,G,v,.out m B,st1,i⟩
  obtain⟨e,j,f,m,st,i⟩:=go k T h hk
  exact⟨e,j,f,.loop m,st,i⟩
 | exit id=>exact⟨λp d T h Q hw=>by simp[c5] at d;subst d;exact⟨_,T,h,.exit,⟨.refl _,Vh _⟩,hw⟩,λl rest h=>by simp[findLabel] at h⟩
 | ret=>exact⟨λp d T h Q hw=>by simp[c5] at d;subst d;exact⟨_,T,h,.ret,⟨.refl _,Vh _⟩,hw⟩,λl rest h=>by simp[findLabel] at h⟩
 | label O=>exact⟨λp d T h Q hw=>by simp[c5] at d;subst d;exact⟨_,T,h,.label,⟨.refl _,Vh _⟩,hw⟩,λl rest h=>by
   simp only[findLabel] at h
   split at h
   .simp only[U7] at h;subst h;exact D7
   .simp at h⟩
 | goto O=>exact⟨λp d T h Q hw=>by simp[c5] at d;subst d;exact⟨_,T,h,.goto,⟨.refl _,Vh _⟩,hw⟩,λl rest h=>by simp[findLabel] at h⟩
 | scope c s=>exact⟨KP s.1 s.2,λl rest h=>by simp[findLabel] at h⟩
 | _=>exact⟨λp d=>by simp[c5] at d,λl rest h=>by simp[findLabel] at h⟩
theorem Tt (hm:P.follows .mixedOrders=true) {f:List Nat} (c:Code) (b:SC) (g:c5 P n f c=some b) (T:Env) (h:aB) (Q:Exit->Env->View->Prop) (hw:wS P b T h.view Q) :
 ∃ e d a,cU P n c T h e d a/\(iH h a/\h.length<=a.length)/\Q e d a.view:=(Pa hm c).1 b g T h Q hw
theorem Tn {T:Env} {h:aB} {r:ResultVar} {l:List SR} {rest:List ResultVar} (b:fu P (r :: rest)=some l):∃ s c,l=s :: c/\fu P rest=some c/\∀ K:V->Prop,wR T h.view s K->∃ v,sd P T h r=some v/\K v:=by
 cases r with
 | tmp t =>
  simp only[fu,Vk] at b
  obtain⟨c,h1,rfl⟩:=b
  exact⟨.tmp t,c,rfl,h1,λK hk=>⟨_,rfl,hk⟩⟩
 | cell a t =>
  simp only[fu] at b
  split at b
  .rename_i k c h1 m
   simp at b;subst b
   refine⟨.cell a k,c,rfl,m,λK hk=>?_⟩
   simp only[wR] at hk
   simp only[sd,l0,vW h1]
   split at hk
   .rename_i id i j d
    split at hk
    .rename_i es hH
     obtain⟨f,hk⟩:=hk
     obtain⟨v,g,hk⟩:=oX hk
     exact⟨v,by rw[d];simp only[hH];rw[Va f,g];rfl,hk⟩
    .exact hk.elim
   .rename_i e j d
    obtain⟨v,g,hk⟩:=oX hk
    exact⟨v,by rw[d];simp only;rw[g];rfl,hk⟩
   .exact hk.elim
  .simp at b
theorem OL {T:Env} {h:aB} {K:List V->Prop} : ∀ (rs:List ResultVar) (l:List SR) (acc:List V),fu P rs=some l->A6 T h.view l acc K->∃ vs,lR P T h rs=some vs/\K (acc ++ vs)
 | [],l,acc,a,hw=>by simp[fu] at a;subst a;exact⟨[],rfl,by simpa [A6] using hw⟩
 | r :: rest,l,acc,a,hw=>by
  obtain⟨s,c,rfl,h1,d⟩:=Tn (T:=T) (h:=h) a
  simp only[A6] at hw
  obtain⟨v,e,hk⟩:=d _ hw
  obtain⟨vs,b,hk⟩:=OL rest c (acc ++ [v]) h1 hk
  exact⟨v :: vs,by simp[lR,e,b],by simpa using hk⟩
def wF (P:Program) (F:SF) (vs:List V) (H:View) (K:V->View->Prop):Prop :=
 vs.length<=F.n/\wS P F.code (kP vs) H λe T' H'=>(e=.ret∨e=.normal)/\A6 T' H' F.res [] λl=>K (vz l) H'
theorem aw.of (hm:P.follows .mixedOrders=true) {f:FuncId} {j:List Nat} {F:SF} (b:aQ P f j=some F) {vs:List V} {H:View} {K:V->View->Prop} (hw:wF P F vs H K):aw P f vs H K:=by
 unfold aQ at b
 split at b
 .rename_i fn g
  split at b
  .rename_i c k
   split at b
   .rename_i m rs h1 n o
    simp at b;subst b
    refine⟨o,?_⟩
    rintro h rfl
    obtain⟨e,r,p,q,st,he,hr⟩:=Tt hm c m h1 _ h _ hw.2
    obtain⟨d,i,hk⟩:=OL _ _ [] n hr
    refine⟨vz d,p,cw.JI g k hw.1 q he ?_,st.1,by simpa using hk⟩
    unfold LX
    rw[i]
    cases d with
    | nil=>rfl
    | cons a l=>cases l <;> rfl
   .simp at b
  .simp at b
 .simp at b
theorem aw.mono {f:FuncId} {vs:List V} {H:View} {K c:V->View->Prop} (h:aw P f vs H K) (hk:∀ r H',K r H'->c r H'):aw P f vs H c :=
 ⟨h.1,λd e=>let ⟨r,g,a,s,b⟩:=h.2 d e; ⟨r,g,a,s,hk _ _ b⟩⟩
theorem ay.Qt {f:FuncId} {vs:List V} {H:View} {t:V} {K:V->View->Prop} (h:ay P f vs t) (a:di P f=true) (hk:K t H):Ck P f vs H K :=
 ⟨a,λb e=>⟨t,b,cw.iV h b,λ_ _=>rfl,e ▸ hk⟩⟩
theorem aw.Qt {f:FuncId} {vs:List V} {H:View} {K:V->View->Prop} (h:aw P f vs H λr H'=>(∀ id,H id≠.dead->H' id=H id)/\K r H'):Ck P f vs H K :=
 ⟨h.1,λc e=>by
  obtain⟨r,g,i,st,d,hk⟩:=h.2 c e
  refine⟨r,g,i,λid a=>?_,hk⟩
  by_cases b:c.view id=.dead
  .rw[b];exact st id a b
  .rw[<-e] at d;exact d id b⟩
end
inductive cP {α:Type} (x:α):Type where
 | mk
def fh (s:ByteArray):List Int:=s.data.toList.map λb=>(b.toNat:Int)
theorem eu (s:ByteArray):s.size=(fh s).length:=by rw[fh,Vl,bsize]
def bc (P:Program) (c:SC) (T:Env) (H:View) (Q:Exit->Env->View->Prop) (_:cP (T,H,Q)):Prop:=wS P (.loop c) T H Q
def Te (P:Program) (l:Nat) (c r:SC) (T:Env) (H:View) (Q:Exit->Env->View->Prop) (_:cP (T,H,Q)):Prop:=wS P (.scope l c r) T H Q
def av (P:Program) (quiet:Bool) (f:FuncId) (vs:List V) (H:View) (K:V->View->Prop) (_:cP (H,K)):Prop :=
 if quiet then Ck P f vs H K else aw P f vs H K
def B1 {α:Type} (v:α) (F:α->Prop) (_:cP F):Prop:=F v
def dE (v:V) (F:V->Prop) (_:cP F):Prop:=F v
def F4 (o:bT) (F:bT->Prop) (_:cP F):Prop:=F o
def pR {α:Type} (o:Option α) (F:Option α->Prop) (_:cP F):Prop:=F o
def ah (b:Bool) (A B:Prop) (_:cP (A,B)):Prop:=(b=true->A)/\(b=false->B)
theorem TM {α:Type} (v:α) (F:α->Prop) (w:cP F):B1 v F w=F v:=propext Iff.rfl
section
variable (F:V->Prop) (w:cP F)
theorem IS (v:Value):dE (.val v) F w=F (.val v):=propext Iff.rfl
theorem JE (k:Nat):dE (.emp k) F w=F (.emp k):=propext Iff.rfl
theorem JJ:dE .er F w=F .er:=propext Iff.rfl
theorem Jb (es:List (List V)):dE (.aS es) F w=F (.aS es):=propext Iff.rfl
theorem OE (a b c d:Nat):dE (.sl a b c d) F w=F (.sl a b c d):=propext Iff.rfl
theorem I8 (a b c:Nat):dE (.ptr a b c) F w=F (.ptr a b c):=propext Iff.rfl
theorem Gm (e:List V) (j:Nat):dE (.aF e j) F w=F (.aF e j):=propext Iff.rfl
theorem Me (a:Nat):dE (.mp a) F w=F (.mp a):=propext Iff.rfl
theorem L3 (f:FuncId) (a b:List V):dE (.fn f a b) F w=F (.fn f a b):=propext Iff.rfl
theorem J3 (cs:List V):dE (.agg cs) F w=F (.agg cs):=propext Iff.rfl
theorem IX (cs:List V):dE (.bm cs) F w=F (.bm cs):=propext Iff.rfl
end
theorem IH (F:bT->Prop) (w:cP F) (k:Nat) (es:List (List V)):F4 (.arr k es) F w=F (.arr k es):=propext Iff.rfl
theorem J6 (F:bT->Prop) (w:cP F) (es:List (V × V × Nat)) (k:Nat):F4 (.map es k) F w=F (.map es k):=propext Iff.rfl
theorem G6 {α:Type} (F:Option α->Prop) (w:cP F) (x:α):pR (some x) F w=F (some x):=propext Iff.rfl
theorem F5 (A B:Prop) (w:cP (A,B)):ah true A B w=A:=by simp[ah]
theorem Ec (A B:Prop) (w:cP (A,B)):ah false A B w=B:=by simp[ah]
theorem I9 (b:Bool) (A B:Prop) (w:cP (A,B)):ah (!b) A B w=ah b B A .mk:=by cases b <;> simp[ah]
theorem ah.split {b:Bool} {A B:Prop} {w:cP (A,B)} (h1:b=true->A) (a:b=false->B):ah b A B w:=⟨h1,a⟩
theorem ah.dec {p:Prop} [Decidable p] {A B:Prop} {w:cP (A,B)} (h1:p->A) (a:¬ p->B):ah (decide p) A B w:=⟨λh=>h1 (by simpa using h),λh=>a (by simpa using h)⟩
theorem ah.eq {a b:Int} {A B:Prop} {w:cP (A,B)} (h1:a=b->A) (c:¬ a=b->B):ah (a == b) A B w:=⟨λh=>h1 (by simpa using h),λh=>c (by simpa using h)⟩
theorem ah.ne {a b:Int} {A B:Prop} {w:cP (A,B)} (h1:¬ a=b->A) (c:a=b->B):ah (a != b) A B w:=⟨λh=>h1 (by simpa using h),λh=>c (by simpa using h)⟩
section
variable (P:Program) (T:Env) (H:View)
theorem QP (F:SF) (vs:List V) (K:V->View->Prop):wF P F vs H K=(vs.length<=F.n/\wS P F.code (kP vs) H λe a H'=>(e=.ret∨e=.normal)/\A6 a H' F.res [] λl=>B1 (vz l) (λv=>K v H') .mk):=propext Iff.rfl
theorem IG (Q:Exit->Env->View->Prop):wS P .skip T H Q=Q .normal T H:=propext Iff.rfl
theorem Ej (q:Bool) (gs:List SG) (Q:Exit->Env->View->Prop):wS P (.region q gs) T H Q=xb P q gs T H (Q .normal):=propext Iff.rfl
theorem BK (a:List (Nat × Nat)) (gs:List SG) (Q:Exit->Env->View->Prop):wS P (.pf a gs) T H Q=xb P false gs T H (λb H'=>yN a b (Q .normal b H')):=propext Iff.rfl
theorem A9 (a:Nat × Nat × Nat) (b:List (Nat × Nat)) (gs:List SG) (Q:Exit->Env->View->Prop):wS P (.y0 a b gs) T H Q=xb P false gs T H (λc H'=>HE P a.1 (c a.2.1) (c a.2.2) H/\yN b c (Q .normal c H')):=propext Iff.rfl
theorem IY (K:Prop):yN [] T K=K:=propext Iff.rfl
theorem FP (a b:Nat) (l:List (Nat × Nat)) (K:Prop):yN ((a,b) :: l) T K=(gG (T a) (T b)/\yN l T K):=propext Iff.rfl
theorem Kb (i j k a b c:Nat):gG (.ptr i j k) (.ptr a b c)=(i≠a):=propext Iff.rfl
theorem Iw (i j k a b c d:Nat):gG (.ptr i j k) (.sl a b c d)=(i≠a):=propext Iff.rfl
theorem Fe (i j k e:Nat):gG (.ptr i j k) (.emp e)=True:=id rfl
theorem FY (i j k:Nat):gG (.ptr i j k) .er=True:=id rfl
theorem Gk (i j k:Nat) (es:List (List V)):gG (.ptr i j k) (.aS es)=True:=id rfl
theorem JC (a b c d e f g h:Nat):gG (.sl a b c d) (.sl e f g h)=(a≠e):=propext Iff.rfl
theorem Mh (a b c d e:Nat):gG (.sl a b c d) (.emp e)=True:=id rfl
theorem OR (a b c d:Nat):gG (.sl a b c d) .er=True:=id rfl
theorem NF (a b c d:Nat) (es:List (List V)):gG (.sl a b c d) (.aS es)=True:=id rfl
theorem Iu (k:Nat) (v:V):gG (.emp k) v=True:=by cases v <;> rfl
theorem Jr (v:V):gG .er v=True:=by cases v <;> rfl
theorem Jo (es:List (List V)) (v:V):gG (.aS es) v=True:=by cases v <;> rfl
theorem GF (e:List V) (j:Nat) (v:V):gG (.aF e j) v=True:=by cases v <;> rfl
theorem M0 (x y:SC) (Q:Exit->Env->View->Prop):wS P (.seq x y) T H Q=wS P x T H λe a H'=>zu e (wS P y a H' Q) (Q e a H'):=propext Iff.rfl
theorem IP (c:SX) (x y:SC) (Q:Exit->Env->View->Prop):wS P (.cond c x y) T H Q=dE (c.at T) (λv=>match v with
 | .val (.bool b)=>ah b (wS P x (sS c true T) H Q) (wS P y (sS c false T) H Q) .mk
 | _=>False) .mk:=propext Iff.rfl
theorem HB (id:Nat) (c:SC) (Q:Exit->Env->View->Prop):wS P (.block id c) T H Q=wS P c T H λe=>Q (pH id e):=propext Iff.rfl
theorem IE (id:Nat) (Q:Exit->Env->View->Prop):wS P (.exit id) T H Q=Q (.exit id) T H:=propext Iff.rfl
theorem Oj (Q:Exit->Env->View->Prop):wS P .ret T H Q=Q .ret T H:=propext Iff.rfl
theorem F2 (l:Nat) (c r:SC) (Q:Exit->Env->View->Prop):wS P (.scope l c r) T H Q=Te P l c r T H Q .mk:=propext Iff.rfl
theorem Hw (l:Nat) (Q:Exit->Env->View->Prop):wS P (.label l) T H Q=Q .normal T H:=propext Iff.rfl
theorem Ix (l:Nat) (Q:Exit->Env->View->Prop):wS P (.goto l) T H Q=Q (.goto l) T H:=propext Iff.rfl
theorem B9 (l c:Nat) (a b:Prop):zo l (.goto c) a b=(c=l/\a):=propext Iff.rfl
theorem yk (l:Nat) (a b:Prop):zo l .normal a b=b:=propext Iff.rfl
theorem AZ (l i:Nat) (a b:Prop):zo l (.exit i) a b=b:=propext Iff.rfl
theorem Dw (l:Nat) (a b:Prop):zo l .ret a b=b:=propext Iff.rfl
theorem GY (l:Nat) (a b:Prop):zu (.goto l) a b=b:=propext Iff.rfl
theorem BR (i l:Nat):pH i (.goto l)=.goto l:=id rfl
theorem Jq (c:SC) (Q:Exit->Env->View->Prop):wS P (.loop c) T H Q=bc P c T H Q .mk:=propext Iff.rfl
theorem Jd (q:Bool) (K:Env->View->Prop):xb P q [] T H K=K T H:=propext Iff.rfl
theorem FM (q:Bool) (g:SG) (r:List SG) (K:Env->View->Prop):xb P q (g :: r) T H K=wG P q g T H λa H'=>xb P q r a H' K:=propext Iff.rfl
theorem JB (q:Bool) (ops:List (Option Nat × SB)) (K:Env->View->Prop):wG P q ⟨none,ops⟩ T H K=yu P q ops T H K:=propext Iff.rfl
theorem Ju (q:Bool) (d:Nat) (ops:List (Option Nat × SB)) (K:Env->View->Prop):wG P q ⟨some (d,true),ops⟩ T H K=dE (T d) (λv=>match v with
 | .val (.bool b)=>ah b (yu P q ops (T.put (some d) (.val (.bool true))) H K) (K (iw ops (T.put (some d) (.val (.bool false)))) H) .mk
 | .bm []=>K (iw ops T) H
 | _=>False) .mk:=propext Iff.rfl
theorem Hb (q:Bool) (d:Nat) (ops:List (Option Nat × SB)) (K:Env->View->Prop):wG P q ⟨some (d,false),ops⟩ T H K=dE (T d) (λv=>match v with
  | .val (.bool b)=>ah b (K (iw ops (T.put (some d) (.val (.bool true)))) H) (yu P q ops (T.put (some d) (.val (.bool false))) H K) .mk
  | .bm []=>K (iw ops T) H
  | _=>False) .mk:=by
 simp only[wG,dE]
 generalize T d=v
 cases v with
 | val x=>cases x <;> simp[ah,and_comm]
 | bm l=>cases l <;> simp
 | _=>simp
theorem zI:iw [] T=T:=id rfl
theorem yP (d:Option Nat) (b:SB) (r:List (Option Nat × SB)):iw ((d,b) :: r) T=iw r (T.put d (.bm [])):=id rfl
theorem JA (q:Bool) (K:Env->View->Prop):yu P q [] T H K=K T H:=propext Iff.rfl
theorem Hr (q:Bool) (d:Option Nat) (b:SB) (r:List (Option Nat × SB)) (K:Env->View->Prop):yu P q ((d,b) :: r) T H K=wB P q b T H λv H'=>B1 v (λa=>yu P q r (T.put d a) H' K) .mk:=propext Iff.rfl
theorem QU (q:Bool) (s:SI) (K:V->View->Prop):wB P q (.op s) T H K=wI P s T H K:=propext Iff.rfl
theorem JR (q:Bool) (f:SX) (args:List SX) (K:V->View->Prop):wB P q (.call f args) T H K=dE (f.at T) (λv=>match v with
 | .fn g first cap=>av P q g (first ++ args.map (SX.at T) ++ cap) H K .mk
 | _=>False) .mk:=propext Iff.rfl
theorem G2 (q:Bool) (f:SX) (args:List SX) (K:V->View->Prop):wB P q (.y8 f args) T H K=dE (f.at T) (λv=>match v with
 | .fn g first cap=>av P true g (first ++ args.map (SX.at T) ++ cap) H K .mk
 | _=>False) .mk:=propext Iff.rfl
theorem OG (x:SX) (K:V->View->Prop):wI P (.ee x) T H K=K (x.at T) H:=propext Iff.rfl
theorem JX (c a b:SX) (K:V->View->Prop):wI P (.pick c a b) T H K=dE (c.at T) (λv=>match v with
  | .val (.bool t)=>ah t (K (a.at T) H) (K (b.at T) H) .mk
  | _=>False) .mk:=by
 simp only[wI,dE]
 generalize c.at T=v
 cases v with
 | val x =>
  cases x with
  | bool t=>cases t <;> simp[ah]
  | _=>simp
 | _=>simp
theorem NK (x:SX) (K:V->View->Prop):wI P (.box x) T H K=dE (x.at T) (λv=>v.cells.all aJ=true/\B1 v.cells (λcs=>∀ n,H n=.dead->K (.ptr n 0 0) (H.set n (.arr cs.length [cs]))) .mk) .mk:=propext Iff.rfl
theorem L0 (x:SX) (K:V->View->Prop):wI P (.iZ x) T H K=dE (x.at T) (λv=>v.cells.all aJ=true/\B1 v.cells (λcs=>K (.aF cs 0) H) .mk) .mk:=propext Iff.rfl
theorem GH (z:List V) (K:V->View->Prop):wI P (.alloc z) T H K=(z.all aJ=true/\∀ n,H n=.dead->K (.ptr n 0 0) (H.set n (.arr z.length [z]))):=propext Iff.rfl
theorem JO (sz:Option Nat) (a:SX) (K:V->View->Prop):wI P (.load sz a) T H K=dE (a.at T) (λv=>match v with
 | .ptr id i j=>F4 (H id) (λo=>match o with
  | .arr _ es=>i < es.length/\B1 (es.getD i []) (λe=>jr sz e j λv=>K v H) .mk
  | _=>False) .mk
 | .aF e j=>jr sz e j λv=>K v H
 | _=>False) .mk:=propext Iff.rfl
theorem Gi (sz:Option Nat) (a:SX) (K:V->View->Prop):wI P (.zj sz a) T H K=dE (a.at T) (λv=>match v with
 | .aF e j=>jr sz e j λv=>K v H
 | _=>False) .mk:=propext Iff.rfl
theorem Hs (sz:Nat) (a x:SX) (K:V->View->Prop):wI P (.store sz a x) T H K=dE (a.at T) (λv=>match v with
 | .ptr id i j=>F4 (H id) (λo=>match o with
  | .arr esz es=>B1 (x.at T).cells (λcs=>(i < es.length/\cs.length=sz/\j+cs.length<=esz/\cs.all aJ=true) /\
   B1 (es.set i (eZ (es.getD i []) j cs)) (λes'=>K .any (H.set id (.arr esz es'))) .mk) .mk
  | _=>False) .mk
 | _=>False) .mk:=propext Iff.rfl
theorem JV (x:SX) (K:V->View->Prop):wI P (.Aj x) T H K=dE (x.at T) (λv=>match v with
 | .ptr id i j=>K (.ptr id i j) H
 | .aF e j=>K (.aF e j) H
 | .fn f a b=>K (.fn f a b) H
 | _=>False) .mk:=propext Iff.rfl
theorem JM (off:Nat) (x:SX) (K:V->View->Prop):wI P (.addr off x) T H K=dE (x.at T) (λv=>match v with
 | .ptr id i j=>K (.ptr id i (j+off)) H
 | .aF e j=>K (.aF e (j+off)) H
 | _=>False) .mk:=propext Iff.rfl
theorem Fy (off:Nat) (sz:Option Nat) (x:SX) (K:V->View->Prop):wI P (.field off sz x) T H K=dE (x.at T) (λv=>match v with
 | .agg cs=>jr sz cs off λv=>K v H
 | _=>False) .mk:=propext Iff.rfl
theorem M8 (sz:Nat) (x i:SX) (K:V->View->Prop):wI P (.idx sz x i) T H K=pR (asNat (i.at T)) (λo=>match o with
  | none=>False
  | some q=>dE (x.at T) (λv=>match v with
   | .sl id off len esz=>(q < len/\esz=sz)/\K (.ptr id (off+q) 0) H
   | .aS es=>pR es[q]? (λo=>match o with
    | some e=>e.length=sz/\K (.aF e 0) H
    | none=>False) .mk
   | _=>False) .mk) .mk:=by
 simp only[wI,pR,dE]
 cases asNat (i.at T) with
 | none=>rfl
 | some q =>
  simp only
  cases x.at T with
  | aS es =>
   simp only
   cases h:es[q]? with
   | none=>simp
   | some e=>simp
  | _=>rfl
theorem Iy (f:FuncId) (first cap:List SX) (K:V->View->Prop):wI P (.rW f first cap) T H K=K (.fn f (first.map (SX.at T)) (cap.map (SX.at T))) H:=propext Iff.rfl
theorem Gu (K:V->View->Prop):wI P .sU T H K=(∀ n,H n=.dead->K (.mp n) (H.set n (.map [] 0))):=propext Iff.rfl
theorem NS (i:Nat) (x:SX) (K:V->View->Prop):wI P (.ext i x) T H K=dE (x.at T) (λv=>match v with
 | .bm vs=>i < vs.length/\K (vs.getD i .any) H
 | _=>False) .mk:=propext Iff.rfl
theorem Nf (x:SX) (K:V->View->Prop):wI P (.len x) T H K=pR (dH (x.at T)) (λo=>match o with
 | some n=>K (cF n) H
 | none=>False) .mk:=propext Iff.rfl
theorem J8 (x:SX) (K:V->View->Prop):wI P (.pw x) T H K=dE (x.at T) (λv=>match v with
 | .val (.string s)=>K (cF s.size) H
 | _=>False) .mk:=propext Iff.rfl
theorem Gl (op:BinOp) (x y:SX) (K:V->View->Prop):wI P (.arith op x y) T H K=dE (x.at T) (λv=>dE (y.at T) (λc=>match v,c with
 | .val (.int k a),.val (.int d b)=>k=d/\pR (gL op k a b) (λo=>match o with | some v=>K (.val v) H | none=>False) .mk
 | _,_=>False) .mk) .mk:=propext Iff.rfl
theorem QV (l:Bool) (x y:SX) (K:V->View->Prop):wI P (.sh l x y) T H K=dE (x.at T) (λv=>dE (y.at T) (λc=>match v,c with
 | .val (.int k a),.val (.int _ b)=>0<=b/\K (.val (.int k (KY l k a b))) H
 | _,_=>False) .mk) .mk:=propext Iff.rfl
theorem MN (op:BinOp) (x y:SX) (K:V->View->Prop):wI P (.xR op x y) T H K=dE (x.at T) (λv=>dE (y.at T) (λc=>match v,c with
 | .val (.string a),.val (.string b)=>(match op with
  | .eql=>K (.val (.bool (jj a b))) H
  | .neq=>K (.val (.bool (!jj a b))) H
  | _=>False)
 | _,_=>False) .mk) .mk:=propext Iff.rfl
theorem IJ (x i:SX) (K:V->View->Prop):wI P (.hZ x i) T H K=dE (x.at T) (λv=>pR (asNat (i.at T)) (λo=>match v,o with
  | .val (.string s),some q=>pR (fh s)[q]? (λo=>match o with
   | some c=>K (.val (.int .u8 c)) H
   | none=>False) .mk
  | _,_=>False) .mk) .mk:=by
 simp only[wI,pR,dE]
 generalize x.at T=v
 generalize asNat (i.at T)=o
 cases v with
 | val u =>
  cases u with
  | string s =>
   cases o with
   | none=>rfl
   | some q =>
    simp only[fh,U9]
    cases h:s.data.toList[q]? with
    | none=>simp
    | some e=>simp
  | _=>rfl
 | _=>rfl
theorem L9 (x:SX) (K:V->View->Prop):wI P (.not x) T H K=dE (x.at T) (λv=>match v with
 | .val (.bool t)=>K (.val (.bool (!t))) H
 | _=>False) .mk:=propext Iff.rfl
theorem L5 (eq:Bool) (k:Nat) (x y:SX) (K:V->View->Prop):wI P (.nil eq k x y) T H K=pR (Av (eK k (x.at T)) (eK k (y.at T))) (λo=>match o with
 | some b=>K (.val (.bool (if eq=true then b else !b))) H
 | none=>False) .mk:=propext Iff.rfl
theorem Je (x y:SX) (K:V->View->Prop):wI P (.beq true x y) T H K=dE (x.at T) (λv=>dE (y.at T) (λc=>match v,c with
 | .val (.bool a),.val (.bool b)=>K (.val (.bool (a == b))) H
 | _,_=>False) .mk) .mk:=propext Iff.rfl
theorem Jn (x y:SX) (K:V->View->Prop):wI P (.beq false x y) T H K=dE (x.at T) (λv=>dE (y.at T) (λc=>match v,c with
 | .val (.bool a),.val (.bool b)=>K (.val (.bool (a != b))) H
 | _,_=>False) .mk) .mk:=propext Iff.rfl
theorem Mf (x y:SX) (K:V->View->Prop):wI P (.mm true x y) T H K=dE (x.at T) (λv=>dE (y.at T) (λc=>match v,c with
 | .val (.int k a),.val (.int _ b)=>K (.val (.int k (if b > a then b else a))) H
 | _,_=>False) .mk) .mk:=propext Iff.rfl
theorem My (x y:SX) (K:V->View->Prop):wI P (.mm false x y) T H K=dE (x.at T) (λv=>dE (y.at T) (λc=>match v,c with
 | .val (.int k a),.val (.int _ b)=>K (.val (.int k (if b < a then b else a))) H
 | _,_=>False) .mk) .mk:=propext Iff.rfl
theorem IW (k:IntKind) (x:SX) (K:V->View->Prop):wI P (.conv k x) T H K=dE (x.at T) (λv=>match v with
 | .val (.int _ a)=>K (.val (.int k (k.wrap a))) H
 | _=>False) .mk:=propext Iff.rfl
theorem HI (n k:Nat) (o:bT):View.set H n o k=if k=n then o else H k:=id rfl
theorem Gz (z:List V) (parts:List (Nat × Nat × SX)) (K:V->View->Prop):wI P (.build z parts) T H K=pR (lH z (parts.map λp=>(p.1,p.2.1,p.2.2.at T))) (λo=>match o with
 | some cs=>K (.agg cs) H
 | none=>False) .mk:=propext Iff.rfl
theorem DX (len sz:Nat) (z:List V) (parts:List (Nat × SX)) (K:V->View->Prop):wI P (.bG len sz z parts) T H K=pR (kN sz (List.replicate len z) (parts.map λp=>(p.1,p.2.at T))) (λo=>match o with
 | some es=>∀ n,H n=.dead->K (.sl n 0 len sz) (H.set n (.arr sz es))
 | none=>False) .mk:=propext Iff.rfl
theorem GM (sz:Nat) (x:SX) (lo hi:Option SX) (K:V->View->Prop):wI P (.slice sz x lo hi) T H K=pR (gf sz (x.at T) (lo.map (SX.at T)) (hi.map (SX.at T))) (λo=>match o with
 | some (v,.none,_)=>K v H
 | _=>False) .mk:=propext Iff.rfl
theorem JU (sz bytes:Nat) (z:List V) (l c:SX) (K:V->View->Prop):wI P (.make sz bytes z l c) T H K=pR (asNat (l.at T)) (λa=>pR (asNat (c.at T)) (λb=>match a,b with
 | some l,some c=>(l<=c/\c < aD/\bytes * c < aD)/\(c=0->K (.emp 2) H)/\(c≠0->∀ n,H n=.dead->K (.sl n 0 l sz) (H.set n (.arr sz (List.replicate l z))))
 | _,_=>False) .mk) .mk:=propext Iff.rfl
def k6 (sz bytes:Nat) (x:V) (xs:List (List V)) (H:View) (K:V->View->Prop) (_:cP (H,K)):Prop:=if xs.isEmpty=true then (match x with
  | .emp k=>K (.emp k) H
  | .er=>K .er H
  | .aS es=>K (.aS es) H
  | .sl a b c d=>K (.sl a b c d) H
  | _=>False)
 else (xs.all λe=>e.length == sz && e.all aJ)=true/\(match x with
  | .emp _=>(xs.length * bytes < aD/\xs.length < aD)/\∀ n,H n=.dead->K (.sl n 0 xs.length sz) (H.set n (.arr sz xs))
  | .sl id off len esz=>match H id with
   | .arr _ es=>(off+len<=es.length/\esz=sz/\(len+xs.length) * bytes < aD/\len+xs.length < aD) /\
    ∀ n,H n=.dead->K (.sl n 0 (len+xs.length) esz) ((H.set id .dead).set n (.arr esz ((es.drop off).take len ++ xs)))
   | _=>False
  | _=>False)
theorem N5 (sz bytes:Nat) (x y:SX) (K:V->View->Prop):wI P (.app sz bytes x y) T H K=pR (cm H (y.at T)) (λo=>match o with
 | some (xs,_)=>k6 sz bytes (x.at T) xs H K .mk
 | none=>False) .mk:=propext Iff.rfl
theorem yJ (sz bytes k:Nat) (xs:List (List V)) (K:V->View->Prop) (w:cP (H,K)) (a:xs.isEmpty=false):k6 sz bytes (.emp k) xs H K w=((xs.all λe=>e.length == sz && e.all aJ)=true/\(xs.length * bytes < aD/\xs.length < aD)/\∀ n,H n=.dead->K (.sl n 0 xs.length sz) (H.set n (.arr sz xs))):=by
 unfold k6;rw[U8 (by rw[a];simp)]
theorem r5 (sz bytes id off len esz:Nat) (xs:List (List V)) (K:V->View->Prop) (w:cP (H,K)) (a:xs.isEmpty=false):k6 sz bytes (.sl id off len esz) xs H K w=((xs.all λe=>e.length == sz && e.all aJ)=true/\F4 (H id) (λo=>match o with
  | .arr _ es=>(off+len<=es.length/\esz=sz/\(len+xs.length) * bytes < aD/\len+xs.length < aD) /\
   ∀ n,H n=.dead->K (.sl n 0 (len+xs.length) esz) ((H.set id .dead).set n (.arr esz ((es.drop off).take len ++ xs)))
  | _=>False) .mk):=by
 unfold k6 F4;rw[U8 (by rw[a];simp)]
theorem BU (id off len esz z:Nat) (es:List (List V)) (hH:H id=.arr z es) (a:off+(len+1)<=es.length):cm H (.sl id off (len+1) esz)=some ((es.drop off).take (len+1),[id]):=by
 simp only[cm,hH];rw[Va a]
theorem zF (es:List (List V)):cm H (.aS es)=some (es,[]):=id rfl
theorem uh (k:Nat):cm H (.emp k)=some ([],[]):=id rfl
theorem Jh (x:SX) (K:V->View->Prop):wI P (.Di x) T H K=dE (x.at T) (λv=>match v with
 | .aS es=>pR (qq es) (λo=>match o with
  | some l=>K (.val (.string ⟨l.toArray⟩)) H
  | none=>False) .mk
 | _=>False) .mk:=propext Iff.rfl
theorem JH (x:SX) (K:V->View->Prop):wI P (.fJ x) T H K=dE (x.at T) (λv=>match v with
 | .val (.string s)=>K (.aS (fV s)) H
 | _=>False) .mk:=propext Iff.rfl
def pA (P:Program) (op:Op) (ty:TypeId) (T:Env) (H:View) (K:V->View->Prop) (_:cP (T,H,K)):Prop:=wI P (.old op ty) T H K
theorem OX (op:Op) (ty:TypeId) (K:V->View->Prop):wI P (.old op ty) T H K=pA P op ty T H K .mk:=propext Iff.rfl
theorem Oq (t:Nat):ev T (.tmp t)=T t:=id rfl
theorem Hq (v:Value):ev T (.const v)=fe v:=id rfl
theorem O1 (t:Nat):(SX.tmp t).at T=T t:=id rfl
theorem Ow (v:V):(SX.val v).at T=v:=id rfl
theorem IZ (d t:Nat) (v:V):(T.put (some d) v) t=if t=d then v else T t:=id rfl
theorem Fj (v:V):T.put none v=T:=id rfl
theorem F6 (vs:List V) (t:Nat):kP vs t=vs.getD t .any:=id rfl
theorem AF (e:List V) (j:Nat) (K:V->Prop):jr none e j K=(j < e.length/\K (e.getD j .any)):=propext Iff.rfl
theorem BD (n:Nat) (e:List V) (j:Nat) (K:V->Prop):jr (some n) e j K=(j+n<=e.length/\K (.agg ((e.drop j).take n))):=propext Iff.rfl
theorem Bk (a b:Prop):zu .normal a b=a:=propext Iff.rfl
theorem GU (i:Nat) (a b:Prop):zu (.exit i) a b=b:=propext Iff.rfl
theorem J9 (a b:Prop):zu .ret a b=b:=propext Iff.rfl
theorem yD (i:Nat):pH i .normal=.normal:=id rfl
theorem Ez (i:Nat):pH i .ret=.ret:=id rfl
theorem AI (i j:Nat):pH i (.exit j)=if j=i then .normal else .exit j:=by simp only[pH]
theorem J7 (acc:List V) (K:List V->Prop):A6 T H [] acc K=K acc:=propext Iff.rfl
theorem Fu (r:SR) (l:List SR) (acc:List V) (K:List V->Prop):A6 T H (r :: l) acc K=wR T H r λv=>A6 T H l (acc ++ [v]) K:=propext Iff.rfl
theorem OO (t:Nat) (K:V->Prop):wR T H (.tmp t) K=K (T t):=propext Iff.rfl
theorem IL (t:Nat) (sz:Option Nat) (K:V->Prop):wR T H (.cell t sz) K=dE (T t) (λv=>match v with
 | .ptr id i j=>F4 (H id) (λo=>match o with
  | .arr _ es=>i < es.length/\B1 (es.getD i []) (λe=>jr sz e j K) .mk
  | _=>False) .mk
 | .aF e j=>jr sz e j K
 | _=>False) .mk:=propext Iff.rfl
theorem DL (t:Nat) (b:Bool):sS (.tmp t) b T=T.put (some t) (.val (.bool b)):=id rfl
theorem DO (v:V) (b:Bool):sS (.val v) b T=T:=id rfl
theorem NT:(Exit.ret=Exit.ret∨Exit.ret=Exit.normal)=True:=by simp
theorem Ee:(Exit.normal=Exit.ret∨Exit.normal=Exit.normal)=True:=by simp
end
section
variable {P:Program} {T:Env} {H:View}
theorem bc.intro {c:SC} {Q:Exit->Env->View->Prop} {v:cP (T,H,Q)} (I:Nat->Env->View->Prop) (k:Nat) (d:I k T H)
  (f:∀ k T H,I k T H->wS P c T H λe a H'=>zu e (∃ b,b < k/\I b a H') (Q e a H')):bc P c T H Q v:=by
 simp only[bc,wS]
 exact⟨I,⟨k,d⟩,f⟩
theorem av.pure {q:Bool} {f:FuncId} {vs:List V} {K:V->View->Prop} {v:cP (H,K)} {t:V} (b:ay P f vs t) (hk:K t H) (a:di P f=true:=by kernel_rfl):av P q f vs H K v:=by
 unfold av
 cases q with
 | true=>exact b.Qt a hk
 | false =>
  refine⟨a,?_⟩
  rintro h rfl
  exact⟨t,h,cw.iV b h,.refl _,hk⟩
theorem av.eD {f:FuncId} {vs:List V} {K:V->View->Prop} {v:cP (H,K)} (a:aw P f vs H K):av P false f vs H K v:=a
theorem EK:aB.view []=λ_=>bT.dead:=by funext id;simp[aB.view]
theorem ay.of {f:FuncId} {vs:List V} {t:V} (b:∀ v∈vs,Tree v) (h:aw P f vs (λ_=>.dead) λr H'=>∀ a:aB,a.view=H'->Fr a r t):ay P f vs t:=by
 obtain⟨r,a,c,_,d⟩:=h.2 [] EK
 exact ay.vN b c (d a rfl)
theorem wrap64 {x:Int} (h1 : -9223372036854775808<=x) (d:x<=9223372036854775807):IntKind.wrap .i64 x=x:=by
 unfold IntKind.wrap
 have a:(2:Int) ^ IntKind.i64.bits=18446744073709551616:=by rfl
 have b:(2:Int) ^ (IntKind.i64.bits - 1)=9223372036854775808:=by rfl
 have c:IntKind.i64.signed=true:=by rfl
 simp only[a,b,c,V3,Vj]
 split <;> omega
theorem DN {k:IntKind} {i:Int} (h:0<=i):asNat (.val (.int k i))=some i.toNat:=by simp[asNat,h]
end
theorem Et (v:Value):V.cells (.val v)=[.val v]:=id rfl
theorem yW (v:Value):aJ (.val v)=true:=id rfl
theorem EF (k:Nat):V.cells (.emp k)=[.emp k]:=id rfl
theorem CI (k:Nat):aJ (.emp k)=true:=id rfl
theorem DR  : V.cells .er=[.er]:=id rfl
theorem IQ  : aJ .er=true:=id rfl
theorem Dl (es:List (List V)):V.cells (.aS es)=[.aS es]:=id rfl
theorem Js (es:List (List V)):aJ (.aS es)=true:=id rfl
theorem G7 (a b c d:Nat):V.cells (.sl a b c d)=[.sl a b c d]:=id rfl
theorem Mb (a b c d:Nat):aJ (.sl a b c d)=true:=id rfl
theorem DV (a b c:Nat):V.cells (.ptr a b c)=[.ptr a b c]:=id rfl
theorem IT (a b c:Nat):aJ (.ptr a b c)=true:=id rfl
theorem A7 (e:List V) (j:Nat):V.cells (.aF e j)=[.aF e j]:=id rfl
theorem Gx (e:List V) (j:Nat):aJ (.aF e j)=true:=id rfl
theorem Gp (a:Nat):V.cells (.mp a)=[.mp a]:=id rfl
theorem Mq (a:Nat):aJ (.mp a)=true:=id rfl
theorem GC (f:FuncId) (a b:List V):V.cells (.fn f a b)=[.fn f a b]:=id rfl
theorem Mn (f:FuncId) (a b:List V):aJ (.fn f a b)=true:=id rfl
theorem D4 (cs:List V):V.cells (.agg cs)=cs:=id rfl
theorem IC (k:Nat):dH (.emp k)=some 0:=id rfl
theorem IU:dH .er=some 0:=id rfl
theorem Jg (es:List (List V)):dH (.aS es)=some es.length:=id rfl
theorem NG (a b c d:Nat):dH (.sl a b c d)=some c:=id rfl
abbrev TO {p:Prop} (_:p):Prop:=p
theorem QT (P:Program) (T:Env) (H:View) (a:SC) (Q:Exit->Env->View->Prop):wS P (af [a]) T H Q=wS P a T H Q:=by rw[af]
theorem QW (P:Program) (T:Env) (H:View) (a b:SC) (l:List SC) (Q:Exit->Env->View->Prop):wS P (af (a :: b :: l)) T H Q=wS P (.seq a (af (b :: l))) T H Q:=by rw[af]
abbrev Wr:Prop:=TO (And.intro @QT <| And.intro @QW <| And.intro @QP <| And.intro @IG <| And.intro @Ej <| And.intro @BK <| And.intro @A9 <| And.intro @IY <| And.intro @FP <| And.intro @M0 <|
 And.intro @IP <| And.intro @HB <| And.intro @IE <| And.intro @Oj <| And.intro @F2 <| And.intro @Hw <| And.intro @Ix <| And.intro @B9 <| And.intro @yk <| And.intro @AZ <| And.intro @Dw <| And.intro @GY <| And.intro @BR <|
 And.intro @Jq <| And.intro @Jd <| And.intro @FM <| And.intro @JB <|
 And.intro @Ju <| And.intro @Hb <| And.intro @zI <| And.intro @yP <|
 And.intro @JA <| And.intro @Hr <| And.intro @QU <| And.intro @JR <| And.intro @G2 <|
 And.intro @OG <| And.intro @JX <| And.intro @NK <| And.intro @L0 <|
 And.intro @GH <| And.intro @JO <| And.intro @Gi <| And.intro @Hs <|
 And.intro @JV <| And.intro @JM <| And.intro @Fy <| And.intro @M8 <|
 And.intro @Iy <| And.intro @Gu <| And.intro @NS <| And.intro @Nf <|
 And.intro @J8 <| And.intro @Gl <| And.intro @QV <| And.intro @MN <| And.intro @IJ <|
 And.intro @L9 <| And.intro @L5 <| And.intro @Je <| And.intro @Jn <|
 And.intro @Mf <| And.intro @My <| And.intro @IW <| And.intro @Jh <|
 And.intro @JH <| And.intro @Gz <| And.intro @DX <| And.intro @GM <|
 And.intro @JU <| And.intro @N5 <| And.intro @OX <| And.intro @Oq <| And.intro @Hq <| And.intro @O1 <| And.intro @Ow <|
 And.intro @IZ <| And.intro @Fj <| And.intro @F6 <| And.intro @AF <|
 And.intro @BD <| And.intro @Bk <| And.intro @GU <| And.intro @J9 <|
 And.intro @yD <| And.intro @Ez <| And.intro @AI <| And.intro @J7 <|
 And.intro @Fu <| And.intro @OO <| And.intro @IL <| And.intro @DL @DO)
theorem wr:Wr:=⟨@QT,@QW,@QP,@IG,@Ej,@BK,@A9,@IY,@FP,@M0,@IP,@HB,@IE,@Oj,@F2,@Hw,@Ix,@B9,@yk,@AZ,@Dw,@GY,@BR,@Jq,@Jd,@FM,@JB,@Ju,@Hb,@zI,@yP,@JA,@Hr,@QU,@JR,@G2,@OG,@JX,@NK,@L0,@GH,@JO,@Gi,@Hs,@JV,@JM,@Fy,@M8,@Iy,@Gu,@NS,@Nf,@J8,@Gl,@QV,@MN,@IJ,@L9,@L5,@Je,@Jn,@Mf,@My,@IW,@Jh,@JH,@Gz,@DX,@GM,@JU,@N5,@OX,@Oq,@Hq,@O1,@Ow,@IZ,@Fj,@F6,@AF,@BD,@Bk,@GU,@J9,@yD,@Ez,@AI,@J7,@Fu,@OO,@IL,@DL,@DO⟩
theorem Ox:vz []=.bm []:=id rfl
theorem Np (v:V):vz [v]=v:=id rfl
theorem Mc (v w:V) (l:List V):vz (v :: w :: l)=.bm (v :: w :: l):=id rfl
theorem QY (n:Nat):cF n=.val (.int .i64 n):=id rfl
theorem GL (e:List V) (j:Nat) (cs:List V):eZ e j cs=e.take j ++ cs ++ e.drop (j+cs.length):=id rfl
theorem Ho (z:List V):lH z []=some z:=id rfl
theorem GJ (z:List V) (o n:Nat) (x:V) (r:List (Nat × Nat × V)):lH z ((o,n,x) :: r)=if x.cells.length=n/\o+n<=z.length/\x.cells.all aJ=true then lH (eZ z o x.cells) r else none:=by rw[lH]
theorem Kc (k:Nat) (z:List (List V)):kN k z []=some z:=by rw[kN]
theorem I2 (k:Nat) (z:List (List V)) (i:Nat) (x:V) (r:List (Nat × V)):kN k z ((i,x) :: r)=if x.cells.length=k/\i < z.length/\x.cells.all aJ=true then kN k (z.set i x.cells) r else none:=by rw[kN]
theorem Mw (b:Bool):Av (some true) (some b)=some b:=id rfl
theorem N9 (b:Bool):Av (some b) (some true)=some b:=by cases b <;> rfl
section
variable (k:IntKind) (a b:Int)
theorem Ke:gL .add k a b=some (.int k (k.wrap (a+b))):=id rfl
theorem II:gL .sub k a b=some (.int k (k.wrap (a - b))):=id rfl
theorem IF:gL .mul k a b=some (.int k (k.wrap (a * b))):=id rfl
theorem I5:gL .quo k a b=if b=0 then none else some (.int k (k.wrap (a.tdiv b))):=id rfl
theorem Jt:gL .rem k a b=if b=0 then none else some (.int k (a.tmod b)):=id rfl
theorem Jf:gL .eql k a b=some (.bool (a == b)):=id rfl
theorem J1:gL .neq k a b=some (.bool (a != b)):=id rfl
theorem Jp:gL .lss k a b=some (.bool (a < b)):=id rfl
theorem Jl:gL .leq k a b=some (.bool (a<=b)):=id rfl
theorem J0:gL .gtr k a b=some (.bool (a > b)):=id rfl
theorem I7:gL .geq k a b=some (.bool (a≥b)):=id rfl
theorem Mi:gL .or k a b=some (.int k (k.wrap (BitVec.ofInt k.bits a ||| BitVec.ofInt k.bits b).toNat)):=id rfl
theorem ID:gL .and k a b=some (.int k (k.wrap (BitVec.ofInt k.bits a &&& BitVec.ofInt k.bits b).toNat)):=id rfl
theorem AP:gL .andNot k a b=some (.int k (k.wrap (BitVec.ofInt k.bits a &&& ~~~(BitVec.ofInt k.bits b)).toNat)):=id rfl
end
theorem Ni:eK 0 (.emp 1)=some true:=id rfl
theorem LZ:eK 0 (.emp 2)=some false:=id rfl
theorem Ki:eK 0 .er=some false:=id rfl
theorem MS (a b n c:Nat):eK 0 (.sl a b (n+1) c)=some false:=id rfl
theorem Jm (e:List V) (l:List (List V)):eK 0 (.aS (e :: l))=some false:=id rfl
theorem Iv (a b c:Nat):eK 1 (.ptr a b c)=some false:=id rfl
theorem FO (e:List V) (j:Nat):eK 1 (.aF e j)=some false:=id rfl
theorem OY (a:Nat):eK 2 (.mp a)=some false:=id rfl
theorem M1 (f:FuncId) (a b:List V):eK 3 (.fn f a b)=some false:=id rfl
theorem Nh:eK 1 (.val (.pointer none))=some true:=id rfl
theorem Mm:eK 2 (.val (.map none))=some true:=id rfl
theorem Oy:eK 3 (.val .nilFunc)=some true:=id rfl
abbrev Wq:Prop:=TO (And.intro @Ox <| And.intro @Np <| And.intro @Mc <| And.intro @QY <| And.intro @GL <| And.intro @Ho <| And.intro @GJ <| And.intro @Kc <| And.intro @I2 <| And.intro @Mw <| And.intro @N9 <| And.intro @Ke <| And.intro @II <| And.intro @IF <| And.intro @I5 <| And.intro @Jt <| And.intro @Jf <| And.intro @J1 <| And.intro @Jp <| And.intro @Jl <| And.intro @J0 <| And.intro @I7 <| And.intro @Mi <| And.intro @ID <| And.intro @AP <| And.intro @Ni <| And.intro @LZ <| And.intro @Ki <| And.intro @MS <| And.intro @Jm <| And.intro @Iv <| And.intro @FO <| And.intro @OY <| And.intro @M1 <| And.intro @Nh <| And.intro @Mm <| And.intro @Oy <| And.intro @eq_self.{1} <| And.intro @ne_eq.{1} <| And.intro @implies_true.{1} <| And.intro @implies_true.{0} <| And.intro @decide_true <| And.intro @decide_false <| And.intro @Kb <| And.intro @Iw <| And.intro @Fe <| And.intro @FY <| And.intro @Gk <| And.intro @GF <| And.intro @JC <| And.intro @Mh <| And.intro @OR <| And.intro @NF <| And.intro @Iu <| And.intro @Jr <| And.intro @Jo <| And.intro @Et <| And.intro @yW <| And.intro @EF <| And.intro @CI <| And.intro @DR <| And.intro @IQ <| And.intro @Dl <| And.intro @Js <| And.intro @G7 <| And.intro @Mb <| And.intro @DV <| And.intro @IT <| And.intro @A7 <| And.intro @Gx <| And.intro @Gp <| And.intro @Mq <| And.intro @GC <| And.intro @Mn <| And.intro @D4 <| And.intro @IC <| And.intro @IU <| And.intro @Jg <| And.intro @NG <| And.intro @true_or <| And.intro @or_true <| And.intro @or_false <| And.intro @false_or <|
 And.intro @TM <| And.intro @IS <| And.intro @JE <| And.intro @JJ <|
 And.intro @Jb <| And.intro @OE <| And.intro @I8 <| And.intro @Gm <|
 And.intro @Me <| And.intro @L3 <| And.intro @J3 <| And.intro @IX <|
 And.intro @IH <| And.intro @J6 <| And.intro @G6 <| And.intro @F5 <|
 And.intro @Ec <| And.intro @I9 <| And.intro @List.getD_cons_zero.{0} <| And.intro @List.getD_cons_succ.{0} <|
 And.intro @List.length_cons.{0} <| And.intro @List.length_nil.{0} <| And.intro @List.length_map.{0,0} <| And.intro @wrap64 <|
 And.intro @true_and <| And.intro @and_true <| And.intro @and_self <| And.intro @Vj <|
 And.intro @WA <| And.intro @List.all_cons.{0} <| And.intro @List.all_nil.{0} <| And.intro @Bool.and_self <|
 And.intro @List.nil_append.{0} <| And.intro @List.cons_append.{0} <| And.intro @V2 <| And.intro @DN <|
 And.intro @VD <| And.intro @NT <| And.intro @Ee <| And.intro @bne_iff_ne.{0} <|
 And.intro @beq_iff_eq.{0} <| And.intro @Bool.not_eq_true <| And.intro @Xb <| And.intro @Bool.not_false <|
 And.intro @List.append_nil.{0} <| And.intro @List.map_cons.{0,0} <| And.intro @List.map_nil.{0,0} <| And.intro @Bool.true_eq_false <|
 And.intro @VE <| And.intro @false_implies <| And.intro @true_implies <| And.intro @Bool.not_not <|
 And.intro @List.drop_zero.{0} <| And.intro @HI <| And.intro @List.set_cons_zero.{0} <| And.intro @List.set_cons_succ.{0} <|
 And.intro @List.drop_nil.{0} <| And.intro @WZ <| And.intro @List.replicate_zero.{0} <| And.intro @List.replicate_succ.{0} <|
 And.intro @zF <| And.intro @uh <| And.intro @yJ <| And.intro @r5 <|
 And.intro @List.isEmpty_cons.{0} <| And.intro @Option.map_none.{0,0} <| And.intro @Option.map_some.{0,0} <| And.intro @Nat.succ_ne_zero <|
 And.intro @List.take_succ_cons.{0} <| And.intro @List.take_zero.{0} <| And.intro @List.drop_succ_cons.{0} <| And.intro @bne_eq_false_iff_eq.{0} <|
 And.intro @beq_eq_false_iff_ne.{0} <| And.intro @not_true_eq_false <| And.intro @not_false_eq_true @Decidable.not_not)
theorem wq:Wq:=⟨@Ox,@Np,@Mc,@QY,@GL,@Ho,@GJ,@Kc,@I2,@Mw,@N9,@Ke,@II,@IF,@I5,@Jt,@Jf,@J1,@Jp,@Jl,@J0,@I7,@Mi,@ID,@AP,@Ni,@LZ,@Ki,@MS,@Jm,@Iv,@FO,@OY,@M1,@Nh,@Mm,@Oy,@eq_self,@ne_eq,@implies_true,@implies_true,@decide_true,@decide_false,@Kb,@Iw,@Fe,@FY,@Gk,@GF,@JC,@Mh,@OR,@NF,@Iu,@Jr,@Jo,@Et,@yW,@EF,@CI,@DR,@IQ,@Dl,@Js,@G7,@Mb,@DV,@IT,@A7,@Gx,@Gp,@Mq,@GC,@Mn,@D4,@IC,@IU,@Jg,@NG,@true_or,@or_true,@or_false,@false_or,@TM,@IS,@JE,@JJ,@Jb,@OE,@I8,@Gm,@Me,@L3,@J3,@IX,@IH,@J6,@G6,@F5,@Ec,@I9,@Wc,@W6,@Vm,@Vy,@Vl,@wrap64,@true_and,@and_true,@and_self,@Vj,@WA,@Wb,@List.all_nil,@Bool.and_self,@Wp,@VZ,@V2,@DN,@VD,@NT,@Ee,@Xe,@V8,@Bool.not_eq_true,@Xb,@Bool.not_false,@WH,@VF,@Wg,@Bool.true_eq_false,@VE,@false_implies,@true_implies,@Bool.not_not,@Wm,@HI,@List.set_cons_zero,@List.set_cons_succ,@List.drop_nil,@WZ,@List.replicate_zero,@List.replicate_succ,@zF,@uh,@yJ,@r5,@List.isEmpty_cons,@Option.map_none,@Ve,@Nat.succ_ne_zero,@List.take_succ_cons,@List.take_zero,@List.drop_succ_cons,@bne_eq_false_iff_eq,@beq_eq_false_iff_ne,@not_true_eq_false,@not_false_eq_true,@Decidable.not_not⟩
inductive yh:V->Prop
 | val (v:Value):yh (.val v)
 | bm (cs:List V):(∀ i,i < cs.length->∃ v,cs.getD i .any=.val v)->yh (.bm cs)
theorem Pn {Z d:Nat->Prop} {μ μ':Mu} {hp b:Array Obj} {t:V} {x:Value} (e:yh t) (h:ax Z μ hp t x):ax d μ' b t x:=by
 cases e with
 | val=>cases h with | val _ a=>exact .val _ a
 | bm cs f =>
  cases h with
  | bm _ c h1 g =>
   refine .bm _ _ h1 λi hi=>?_
   have:=g i hi
   obtain⟨v,a⟩:=f i hi
   rw[a] at this ⊢
   generalize c.getD i undef=y at this ⊢
   cases this with | val _ a=>exact .val _ a
theorem cw.borrow {P:Program} {f:FuncId} {d vs:List V} {t:V} {h:aB} (q:ay P f d t) (r:yh t) (u:d.length=vs.length)
  (j:∀ i,i < vs.length->Fr h (vs.getD i .any) (d.getD i .any)):cw P f vs h t h:=by
 refine⟨Vh _,λZ μ F w xs c hr k=>?_⟩
 have l:gu (λb=>Z b∨jM μ b) μ w.heap d xs:=⟨by rw[u,c.1],λi hi=>Gs hr (j i (by omega)) (c.2 i (by omega))⟩
 have m:∀ b,(Z b∨jM μ b)->b < w.heap.size:=by
  rintro b (a | ⟨id,o,s,a⟩)
  .exact hr.cQ b a
  .exact hr.lt _ _ _ _ a
 refine(q _ μ w xs l m).mono ?_
 rintro e w' ⟨x,z,rfl,v,n,A,y,g⟩
 have hm:gz Z Z μ μ w.heap w'.heap:=⟨λ_ h=>h,λb a=>g b (hr.cQ b a) (λx=>x),λ_ _ h=>h,g.qw⟩
 exact⟨x,Z,μ,rfl,Pn r (v μ),⟨λid=>(hr.obj id).mono hm rfl (λb o s p=>g b (hr.lt _ _ _ _ p) (λx=>x)),hr.inj,λid b o s p=>VB (hr.lt _ _ _ _ p) n.size,λb a=>VB (hr.cQ b a) n.size,hr.gO⟩,
  ⟨n,hm,λb a _=>g b a (λx=>x),λb a=>.inl a,λ_ _ _ _ h=>.inl h⟩,λ_ _=>rfl⟩
def dh (H:View) (v t:V):Prop:=∀ h:aB,h.view=H->Fr h v t
theorem dh.tree {H:View} {v:V} (h:Tree v):dh H v v:=λ_ _=>.tree _ h
theorem dh.sl {H:View} {id off len esz z:Nat} {es:List (List V)} (hH:H id=.arr z es) (hle:off+len<=es.length) (c:∀ e∈es,∀ v∈e,Tree v) :
  dh H (.sl id off len esz) (.aS ((es.drop off).take len)):=by
 rintro h rfl
 have b:∀ i,i < len->((es.drop off).take len).getD i []=es.getD (off+i) []:=λi hi=>by
  simp[U5,Wo,hi]
 refine .sl id off len esz z es _ hH hle (by simp;omega) (λi hi=>by rw[b i hi]) (λi j hi a=>?_)
 rw[b i hi] at a ⊢
 refine .tree _ ?_
 have h1:off+i < es.length:=by omega
 have d:es.getD (off+i) []=es[off+i]:=by simp[U5,h1]
 rw[d] at a ⊢
 have f:(es[off+i]).getD j .any=(es[off+i])[j]:=by simp[U5,a]
 rw[f]
 exact c _ (Vg _) _ (Vg _)
theorem av.borrow {P:Program} {q:Bool} {f:FuncId} {H:View} {vs c:List V} {K:V->View->Prop} {v:cP (H,K)} {t:V} (d:ay P f c t) (a:di P f=true) (g:yh t) (j:c.length=vs.length)
  (b:∀ i,i < vs.length->dh H (vs.getD i .any) (c.getD i .any)) (hk:K t H):av P q f vs H K v:=by
 unfold av
 cases q with
 | true=>exact⟨a,λh e=>⟨t,h,cw.borrow d g j (λi hi=>b i hi h e),λ_ _=>rfl,e ▸ hk⟩⟩
 | false =>
  refine⟨a,?_⟩
  rintro h rfl
  exact⟨t,h,cw.borrow d g j (λi hi=>b i hi h rfl),.refl _,hk⟩
abbrev gi (x:Int):V:=.val (.int .i64 x)
abbrev gb (x:Bool):V:=.val (.bool x)
abbrev gs (x:ByteArray):V:=.val (.string x)
theorem mixed:(Tryz.prog).follows .mixedOrders=true:=by kernel_rfl
def encI (l:List Int):V:=.aS (l.map λx=>[gi x])
def bK (l:List Bool):V:=.aS (l.map λx=>[gb x])
theorem eM (l:List Int):Tree (encI l):=by
 refine .aS _ λi j hi a=>?_
 simp only[Vl] at hi
 simp[U5,hi] at a ⊢
 subst a
 exact .val _
def aH {α:Type} (l:List α):Prop:=l.length < 4611686018427387904
def nD:SC :=
 af [af [ab [aa 11 5,aa 12 0,aP 13 12,aV 14 .lss 11 13],bW 14 (.exit 0)],.block 1 (af [ab [aa 17 0,aa 18 5,aM 19 1 17 18,aj 20 19,aa 21 1,aa 22 5,aM 23 1 21 22,aj 24 23,aV 25 .neq 20 24],bg 25 (af [ab [bu 4 false],.ret])]),ab [aa 15 5,aE 16 .add 15 1,aa 5 16]]
def pQ:SF:=⟨af [ab [bu 4 false],af [ab [aa 6 0,aP 7 6,aa 8 1,aP 9 8,aV 10 .neq 7 9],bg 10 (af [ab [bu 4 false],.ret])],af [ab [aT 5 0],bX 0 nD],ab [bu 4 true],.ret],
 [.tmp 4],26⟩
theorem u6:aQ Tryz.prog 26 []=some pQ:=by kernel_rfl
theorem Rz {α:Type} [BEq α] [LawfulBEq α] {a b:List α} (h:a.length≠b.length):(a == b)=false:=by
 simp only[beq_eq_false_iff_ne];intro e;exact h (by rw[e])
theorem RZ (a b:List Int) (l:aH a) (H:View):aw Tryz.prog 26 [encI a,encI b] H λr H'=>r=gb (a == b)/\H'=H:=by
 refine aw.of mixed u6 ?_
 unfold aH at l
 simp(disch:=omega)only[↓wr,seval,wq,pQ,encI]
 apply ah.ne<;>intro h
 .simp(disch:=omega)only[↓wr,seval,wq]
  rw[Rz (by omega)]
 .simp(disch:=omega)only[↓wr,seval,wq]
  refine bc.intro (λk T H'=>∃ i:Nat,i+k=a.length/\a.take i=b.take i/\T 0=encI a/\T 1=encI b/\T 5=gi i/\H'=H) a.length ?_ ?_
  .exact⟨0,by omega,by simp,rfl,rfl,rfl,rfl⟩
  .rintro k T H' ⟨i,hk,hi,c,h1,d,rfl⟩
   simp(disch:=omega)only[↓wr,seval,wq,nD,c,h1,d,encI]
   apply ah.dec<;>intro m
   .have g:a[i]?=some (a[i]'(by omega)):=U6 (by omega)
    have j:b[i]?=some (b[i]'(by omega)):=U6 (by omega)
    simp(disch:=omega)only[↓wr,seval,wq,c,h1,d,encI,U9,g,j,Ve]
    apply ah.ne<;>intro f
    .simp(disch:=omega)only[↓wr,seval,wq]
     have:(a == b)=false:=by
      simp only[beq_eq_false_iff_ne];rintro rfl;exact f rfl
     rw[this]
    .simp(disch:=omega)only[↓wr,seval,wq,c,h1,d,encI]
     refine⟨k - 1,by omega,i+1,by omega,?_,rfl⟩
     rw[Vs,Vs,hi,g,j,f]
   .simp(disch:=omega)only[↓wr,seval,wq,c,h1,d,encI]
    have:a=b:=by
     have e:i=a.length:=by omega
     rw[Vn (by omega),Vn (by omega)] at hi
     exact hi
    rw[this];simp
theorem RY (a b:List Int) (c:aH a):ay Tryz.prog 26 [encI a,encI b] (gb (a == b)) :=
 ay.of (by simp[eM]) ((RZ a b c _).mono λr H' h d _=>by rw[h.1];exact .tree _ (.val _))
theorem fY (l:List Bool):Tree (bK l):=by
 refine .aS _ λi j hi a=>?_
 simp only[Vl] at hi
 simp[U5,hi] at a ⊢
 subst a
 exact .val _
end Gv
