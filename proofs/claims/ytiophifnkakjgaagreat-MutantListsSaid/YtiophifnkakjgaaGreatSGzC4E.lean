/-
  Part 5 of the proof: what the machine does and what the functions answer.
  Conditions: those that each lemma names.
-/
import Derived.Test.YtiophifnkakjgaaGreatProg
import Derived.KernelRfl
import Derived.Test.YtiophifnkakjgaaGreatSGzC4D
set_option linter.unusedSimpArgs false
set_option linter.unusedVariables false
set_option maxRecDepth 100000
set_option maxHeartbeats 20000000
namespace Gv
open Go Go.Proofs
noncomputable abbrev aa:Program:=Tryz.prog
section
variable {P:Program} {n:Nat} {all:List Oper}
theorem VP (h:Heap):h.view h.length=.dead:=by simp[Heap.view]
theorem Zz {o:Oper} {T:Env} {h:Heap} {s:SI} {K:V->View->Prop} (g:dW n all T o=some true) (i:∀v eff rd,sI P s T h.view h.length=some (v,eff,rd)->cL P o T h.view h.length=some (v,eff,rd)) (hw:wI P s T h.view K):
  ∃v d rd wr,eF P n all o T h v d rd wr false/\km h d/\K v d.view/\mG (wK P s) rd wr false h.length d.length:=by
 obtain⟨v,eff,rd,e,hk⟩:=ZM hw (VP h)
 have f:=i _ _ _ e
 have a:∀id,id∈eff.wr->h.view id≠.dead:=λid b=>(o8 f id b).1
 refine⟨v,eff.apply h,rd,eff.wr,.op g f,?_,?_,?_,?_⟩
 .intro id b c
  rw[k9 a]
  cases eff with
  | none=>exact c
  | new o=>simp only[bq.view,View.set];rw[aa9 (by omega)];exact c
  | fP k o =>
   simp only[bq.view,View.set]
   rw[aa9 (by rintro rfl;exact a id (by simp[bq.wr]) c)];exact c
  | eW k o =>
   simp only[bq.view,View.set]
   rw[aa9 (by omega)]
   split
   .rfl
   .exact c
 .rw[k9 (λid b=>(o8 f id b).1)];exact hk
 .intro j
  obtain⟨rfl,rfl⟩:=(vm e).1 j
  exact⟨rfl,rfl,rfl,rfl⟩
 .intro h1
  rcases abH (wK P s) 1 with l | l
  .obtain⟨rfl,rfl⟩:=(vm e).1 (by omega);rfl
  .exact(vm e).2 (by omega)
theorem Ol {P:Program} {fr:Bool} {s:SI} {T:Env} {H:View} {n:Nat} {v:V} {eff:bq} {rd:List Nat} (h:sI P (BS P fr s) T H n=some (v,eff,rd)):sI P s T H n=some (v,eff,rd):=by
 unfold BS at h
 split at h
 .split at h
  .exact VO h
  .exact h
 .split at h
  .rename_i a
   simp only[abh] at a
   exact XX a.2 h
  .exact h
 .exact h
theorem Dz (P:Program) (a:Fz) (o:Oper):
  (∃f args b,o.op=.call { callee:=.value f,args:=args,argTypes:=b }/\(oL P a o=.call (SX.of f) (args.toList.map SX.of)∨oL P a o=.qb (SX.of f) (args.toList.map SX.of))) ∨
  (∃t x,o.op=.box t x/\oL P a o=.op (.kN (SX.of x)))∨(∃s d x,o.op=.convert s d x/\yA P s d=true/\oL P a o=.op (.ia (SX.of x)))∨oL P a o=.op (BS P a.fr (comp P o)):=by
 unfold oL
 split
 .rename_i f args b e
  refine .inl ⟨f,args,b,e,?_⟩
  by_cases g:(match o.dst with | some d=>a.l.contains (200000+d) | none=>false)=true
  .exact .inr (abb g)
  .exact .inl (aa9 g)
 .rename_i t x e
  by_cases c:(match o.dst with | some d=>a.l.contains d | none=>false)=true
  .exact .inr (.inl ⟨t,x,e,abb c⟩)
  .refine .inr (.inr (.inr ?_))
   refine(aa9 c).trans ?_
   simp only[comp,e,BS]
 .rename_i s d x e
  by_cases c:((match o.dst with | some d=>a.l.contains d | none=>false)&&yA P s d)=true
  .exact .inr (.inr (.inl ⟨s,d,x,e,by simp only[abh] at c;exact c.2,abb c⟩))
  .exact .inr (.inr (.inr (aa9 c)))
 .exact .inr (.inr (.inr rfl))
theorem eF.len {o:Oper} {T:Env} {h a:Heap} {v:V} {rd wr:List Nat} {call:Bool} (st:eF P n all o T h v a rd wr call):h.length<=a.length:=by
 cases st with
 | skip=>exact abg _
 | op _ _=>rename_i eff _ _ ;cases eff<;>simp[bq.apply]
 | kN _ _ _=>exact abg _
 | ia _ _ _ _ _ _=>exact abg _
 | call _ _ _ _ b _ _=>exact b.1
theorem Xw {q:Fz} {o:Oper} {T:Env} {h:Heap} {quiet:Bool} {K:V->View->Prop} (l:dW n all T o=some true) (hw:wB P quiet (oL P q o) T h.view K):
  ∃v b rd wr call,eF P n all o T h v b rd wr call/\km h b/\K v b.view/\mG (j0 P quiet (oL P q o)) rd wr call h.length b.length:=by
 rcases Dz P q o with ⟨f,args,C,k,j | j⟩ | ⟨t,x,k,j⟩ | ⟨s,d,x,k,u,j⟩ | j
 rotate_left
 .rw[j] at hw ⊢
  simp only[wB] at hw
  split at hw
  .rename_i g first cap m
   rw[Gu] at hw
   rw[SX.di] at m
   obtain⟨c,i⟩:=hw
   obtain⟨r,b,hr,hold,hk⟩:=i h rfl
   refine⟨r,b,[],[],true,.call l k m c hr (λid a _=>hold id a) (λid a=>by simp at a),λid a w=>(hold id a).trans w,hk,?_,?_⟩
   .intro p;simp[j0] at p
   .intro _;rfl
  .exact hw.elim
 rotate_right
 .rw[j] at hw ⊢
  simp only[wB] at hw
  split at hw
  .rename_i g first cap m
   rw[Gu] at hw
   rw[SX.di] at m
   split at hw
   .rename_i y
    obtain⟨c,i⟩:=hw
    obtain⟨r,b,hr,hold,hk⟩:=i h rfl
    refine⟨r,b,[],[],true,.call l k m c hr (λid a _=>hold id a) (λid a=>by simp at a),λid a w=>(hold id a).trans w,hk,?_,?_⟩
    .intro p;simp[j0,y] at p
    .intro _;rfl
   .rename_i y
    obtain⟨c,i⟩:=hw
    obtain⟨r,b,hr,z,hk⟩:=i h rfl
    refine⟨r,b,[],List.range h.length,true,.call l k m c hr (λid a D=>?_) (λid a=>by simpa using a),z,hk,Xl (by simp[j0,y])⟩
    exact absurd (by simpa using a) D
  .exact hw.elim
 .rw[j] at hw ⊢
  simp only[wB,wI,SX.di] at hw
  exact⟨_,h,[],[],false,.kN l k hw.1,.refl _,hw.2,λ_=>⟨rfl,rfl,rfl,rfl⟩,λ_=>rfl⟩
 .rw[j] at hw ⊢
  simp only[wB,wI,SX.di] at hw
  obtain⟨e,h1,A,B⟩:=DD u
  split at hw
  .rename_i st E
   exact⟨_,h,[],[],false,.ia l k h1 A B E,.refl _,hw,λ_=>⟨rfl,rfl,rfl,rfl⟩,λ_=>rfl⟩
  .exact hw.elim
 .rw[j] at hw ⊢
  obtain⟨v,b,rd,wr,h1,p,A,B⟩:=Zz (s:=BS P q.fr (comp P o)) l (λv eff rd F=>Ov (Ol F)) hw
  exact⟨v,b,rd,wr,false,h1,p,A,B⟩
def gZ (P:Program) (quiet:Bool) (l:List SO) (recs:List Rec):Prop:=
 l.length=recs.length/\∀(i:Nat) (s:SO) (r:Rec),l[i]?=some s->recs[i]?=some r->mG (j0 P quiet s.b) r.rd r.wr r.call r.lo r.hi
theorem gZ.nil {quiet:Bool} : gZ P quiet [] []:=⟨rfl,λi s r h=>by simp at h⟩
theorem gZ.cons {quiet:Bool} {l:List SO} {a:List Rec} {s:SO} {r:Rec} (h:gZ P quiet l a) (hr:mG (j0 P quiet s.b) r.rd r.wr r.call r.lo r.hi):gZ P quiet (s::l) (r::a):=by
 refine⟨by simp[h.1],λi e f d c=>?_⟩
 cases i with
 | zero=>simp at d c;subst d c;exact hr
 | succ i=>exact h.2 i e f (by simpa using d) (by simpa using c)
theorem gZ.append {quiet:Bool} {l l':List SO} {b a:List Rec} (h:gZ P quiet l b) (d:gZ P quiet l' a):gZ P quiet (l++l') (b++a):=by
 refine⟨by simp[h.1,d.1],λi s r c hr=>?_⟩
 by_cases hi:i<l.length
 .rw[abF hi] at c
  rw[abF (h.1▸hi)] at hr
  exact h.2 i s r c hr
 .rw[acf (by omega)] at c
  rw[acf (by have:=h.1;omega)] at hr
  exact d.2 (i-l.length) s r c (by rw[h.1];exact hr)
theorem wL {a:Fz} {o:Oper} {s:SO} (h:J8 P n all a o=some s):uP n o=true/\s.dst=o.dst/\s.b=oL P a o/\y4 n all o=some s.guard:=by
 unfold J8 at h
 split at h
 .rename_i c
  simp only[abj] at h
  obtain⟨g,d,rfl⟩:=h
  exact⟨c,rfl,rfl,d⟩
 .simp at h
theorem Gs {o:Oper} {T:Env} (h:y4 n all o=some none):dW n all T o=some true:=by
 unfold y4 at h
 unfold dW
 split at h
 .rename_i a;rw[a]
 .split at h
  .split at h
   .simp at h
   .simp at h
  .simp at h
theorem mZ {o:Oper} {T:Env} {d:Nat} {want:Bool} (h:y4 n all o=some (some (d,want))):
  (∀b,T d=.val (.bool b)->dW n all T o=some (b==want))/\(T d=.bc []->dW n all T o=some false):=by
 unfold y4 at h
 unfold dW
 split at h
 .simp at h
 .rename_i j w e
  rw[e]
  split at h
  .rename_i g f
   split at h
   .rename_i a
    obtain⟨rfl,rfl⟩:=h
    simp only[f,a,if_true]
    exact⟨λb c=>by rw[c],λc=>by rw[c]⟩
   .simp at h
  .simp at h
theorem nt {a:Fz} {os:List Oper} (h:eo P n all a os=some []):os=[]:=by
 cases os with
 | nil=>rfl
 | cons o r =>
  simp only[eo] at h
  split at h<;>simp at h
theorem nY {a:Fz} {os:List Oper} {s:SO} {l:List SO} (h:eo P n all a os=some (s::l)):∃o r,os=o::r/\J8 P n all a o=some s/\eo P n all a r=some l:=by
 cases os with
 | nil=>simp[eo] at h
 | cons o r =>
  simp only[eo] at h
  split at h
  .rename_i c l' h1 b
   obtain⟨rfl,rfl⟩:=h
   exact⟨o,r,rfl,h1,b⟩
  .simp at h
theorem ug {c:Fz}:∀ {l l':List SO} {os:List Oper},eo P n all c os=some (l++l')->∃a b,os=a++b/\eo P n all c a=some l/\eo P n all c b=some l'
 | [],l',os,h=>⟨[],os,rfl,rfl,h⟩
 | s::l,l',os,h=>by
  obtain⟨o,r,rfl,h1,d⟩:=nY h
  obtain⟨a,b,rfl,e,f⟩:=ug d
  exact⟨o::a,b,rfl,by simp[eo,h1,e],f⟩
theorem Tr.append {a b:List Oper} {T c d:Env} {h h1 e:Heap} {f g:List Rec} (x:Tr P n all a T h f c h1) (y:Tr P n all b c h1 g d e):Tr P n all (a++b) T h (f++g) d e:=by
 induction x with
 | nil=>exact y
 | cons st i _ j=>exact .cons st i (j y)
theorem Es {T:Env} {d:Nat} {v:V} (h:T d=v):T.put (some d) v=T:=by
 funext t
 simp only[Env.put]
 split
 .rename_i e;subst e;exact h.symm
 .rfl
theorem Kf {E:Fz} {quiet:Bool} {K:Env->View->Prop} (g:Option (Nat × Bool)):∀(l:List (Option Nat × SB)) (os:List Oper) (T:Env) (h:Heap),
  eo P n all E os=some (l.map λ(d,b)=>⟨d,g,b⟩)->(∀d w,g=some (d,w)->T d=.val (.bool w)/\(l.all λx=>x.1 != some d)=true)->DT P quiet l T h.view K ->
  ∃a m j,Tr P n all os T h a m j/\(km h j/\h.length<=j.length)/\K m j.view/\gZ P quiet (l.map λ(d,b)=>⟨d,g,b⟩) a
 | [],os,T,h,q,s,hw=>by
  have:=nt q;subst this
  exact⟨[],T,h,.nil,⟨.refl _,abg _⟩,hw,.nil⟩
 | (d,b)::l,os,T,h,q,s,hw=>by
  obtain⟨o,r,rfl,h1,F⟩:=nY q
  obtain⟨G,k,f,i⟩:=wL h1
  simp only at k f i
  have u:dW n all T o=some true:=by
   cases g with
   | none=>exact Gs i
   | some p =>
    obtain⟨y,w⟩:=p
    have:=(mZ (T:=T) i).1 w (s y w rfl).1
    rw[this];simp
  rw[f] at hw
  obtain⟨v,j,rd,wr,call,st,z,hk,H⟩:=Xw u hw
  obtain⟨a,m,A,D,c,B,C⟩:=Kf g l r (T.put d v) j F (λy w e=>by
   have:=s y w e
   simp only[acj,abh,bne_iff_ne,ne_eq] at this
   refine⟨?_,this.2.2⟩
   rw[<-this.1]
   cases d with
   | none=>rfl
   | some t=>simp only[Env.put];rw[aa9];intro e;subst e;exact this.2.1 rfl) hk
  rw[k] at D
  have hlen:=st.len
  exact⟨_,m,A,.cons st G D,⟨z.trans c.1 hlen,abZ hlen c.2⟩,B,C.cons (by rw[f];exact H)⟩
theorem Hh {v:Fz} {quiet:Bool} (d:Nat) (w:Bool) (h:Heap):∀(l:List (Option Nat × SB)) (os:List Oper) (T:Env),
  eo P n all v os=some (l.map λ(c,b)=>⟨c,some (d,w),b⟩)->(T d=.val (.bool !w)∨T d=.bc [])->(l.all λx=>x.1 != some d)=true ->
  ∃a,Tr P n all os T h a (jK l T) h/\gZ P quiet (l.map λ(c,b)=>⟨c,some (d,w),b⟩) a
 | [],os,T,k,f,j=>by
  have:=nt k;subst this
  exact⟨[],.nil,.nil⟩
 | (c,b)::l,os,T,k,f,j=>by
  obtain⟨o,r,rfl,h1,y⟩:=nY k
  obtain⟨m,g,p,i⟩:=wL h1
  simp only at g p i
  have q:dW n all T o=some false:=by
   rcases f with f | f
   .rw[(mZ (T:=T) i).1 _ f];cases w<;>rfl
   .exact(mZ (T:=T) i).2 f
  simp only[acj,abh,bne_iff_ne,ne_eq] at j
  obtain⟨a,u,s⟩:=Hh d w h l r (T.put c (.bc [])) y (by
   have:(T.put c (.bc [])) d=T d:=by
    cases c with
    | none=>rfl
    | some t=>simp only[Env.put];rw[aa9];intro e;subst e;exact j.1 rfl
   rw[this];exact f) j.2
  rw[g] at u
  refine⟨_,?_,s.cons (r:=⟨[],[],false,h.length,h.length⟩) ⟨λ_=>⟨rfl,rfl,rfl,rfl⟩,λ_=>rfl⟩⟩
  have:=Tr.cons (.skip q) m u
  rw[jK,g]
  exact this
theorem ZO {p:Fz} {quiet:Bool} {K:Env->View->Prop} {g:SG} {os:List Oper} {T:Env} {h:Heap} (f:eo P n all p os=some g.flat) (c:wH g=true) (hw:wG P quiet g T h.view K):
  ∃a o k,Tr P n all os T h a o k/\(km h k/\h.length<=k.length)/\K o k.view/\gZ P quiet g.flat a:=by
 unfold wG at hw
 unfold SG.flat at f ⊢
 unfold wH at c
 split at hw
 .rename_i l
  rw[l] at f ⊢
  exact Kf none g.ops os T h f (λd w e=>by simp at e) hw
 .rename_i d want l
  rw[l] at f c ⊢
  split at hw
  .rename_i b j
   by_cases e:b=want
   .subst e
    have:=hw.1 rfl
    rw[Es j] at this
    exact Kf (some (d,b)) g.ops os T h f (λq w e=>by simp at e;obtain⟨rfl,rfl⟩:=e;exact⟨j,c⟩) this
   .have e':b = !want:=by cases b<;>cases want<;>simp_all
    have:=hw.2 e'
    subst e'
    rw[Es j] at this
    obtain⟨a,m,i⟩:=Hh (quiet:=quiet) d want h g.ops os T f (.inl j) c
    exact⟨a,_,h,m,⟨.refl _,abg _⟩,this,i⟩
  .rename_i j
   obtain⟨a,m,i⟩:=Hh (quiet:=quiet) d want h g.ops os T f (.inr j) c
   exact⟨a,_,h,m,⟨.refl _,abg _⟩,hw,i⟩
  .exact hw.elim
theorem B7 {s:Fz} {quiet:Bool} {K:Env->View->Prop}:∀(gs:List SG) (os:List Oper) (T:Env) (h:Heap),eo P n all s os=some (oE gs)->gs.all wH=true->A9 P quiet gs T h.view K ->
  ∃c r e,Tr P n all os T h c r e/\(km h e/\h.length<=e.length)/\K r e.view/\gZ P quiet (oE gs) c
 | [],os,T,h,f,_,hw=>by
  have:=nt f;subst this
  exact⟨[],T,h,.nil,⟨.refl _,abg _⟩,hw,.nil⟩
 | g::gs,os,T,h,f,d,hw=>by
  simp only[acj,abh] at d
  obtain⟨a,b,rfl,h1,t⟩:=ug f
  obtain⟨w,u,i,j,st1,k,l⟩:=ZO h1 d.1 hw
  obtain⟨x,v,m,o,st2,p,q⟩:=B7 gs b u i t d.2 k
  exact⟨_,v,m,j.append o,⟨st1.1.trans st2.1 st1.2,abZ st1.2 st2.2⟩,p,l.append q⟩
theorem Tr.at_ {os:List Oper} {T g:Env} {h j:Heap} {b:List Rec} (k:Tr P n all os T h b g j):∀(i:Nat) (o:Oper),os[i]?=some o ->
  ∃c h1 v e rd wr call a,b[i]?=some ⟨rd,wr,call,h1.length,e.length⟩/\eF P n all o c h1 v e rd wr call/\h.length<=h1.length/\Tr P n all (os.drop (i+1)) (c.put o.dst v) e a g j/\(∀m,a[m]?=b[i+1+m]?) /\
   (∀t,(∀l∈os.take i,l.dst≠some t)->c t=T t):=by
 induction k with
 | nil=>intro i o hi;simp at hi
 | @cons o0 rest T g h h1 j v rd wr call b st D k s =>
  intro i o hi
  cases i with
  | zero =>
   simp at hi;subst hi
   exact⟨T,h,v,h1,rd,wr,call,b,rfl,st,abg _,by simpa using k,λm=>by rw[show 0+1+m=m+1 by omega,abT],λt _=>rfl⟩
  | succ i =>
   obtain⟨c,e,v2,u,p,YW,call2,a,w,x,y,z,A,B⟩:=s i o hi
   have hlen:h.length<=h1.length:=by
    cases st with
    | skip=>exact abg _
    | op _ _=>rename_i eff _ _;cases eff<;>simp[bq.apply]
    | kN _ _ _=>exact abg _
    | ia _ _ _ _ _ _=>exact abg _
    | call _ _ _ _ C _ _=>exact C.1
   refine⟨c,e,v2,u,p,YW,call2,a,by simpa using w,x,abZ hlen y,by simpa using z,λm=>?_,λt q=>?_⟩
   .rw[A,show i+1+1+m=(i+1+m)+1 by omega,abT]
   .simp only[adg,abw] at q
    rw[B t λl r=>q l (.inr r)]
    have:=q o0 (.inl rfl)
    cases f:o0.dst with
    | none=>rfl
    | some d=>simp only[Env.put];rw[aa9];rintro rfl;exact this f
theorem QM {o:Oper} {T:Env} {h g:Heap} {v:V} {rd wr:List Nat} {call:Bool} (st:eF P n all o T h v g rd wr call) (b:Ed o=true) (i:o.guard=none):v=.ptr h.length 0 0:=by
 unfold Ed at b
 have d:dW n all T o=some true:=by unfold dW;rw[i]
 cases st with
 | skip f=>rw[d] at f;simp at f
 | op _ a =>
  split at b
  .rename_i e c
   simp only[cL,c] at a
   split at a
   .unfold nL at a
    split at a
    .simp at a;exact a.1.symm
    .simp at a
   .simp at a
  .simp at b
 | kN _ c _=>rw[c] at b;simp at b
 | ia _ c _ _ _ _=>rw[c] at b;simp at b
 | call _ c _ _ _ _ _=>rw[c] at b;simp at b
theorem Qx {o:Oper} {T:Env} {h g:Heap} {v:V} {rd wr:List Nat} {call:Bool} {t id i j:Nat} (st:eF P n all o T h v g rd wr call) (c:mz o=some t) (k:T t=.ptr id i j):wr=[id]/\call=false:=by
 unfold mz at c
 split at c
 .rename_i ty l x d m
  simp at c;subst c
  have e:dW n all T o=some true:=by unfold dW;rw[m]
  cases st with
  | skip f=>rw[e] at f;simp at f
  | op _ b =>
   have p:ev T (.tmp l)=.ptr id i j:=k
   simp only[cL,d,p,tn] at b
   split at b
   .split at b
    .simp only[abd,abz] at b
     obtain⟨_,he,_⟩:=b
     rw[<-he];exact⟨rfl,rfl⟩
    .simp at b
   .simp at b
  | kN _ a _=>rw[d] at a;simp at a
  | ia _ a _ _ _ _=>rw[d] at a;simp at a
  | call _ a _ _ _ _ _=>rw[d] at a;simp at a
 .simp at c
theorem Ut {o:Oper} {T:Env} {h g:Heap} {v:V} {rd wr:List Nat} {call:Bool} (st:eF P n all o T h v g rd wr call) (d:Hd o=true):wr=[]/\call=false/\∀id,id∈rd->id<h.length:=by
 unfold Hd at d
 cases st with
 | skip _=>exact⟨rfl,rfl,λid c=>by simp at c⟩
 | op _ b =>
  split at d
  .rename_i e a f
   simp only[cL,f,oM] at b
   split at b
   .split at b
    .rename_i z es hH
     split at b
     .simp only[abj] at b
      obtain⟨_,_,b⟩:=b
      obtain⟨_,rfl,rfl⟩:=b
      refine⟨rfl,rfl,λi c=>?_⟩
      simp at c;subst c
      exact fj (by rw[hH];simp)
     .simp at b
    .simp at b
   .simp only[abj] at b
    obtain⟨_,_,b⟩:=b
    obtain⟨_,rfl,rfl⟩:=b
    exact⟨rfl,rfl,λid c=>by simp at c⟩
   .simp at b
  .simp at d
 | kN _ f _=>rw[f] at d;simp at d
 | ia _ f _ _ _ _=>rw[f] at d;simp at d
 | call _ f _ _ _ _ _=>rw[f] at d;simp at d
theorem Ai {T G:Env} {h H:Heap} {d:List Rec} (I:Tr P n all all T h d G H) {i k:Nat} {a b:Rec} (hp:C7 all i k=true) (g:d[i]?=some a) (J:d[k]?=some b):rb a b:=by
 unfold C7 at hp
 split at hp
 .rename_i K L l m
  rw[abh] at hp
  obtain⟨M,hp⟩:=hp
  split at hp
  .rename_i t o
   rw[acE] at hp
   obtain⟨j,N,hp⟩:=hp
   rw[ab7] at N
   rw[abh,abn] at hp
   obtain⟨O,c⟩:=hp
   unfold Zj at c
   split at c
   .rename_i Q p
    simp only[abh,ab9,abC,bne_iff_ne,ne_eq,Option.isNone_iff_eq_none] at c
    obtain⟨⟨⟨R,S⟩,U⟩,V⟩:=c
    obtain⟨T1,h1,v1,W,X,ZV,c1,q,D,E,e3,Y,Z,_⟩:=I.at_ i K l
    obtain⟨Tj,r,vj,ab,ae,al,cj,s,f1,f2,f3,f4,f5,_⟩:=Y.at_ (j-(i+1)) Q (by rw[acz,show i+1+(j-(i+1))=j by omega];exact p)
    have u:(all.drop (i+1)).drop (j-(i+1)+1)=all.drop (j+1):=by rw[List.drop_drop];congr 1;omega
    rw[u] at f4
    obtain⟨Tk,v,vk,w,x,y,ck,z,g1,g2,g3,_,_,g6⟩:=f4.at_ (k-(j+1)) L (by rw[acz,show j+1+(k-(j+1))=k by omega];exact m)
    rw[g] at D
    have A:=(adm D)
    have f:d[k]?=some ⟨x,y,ck,v.length,w.length⟩:=by
     rw[<-g1,f5,Z];congr 1;omega
    rw[J] at f
    have f:=adm f
    have hv:=QM f2 U S
    have B:Tk t=.ptr r.length 0 0:=by
     rw[g6 t λo' C=>V o' C,R,hv]
     simp[Env.put]
    obtain⟨s1,s2⟩:=Qx g2 o B
    obtain⟨F,l2,l3⟩:=Ut E M
    rw[A,f]
    have hlen:h1.length<=W.length:=by
     cases E with
     | skip=>exact abg _
     | op _ _=>rename_i eff _ _;cases eff<;>simp[bq.apply]
     | kN _ _ _=>exact abg _
     | ia _ _ _ _ _ _=>exact abg _
     | call _ _ _ _ g _ _=>exact g.1
    refine⟨λid e=>by simp[F] at e,λid e=>?_,λhc=>by simp[l2] at hc,λ_=>F,λid e=>?_⟩
    .simp only[s1,ab5] at e
     intro hr
     have:=l3 _ hr
     omega
    .simp only[s1,ab5] at e
     simp only
     omega
   .simp at c
  .simp at hp
 .simp at hp
theorem Wp {ls:List Nat} {d:List Rec} {T t:Env} {hp g:Heap} (u:Tr P n all all T hp d t g) (h:J1 all ls=true) (y:ls.length=d.length) (hr:∀(i x:Nat) (r:Rec),ls[i]?=some x->d[i]?=some r->mG x r.rd r.wr r.call r.lo r.hi):yi all d:=by
 intro i k a b j p l v
 have hk:k<d.length:=(abf.1 l).1
 unfold J1 at h
 simp only[abC] at h
 have h1:=h (ls[i]'(by omega),i) (by rw[ab6];simp[aa8 (show i<ls.length by omega)])
  (ls[k]'(by omega),k) (by rw[ab6];simp[aa8 (show k<ls.length by omega)])
 have q:=hr i _ a (aa8 (by omega)) p
 have s:=hr k _ b (aa8 (by omega)) l
 simp only[j,decide_true,ade,v,adb,acW,ab9,abh,abn] at h1
 rcases h1 with ((h1 | h1) | h1) | h1
 .obtain⟨f,e,m,w⟩:=q.1 h1
  exact⟨λid c=>by simp[e] at c,λid _=>by simp[f],λo=>by simp[m] at o,λ_=>e,λid _ z=>by omega⟩
 .obtain⟨f,e,m,w⟩:=s.1 h1
  exact⟨λid _=>by simp[f],λid c=>by simp[e] at c,λ_=>e,λo=>by simp[m] at o,λid c=>by simp[e] at c⟩
 .have f:=q.2 h1.1
  have e:=s.2 h1.2
  exact⟨λid c=>by simp[f] at c,λid c=>by simp[e] at c,λ_=>e,λ_=>f,λid c=>by simp[e] at c⟩
 .exact Ai u h1 p l
theorem Tr.keep {os:List Oper} {T c:Env} {h e:Heap} {a:List Rec} (f:Tr P n all os T h a c e) {t:Nat} (g:∀o∈os,o.dst≠some t):c t=T t:=by
 induction f with
 | nil=>rfl
 | @cons o0 rest T c h h1 e v rd wr call a st k f i =>
  rw[i λo j=>g o (by simp[j])]
  have:=g o0 (by simp)
  cases b:o0.dst with
  | none=>rfl
  | some d=>simp only[Env.put];rw[aa9];rintro rfl;exact this b
theorem zN {o:Oper} {T:Env} {h g:Heap} {v:V} {rd wr:List Nat} {call:Bool} {t:Nat} (st:eF P n all o T h v g rd wr call) (d:vh o=some t):wr=[]/\call=false/\g.length=h.length/\∀id,id∈rd->∃i j,T t=.ptr id i j:=by
 unfold vh at d
 split at d
 .rename_i e m f
  simp at d;subst d
  cases st with
  | skip _=>exact⟨rfl,rfl,rfl,λid c=>by simp at c⟩
  | op _ a =>
   simp only[cL,f,oM] at a
   split at a
   .rename_i id i j k
    split at a
    .split at a
     .simp only[abj] at a
      obtain⟨_,_,a⟩:=a
      obtain⟨_,rfl,rfl⟩:=a
      refine⟨rfl,rfl,rfl,λl c=>?_⟩
      simp at c;subst c
      exact⟨i,j,k⟩
     .simp at a
    .simp at a
   .simp only[abj] at a
    obtain⟨_,_,a⟩:=a
    obtain⟨_,rfl,rfl⟩:=a
    exact⟨rfl,rfl,rfl,λid c=>by simp at c⟩
   .simp at a
  | kN _ b _=>rw[f] at b;simp at b
  | ia _ b _ _ _ _=>rw[f] at b;simp at b
  | call _ b _ _ _ _ _=>rw[f] at b;simp at b
 .simp at d
theorem z7 {i t:Nat} (h:stays all i t=true):∀o∈all.drop i,o.dst≠some t:=by
 intro o a
 have:=abC.1 h o a
 simpa using this
theorem D1 {a:List (Nat × Nat)} {T:Env} {K:Prop} (b:B0 a T K):∀p∈a,jE (T p.1) (T p.2):=by
 induction a with
 | nil=>intro p hp;simp at hp
 | cons q l c =>
  intro p hp
  rcases abw.1 hp with rfl | hp
  .exact b.1
  .exact c b.2 p hp
theorem B0.rest {a:List (Nat × Nat)} {T:Env} {K:Prop} (b:B0 a T K):K:=by
 induction a with
 | nil=>exact b
 | cons q l c=>exact c b.2
theorem tF {T l:Env} {h m:Heap} {a:List Rec} (p:Tr P n all all T h a l m) {i t:Nat} {o:Oper} (j:all[i]?=some o) (q:stays all i t=true) {r:Rec} (hr:a[i]?=some r):
  ∃e h1 v f,eF P n all o e h1 v f r.rd r.wr r.call/\r.lo=h1.length/\r.hi=f.length/\e t=l t:=by
 obtain⟨e,h1,v,f,rd,wr,call,k,g,s,x,u,y,z⟩:=p.at_ i o j
 rw[hr] at g
 have g:=adm g
 subst g
 refine⟨e,h1,v,f,s,rfl,rfl,?_⟩
 have hk:=z7 q
 have hi:i<all.length:=(abf.1 j).1
 have b:all[i]=o:=(abf.1 j).2
 rw[abS hi,b] at hk
 rw[u.keep λw b=>hk w (by simp[b])]
 have:=hk o (by simp)
 cases c:o.dst with
 | none=>rfl
 | some d=>simp only[Env.put];rw[aa9];rintro rfl;exact this c
theorem CW {i a b j c d:Nat} (h:jE (.ptr i a b) (.ptr j c d)):i≠j:=h
theorem E6 {i a b j c d e:Nat} (h:jE (.ptr i a b) (.sl j c d e)):i≠j:=h
theorem uW {o:Oper} {T:Env} {h q:Heap} {v:V} {rd wr:List Nat} {call:Bool} {t:Nat} (st:eF P n all o T h v q rd wr call) (g:rW o=some t):
  call=false/\∀id,id∈wr->(∃i j,T t=.ptr id i j)∨∃a b c,T t=.sl id a b c:=by
 unfold rW at g
 split at g
 .rename_i w m
  simp at g;subst g
  unfold mz at m
  split at m
  .rename_i ty t2 x k r
   simp at m;subst m
   cases st with
   | skip _=>exact⟨rfl,λid f=>by simp at f⟩
   | op _ d =>
    simp only[cL,k,tn] at d
    split at d
    .rename_i id i j p
     split at d
     .split at d
      .simp only[abd,abz] at d
       obtain⟨_,he,_⟩:=d
       rw[<-he]
       refine⟨rfl,λl f=>?_⟩
       simp[bq.wr] at f;subst f
       exact .inl ⟨i,j,p⟩
      .simp at d
     .simp at d
    .simp at d
   | kN _ e _=>rw[k] at e;simp at e
   | ia _ e _ _ _ _=>rw[k] at e;simp at e
   | call _ e _ _ _ _ _=>rw[k] at e;simp at e
  .simp at m
 .unfold Uf at g
  split at g
  .rename_i args s k r
   split at g
   .rename_i t2 y u
    simp at g;subst g
    cases st with
    | skip _=>exact⟨rfl,λid f=>by simp at f⟩
    | op _ d =>
     simp only[cL,k,u] at d
     split at d
     .unfold pJ at d
      split at d
      .split at d
       .simp at d
       .split at d
        .split at d<;>first | (simp only[abd,abz] at d;obtain⟨_,he,_⟩:=d;rw[<-he];exact⟨rfl,λl f=>by simp[bq.wr] at f⟩) | simp at d
        .split at d
         .simp at d
         .split at d
          .split at d
           .simp only[abd,abz] at d
            obtain⟨_,he,_⟩:=d
            rw[<-he];exact⟨rfl,λl f=>by simp[bq.wr] at f⟩
           .simp at d
          .rename_i id off len esz p
           split at d
           .split at d
            .simp only[abd,abz] at d
             obtain⟨_,he,_⟩:=d
             rw[<-he]
             refine⟨rfl,λl f=>?_⟩
             simp[bq.wr] at f;subst f
             exact .inr ⟨off,len,esz,p⟩
            .simp at d
           .simp at d
          .simp at d
      .simp at d
     .split at d
      .unfold uK at d
       repeat' (split at d)
       all_goals first | (simp only[abd,abz] at d;obtain⟨_,he,_⟩:=d;rw[<-he];exact⟨rfl,λl f=>by simp[bq.wr] at f⟩) | simp at d
      .simp at d
    | kN _ e _=>rw[k] at e;simp at e
    | ia _ e _ _ _ _=>rw[k] at e;simp at e
    | call _ e _ _ _ _ _=>rw[k] at e;simp at e
   .simp at g
  .simp at g
theorem Ww {o:Oper} {T:Env} {h g:Heap} {v:V} {rd wr:List Nat} {call:Bool} (st:eF P n all o T h v g rd wr call) (b:KM o=true):rd=[]/\wr=[]/\call=false:=by
 unfold KM at b
 cases st with
 | skip _=>exact⟨rfl,rfl,rfl⟩
 | op _ a =>
  split at b
  .rename_i ty len parts c
   simp only[cL,c,jg] at a
   have key:∀ {x:Option (V × bq × List Nat)} {e:bq},x=some (v,e,rd)->(∀y,x=some y->y.2.1.wr=[]/\y.2.2=[])->rd=[]/\e.wr=[]:=λf d=>⟨(d _ f).2,(d _ f).1⟩
   obtain⟨i,k2⟩:=key a (by
    intro y d
    repeat' (first | (split at d)|(simp only[abd] at d;subst d;exact⟨rfl,rfl⟩)|(simp at d;done)))
   exact⟨i,k2,rfl⟩
  .rename_i e c
   simp only[cL,c] at a
   split at a
   .unfold nL at a
    split at a
    .simp only[abd,abz] at a
     obtain⟨_,he,hr⟩:=a
     rw[<-he,<-hr];exact⟨rfl,rfl,rfl⟩
    .simp at a
   .simp at a
  .simp at b
 | kN _ c _=>rw[c] at b;simp at b
 | ia _ c _ _ _ _=>rw[c] at b;simp at b
 | call _ c _ _ _ _ _=>rw[c] at b;simp at b
theorem yX {o:Oper} {t:Nat} (h:mz o=some t):rW o=some t:=by unfold rW;rw[h]
theorem UY {T w:Env} {h Q:Heap} {l:List Rec} (u:Tr P n all all T h l w Q) {i k:Nat} {a b:Rec} {p:Nat × Nat} (hp:GX all i k=some p) (j:jE (w p.1) (w p.2)) (N:l[i]?=some a) (O:l[k]?=some b):rb a b:=by
 unfold GX at hp
 split at hp
 .rename_i Z ob q r
  split at hp
  .rename_i s t x y
   split at hp
   .rename_i g
    simp only[abh] at g
    simp at hp;subst hp
    obtain⟨z,A,R,B,C,D,E,F⟩:=tF u q g.1 N
    obtain⟨Tb,G,S,H,I,_,_,J⟩:=tF u r g.2 O
    obtain⟨o,K,U,L⟩:=zN C x
    have j:jE (z s) (Tb t):=by rw[F,J];exact j
    refine⟨λid f=>by simp[o] at f,λid f hr=>?_,λv=>by simp[K] at v,λ_=>o,λid _ hx=>by omega⟩
    obtain⟨V,W,M⟩:=L id hr
    rw[M] at j
    rcases (uW I (yX y)).2 id f with ⟨c,d,m⟩ | ⟨c,d,e,m⟩
    .rw[m] at j;exact CW j rfl
    .rw[m] at j;exact E6 j rfl
   .simp at hp
  .split at hp
   .rename_i t s y x
    split at hp
    .rename_i g
     simp only[abh] at g
     simp at hp;subst hp
     obtain⟨z,A,R,B,C,D,E,F⟩:=tF u q g.1 N
     obtain⟨Tb,G,S,H,I,X,Y,J⟩:=tF u r g.2 O
     obtain⟨o,K,U,L⟩:=zN I x
     have j:jE (Tb s) (z t):=by rw[F,J];exact j
     refine⟨λid f hr=>?_,λid f=>by simp[o] at f,λv=>o,λv=>by simp[K] at v,λid f=>by simp[o] at f⟩
     obtain⟨V,W,M⟩:=L id hr
     rw[M] at j
     rcases (uW C (yX y)).2 id f with ⟨c,d,m⟩ | ⟨c,d,e,m⟩
     .rw[m] at j;exact CW j rfl
     .rw[m] at j;exact E6 j rfl
    .simp at hp
   .simp at hp
 .simp at hp
theorem Qj {T w:Env} {h Q:Heap} {l:List Rec} (u:Tr P n all all T h l w Q) {i k:Nat} {a b:Rec} {p:Nat × Nat} (hp:Hq all i k=some p) (j:jE (w p.1) (w p.2)) (N:l[i]?=some a) (O:l[k]?=some b):rb a b:=by
 unfold Hq at hp
 split at hp
 .rename_i Z ob q r
  split at hp
  .rename_i s t x y
   split at hp
   .rename_i g
    simp only[abh] at g
    simp at hp;subst hp
    obtain⟨z,A,R,B,C,D,E,F⟩:=tF u q g.1 N
    obtain⟨Tb,G,S,H,I,_,_,J⟩:=tF u r g.2 O
    obtain⟨o,K,U,L⟩:=zN C x
    have j:jE (z s) (Tb t):=by rw[F,J];exact j
    refine⟨λid f=>by simp[o] at f,λid f hr=>?_,λv=>by simp[K] at v,λ_=>o,λid _ hx=>by omega⟩
    obtain⟨V,W,M⟩:=L id hr
    rw[M] at j
    rcases (uW I y).2 id f with ⟨c,d,m⟩ | ⟨c,d,e,m⟩
    .rw[m] at j;exact CW j rfl
    .rw[m] at j;exact E6 j rfl
   .simp at hp
  .split at hp
   .rename_i t s y x
    split at hp
    .rename_i g
     simp only[abh] at g
     simp at hp;subst hp
     obtain⟨z,A,R,B,C,D,E,F⟩:=tF u q g.1 N
     obtain⟨Tb,G,S,H,I,X,Y,J⟩:=tF u r g.2 O
     obtain⟨o,K,U,L⟩:=zN I x
     have j:jE (Tb s) (z t):=by rw[F,J];exact j
     refine⟨λid f hr=>?_,λid f=>by simp[o] at f,λv=>o,λv=>by simp[K] at v,λid f=>by simp[o] at f⟩
     obtain⟨V,W,M⟩:=L id hr
     rw[M] at j
     rcases (uW C y).2 id f with ⟨c,d,m⟩ | ⟨c,d,e,m⟩
     .rw[m] at j;exact CW j rfl
     .rw[m] at j;exact E6 j rfl
    .simp at hp
   .simp at hp
 .simp at hp
theorem UT {l:List (Nat × Nat)} {a:List (Nat × Nat)} (h:E5 all l=some a):∀q∈l,∃p∈a,GX all q.1 q.2=some p:=by
 induction l generalizing a with
 | nil=>intro q b;simp at b
 | cons x r d =>
  simp only[E5] at h
  split at h
  .rename_i p l' h1 f
   simp at h;subst h
   intro q b
   rcases abw.1 b with rfl | b
   .exact⟨p,by simp,h1⟩
   .obtain⟨g,c,e⟩:=d f q b
    exact⟨g,by simp[c],e⟩
  .simp at h
theorem PN {l:List (Nat × Nat)} {a:List (Nat × Nat)} (h:yV all l=some a):∀q∈l,∃f,(∀p∈f,p∈a)/\C4 all q.1 q.2=some f:=by
 induction l generalizing a with
 | nil=>intro q b;simp at b
 | cons x r g =>
  simp only[yV] at h
  split at h
  .rename_i p l' h1 i
   simp at h;subst h
   intro q b
   rcases abw.1 b with rfl | b
   .exact⟨p,λx c=>by simp[c],h1⟩
   .obtain⟨j,d,e⟩:=g i q b
    exact⟨j,λx c=>by simp[d x c],e⟩
  .simp at h
theorem Uh {H:View} {x:V} {xs:List (List V)} {rd:List Nat} (h:bQ H x=some (xs,rd)):∀id,id∈rd->∃a b c,x=.sl id a b c:=by
 unfold bQ at h
 split at h
 .simp at h;obtain⟨_,rfl⟩:=h;intro id d;simp at d
 .simp at h;obtain⟨_,rfl⟩:=h;intro id d;simp at d
 .simp at h;obtain⟨_,rfl⟩:=h;intro id d;simp at d
 .simp at h;obtain⟨_,rfl⟩:=h;intro id d;simp at d
 .split at h
  .split at h
   .obtain⟨_,rfl⟩:=h
    intro id d
    simp at d;subst d
    exact⟨_,_,_,rfl⟩
   .simp at h
  .simp at h
 .simp at h;obtain⟨_,rfl⟩:=h;intro id d;simp at d
 .simp at h
theorem Mz {o:Oper} {T:Env} {h s:Heap} {v:V} {rd wr:List Nat} {call:Bool} {t y d:Nat} (st:eF P n all o T h v s rd wr call) (l:C6 o=some (t,y,d)):
  call=false/\(∀id,id∈wr->∃a b c,T t=.sl id a b c)/\(∀id,id∈rd->(∃a b c,T t=.sl id a b c)∨∃a b c,T y=.sl id a b c)/\(h.length<s.length->∃a b c,v=.sl h.length a b c)/\s.length<=h.length+1/\o.dst=some d:=by
 unfold C6 at l
 split at l
 .rename_i args z A r D m
  split at l
  .rename_i t2 B C
   simp at l
   obtain⟨rfl,rfl,rfl⟩:=l
   cases st with
   | skip _=>exact⟨rfl,λid g=>by simp at g,λid g=>by simp at g,λh=>by omega,by omega,m⟩
   | op _ f =>
    simp only[cL,r,C] at f
    have w:∀ {v':V} {i:bq} {k:List Nat},some (v',bq.none,([]:List Nat))=some (v,i,k)->false=false/\(∀id,id∈i.wr->∃a b c,T t2=.sl id a b c)/\(∀id,id∈k->(∃a b c,T t2=.sl id a b c)∨∃a b c,T B=.sl id a b c)/\(h.length<(i.apply h).length->∃a b c,v=.sl h.length a b c)/\(i.apply h).length<=h.length+1/\o.dst=some A:=by
     intro v' i k e
     obtain⟨_,rfl,rfl⟩:=e
     exact⟨rfl,λid g=>by simp[bq.wr] at g,λid g=>by simp at g,λh=>by simp[bq.apply] at h,by simp[bq.apply],m⟩
    split at f
    .unfold pJ at f
     split at f
     .rename_i e xs k _ u
      have p:=Uh u
      split at f
      .simp at f
      .split at f
       .split at f<;>first | exact w f | simp at f
       .split at f
        .simp at f
        .split at f
         .split at f
          .obtain⟨rfl,rfl,rfl⟩:=f
           exact⟨rfl,λid g=>by simp[bq.wr] at g,λid g=>.inr (p id g),λ_=>⟨_,_,_,rfl⟩,by simp[bq.apply],m⟩
          .simp at f
         .rename_i id off len esz x
          split at f
          .split at f
           .obtain⟨rfl,rfl,rfl⟩:=f
            refine⟨rfl,λq g=>?_,λq g=>?_,λ_=>⟨_,_,_,rfl⟩,by simp[bq.apply],m⟩
            .simp[bq.wr] at g;subst g
             exact⟨off,len,esz,x⟩
            .rcases abw.1 g with rfl | g
             .exact .inl ⟨off,len,esz,x⟩
             .exact .inr (p q g)
           .simp at f
          .simp at f
         .simp at f
     .simp at f
    .split at f
     .unfold uK at f
      split at f
      .split at f
       .split at f
        .exact w f
        .split at f
         .obtain⟨rfl,rfl,rfl⟩:=f
          exact⟨rfl,λid g=>by simp[bq.wr] at g,λid g=>by simp at g,λ_=>⟨_,_,_,rfl⟩,by simp[bq.apply],m⟩
         .simp at f
       .simp at f
      .simp at f
     .simp at f
   | kN _ j _=>rw[r] at j;simp at j
   | ia _ j _ _ _ _=>rw[r] at j;simp at j
   | call _ j _ _ _ _ _=>rw[r] at j;simp at j
  .simp at l
 .simp at l
theorem T6 {T j:Env} {h q:Heap} {a:List Rec} (s:Tr P n all all T h a j q) {i:Nat} {o:Oper} (k:all[i]?=some o) {r:Rec} (hr:a[i]?=some r):
  ∃e h1 v f,eF P n all o e h1 v f r.rd r.wr r.call/\r.lo=h1.length/\r.hi=f.length/\(∀t,stays all i t=true->e t=j t)/\∀d,o.dst=some d->stays all (i+1) d=true->j d=v:=by
 obtain⟨e,h1,v,f,rd,wr,call,l,g,u,y,p,z,A⟩:=s.at_ i o k
 rw[hr] at g
 have g:=adm g
 subst g
 refine⟨e,h1,v,f,u,rfl,rfl,λt m=>?_,λd w m=>?_⟩
 .have hk:=z7 m
  have hi:i<all.length:=(abf.1 k).1
  have b:all[i]=o:=(abf.1 k).2
  rw[abS hi,b] at hk
  rw[p.keep λx b=>hk x (by simp[b])]
  have:=hk o (by simp)
  cases c:o.dst with
  | none=>rfl
  | some d=>simp only[Env.put];rw[aa9];rintro rfl;exact this c
 .rw[p.keep (z7 m),w]
  simp[Env.put]
theorem CF {i a b c j d e f:Nat} (h:jE (.sl i a b c) (.sl j d e f)):i≠j:=h
theorem Qg {T r:Env} {h E:Heap} {c:List Rec} (A:Tr P n all all T h c r E) {i k:Nat} {a b:Rec} {B:List (Nat × Nat)} (hp:G5 all i k=some B) (o:∀p∈B,jE (r p.1) (r p.2)) (F:c[i]?=some a) (G:c[k]?=some b):rb a b:=by
 unfold G5 at hp
 split at hp
 .rename_i oa ob s u
  split at hp
  .rename_i t y d g C d' h1 H
   split at hp
   .rename_i j
    simp only[abh] at j
    obtain⟨⟨⟨⟨s1,s2⟩,I⟩,v⟩,J⟩:=j
    simp at hp;subst hp
    have l:=o (t,g) (by simp)
    have a2:=o (t,C) (by simp)
    have a3:=o (g,y) (by simp)
    have a4:=o (d,g) (by simp)
    obtain⟨Ta,w,va,K,L,M,N,x,z⟩:=T6 A s F
    obtain⟨Tb,O,vb,Q,R,_,_,q,_⟩:=T6 A u G
    obtain⟨S,U,V,W,p5,X⟩:=Mz L h1
    obtain⟨Y,D,Z,_⟩:=Mz R H
    have z:=z d X I
    rw[<-x t s1,<-q g v] at l
    rw[<-x t s1,<-q C J] at a2
    rw[<-q g v,<-x y s2] at a3
    rw[z,<-q g v] at a4
    refine⟨λid f hr=>?_,λid f hr=>?_,λm=>by rw[S] at m;simp at m,λm=>by rw[Y] at m;simp at m,λid f hx=>?_⟩
    .obtain⟨_,_,_,e⟩:=U id f
     rcases Z id hr with ⟨_,_,_,e'⟩ | ⟨_,_,_,e'⟩
     .rw[e,e'] at l;exact CF l rfl
     .rw[e,e'] at a2;exact CF a2 rfl
    .obtain⟨_,_,_,e⟩:=D id f
     rcases V id hr with ⟨_,_,_,e'⟩ | ⟨_,_,_,e'⟩
     .rw[e',e] at l;exact CF l rfl
     .rw[e,e'] at a3;exact CF a3 rfl
    .obtain⟨_,_,_,e⟩:=D id f
     obtain⟨_,_,_,e'⟩:=W (by omega)
     have:id=w.length:=by omega
     subst this
     rw[e,e'] at a4;exact CF a4 rfl
   .simp at hp
  .simp at hp
 .simp at hp
theorem P4 {T d:Env} {h m:Heap} {c:List Rec} (e:Tr P n all all T h c d m) {i k:Nat} {a b:Rec} {f:List (Nat × Nat)} (hp:C4 all i k=some f) (g:∀p∈f,jE (d p.1) (d p.2)) (j:c[i]?=some a) (l:c[k]?=some b):rb a b:=by
 unfold C4 at hp
 split at hp
 .rename_i p h1
  simp at hp;subst hp
  exact Qj e h1 (g p (by simp)) j l
 .exact Qg e hp g j l
theorem VF {ls:List Nat} {d:List Rec} {T o:Env} {hp q:Heap} {j:List (Nat × Nat)} (v:Tr P n all all T hp d o q) (h:E5 all (mP all ls)=some j) (z:∀p∈j,jE (o p.1) (o p.2)) (D:ls.length=d.length)
  (hr:∀(i x:Nat) (r:Rec),ls[i]?=some x->d[i]?=some r->mG x r.rd r.wr r.call r.lo r.hi):yi all d:=by
 intro i k a b s l m A
 have hi:i<d.length:=(abf.1 l).1
 have hk:k<d.length:=(abf.1 m).1
 have w:=hr i _ a (aa8 (by omega)) l
 have y:=hr k _ b (aa8 (by omega)) m
 have B:(ls[i]'(by omega),i)∈ls.zipIdx:=by rw[ab6];simp[aa8 (show i<ls.length by omega)]
 have mk:(ls[k]'(by omega),k)∈ls.zipIdx:=by rw[ab6];simp[aa8 (show k<ls.length by omega)]
 by_cases h1:Cl all (ls[i]'(by omega)) i (ls[k]'(by omega)) k=true
 .unfold Cl at h1
  simp only[s,decide_true,ade,A,adb,acW,ab9,abh,abn] at h1
  rcases h1 with ((h1 | h1) | h1) | h1
  .obtain⟨g,f,t,C⟩:=w.1 h1
   exact⟨λid c=>by simp[f] at c,λid _=>by simp[g],λu=>by simp[t] at u,λ_=>f,λid _ E=>by omega⟩
  .obtain⟨g,f,t,C⟩:=y.1 h1
   exact⟨λid _=>by simp[g],λid c=>by simp[f] at c,λ_=>f,λu=>by simp[t] at u,λid c=>by simp[f] at c⟩
  .have g:=w.2 h1.1
   have f:=y.2 h1.2
   exact⟨λid c=>by simp[g] at c,λid c=>by simp[f] at c,λ_=>f,λ_=>g,λid c=>by simp[f] at c⟩
  .exact Ai v h1 l m
 .have hm:(i,k)∈mP all ls:=by
   unfold mP
   rw[ac2]
   refine⟨_,B,?_⟩
   rw[acB]
   exact⟨_,mk,by simp only;rw[aa9 h1]⟩
  obtain⟨p,hp,e⟩:=UT h (i,k) hm
  exact UY v e (z p hp) l m
theorem Jh {P:Program} {t:TypeId} {id:Nat} {q:V} {ok:Bool} {H1 a:View} (h:H1 id=a id):fV P t (.mp id) q ok H1=fV P t (.mp id) q ok a:=by
 unfold fV
 simp only[h]
theorem Qe {P:Program} {t:TypeId} {id:Nat} {q:V} {H1 a:View} (h:H1 id=a id):fk P t (.mp id) q H1=fk P t (.mp id) q a:=by
 cases hm:eR P t with
 | none=>simp only[fk,hm]
 | some x=>simp only[fk,hm,h]
theorem Vl {P:Program} {t:TypeId} {id:Nat} {q:V} {H:View} {v:V} {eff:bq} {rd:List Nat} (h:fV P t (.mp id) q false H=some (v,eff,rd)):eff=.none/\rd=[id]:=by
 simp only[fV,abI,if_false] at h
 repeat' (first | (simp only[abd,abz] at h;exact⟨h.2.1.symm,h.2.2.symm⟩)|(split at h)|(simp at h;done))
theorem Rl {P:Program} {t:TypeId} {id:Nat} {q:V} {H:View} {v:V} {eff:bq} {rd:List Nat} (h:fk P t (.mp id) q H=some (v,eff,rd)):∃obj,eff=.fP id obj:=by
 cases hm:eR P t with
 | none=>simp[fk,hm] at h
 | some x =>
  simp only[fk,hm] at h
  repeat' (first | (simp only[abd,abz] at h;exact⟨_,h.2.1.symm⟩)|(split at h)|(simp at h;done))
theorem Md {o:Oper} {T:Env} {h f:Heap} {v:V} {rd wr:List Nat} {call:Bool} (st:eF P n all o T h v f rd wr call) (i:dW n all T o=some true) (j:∀e x,o.op≠.box e x) (k:∀s d x,o.op≠.convert s d x) (l:∀c,o.op≠.call c):
  ∃eff,cL P o T h.view h.length=some (v,eff,rd)/\f=eff.apply h/\wr=eff.wr/\call=false:=by
 cases st with
 | skip g=>rw[i] at g;simp at g
 | op _ b=>exact⟨_,b,rfl,rfl,rfl⟩
 | kN _ a _=>exact absurd a (j _ _)
 | ia _ a _ _ _ _=>exact absurd a (k _ _ _)
 | call _ a _ _ _ _ _=>exact absurd a (l _)
theorem X4 {a:List Rec} {f:Nat->Env} {b:Nat->Heap} {vs:Nat->V} (d:D7 P n all a f b vs) (i:a.length=all.length) {k:Nat} (hk:k<=all.length) (hw:∀j r,j<k->a[j]?=some r->r.wr=[]):
  ∀j,j<=k->(b 0).length<=(b j).length/\∀id,id<(b 0).length->(b j).view id=(b 0).view id:=by
 intro j
 induction j with
 | zero=>intro _;exact⟨abg _,λ_ _=>rfl⟩
 | succ j g =>
  intro l
  obtain⟨e,h⟩:=g (by omega)
  obtain⟨st,_,_,_,_⟩:=d j all[j] (a[j]'(by omega)) (aa8 (by omega)) (aa8 (by omega))
  refine⟨abZ e (wC st),λid c=>?_⟩
  rw[uG st (abK c e) (by rw[hw j _ (by omega) (aa8 (by omega))];simp)]
  exact h id c
theorem sN {a:List Rec} {b:Nat->Env} {e:Nat->Heap} {vs:Nat->V} (c:D7 P n all a b e vs) (m:a.length=all.length) {i t:Nat} (h:stays all i t=true):∀j,i<=j->j<=all.length->b j t=b i t:=by
 intro j d f
 refine CU (vs:=vs) (N:=all.length) (λk o hk=>?_) rfl i j d f λk o h1 p g=>z7 h o (by
  rw[List.mem_iff_getElem?]
  exact⟨k-i,by rw[acz,show i+(k-i)=k by omega];exact g⟩)
 have l:k<all.length:=(abf.1 hk).1
 exact(c k o (a[k]'(by omega)) hk (aa8 (by omega))).2.2.1
theorem LA {ls:List Nat} {d:List Rec} {T I:Env} {hp a6:Heap} {V:List (Nat × Nat)} {tp:Option (Nat × Nat)} (tr:Tr P n all all T hp d I a6) (h:yV all (J4 all ls tp)=some V) (hA:∀p∈V,jE (I p.1) (I p.2)) (hl:ls.length=d.length)
  (hr:∀(i x:Nat) (r:Rec),ls[i]?=some x->d[i]?=some r->mG x r.rd r.wr r.call r.lo r.hi) (W:∀p,tp=some p->∃D,J3 all ls p.1 p.2=some D/\LH P D.1 (I D.2.1) (I D.2.2) hp.view):PG P n all d T I hp:=by
 have main:∀i k a b,i<k->d[i]?=some a->d[k]?=some b->ordered (gT all []) i k=false->tp≠some (i,k)->rb a b:=by
  intro i k a b K X S ho a7
  have hk:k<d.length:=(abf.1 S).1
  have la:=hr i _ a (aa8 (by omega)) X
  have lb:=hr k _ b (aa8 (by omega)) S
  have mi:(ls[i]'(by omega),i)∈ls.zipIdx:=by rw[ab6];simp[aa8 (show i<ls.length by omega)]
  have mk:(ls[k]'(by omega),k)∈ls.zipIdx:=by rw[ab6];simp[aa8 (show k<ls.length by omega)]
  by_cases h1:Cl all (ls[i]'(by omega)) i (ls[k]'(by omega)) k=true
  .unfold Cl at h1
   simp only[K,decide_true,ade,ho,adb,acW,ab9,abh,abn] at h1
   rcases h1 with ((h1 | h1) | h1) | h1
   .obtain⟨w,s,Y,e4⟩:=la.1 h1
    exact⟨λid c=>by simp[s] at c,λid _=>by simp[w],λZ=>by simp[Y] at Z,λ_=>s,λid _ hx=>by omega⟩
   .obtain⟨w,s,Y,e4⟩:=lb.1 h1
    exact⟨λid _=>by simp[w],λid c=>by simp[s] at c,λ_=>s,λZ=>by simp[Y] at Z,λid c=>by simp[s] at c⟩
   .have w:=la.2 h1.1
    have s:=lb.2 h1.2
    exact⟨λid c=>by simp[w] at c,λid c=>by simp[s] at c,λ_=>s,λ_=>w,λid c=>by simp[s] at c⟩
   .exact Ai tr h1 X S
  .have hm:(i,k)∈mP all ls:=by
    unfold mP
    rw[ac2]
    refine⟨_,mi,?_⟩
    rw[acB]
    exact⟨_,mk,by simp only;rw[aa9 h1]⟩
   by_cases hn:newAt all k=true
   .unfold newAt at hn
    split at hn
    .rename_i ob L
     obtain⟨T1,ch,v,J,rd,wr,call,a8,w,s,_⟩:=tr.at_ k ob L
     rw[S] at w
     have w:=adm w
     subst w
     obtain⟨n1,n2,n3⟩:=Ww s hn
     exact⟨λid _=>by simp[n1],λid c=>by simp[n2] at c,λ_=>n2,λZ=>by simp[n3] at Z,λid c=>by simp[n2] at c⟩
    .simp at hn
   .obtain⟨p,hp,e⟩:=PN h (i,k) (by
     unfold J4
     rw[acr]
     refine⟨hm,?_⟩
     simp only[abh,adp,bne_iff_ne,ne_eq]
     exact⟨by simpa using hn,a7⟩)
    exact P4 tr e (λq hq=>hA q (hp q hq)) X S
 cases tp with
 | none=>exact yi.ZX λi k a b h1 J h3 h4=>main i k a b h1 J h3 h4 (by simp)
 | some p =>
  obtain⟨i0,C⟩:=p
  obtain⟨D,f,B⟩:=W _ rfl
  intro M hs vs cj N ab E u i
  by_cases hi:i=i0
  .subst hi
   refine⟨some C,λk a b h1 J h3 h4 h5=>main i k a b h1 J h3 h4 (λe=>h5 (by simp at e;rw[e])),λk a b o hk X S ho=>?_⟩
   simp at hk;subst hk
   unfold J3 at f
   split at f
   .rename_i oa ob O L
    rw[ho] at O
    have O:=adm O
    subst O
    split at f
    .rename_i t m q t' m' q' l y bd bl
     split at f
     .rename_i F
      simp only[abh,ab9,abn,abC,ab7] at F
      obtain⟨⟨⟨⟨⟨⟨⟨⟨rfl,rfl⟩,rfl⟩,s1⟩,s2⟩,s3⟩,s4⟩,K⟩,U⟩:=F
      simp only[abd] at f
      subst f
      have bn:C<all.length:=(abf.1 L).1
      have br:∀j r,j<C->d[j]?=some r->r.wr=[]:=λj r hj bs=>by
       have h1:=U j hj
       have ae:j<ls.length:=by omega
       rw[aa7,aa8 ae] at h1
       exact(hr j _ r (aa8 ae) bs).2 h1
      have G:=X4 u E (Nat.le_of_lt bn) br
      have em:∀j,i<=j->j<=all.length->M j m=I m:=λj h1 J=>by
       rw[<-ab,sN u E s1 j h1 J,sN u E s1 all.length (by omega) (abg _)]
      have eq:∀j,i<=j->j<=all.length->M j q=I q:=λj h1 J=>by
       rw[<-ab,sN u E s2 j h1 J,sN u E s2 all.length (by omega) (abg _)]
      obtain⟨bx,_,_,b0,b1⟩:=u i o a ho X
      obtain⟨b2,_,_,_,_⟩:=u C ob b L S
      have gi:dW n all (M i) o=some true:=by unfold dW;rw[bd]
      have gk:dW n all (M C) ob=some true:=by unfold dW;rw[bl]
      unfold LH at B
      split at B
      .rename_i id c
       obtain⟨⟨ck,c0,H⟩,B⟩:=B
       have Q:id<hp.length:=fj (by rw[H];simp)
       have al:(hs C).view id=hp.view id:=by rw[(G C (abg _)).2 id (by rw[N];exact Q),N]
       have an:(hs i).view id=hp.view id:=by rw[(G i (Nat.le_of_lt K)).2 id (by rw[N];exact Q),N]
       obtain⟨cc,z,b3,b4,b5⟩:=Md bx gi (by rw[l];simp) (by rw[l];simp) (by rw[l];simp)
       obtain⟨cf,A,b7,b8,cu⟩:=Md b2 gk (by rw[y];simp) (by rw[y];simp) (by rw[y];simp)
       simp only[cL,l] at z
       simp only[cL,y] at A
       have w:ev (M i) (.tmp m)=.mp id:=(em i (abg _) (by omega)).trans c
       have s:ev (M i) (.tmp q)=I q:=eq i (abg _) (by omega)
       have Y:ev (M C) (.tmp m)=.mp id:=(em C (by omega) (by omega)).trans c
       have e4:ev (M C) (.tmp q)=I q:=eq C (by omega) (by omega)
       rw[w,s] at z
       rw[Y,e4,Qe al] at A
       obtain⟨l1,l2⟩:=Vl z
       obtain⟨obj,l3⟩:=Rl A
       subst l1 l3
       have b9:(hs (C+1)).view id=obj:=by
        rw[b7,k9 (λcv R=>by
         simp only[bq.wr,ab5] at R
         subst R
         rw[al,H];simp)]
        simp[bq.view,View.set]
       refine⟨K,b4,b5,by rw[b0,b1,b3];rfl,λg hg ca=>?_⟩
       have aq:id<(hs i).length:=fj (by rw[an,H];simp)
       have ar:g.view id=(hp.view.set id obj) id:=by
        rw[ca id aq,b8,abb (by simp[bq.wr]),b9]
        simp[View.set]
       have cb:=B _ _ _ A
       have a1:cL P o (M i) g.view g.length=some (vs i,.none,a.rd):=by
        simp only[cL,l]
        rw[w,s,Jh ar,cb,<-Jh an]
        exact z
       exact .op gi a1
      .exact B.elim
     .simp at f
    .simp at f
   .simp at f
  .exact⟨none,λk a b h1 J h3 h4 _=>main i k a b h1 J h3 h4 (λe=>hi (by simp at e;exact e.1.symm)),λk a b o h1=>by simp at h1⟩
theorem Vn (hm:P.follows .mixedOrders=true) {p:Fz} {id:Nat} {ops:Array Oper} {q:SC} {T:Env} {h:Heap} {Q:Exit->Env->View->Prop} (a:E0 P n p ops.toList=some q) (hw:wS P q T h.view Q):
  ∃e g d,dB P n (.region id ops true) T h e g d/\(km h d/\h.length<=d.length)/\Q e g d.view:=by
 unfold E0 at a
 split at a
 .simp at a
 .rename_i l v
  split at a
  .simp at a
  .rename_i b
   have b:(group l).all wH=true:=by simpa using b
   have j:eo P n ops.toList p ops.toList=some (oE (group l)):=by rw[iv];exact v
   split at a
   .rename_i w
    simp only[abj] at a
    obtain⟨y,k,rfl⟩:=a
    obtain⟨f,g,d,t,m,hk,c⟩:=B7 (group l) ops.toList T h j b hw
    rw[iv] at c
    refine⟨.normal,g,d,?_,m,hk.rest⟩
    have o:yi ops.toList f:=VF t k (D1 hk) (by simpa using c.1) (λi x r u hr=>by
     simp only[aba,abj] at u
     obtain⟨s,z,rfl⟩:=u
     exact c.2 i s r z hr)
    simpa using Bk hm (id:=id) t w o
   .simp at a
theorem Vg (hm:P.follows .mixedOrders=true) {A:Fz} {id:Nat} {ops:Array Oper} {B:SC} {T:Env} {h:Heap} {Q:Exit->Env->View->Prop} (b:GS P n A ops.toList=some B) (hw:wS P B T h.view Q):
  ∃e k d,dB P n (.region id ops true) T h e k d/\(km h d/\h.length<=d.length)/\Q e k d.view:=by
 unfold GS at b
 split at b
 .simp at b
 .rename_i l D
  split at b
  .simp at b
  .rename_i c
   have c:(group l).all wH=true:=by simpa using c
   have m:eo P n ops.toList A ops.toList=some (oE (group l)):=by rw[iv];exact D
   split at b
   .rename_i C
    split at b
    .simp only[abj] at b
     obtain⟨v,f,rfl⟩:=b
     obtain⟨o,k,d,q,g,hk,a⟩:=B7 (group l) ops.toList T h m c hw
     rw[iv] at a
     refine⟨.normal,k,d,?_,g,hk.rest⟩
     have j:=LA q f (D1 hk) (by simpa using a.1) (λi x r t hr=>by
      simp only[aba,abj] at t
      obtain⟨s,w,rfl⟩:=t
      exact a.2 i s r w hr) (λp hp=>by simp at hp)
     simpa using zT hm (id:=id) q C j
    .split at b
     .rename_i y z
      simp only[abj] at b
      obtain⟨v,f,rfl⟩:=b
      obtain⟨o,k,d,q,g,hk,a⟩:=B7 (group l) ops.toList T h m c hw
      rw[iv] at a
      refine⟨.normal,k,d,?_,g,hk.2.rest⟩
      have j:=LA q f (D1 hk.2) (by simpa using a.1) (λi x r t hr=>by
       simp only[aba,abj] at t
       obtain⟨s,w,rfl⟩:=t
       exact a.2 i s r w hr) (λE u=>by
        simp only[abd] at u
        subst u
        exact⟨y,z,hk.1⟩)
      simpa using zT hm (id:=id) q C j
     .simp at b
   .simp at b
theorem vT (hm:P.follows .mixedOrders=true) {u:Fz} {id:Nat} {ops:Array Oper} {draw quiet:Bool} {v:SC} {T:Env} {h:Heap} {Q:Exit->Env->View->Prop} (a:uR P n u ops.toList draw quiet=some v) (hw:wS P v T h.view Q):
  ∃e d c,dB P n (.region id ops draw) T h e d c/\(km h c/\h.length<=c.length)/\Q e d c.view:=by
 unfold uR at a
 split at a
 .simp at a
 .rename_i l y
  split at a
  .simp at a
  .rename_i f
   have f:(group l).all wH=true:=by simpa using f
   have k:eo P n ops.toList u ops.toList=some (oE (group l)):=by rw[iv];exact y
   have key:A9 P quiet (group l) T h.view (Q .normal)->(draw=true->oB ops.toList=true/\J1 ops.toList (l.map λs=>j0 P quiet s.b)=true) ->
     ∃e d c,dB P n (.region id ops draw) T h e d c/\(km h c/\h.length<=c.length)/\Q e d c.view:=by
    intro hw m
    obtain⟨j,d,c,o,p,hk,g⟩:=B7 (group l) ops.toList T h k f hw
    rw[iv] at g
    refine⟨.normal,d,c,?_,p,hk⟩
    cases q:draw with
    | false=>simpa using Kt (id:=id) o
    | true =>
     obtain⟨h1,z⟩:=m q
     have t:yi ops.toList j:=Wp o z (by simpa using g.1) (λi x r w hr=>by
      simp only[aba,abj] at w
      obtain⟨s,A,rfl⟩:=w
      exact g.2 i s r A hr)
     simpa using Bk hm (id:=id) o h1 t
   split at a
   .split at a
    .rename_i B
     simp at a;subst a
     exact key hw (λ_=>by simpa using B)
    .simp at a
   .rename_i q
    simp at a;subst a
    exact key hw (λe=>absurd e q)
theorem fY {a b:Option SC} {c:SC} (h:orElse' a b=some c):a=some c∨b=some c:=by
 cases a with
 | none=>exact .inr h
 | some x=>exact .inl h
theorem R4 (hm:P.follows .mixedOrders=true) {k:List Nat} {id:Nat} {ops:Array Oper} {draw:Bool} {g:SC} {T:Env} {h:Heap} {Q:Exit->Env->View->Prop} (i:Kb P n k ops.toList draw=some g) (hw:wS P g T h.view Q):
  ∃e j b,dB P n (.region id ops draw) T h e j b/\(km h b/\h.length<=b.length)/\Q e j b.view:=by
 unfold Kb at i
 rcases fY i with h1 | h1
 .exact vT hm h1 hw
 .split at h1
  .rename_i l
   subst l
   rcases fY h1 with a | h1
   .split at a
    .exact Vg hm a hw
    .simp at a
   rcases fY h1 with a | h1
   .split at a
    .exact vT hm a hw
    .simp at a
   rcases fY h1 with c | c
   .exact Vn hm c hw
   .rcases fY c with d | d
    .exact vT hm d hw
    .rcases fY d with f | f
     .exact vT hm f hw
     .exact vT hm f hw
  .simp at h1
theorem IA {e:Exit} {a b:Prop} (h:DJ e a b):(e=.normal/\a)∨(e≠.normal/\b):=by
 cases e with
 | normal=>exact .inl ⟨rfl,h⟩
 | _=>exact .inr ⟨by simp,h⟩
def uL (P:Program) (n:Nat) (fz:List Nat) (c:Code):Prop:=∀sc:SC,dR P n fz c=some sc->∀(T:Env) (h:Heap) (Q:Exit->Env->View->Prop),wS P sc T h.view Q ->
 ∃e T' h',dB P n c T h e T' h'/\(km h h'/\h.length<=h'.length)/\Q e T' h'.view
theorem Ir {b:List Nat} : uL P n b .skip:=by
 intro c a T h Q hw;simp[dR] at a;subst a;exact⟨_,T,h,.skip,⟨.refl _,abg _⟩,hw⟩
theorem Ld {g:List Nat} {x y:Code} (i:uL P n g x) (j:uL P n g y):uL P n g (.seq x y):=by
 intro u c T h Q hw
 simp only[dR] at c
 split at c
 .rename_i a b h1 q
  simp at c;subst c
  obtain⟨e,o,d,p,st1,f⟩:=i a h1 T h _ hw
  rcases IA f with ⟨rfl,f⟩ | ⟨k,f⟩
  .obtain⟨r,s,l,t,st2,m⟩:=j b q o d _ f
   exact⟨r,s,l,p.seq t,⟨st1.1.trans st2.1 st1.2,abZ st1.2 st2.2⟩,m⟩
  .exact⟨e,o,d,p.OY k,st1,f⟩
 .simp at c
theorem qO {b:Fz} {ops:List Oper} {draw quiet:Bool} {a:SC} (h:uR P n b ops draw quiet=some a) (l:Nat):qm a l=none:=by
 unfold uR at h
 repeat' (first | (simp only[abd] at h;subst h;rfl)|(split at h)|(simp at h;done))
theorem Q2 {b:Fz} {ops:List Oper} {a:SC} (h:E0 P n b ops=some a) (l:Nat):qm a l=none:=by
 unfold E0 at h
 repeat' (first | (simp only[abj] at h;obtain⟨_,_,rfl⟩:=h;rfl)|(split at h)|(simp at h;done))
theorem QF {b:Fz} {ops:List Oper} {a:SC} (h:GS P n b ops=some a) (l:Nat):qm a l=none:=by
 unfold GS at h
 repeat' (first | (simp only[abj] at h;obtain⟨_,_,rfl⟩:=h;rfl)|(split at h)|(simp at h;done))
theorem QI {f:List Nat} {ops:List Oper} {draw:Bool} {e:SC} (h:Kb P n f ops draw=some e) (l:Nat):qm e l=none:=by
 rcases fY h with h1 | h1
 .exact qO h1 l
 .split at h1
  .rcases fY h1 with a | h1
   .split at a
    .exact QF a l
    .simp at a
   rcases fY h1 with a | h1
   .split at a
    .exact qO a l
    .simp at a
   rcases fY h1 with b | b
   .exact Q2 b l
   .rcases fY b with c | c
    .exact qO c l
    .rcases fY c with d | d
     .exact qO d l
     .exact qO d l
  .simp at h1
theorem SZ {j:List Nat}:∀(c:Code) (f:SC),dR P n j c=some f->∀l,match findLabel c l with
  | some rest=>∃r,qm f l=some r/\dR P n j rest=some r
  | none=>qm f l=none:=by
 intro c
 induction c with
 | seq x y h i =>
  intro f d l
  simp only[dR] at d
  split at d
  .rename_i a b h1 k
   simp at d;subst d
   have g:=h a h1 l
   have o:=i b k l
   simp only[findLabel,qm]
   cases m:findLabel x l with
   | some rx =>
    rw[m] at g
    obtain⟨r,p,q⟩:=g
    exact⟨.seq r b,by rw[p],by simp only[dR,q,k]⟩
   | none =>
    rw[m] at g
    rw[g]
    exact o
  .simp at d
 | label l' =>
  intro f d l
  simp[dR] at d;subst d
  simp only[findLabel,qm]
  by_cases e:(l'==l)=true
  .rw[abb e];exact⟨.skip,by rw[abb e],by simp[dR]⟩
  .rw[aa9 e];simp only;rw[aa9 e]
 | region id ops draw=>intro f d l;simp only[dR] at d;simp only[findLabel];exact QI d l
 | cond x y z _ _ =>
  intro f d l
  simp only[dR] at d
  split at d
  .simp at d;subst d;rfl
  .simp at d
 | block id c _=>intro f d l;simp only[dR,abj] at d;obtain⟨_,_,rfl⟩:=d;rfl
 | loop c _=>intro f d l;simp only[dR,abj] at d;obtain⟨_,_,rfl⟩:=d;rfl
 | scope c _ =>
  intro f d l
  simp only[dR] at d
  split at d
  .split at d
   .simp only[abj] at d;obtain⟨_,_,rfl⟩:=d;rfl
   .simp at d
  .simp at d
 | skip=>intro f d l;simp[dR] at d;subst d;rfl
 | exit id=>intro f d l;simp[dR] at d;subst d;rfl
 | ret=>intro f d l;simp[dR] at d;subst d;rfl
 | goto l'=>intro f d l;simp[dR] at d;subst d;rfl
 | _=>intro f d;simp[dR] at d
theorem QQ {v:List Nat} {c:Code} (F:uL P n v c) (hr:∀l rest,findLabel c l=some rest->uL P n v rest):uL P n v (.scope c):=by
 intro H d T h Q hw
 simp only[dR] at d
 split at d
 .rename_i a h1
  split at d
  .rename_i l J
   simp only[abj] at d
   obtain⟨r,w,rfl⟩:=d
   have j:=SZ c a h1 l
   cases m:findLabel c l with
   | none=>rw[m] at j;simp only at j;rw[j] at w;simp at w
   | some rest =>
    rw[m] at j
    obtain⟨L,t,o⟩:=j
    rw[w] at t
    have t:=adm t
    subst t
    obtain⟨I,K,x,y⟩:=hw
    have go:∀k T (h:Heap),I k T h.view->∃e E u,uN P n c rest T h e E u/\(km h u/\h.length<=u.length)/\Q e E u.view:=by
     intro k
     induction k using Nat.strongRecOn with
     | ind k z =>
      intro T h G
      obtain⟨e,p,b,q,st1,s⟩:=hr l rest m r o T h _ (y k T h.view G)
      cases e with
      | goto l' =>
       obtain⟨rfl,A,B,f⟩:=s
       obtain⟨o,C,g,D,st2,i⟩:=z A B p b f
       exact⟨o,C,g,uN.jump q m D,⟨st1.1.trans st2.1 st1.2,abZ st1.2 st2.2⟩,i⟩
      | _=>exact⟨_,p,b,.out q rfl,st1,s⟩
    obtain⟨e,p,b,q,st1,s⟩:=F a h1 T h _ x
    cases e with
    | goto l' =>
     obtain⟨rfl,A,_,f⟩:=s
     obtain⟨o,C,g,D,st2,i⟩:=go A p b f
     exact⟨o,C,g,.scope (uN.jump q m D),⟨st1.1.trans st2.1 st1.2,abZ st1.2 st2.2⟩,i⟩
    | _=>exact⟨_,p,b,.scope (.out q rfl),st1,s⟩
  .simp at d
 .simp at d
theorem Vh (hm:P.follows .mixedOrders=true) {E:List Nat}:∀c:Code,uL P n E c/\∀l rest,findLabel c l=some rest->uL P n E rest:=by
 intro c
 induction c with
 | skip=>exact⟨Ir,λl rest h=>by simp[findLabel] at h⟩
 | region id ops draw=>exact⟨λp d T h Q hw=>R4 hm d hw,λl rest h=>by simp[findLabel] at h⟩
 | seq x y o g =>
  refine⟨Ld o.1 g.1,λl rest h=>?_⟩
  simp only[findLabel] at h
  split at h
  .rename_i r hr
   simp only[abd] at h;subst h
   exact Ld (o.2 _ _ hr) g.1
  .exact g.2 _ _ h
 | cond c x y o g =>
  refine⟨?_,λl rest h=>by simp[findLabel] at h⟩
  intro p d T h Q hw
  simp only[dR] at d
  split at d
  .rename_i a b h1 H
   simp at d;subst d
   simp only[wS] at hw
   split at hw
   .rename_i t u
    have F:xn (SX.of c) t T=T:=by
     unfold xn
     split
     .rename_i k hk
      rw[hk] at u
      exact Es u
     .rfl
    rw[SX.di] at u
    cases t with
    | true =>
     have:=hw.1 rfl
     rw[F] at this
     obtain⟨e,j,f,m,st,i⟩:=o.1 a h1 T h Q this
     exact⟨e,j,f,.cond u m,st,i⟩
    | false =>
     have:=hw.2 rfl
     rw[F] at this
     obtain⟨e,j,f,m,st,i⟩:=g.1 b H T h Q this
     exact⟨e,j,f,.cond u m,st,i⟩
   .exact hw.elim
  .simp at d
 | block id c s =>
  refine⟨?_,λl rest h=>by simp[findLabel] at h⟩
  intro p d T h Q hw
  simp only[dR,abj] at d
  obtain⟨a,h1,rfl⟩:=d
  obtain⟨e,j,f,m,st,i⟩:=s.1 a h1 T h _ hw
  exact⟨_,j,f,m.block,st,i⟩
 | loop c s =>
  refine⟨?_,λl rest h=>by simp[findLabel] at h⟩
  intro p d T h Q hw
  simp only[dR,abj] at d
  obtain⟨a,h1,rfl⟩:=d
  obtain⟨I,⟨k,hk⟩,q⟩:=hw
  have go:∀k T (h:Heap),I k T h.view->∃e j f,sx P n c T h e j f/\(km h f/\h.length<=f.length)/\Q e j f.view:=by
   intro k
   induction k using Nat.strongRecOn with
   | ind k w =>
    intro T h J
    obtain⟨e,G,v,m,st1,i⟩:=s.1 a h1 T h _ (q k T h.view J)
    rcases IA i with ⟨rfl,K,z,A⟩ | ⟨B,i⟩
    .obtain⟨L,M,C,N,st2,D⟩:=w K z G v A
     exact⟨L,M,C,.step m N,⟨st1.1.trans st2.1 st1.2,abZ st1.2 st2.2⟩,D⟩
    .exact⟨e,G,v,.out m B,st1,i⟩
  obtain⟨e,j,f,m,st,i⟩:=go k T h hk
  exact⟨e,j,f,.loop m,st,i⟩
 | exit id=>exact⟨λp d T h Q hw=>by simp[dR] at d;subst d;exact⟨_,T,h,.exit,⟨.refl _,abg _⟩,hw⟩,λl rest h=>by simp[findLabel] at h⟩
 | ret=>exact⟨λp d T h Q hw=>by simp[dR] at d;subst d;exact⟨_,T,h,.ret,⟨.refl _,abg _⟩,hw⟩,λl rest h=>by simp[findLabel] at h⟩
 | label l'=>exact⟨λp d T h Q hw=>by simp[dR] at d;subst d;exact⟨_,T,h,.label,⟨.refl _,abg _⟩,hw⟩,λl rest h=>by
   simp only[findLabel] at h
   split at h
   .simp only[abd] at h;subst h;exact Ir
   .simp at h⟩
 | goto l'=>exact⟨λp d T h Q hw=>by simp[dR] at d;subst d;exact⟨_,T,h,.goto,⟨.refl _,abg _⟩,hw⟩,λl rest h=>by simp[findLabel] at h⟩
 | scope c s=>exact⟨QQ s.1 s.2,λl rest h=>by simp[findLabel] at h⟩
 | _=>exact⟨λp d=>by simp[dR] at d,λl rest h=>by simp[findLabel] at h⟩
theorem ZD (hm:P.follows .mixedOrders=true) {f:List Nat} (c:Code) (b:SC) (g:dR P n f c=some b) (T:Env) (h:Heap) (Q:Exit->Env->View->Prop) (hw:wS P b T h.view Q):
 ∃e d a,dB P n c T h e d a/\(km h a/\h.length<=a.length)/\Q e d a.view:=(Vh hm c).1 b g T h Q hw
theorem ZA {T:Env} {h:Heap} {r:ResultVar} {l:List SR} {rest:List ResultVar} (b:gL P (r::rest)=some l):∃s l',l=s::l'/\gL P rest=some l'/\∀K:V->Prop,wR T h.view s K->∃v,vJ P T h r=some v/\K v:=by
 cases r with
 | tmp t =>
  simp only[gL,abj] at b
  obtain⟨l',h1,rfl⟩:=b
  exact⟨.tmp t,l',rfl,h1,λK hk=>⟨_,rfl,hk⟩⟩
 | cell a t =>
  simp only[gL] at b
  split at b
  .rename_i k l' h1 g
   simp at b;subst b
   refine⟨.cell a k,l',rfl,g,λK hk=>?_⟩
   simp only[wR] at hk
   simp only[vJ,oM,zQ h1]
   split at hk
   .rename_i id i j c
    split at hk
    .rename_i es hH
     obtain⟨d,hk⟩:=hk
     obtain⟨v,f,hk⟩:=sw hk
     exact⟨v,by rw[c];simp only[hH];rw[abb d,f];rfl,hk⟩
    .exact hk.elim
   .rename_i e j c
    obtain⟨v,f,hk⟩:=sw hk
    exact⟨v,by rw[c];simp only;rw[f];rfl,hk⟩
   .exact hk.elim
  .simp at b
theorem TF {T:Env} {h:Heap} {K:List V->Prop}:∀(rs:List ResultVar) (l:List SR) (acc:List V),gL P rs=some l->IK T h.view l acc K->∃vs,nV P T h rs=some vs/\K (acc++vs)
 | [],l,acc,a,hw=>by simp[gL] at a;subst a;exact⟨[],rfl,by simpa [IK] using hw⟩
 | r::rest,l,acc,a,hw=>by
  obtain⟨s,l',rfl,h1,c⟩:=ZA (T:=T) (h:=h) a
  obtain⟨v,d,hk⟩:=c _ hw
  obtain⟨vs,b,hk⟩:=TF rest l' (acc++[v]) h1 hk
  exact⟨v::vs,by simp[nV,d,b],by simpa using hk⟩
def wF (P:Program) (F:SF) (vs:List V) (H:View) (K:V->View->Prop):Prop:=
 vs.length<=F.n/\wS P F.code (mS vs) H λe T' H'=>(e=.ret∨e=.normal)/\IK T' H' F.res [] λl=>K (zt l) H'
theorem az.of (hm:P.follows .mixedOrders=true) {f:FuncId} {j:List Nat} {F:SF} (b:aJ P f j=some F) {vs:List V} {H:View} {K:V->View->Prop} (hw:wF P F vs H K):az P f vs H K:=by
 unfold aJ at b
 split at b
 .rename_i fn g
  split at b
  .rename_i c k
   split at b
   .rename_i m rs h1 n o
    simp at b;subst b
    refine⟨o,?_⟩
    rintro h rfl
    obtain⟨e,r,p,q,st,he,hr⟩:=ZD hm c m h1 _ h _ hw.2
    obtain⟨d,i,hk⟩:=TF _ _ [] n hr
    refine⟨zt d,p,b6.OO g k hw.1 q he ?_,st.1,by simpa using hk⟩
    unfold Qr
    rw[i]
    cases d with
    | nil=>rfl
    | cons a l=>cases l<;>rfl
   .simp at b
  .simp at b
 .simp at b
theorem az.mono {f:FuncId} {vs:List V} {H:View} {K c:V->View->Prop} (h:az P f vs H K) (hk:∀r H',K r H'->c r H'):az P f vs H c:=
 ⟨h.1,λd e=>let ⟨r,g,a,s,b⟩:=h.2 d e; ⟨r,g,a,s,hk _ _ b⟩⟩
theorem aC.PO {f:FuncId} {vs:List V} {H:View} {t:V} {K:V->View->Prop} (h:aC P f vs t) (a:eh P f=true) (hk:K t H):Gz P f vs H K:=
 ⟨a,λb e=>⟨t,b,b6.hX h b,λ_ _=>rfl,e▸hk⟩⟩
theorem az.PO {f:FuncId} {vs:List V} {H:View} {K:V->View->Prop} (h:az P f vs H λr H'=>(∀id,H id≠.dead->H' id=H id)/\K r H'):Gz P f vs H K:=
 ⟨h.1,λc e=>by
  obtain⟨r,g,i,st,d,hk⟩:=h.2 c e
  refine⟨r,g,i,λid a=>?_,hk⟩
  by_cases b:c.view id=.dead
  .rw[b];exact st id a b
  .rw[<-e] at d;exact d id b⟩
end
inductive dd {α:Type} (x:α):Type where
 | mk
def gG (s:ByteArray):List Int:=s.data.toList.map λb=>(b.toNat:Int)
theorem fO (s:ByteArray):s.size=(gG s).length:=by grind [gG,bsize]
def aW (P:Program) (c:SC) (T:Env) (H:View) (Q:Exit->Env->View->Prop) (_:dd (T,H,Q)):Prop:=wS P (.loop c) T H Q
def YG (P:Program) (l:Nat) (c r:SC) (T:Env) (H:View) (Q:Exit->Env->View->Prop) (_:dd (T,H,Q)):Prop:=wS P (.scope l c r) T H Q
def ay (P:Program) (quiet:Bool) (f:FuncId) (vs:List V) (H:View) (K:V->View->Prop) (_:dd (H,K)):Prop:=
 if quiet then Gz P f vs H K else az P f vs H K
def Fw {α:Type} (v:α) (F:α->Prop) (_:dd F):Prop:=F v
def eV (v:V) (F:V->Prop) (_:dd F):Prop:=F v
def K4 (o:ct) (F:ct->Prop) (_:dd F):Prop:=F o
def tq {α:Type} (o:Option α) (F:Option α->Prop) (_:dd F):Prop:=F o
def ao (b:Bool) (A B:Prop) (_:dd (A,B)):Prop:=(b=true->A)/\(b=false->B)
theorem ZU {α:Type} (v:α) (F:α->Prop) (w:dd F):Fw v F w=F v:=propext Iff.rfl
section
variable (F:V->Prop) (w:dd F)
theorem Pe (v:Value):eV (.val v) F w=F (.val v):=propext Iff.rfl
theorem Pv (k:Nat):eV (.emp k) F w=F (.emp k):=propext Iff.rfl
theorem OF:eV .eD F w=F .eD:=propext Iff.rfl
theorem OJ (es:List (List V)):eV (.aY es) F w=F (.aY es):=propext Iff.rfl
theorem UK (a b c d:Nat):eV (.sl a b c d) F w=F (.sl a b c d):=propext Iff.rfl
theorem Oz (a b c:Nat):eV (.ptr a b c) F w=F (.ptr a b c):=propext Iff.rfl
theorem La (e:List V) (j:Nat):eV (.aR e j) F w=F (.aR e j):=propext Iff.rfl
theorem SA (a:Nat):eV (.mp a) F w=F (.mp a):=propext Iff.rfl
theorem Rn (f:FuncId) (a b:List V):eV (.fn f a b) F w=F (.fn f a b):=propext Iff.rfl
theorem Ou (cs:List V):eV (.agg cs) F w=F (.agg cs):=propext Iff.rfl
theorem Ph (cs:List V):eV (.bc cs) F w=F (.bc cs):=propext Iff.rfl
end
theorem Pd (F:ct->Prop) (w:dd F) (k:Nat) (es:List (List V)):K4 (.arr k es) F w=F (.arr k es):=propext Iff.rfl
theorem NL (F:ct->Prop) (w:dd F) (es:List (V × V × Nat)) (k:Nat):K4 (.map es k) F w=F (.map es k):=propext Iff.rfl
theorem Lt {α:Type} (F:Option α->Prop) (w:dd F) (x:α):tq (some x) F w=F (some x):=propext Iff.rfl
theorem LD (A B:Prop) (w:dd (A,B)):ao true A B w=A:=by simp[ao]
theorem Jz (A B:Prop) (w:dd (A,B)):ao false A B w=B:=by simp[ao]
theorem Od (b:Bool) (A B:Prop) (w:dd (A,B)):ao (!b) A B w=ao b B A .mk:=by grind [ao]
theorem ao.split {b:Bool} {A B:Prop} {w:dd (A,B)} (h1:b=true->A) (a:b=false->B):ao b A B w:=⟨h1,a⟩
theorem ao.dec {p:Prop} [Decidable p] {A B:Prop} {w:dd (A,B)} (h1:p->A) (a:¬ p->B):ao (decide p) A B w:=⟨λh=>h1 (by simpa using h),λh=>a (by simpa using h)⟩
theorem ao.eq {a b:Int} {A B:Prop} {w:dd (A,B)} (h1:a=b->A) (c:¬ a=b->B):ao (a==b) A B w:=⟨λh=>h1 (by simpa using h),λh=>c (by simpa using h)⟩
theorem ao.ne {a b:Int} {A B:Prop} {w:dd (A,B)} (h1:¬ a=b->A) (c:a=b->B):ao (a != b) A B w:=⟨λh=>h1 (by simpa using h),λh=>c (by simpa using h)⟩
section
variable (P:Program) (T:Env) (H:View)
theorem Xa (F:SF) (vs:List V) (K:V->View->Prop):wF P F vs H K=(vs.length<=F.n/\wS P F.code (mS vs) H λe a H'=>(e=.ret∨e=.normal)/\IK a H' F.res [] λl=>Fw (zt l) (λv=>K v H') .mk):=propext Iff.rfl
theorem NY (Q:Exit->Env->View->Prop):wS P .skip T H Q=Q .normal T H:=propext Iff.rfl
theorem JJ (q:Bool) (gs:List SG) (Q:Exit->Env->View->Prop):wS P (.region q gs) T H Q=A9 P q gs T H (Q .normal):=propext Iff.rfl
theorem Gy (a:List (Nat × Nat)) (gs:List SG) (Q:Exit->Env->View->Prop):wS P (.vq a gs) T H Q=A9 P false gs T H (λb H'=>B0 a b (Q .normal b H')):=propext Iff.rfl
theorem Gd (a:Nat × Nat × Nat) (b:List (Nat × Nat)) (gs:List SG) (Q:Exit->Env->View->Prop):wS P (.yj a b gs) T H Q=A9 P false gs T H (λc H'=>LH P a.1 (c a.2.1) (c a.2.2) H/\B0 b c (Q .normal c H')):=propext Iff.rfl
theorem O6 (K:Prop):B0 [] T K=K:=propext Iff.rfl
theorem LL (a b:Nat) (l:List (Nat × Nat)) (K:Prop):B0 ((a,b)::l) T K=(jE (T a) (T b)/\B0 l T K):=propext Iff.rfl
theorem Pm (i j k a b c:Nat):jE (.ptr i j k) (.ptr a b c)=(i≠a):=propext Iff.rfl
theorem Ot (i j k a b c d:Nat):jE (.ptr i j k) (.sl a b c d)=(i≠a):=propext Iff.rfl
theorem Mb (i j k e:Nat):jE (.ptr i j k) (.emp e)=True:=id rfl
theorem Ku (i j k:Nat):jE (.ptr i j k) .eD=True:=id rfl
theorem KH (i j k:Nat) (es:List (List V)):jE (.ptr i j k) (.aY es)=True:=id rfl
theorem Pr (a b c d e f g h:Nat):jE (.sl a b c d) (.sl e f g h)=(a≠e):=propext Iff.rfl
theorem Ur (a b c d e:Nat):jE (.sl a b c d) (.emp e)=True:=id rfl
theorem RP (a b c d:Nat):jE (.sl a b c d) .eD=True:=id rfl
theorem TB (a b c d:Nat) (es:List (List V)):jE (.sl a b c d) (.aY es)=True:=id rfl
theorem N2 (k:Nat) (v:V):jE (.emp k) v=True:=by cases v<;>rfl
theorem On (v:V):jE .eD v=True:=by cases v<;>rfl
theorem N5 (es:List (List V)) (v:V):jE (.aY es) v=True:=by cases v<;>rfl
theorem Kg (e:List V) (j:Nat) (v:V):jE (.aR e j) v=True:=by cases v<;>rfl
theorem RA (x y:SC) (Q:Exit->Env->View->Prop):wS P (.seq x y) T H Q=wS P x T H λe a H'=>DJ e (wS P y a H' Q) (Q e a H'):=propext Iff.rfl
theorem Oa (c:SX) (x y:SC) (Q:Exit->Env->View->Prop):wS P (.cond c x y) T H Q=eV (c.at T) (λv=>match v with
 | .val (.bool b)=>ao b (wS P x (xn c true T) H Q) (wS P y (xn c false T) H Q) .mk
 | _=>False) .mk:=propext Iff.rfl
theorem KN (id:Nat) (c:SC) (Q:Exit->Env->View->Prop):wS P (.block id c) T H Q=wS P c T H λe=>Q (sy id e):=propext Iff.rfl
theorem OE (id:Nat) (Q:Exit->Env->View->Prop):wS P (.exit id) T H Q=Q (.exit id) T H:=propext Iff.rfl
theorem Tz (Q:Exit->Env->View->Prop):wS P .ret T H Q=Q .ret T H:=propext Iff.rfl
theorem LU (l:Nat) (c r:SC) (Q:Exit->Env->View->Prop):wS P (.scope l c r) T H Q=YG P l c r T H Q .mk:=propext Iff.rfl
theorem Ke (l:Nat) (Q:Exit->Env->View->Prop):wS P (.label l) T H Q=Q .normal T H:=propext Iff.rfl
theorem NR (l:Nat) (Q:Exit->Env->View->Prop):wS P (.goto l) T H Q=Q (.goto l) T H:=propext Iff.rfl
theorem FA (l l':Nat) (a b:Prop):C5 l (.goto l') a b=(l'=l/\a):=propext Iff.rfl
theorem Bh (l:Nat) (a b:Prop):C5 l .normal a b=b:=propext Iff.rfl
theorem Fm (l i:Nat) (a b:Prop):C5 l (.exit i) a b=b:=propext Iff.rfl
theorem JD (l:Nat) (a b:Prop):C5 l .ret a b=b:=propext Iff.rfl
theorem Mg (l:Nat) (a b:Prop):DJ (.goto l) a b=b:=propext Iff.rfl
theorem Ga (i l:Nat):sy i (.goto l)=.goto l:=id rfl
theorem NK (c:SC) (Q:Exit->Env->View->Prop):wS P (.loop c) T H Q=aW P c T H Q .mk:=propext Iff.rfl
theorem NA (q:Bool) (K:Env->View->Prop):A9 P q [] T H K=K T H:=propext Iff.rfl
theorem LG (q:Bool) (g:SG) (r:List SG) (K:Env->View->Prop):A9 P q (g::r) T H K=wG P q g T H λa H'=>A9 P q r a H' K:=propext Iff.rfl
theorem Pw (q:Bool) (ops:List (Option Nat × SB)) (K:Env->View->Prop):wG P q ⟨none,ops⟩ T H K=DT P q ops T H K:=propext Iff.rfl
theorem NH (q:Bool) (d:Nat) (ops:List (Option Nat × SB)) (K:Env->View->Prop):wG P q ⟨some (d,true),ops⟩ T H K=eV (T d) (λv=>match v with
 | .val (.bool b)=>ao b (DT P q ops (T.put (some d) (.val (.bool true))) H K) (K (jK ops (T.put (some d) (.val (.bool false)))) H) .mk
 | .bc []=>K (jK ops T) H
 | _=>False) .mk:=propext Iff.rfl
theorem KO (q:Bool) (d:Nat) (ops:List (Option Nat × SB)) (K:Env->View->Prop):wG P q ⟨some (d,false),ops⟩ T H K=eV (T d) (λv=>match v with
  | .val (.bool b)=>ao b (K (jK ops (T.put (some d) (.val (.bool true)))) H) (DT P q ops (T.put (some d) (.val (.bool false))) H K) .mk
  | .bc []=>K (jK ops T) H
  | _=>False) .mk:=by
 simp only[wG,eV]
 generalize T d=v
 cases v with
 | val x=>grind [ao]
 | bc l=>grind
 | _=>simp
theorem Dk:jK [] T=T:=id rfl
theorem BN (d:Option Nat) (b:SB) (r:List (Option Nat × SB)):jK ((d,b)::r) T=jK r (T.put d (.bc [])):=id rfl
theorem N4 (q:Bool) (K:Env->View->Prop):DT P q [] T H K=K T H:=propext Iff.rfl
theorem MS (q:Bool) (d:Option Nat) (b:SB) (r:List (Option Nat × SB)) (K:Env->View->Prop):DT P q ((d,b)::r) T H K=wB P q b T H λv H'=>Fw v (λv'=>DT P q r (T.put d v') H' K) .mk:=propext Iff.rfl
theorem Xn (q:Bool) (s:SI) (K:V->View->Prop):wB P q (.op s) T H K=wI P s T H K:=propext Iff.rfl
theorem N9 (q:Bool) (f:SX) (args:List SX) (K:V->View->Prop):wB P q (.call f args) T H K=eV (f.at T) (λv=>match v with
 | .fn g first cap=>ay P q g (first++args.map (SX.at T)++cap) H K .mk
 | _=>False) .mk:=propext Iff.rfl
theorem Kp (q:Bool) (f:SX) (args:List SX) (K:V->View->Prop):wB P q (.qb f args) T H K=eV (f.at T) (λv=>match v with
 | .fn g first cap=>ay P true g (first++args.map (SX.at T)++cap) H K .mk
 | _=>False) .mk:=propext Iff.rfl
theorem Uv (x:SX) (K:V->View->Prop):wI P (.eW x) T H K=K (x.at T) H:=propext Iff.rfl
theorem Nx (c a b:SX) (K:V->View->Prop):wI P (.pick c a b) T H K=eV (c.at T) (λv=>match v with
  | .val (.bool t)=>ao t (K (a.at T) H) (K (b.at T) H) .mk
  | _=>False) .mk:=by
 simp only[wI,eV]
 generalize c.at T=v
 cases v with
 | val x =>
  grind [ao]
 | _=>simp
theorem T7 (x:SX) (K:V->View->Prop):wI P (.box x) T H K=eV (x.at T) (λv=>v.cells.all aK=true/\Fw v.cells (λcs=>∀n,H n=.dead->K (.ptr n 0 0) (H.set n (.arr cs.length [cs]))) .mk) .mk:=propext Iff.rfl
theorem UX (x:SX) (K:V->View->Prop):wI P (.kN x) T H K=eV (x.at T) (λv=>v.cells.all aK=true/\Fw v.cells (λcs=>K (.aR cs 0) H) .mk) .mk:=propext Iff.rfl
theorem Mw (z:List V) (K:V->View->Prop):wI P (.alloc z) T H K=(z.all aK=true/\∀n,H n=.dead->K (.ptr n 0 0) (H.set n (.arr z.length [z]))):=propext Iff.rfl
theorem O2 (sz:Option Nat) (a:SX) (K:V->View->Prop):wI P (.load sz a) T H K=eV (a.at T) (λv=>match v with
 | .ptr id i j=>K4 (H id) (λo=>match o with
  | .arr _ es=>i<es.length/\Fw (es.getD i []) (λe=>lj sz e j λv=>K v H) .mk
  | _=>False) .mk
 | .aR e j=>lj sz e j λv=>K v H
 | _=>False) .mk:=propext Iff.rfl
theorem MM (sz:Option Nat) (a:SX) (K:V->View->Prop):wI P (.De sz a) T H K=eV (a.at T) (λv=>match v with
 | .aR e j=>lj sz e j λv=>K v H
 | _=>False) .mk:=propext Iff.rfl
theorem KD (sz:Nat) (a x:SX) (K:V->View->Prop):wI P (.store sz a x) T H K=eV (a.at T) (λv=>match v with
 | .ptr id i j=>K4 (H id) (λo=>match o with
  | .arr esz es=>Fw (x.at T).cells (λcs=>(i<es.length/\cs.length=sz/\j+cs.length<=esz/\cs.all aK=true) /\
   Fw (es.set i (gm (es.getD i []) j cs)) (λes'=>K .any (H.set id (.arr esz es'))) .mk) .mk
  | _=>False) .mk
 | _=>False) .mk:=propext Iff.rfl
theorem OD (x:SX) (K:V->View->Prop):wI P (.Er x) T H K=eV (x.at T) (λv=>match v with
 | .ptr id i j=>K (.ptr id i j) H
 | .aR e j=>K (.aR e j) H
 | .fn f a b=>K (.fn f a b) H
 | _=>False) .mk:=propext Iff.rfl
theorem OG (off:Nat) (x:SX) (K:V->View->Prop):wI P (.addr off x) T H K=eV (x.at T) (λv=>match v with
 | .ptr id i j=>K (.ptr id i (j+off)) H
 | .aR e j=>K (.aR e (j+off)) H
 | _=>False) .mk:=propext Iff.rfl
theorem Ml (off:Nat) (sz:Option Nat) (x:SX) (K:V->View->Prop):wI P (.field off sz x) T H K=eV (x.at T) (λv=>match v with
 | .agg cs=>lj sz cs off λv=>K v H
 | _=>False) .mk:=propext Iff.rfl
theorem T9 (sz:Nat) (x i:SX) (K:V->View->Prop):wI P (.idx sz x i) T H K=tq (asNat (i.at T)) (λo=>match o with
  | none=>False
  | some q=>eV (x.at T) (λv=>match v with
   | .sl id off len esz=>(q<len/\esz=sz)/\K (.ptr id (off+q) 0) H
   | .aY es=>tq es[q]? (λo=>match o with
    | some e=>e.length=sz/\K (.aR e 0) H
    | none=>False) .mk
   | _=>False) .mk) .mk:=by
 simp only[wI,tq,eV]
 cases asNat (i.at T) with
 | none=>rfl
 | some q =>
  grind
theorem NO (f:FuncId) (first cap:List SX) (K:V->View->Prop):wI P (.uh f first cap) T H K=K (.fn f (first.map (SX.at T)) (cap.map (SX.at T))) H:=propext Iff.rfl
theorem K2 (K:V->View->Prop):wI P .ra T H K=(∀n,H n=.dead->K (.mp n) (H.set n (.map [] 0))):=propext Iff.rfl
theorem Tp (i:Nat) (x:SX) (K:V->View->Prop):wI P (.ext i x) T H K=eV (x.at T) (λv=>match v with
 | .bc vs=>i<vs.length/\K (vs.getD i .any) H
 | _=>False) .mk:=propext Iff.rfl
theorem RI (x:SX) (K:V->View->Prop):wI P (.len x) T H K=tq (cE (x.at T)) (λo=>match o with
 | some n=>K (cP n) H
 | none=>False) .mk:=propext Iff.rfl
theorem OR (x:SX) (K:V->View->Prop):wI P (.rV x) T H K=eV (x.at T) (λv=>match v with
 | .val (.string s)=>K (cP s.size) H
 | _=>False) .mk:=propext Iff.rfl
theorem Lb (op:BinOp) (x y:SX) (K:V->View->Prop):wI P (.arith op x y) T H K=eV (x.at T) (λv=>eV (y.at T) (λv'=>match v,v' with
 | .val (.int k a),.val (.int c b)=>k=c/\tq (jc op k a b) (λo=>match o with | some v=>K (.val v) H | none=>False) .mk
 | _,_=>False) .mk) .mk:=propext Iff.rfl
theorem WZ (l:Bool) (x y:SX) (K:V->View->Prop):wI P (.sh l x y) T H K=eV (x.at T) (λv=>eV (y.at T) (λv'=>match v,v' with
 | .val (.int k a),.val (.int _ b)=>0<=b/\K (.val (.int k (Ql l k a b))) H
 | _,_=>False) .mk) .mk:=propext Iff.rfl
theorem S6 (op:BinOp) (x y:SX) (K:V->View->Prop):wI P (.AO op x y) T H K=eV (x.at T) (λv=>eV (y.at T) (λv'=>match v,v' with
 | .val (.string a),.val (.string b)=>(match op with
  | .eql=>K (.val (.bool (jM a b))) H
  | .neq=>K (.val (.bool (!jM a b))) H
  | _=>False)
 | _,_=>False) .mk) .mk:=propext Iff.rfl
theorem OL (x i:SX) (K:V->View->Prop):wI P (.js x i) T H K=eV (x.at T) (λv=>tq (asNat (i.at T)) (λo=>match v,o with
  | .val (.string s),some q=>tq (gG s)[q]? (λo=>match o with
   | some c=>K (.val (.int .u8 c)) H
   | none=>False) .mk
  | _,_=>False) .mk) .mk:=by
 simp only[wI,tq,eV]
 generalize x.at T=v
 generalize asNat (i.at T)=o
 cases v with
 | val u =>
  grind [gG]
 | _=>rfl
theorem Uo (x:SX) (K:V->View->Prop):wI P (.not x) T H K=eV (x.at T) (λv=>match v with
 | .val (.bool t)=>K (.val (.bool (!t))) H
 | _=>False) .mk:=propext Iff.rfl
theorem Rs (eq:Bool) (k:Nat) (x y:SX) (K:V->View->Prop):wI P (.nil eq k x y) T H K=tq (EH (fR k (x.at T)) (fR k (y.at T))) (λo=>match o with
 | some b=>K (.val (.bool (if eq=true then b else !b))) H
 | none=>False) .mk:=propext Iff.rfl
theorem Pg (x y:SX) (K:V->View->Prop):wI P (.beq true x y) T H K=eV (x.at T) (λv=>eV (y.at T) (λv'=>match v,v' with
 | .val (.bool a),.val (.bool b)=>K (.val (.bool (a==b))) H
 | _,_=>False) .mk) .mk:=propext Iff.rfl
theorem OB (x y:SX) (K:V->View->Prop):wI P (.beq false x y) T H K=eV (x.at T) (λv=>eV (y.at T) (λv'=>match v,v' with
 | .val (.bool a),.val (.bool b)=>K (.val (.bool (a != b))) H
 | _,_=>False) .mk) .mk:=propext Iff.rfl
theorem TD (x y:SX) (K:V->View->Prop):wI P (.mm true x y) T H K=eV (x.at T) (λv=>eV (y.at T) (λv'=>match v,v' with
 | .val (.int k a),.val (.int _ b)=>K (.val (.int k (if b>a then b else a))) H
 | _,_=>False) .mk) .mk:=propext Iff.rfl
theorem St (x y:SX) (K:V->View->Prop):wI P (.mm false x y) T H K=eV (x.at T) (λv=>eV (y.at T) (λv'=>match v,v' with
 | .val (.int k a),.val (.int _ b)=>K (.val (.int k (if b<a then b else a))) H
 | _,_=>False) .mk) .mk:=propext Iff.rfl
theorem NU (k:IntKind) (x:SX) (K:V->View->Prop):wI P (.conv k x) T H K=eV (x.at T) (λv=>match v with
 | .val (.int _ a)=>K (.val (.int k (k.wrap a))) H
 | _=>False) .mk:=propext Iff.rfl
theorem Lg (n k:Nat) (o:ct):View.set H n o k=if k=n then o else H k:=id rfl
theorem LM (z:List V) (parts:List (Nat × Nat × SX)) (K:V->View->Prop):wI P (.build z parts) T H K=tq (oh z (parts.map λp=>(p.1,p.2.1,p.2.2.at T))) (λo=>match o with
 | some cs=>K (.agg cs) H
 | none=>False) .mk:=propext Iff.rfl
theorem Iy (len sz:Nat) (z:List V) (parts:List (Nat × SX)) (K:V->View->Prop):wI P (.bH len sz z parts) T H K=tq (mV sz (List.replicate len z) (parts.map λp=>(p.1,p.2.at T))) (λo=>match o with
 | some es=>∀n,H n=.dead->K (.sl n 0 len sz) (H.set n (.arr sz es))
 | none=>False) .mk:=propext Iff.rfl
theorem LK (sz:Nat) (x:SX) (lo hi:Option SX) (K:V->View->Prop):wI P (.slice sz x lo hi) T H K=tq (c6 sz (x.at T) (lo.map (SX.at T)) (hi.map (SX.at T))) (λo=>match o with
 | some (v,.none,_)=>K v H
 | _=>False) .mk:=propext Iff.rfl
theorem Ob (sz bytes:Nat) (z:List V) (l c:SX) (K:V->View->Prop):wI P (.make sz bytes z l c) T H K=tq (asNat (l.at T)) (λa=>tq (asNat (c.at T)) (λb=>match a,b with
 | some l,some c=>(l<=c/\c<aE/\bytes*c<aE)/\(c=0->K (.emp 2) H)/\(c≠0->∀n,H n=.dead->K (.sl n 0 l sz) (H.set n (.arr sz (List.replicate l z))))
 | _,_=>False) .mk) .mk:=propext Iff.rfl
def nA (sz bytes:Nat) (x:V) (xs:List (List V)) (H:View) (K:V->View->Prop) (_:dd (H,K)):Prop:=if xs.isEmpty=true then (match x with
  | .emp k=>K (.emp k) H
  | .eD=>K .eD H
  | .aY es=>K (.aY es) H
  | .sl a b c d=>K (.sl a b c d) H
  | _=>False)
 else (xs.all λe=>e.length==sz&&e.all aK)=true/\(match x with
  | .emp _=>(xs.length*bytes<aE/\xs.length<aE)/\∀n,H n=.dead->K (.sl n 0 xs.length sz) (H.set n (.arr sz xs))
  | .sl id off len esz=>match H id with
   | .arr _ es=>(off+len<=es.length/\esz=sz/\(len+xs.length)*bytes<aE/\len+xs.length<aE) /\
    ∀n,H n=.dead->K (.sl n 0 (len+xs.length) esz) ((H.set id .dead).set n (.arr esz ((es.drop off).take len++xs)))
   | _=>False
  | _=>False)
theorem Ty (sz bytes:Nat) (x y:SX) (K:V->View->Prop):wI P (.app sz bytes x y) T H K=tq (bQ H (y.at T)) (λo=>match o with
 | some (xs,_)=>nA sz bytes (x.at T) xs H K .mk
 | none=>False) .mk:=propext Iff.rfl
theorem wD (sz bytes k:Nat) (xs:List (List V)) (K:V->View->Prop) (w:dd (H,K)) (a:xs.isEmpty=false):nA sz bytes (.emp k) xs H K w=((xs.all λe=>e.length==sz&&e.all aK)=true/\(xs.length*bytes<aE/\xs.length<aE)/\∀n,H n=.dead->K (.sl n 0 xs.length sz) (H.set n (.arr sz xs))):=by
 grind [nA]
theorem vH (sz bytes id off len esz:Nat) (xs:List (List V)) (K:V->View->Prop) (w:dd (H,K)) (a:xs.isEmpty=false):nA sz bytes (.sl id off len esz) xs H K w=((xs.all λe=>e.length==sz&&e.all aK)=true/\K4 (H id) (λo=>match o with
  | .arr _ es=>(off+len<=es.length/\esz=sz/\(len+xs.length)*bytes<aE/\len+xs.length<aE) /\
   ∀n,H n=.dead->K (.sl n 0 (len+xs.length) esz) ((H.set id .dead).set n (.arr esz ((es.drop off).take len++xs)))
  | _=>False) .mk):=by
 unfold nA K4;rw[aa9 (by rw[a];simp)]
theorem j6 (id off len esz z:Nat) (es:List (List V)) (hH:H id=.arr z es) (a:off+(len+1)<=es.length):bQ H (.sl id off (len+1) esz)=some ((es.drop off).take (len+1),[id]):=by
 grind [bQ]
theorem oA (es:List (List V)):bQ H (.aY es)=some (es,[]):=id rfl
theorem xV (k:Nat):bQ H (.emp k)=some ([],[]):=id rfl
theorem NT (x:SX) (K:V->View->Prop):wI P (.Hk x) T H K=eV (x.at T) (λv=>match v with
 | .aY es=>tq (mJ es) (λo=>match o with
  | some l=>K (.val (.string ⟨l.toArray⟩)) H
  | none=>False) .mk
 | _=>False) .mk:=propext Iff.rfl
theorem N0 (x:SX) (K:V->View->Prop):wI P (.ia x) T H K=eV (x.at T) (λv=>match v with
 | .val (.string s)=>K (.aY (iF s)) H
 | _=>False) .mk:=propext Iff.rfl
def kb (P:Program) (op:Op) (ty:TypeId) (T:Env) (H:View) (K:V->View->Prop) (_:dd (T,H,K)):Prop:=wI P (.old op ty) T H K
theorem Sn (op:Op) (ty:TypeId) (K:V->View->Prop):wI P (.old op ty) T H K=kb P op ty T H K .mk:=propext Iff.rfl
theorem Uj (t:Nat):ev T (.tmp t)=T t:=id rfl
theorem KR (v:Value):ev T (.const v)=gz v:=id rfl
theorem SN (t:Nat):(SX.tmp t).at T=T t:=id rfl
theorem Ry (v:V):(SX.val v).at T=v:=id rfl
theorem Pj (d t:Nat) (v:V):(T.put (some d) v) t=if t=d then v else T t:=id rfl
theorem Kn (v:V):T.put none v=T:=id rfl
theorem L6 (vs:List V) (t:Nat):mS vs t=vs.getD t .any:=id rfl
theorem EZ (e:List V) (j:Nat) (K:V->Prop):lj none e j K=(j<e.length/\K (e.getD j .any)):=propext Iff.rfl
theorem GN (n:Nat) (e:List V) (j:Nat) (K:V->Prop):lj (some n) e j K=(j+n<=e.length/\K (.agg ((e.drop j).take n))):=propext Iff.rfl
theorem GG (a b:Prop):DJ .normal a b=a:=propext Iff.rfl
theorem Lv (i:Nat) (a b:Prop):DJ (.exit i) a b=b:=propext Iff.rfl
theorem OP (a b:Prop):DJ .ret a b=b:=propext Iff.rfl
theorem Bg (i:Nat):sy i .normal=.normal:=id rfl
theorem Jb (i:Nat):sy i .ret=.ret:=id rfl
theorem F1 (i j:Nat):sy i (.exit j)=if j=i then .normal else .exit j:=by simp only[sy]
theorem NX (acc:List V) (K:List V->Prop):IK T H [] acc K=K acc:=propext Iff.rfl
theorem Mp (r:SR) (l:List SR) (acc:List V) (K:List V->Prop):IK T H (r::l) acc K=wR T H r λv=>IK T H l (acc++[v]) K:=propext Iff.rfl
theorem RG (t:Nat) (K:V->Prop):wR T H (.tmp t) K=K (T t):=propext Iff.rfl
theorem NG (t:Nat) (sz:Option Nat) (K:V->Prop):wR T H (.cell t sz) K=eV (T t) (λv=>match v with
 | .ptr id i j=>K4 (H id) (λo=>match o with
  | .arr _ es=>i<es.length/\Fw (es.getD i []) (λe=>lj sz e j K) .mk
  | _=>False) .mk
 | .aR e j=>lj sz e j K
 | _=>False) .mk:=propext Iff.rfl
theorem Js (t:Nat) (b:Bool):xn (.tmp t) b T=T.put (some t) (.val (.bool b)):=id rfl
theorem IS (v:V) (b:Bool):xn (.val v) b T=T:=id rfl
theorem RR:(Exit.ret=Exit.ret∨Exit.ret=Exit.normal)=True:=by simp
theorem JG:(Exit.normal=Exit.ret∨Exit.normal=Exit.normal)=True:=by simp
end
section
variable {P:Program} {T:Env} {H:View}
theorem aW.intro {c:SC} {Q:Exit->Env->View->Prop} {v:dd (T,H,Q)} (I:Nat->Env->View->Prop) (k:Nat) (d:I k T H)
  (f:∀k T H,I k T H->wS P c T H λe a H'=>DJ e (∃b,b<k/\I b a H') (Q e a H')):aW P c T H Q v:=by
 simp only[aW,wS]
 exact⟨I,⟨k,d⟩,f⟩
theorem ay.pure {q:Bool} {f:FuncId} {vs:List V} {K:V->View->Prop} {v:dd (H,K)} {t:V} (b:aC P f vs t) (hk:K t H) (a:eh P f=true:=by kernel_rfl):ay P q f vs H K v:=by
 cases q with
 | true=>exact b.PO a hk
 | false =>
  refine⟨a,?_⟩
  rintro h rfl
  exact⟨t,h,b6.hX b h,.refl _,hk⟩
theorem ay.cF {f:FuncId} {vs:List V} {K:V->View->Prop} {v:dd (H,K)} (a:az P f vs H K):ay P false f vs H K v:=a
theorem Ja:Heap.view []=λ_=>ct.dead:=by grind [Heap.view]
theorem aC.of {f:FuncId} {vs:List V} {t:V} (b:∀v∈vs,Tree v) (h:az P f vs (λ_=>.dead) λr H'=>∀a:Heap,a.view=H'->Fr a r t):aC P f vs t:=by
 obtain⟨r,a,c,_,d⟩:=h.2 [] Ja
 grind [aC.Az]
theorem wrap64 {x:Int} (h1 : -9223372036854775808<=x) (a:x<=9223372036854775807):IntKind.wrap .i64 x=x:=by
 unfold IntKind.wrap
 have b:(2:Int) ^ IntKind.i64.bits=18446744073709551616:=by rfl
 have c:(2:Int) ^ (IntKind.i64.bits-1)=9223372036854775808:=by rfl
 have d:IntKind.i64.signed=true:=by rfl
 grind
theorem Jc {k:IntKind} {i:Int} (h:0<=i):asNat (.val (.int k i))=some i.toNat:=by simp[asNat,h]
end
theorem Ji (v:Value):V.cells (.val v)=[.val v]:=id rfl
theorem CQ (v:Value):aK (.val v)=true:=id rfl
theorem Jk (k:Nat):V.cells (.emp k)=[.emp k]:=id rfl
theorem C9 (k:Nat):aK (.emp k)=true:=id rfl
theorem IB  : V.cells .eD=[.eD]:=id rfl
theorem NQ  : aK .eD=true:=id rfl
theorem IQ (es:List (List V)):V.cells (.aY es)=[.aY es]:=id rfl
theorem OZ (es:List (List V)):aK (.aY es)=true:=id rfl
theorem KZ (a b c d:Nat):V.cells (.sl a b c d)=[.sl a b c d]:=id rfl
theorem RZ (a b c d:Nat):aK (.sl a b c d)=true:=id rfl
theorem Jm (a b c:Nat):V.cells (.ptr a b c)=[.ptr a b c]:=id rfl
theorem NW (a b c:Nat):aK (.ptr a b c)=true:=id rfl
theorem FF (e:List V) (j:Nat):V.cells (.aR e j)=[.aR e j]:=id rfl
theorem LO (e:List V) (j:Nat):aK (.aR e j)=true:=id rfl
theorem KA (a:Nat):V.cells (.mp a)=[.mp a]:=id rfl
theorem TJ (a:Nat):aK (.mp a)=true:=id rfl
theorem Kh (f:FuncId) (a b:List V):V.cells (.fn f a b)=[.fn f a b]:=id rfl
theorem TL (f:FuncId) (a b:List V):aK (.fn f a b)=true:=id rfl
theorem IW (cs:List V):V.cells (.agg cs)=cs:=id rfl
theorem NC (k:Nat):cE (.emp k)=some 0:=id rfl
theorem NN:cE .eD=some 0:=id rfl
theorem Of (es:List (List V)):cE (.aY es)=some es.length:=id rfl
theorem S9 (a b c d:Nat):cE (.sl a b c d)=some c:=id rfl
abbrev ZR {p:Prop} (_:p):Prop:=p
theorem Xp (P:Program) (T:Env) (H:View) (a:SC) (Q:Exit->Env->View->Prop):wS P (ai [a]) T H Q=wS P a T H Q:=by rw[ai]
theorem Xs (P:Program) (T:Env) (H:View) (a b:SC) (l:List SC) (Q:Exit->Env->View->Prop):wS P (ai (a::b::l)) T H Q=wS P (.seq a (ai (b::l))) T H Q:=by rw[ai]
abbrev Wr:Prop:=ZR (And.intro @Xp<|And.intro @Xs<|And.intro @Xa<|And.intro @NY<|And.intro @JJ<|And.intro @Gy<|And.intro @Gd<|And.intro @O6<|And.intro @LL<|And.intro @RA <|
 And.intro @Oa<|And.intro @KN<|And.intro @OE<|And.intro @Tz<|And.intro @LU<|And.intro @Ke<|And.intro @NR<|And.intro @FA<|And.intro @Bh<|And.intro @Fm<|And.intro @JD<|And.intro @Mg<|And.intro @Ga <|
 And.intro @NK<|And.intro @NA<|And.intro @LG<|And.intro @Pw <|
 And.intro @NH<|And.intro @KO<|And.intro @Dk<|And.intro @BN <|
 And.intro @N4<|And.intro @MS<|And.intro @Xn<|And.intro @N9<|And.intro @Kp <|
 And.intro @Uv<|And.intro @Nx<|And.intro @T7<|And.intro @UX <|
 And.intro @Mw<|And.intro @O2<|And.intro @MM<|And.intro @KD <|
 And.intro @OD<|And.intro @OG<|And.intro @Ml<|And.intro @T9 <|
 And.intro @NO<|And.intro @K2<|And.intro @Tp<|And.intro @RI <|
 And.intro @OR<|And.intro @Lb<|And.intro @WZ<|And.intro @S6<|And.intro @OL <|
 And.intro @Uo<|And.intro @Rs<|And.intro @Pg<|And.intro @OB <|
 And.intro @TD<|And.intro @St<|And.intro @NU<|And.intro @NT <|
 And.intro @N0<|And.intro @LM<|And.intro @Iy<|And.intro @LK <|
 And.intro @Ob<|And.intro @Ty<|And.intro @Sn<|And.intro @Uj<|And.intro @KR<|And.intro @SN<|And.intro @Ry <|
 And.intro @Pj<|And.intro @Kn<|And.intro @L6<|And.intro @EZ <|
 And.intro @GN<|And.intro @GG<|And.intro @Lv<|And.intro @OP <|
 And.intro @Bg<|And.intro @Jb<|And.intro @F1<|And.intro @NX <|
 And.intro @Mp<|And.intro @RG<|And.intro @NG<|And.intro @Js @IS)
theorem wr:Wr:=⟨@Xp,@Xs,@Xa,@NY,@JJ,@Gy,@Gd,@O6,@LL,@RA,@Oa,@KN,@OE,@Tz,@LU,@Ke,@NR,@FA,@Bh,@Fm,@JD,@Mg,@Ga,@NK,@NA,@LG,@Pw,@NH,@KO,@Dk,@BN,@N4,@MS,@Xn,@N9,@Kp,@Uv,@Nx,@T7,@UX,@Mw,@O2,@MM,@KD,@OD,@OG,@Ml,@T9,@NO,@K2,@Tp,@RI,@OR,@Lb,@WZ,@S6,@OL,@Uo,@Rs,@Pg,@OB,@TD,@St,@NU,@NT,@N0,@LM,@Iy,@LK,@Ob,@Ty,@Sn,@Uj,@KR,@SN,@Ry,@Pj,@Kn,@L6,@EZ,@GN,@GG,@Lv,@OP,@Bg,@Jb,@F1,@NX,@Mp,@RG,@NG,@Js,@IS⟩
theorem R0:zt []=.bc []:=id rfl
theorem Se (v:V):zt [v]=v:=id rfl
theorem UR (v w:V) (l:List V):zt (v::w::l)=.bc (v::w::l):=id rfl
theorem Xe (n:Nat):cP n=.val (.int .i64 n):=id rfl
theorem L1 (e:List V) (j:Nat) (cs:List V):gm e j cs=e.take j++cs++e.drop (j+cs.length):=id rfl
theorem Ms (z:List V):oh z []=some z:=id rfl
theorem Mm (z:List V) (o n:Nat) (x:V) (r:List (Nat × Nat × V)):oh z ((o,n,x)::r)=if x.cells.length=n/\o+n<=z.length/\x.cells.all aK=true then oh (gm z o x.cells) r else none:=by rw[oh]
theorem NS (k:Nat) (z:List (List V)):mV k z []=some z:=by rw[mV]
theorem ON (k:Nat) (z:List (List V)) (i:Nat) (x:V) (r:List (Nat × V)):mV k z ((i,x)::r)=if x.cells.length=k/\i<z.length/\x.cells.all aK=true then mV k (z.set i x.cells) r else none:=by rw[mV]
theorem UE (b:Bool):EH (some true) (some b)=some b:=id rfl
theorem Th (b:Bool):EH (some b) (some true)=some b:=by cases b<;>rfl
section
variable (k:IntKind) (a b:Int)
theorem Om:jc .add k a b=some (.int k (k.wrap (a+b))):=id rfl
theorem Po:jc .sub k a b=some (.int k (k.wrap (a-b))):=id rfl
theorem Og:jc .mul k a b=some (.int k (k.wrap (a*b))):=id rfl
theorem O1:jc .quo k a b=if b=0 then none else some (.int k (k.wrap (a.tdiv b))):=id rfl
theorem OK:jc .rem k a b=if b=0 then none else some (.int k (a.tmod b)):=id rfl
theorem Oh:jc .eql k a b=some (.bool (a==b)):=id rfl
theorem OH:jc .neq k a b=some (.bool (a != b)):=id rfl
theorem OV:jc .lss k a b=some (.bool (a<b)):=id rfl
theorem OI:jc .leq k a b=some (.bool (a<=b)):=id rfl
theorem NM:jc .gtr k a b=some (.bool (a>b)):=id rfl
theorem Pq:jc .geq k a b=some (.bool (a≥b)):=id rfl
theorem Td:jc .or k a b=some (.int k (k.wrap (BitVec.ofInt k.bits a ||| BitVec.ofInt k.bits b).toNat)):=id rfl
theorem Oj:jc .and k a b=some (.int k (k.wrap (BitVec.ofInt k.bits a &&& BitVec.ofInt k.bits b).toNat)):=id rfl
theorem GL:jc .andNot k a b=some (.int k (k.wrap (BitVec.ofInt k.bits a &&& ~~~(BitVec.ofInt k.bits b)).toNat)):=id rfl
end
theorem R7:fR 0 (.emp 1)=some true:=id rfl
theorem SD:fR 0 (.emp 2)=some false:=id rfl
theorem OC:fR 0 .eD=some false:=id rfl
theorem TG (a b n c:Nat):fR 0 (.sl a b (n+1) c)=some false:=id rfl
theorem O3 (e:List V) (l:List (List V)):fR 0 (.aY (e::l))=some false:=id rfl
theorem N3 (a b c:Nat):fR 1 (.ptr a b c)=some false:=id rfl
theorem KE (e:List V) (j:Nat):fR 1 (.aR e j)=some false:=id rfl
theorem Up (a:Nat):fR 2 (.mp a)=some false:=id rfl
theorem Sy (f:FuncId) (a b:List V):fR 3 (.fn f a b)=some false:=id rfl
theorem Ux:fR 1 (.val (.pointer none))=some true:=id rfl
theorem Rg:fR 2 (.val (.map none))=some true:=id rfl
theorem RJ:fR 3 (.val .nilFunc)=some true:=id rfl
abbrev Wq:Prop:=ZR (And.intro @R0<|And.intro @Se<|And.intro @UR<|And.intro @Xe<|And.intro @L1<|And.intro @Ms<|And.intro @Mm<|And.intro @NS<|And.intro @ON<|And.intro @UE<|And.intro @Th<|And.intro @Om<|And.intro @Po<|And.intro @Og<|And.intro @O1<|And.intro @OK<|And.intro @Oh<|And.intro @OH<|And.intro @OV<|And.intro @OI<|And.intro @NM<|And.intro @Pq<|And.intro @Td<|And.intro @Oj<|And.intro @GL<|And.intro @R7<|And.intro @SD<|And.intro @OC<|And.intro @TG<|And.intro @O3<|And.intro @N3<|And.intro @KE<|And.intro @Up<|And.intro @Sy<|And.intro @Ux<|And.intro @Rg<|And.intro @RJ<|And.intro @eq_self.{1}<|And.intro @ne_eq.{1}<|And.intro @implies_true.{1}<|And.intro @implies_true.{0}<|And.intro @decide_true<|And.intro @decide_false<|And.intro @Pm<|And.intro @Ot<|And.intro @Mb<|And.intro @Ku<|And.intro @KH<|And.intro @Kg<|And.intro @Pr<|And.intro @Ur<|And.intro @RP<|And.intro @TB<|And.intro @N2<|And.intro @On<|And.intro @N5<|And.intro @Ji<|And.intro @CQ<|And.intro @Jk<|And.intro @C9<|And.intro @IB<|And.intro @NQ<|And.intro @IQ<|And.intro @OZ<|And.intro @KZ<|And.intro @RZ<|And.intro @Jm<|And.intro @NW<|And.intro @FF<|And.intro @LO<|And.intro @KA<|And.intro @TJ<|And.intro @Kh<|And.intro @TL<|And.intro @IW<|And.intro @NC<|And.intro @NN<|And.intro @Of<|And.intro @S9<|And.intro @true_or<|And.intro @or_true<|And.intro @or_false<|And.intro @false_or <|
 And.intro @ZU<|And.intro @Pe<|And.intro @Pv<|And.intro @OF <|
 And.intro @OJ<|And.intro @UK<|And.intro @Oz<|And.intro @La <|
 And.intro @SA<|And.intro @Rn<|And.intro @Ou<|And.intro @Ph <|
 And.intro @Pd<|And.intro @NL<|And.intro @Lt<|And.intro @LD <|
 And.intro @Jz<|And.intro @Od<|And.intro @List.getD_cons_zero.{0}<|And.intro @List.getD_cons_succ.{0} <|
 And.intro @List.length_cons.{0}<|And.intro @List.length_nil.{0}<|And.intro @List.length_map.{0,0}<|And.intro @wrap64 <|
 And.intro @true_and<|And.intro @and_true<|And.intro @and_self<|And.intro @abn <|
 And.intro @acy<|And.intro @List.all_cons.{0}<|And.intro @List.all_nil.{0}<|And.intro @Bool.and_self <|
 And.intro @List.nil_append.{0}<|And.intro @List.cons_append.{0}<|And.intro @abX<|And.intro @Jc <|
 And.intro @abM<|And.intro @RR<|And.intro @JG<|And.intro @bne_iff_ne.{0} <|
 And.intro @beq_iff_eq.{0}<|And.intro @Bool.not_eq_true<|And.intro @ade<|And.intro @Bool.not_false <|
 And.intro @List.append_nil.{0}<|And.intro @List.map_cons.{0,0}<|And.intro @List.map_nil.{0,0}<|And.intro @Bool.true_eq_false <|
 And.intro @abI<|And.intro @false_implies<|And.intro @true_implies<|And.intro @Bool.not_not <|
 And.intro @List.drop_zero.{0}<|And.intro @Lg<|And.intro @List.set_cons_zero.{0}<|And.intro @List.set_cons_succ.{0} <|
 And.intro @List.drop_nil.{0}<|And.intro @acI<|And.intro @List.replicate_zero.{0}<|And.intro @List.replicate_succ.{0} <|
 And.intro @oA<|And.intro @xV<|And.intro @wD<|And.intro @vH <|
 And.intro @List.isEmpty_cons.{0}<|And.intro @Option.map_none.{0,0}<|And.intro @Option.map_some.{0,0}<|And.intro @Nat.succ_ne_zero <|
 And.intro @List.take_succ_cons.{0}<|And.intro @List.take_zero.{0}<|And.intro @List.drop_succ_cons.{0}<|And.intro @bne_eq_false_iff_eq.{0} <|
 And.intro @beq_eq_false_iff_ne.{0}<|And.intro @not_true_eq_false<|And.intro @not_false_eq_true @acU)
theorem wq:Wq:=⟨@R0,@Se,@UR,@Xe,@L1,@Ms,@Mm,@NS,@ON,@UE,@Th,@Om,@Po,@Og,@O1,@OK,@Oh,@OH,@OV,@OI,@NM,@Pq,@Td,@Oj,@GL,@R7,@SD,@OC,@TG,@O3,@N3,@KE,@Up,@Sy,@Ux,@Rg,@RJ,@eq_self,@ne_eq,@implies_true,@implies_true,@decide_true,@decide_false,@Pm,@Ot,@Mb,@Ku,@KH,@Kg,@Pr,@Ur,@RP,@TB,@N2,@On,@N5,@Ji,@CQ,@Jk,@C9,@IB,@NQ,@IQ,@OZ,@KZ,@RZ,@Jm,@NW,@FF,@LO,@KA,@TJ,@Kh,@TL,@IW,@NC,@NN,@Of,@S9,@true_or,@or_true,@or_false,@false_or,@ZU,@Pe,@Pv,@OF,@OJ,@UK,@Oz,@La,@SA,@Rn,@Ou,@Ph,@Pd,@NL,@Lt,@LD,@Jz,@Od,@acv,@acZ,@abl,@abG,@abc,@wrap64,@true_and,@and_true,@and_self,@abn,@acy,@acj,@List.all_nil,@Bool.and_self,@ab3,@abN,@abX,@Jc,@abM,@RR,@JG,@bne_iff_ne,@ab9,@Bool.not_eq_true,@ade,@Bool.not_false,@abV,@abE,@acJ,@Bool.true_eq_false,@abI,@false_implies,@true_implies,@Bool.not_not,@ab8,@Lg,@List.set_cons_zero,@List.set_cons_succ,@List.drop_nil,@acI,@List.replicate_zero,@List.replicate_succ,@oA,@xV,@wD,@vH,@List.isEmpty_cons,@Option.map_none,@abk,@Nat.succ_ne_zero,@adg,@List.take_zero,@adh,@bne_eq_false_iff_eq,@beq_eq_false_iff_ne,@not_true_eq_false,@not_false_eq_true,@acU⟩
inductive Ay:V->Prop
 | val (v:Value):Ay (.val v)
 | bc (cs:List V):(∀i,i<cs.length->∃v,cs.getD i .any=.val v)->Ay (.bc cs)
theorem WN {Z c:Nat->Prop} {μ μ':Mu} {hp b:Array Obj} {t:V} {x:Value} (d:Ay t) (h:aD Z μ hp t x):aD c μ' b t x:=by
 cases d with
 | val=>cases h with | val _ a=>exact .val _ a
 | bc cs e =>
  cases h with
  | bc _ f h1 g =>
   refine .bc _ _ h1 λi hi=>?_
   have:=g i hi
   obtain⟨v,a⟩:=e i hi
   rw[a] at this ⊢
   cases this with | val _ a=>exact .val _ a
theorem b6.borrow {P:Program} {f:FuncId} {d vs:List V} {t:V} {h:Heap} (q:aC P f d t) (r:Ay t) (u:d.length=vs.length)
  (j:∀i,i<vs.length->Fr h (vs.getD i .any) (d.getD i .any)):b6 P f vs h t h:=by
 refine⟨abg _,λZ μ F w xs c hr k=>?_⟩
 have l:gI (λb=>Z b∨kE μ b) μ w.heap d xs:=⟨by rw[u,c.1],λi hi=>Gc hr (j i (by omega)) (c.2 i (by omega))⟩
 have m:∀b,(Z b∨kE μ b)->b<w.heap.size:=by
  rintro b (a | ⟨id,o,s,a⟩)
  .exact hr.de b a
  .exact hr.lt _ _ _ _ a
 refine(q _ μ w xs l m).mono ?_
 rintro e w' ⟨x,z,rfl,v,n,A,y,g⟩
 have hm:iQ Z Z μ μ w.heap w'.heap:=⟨λ_ h=>h,λb a=>g b (hr.de b a) (λx=>x),λ_ _ h=>h,g.mE⟩
 exact⟨x,Z,μ,rfl,WN r (v μ),⟨λid=>(hr.obj id).mono hm rfl (λb o s p=>g b (hr.lt _ _ _ _ p) (λx=>x)),hr.inj,λid b o s p=>abK (hr.lt _ _ _ _ p) n.size,λb a=>abK (hr.de b a) n.size,hr.iK⟩,
  ⟨n,hm,λb a _=>g b a (λx=>x),λb a=>.inl a,λ_ _ _ _ h=>.inl h⟩,λ_ _=>rfl⟩
def cm (H:View) (v t:V):Prop:=∀h:Heap,h.view=H->Fr h v t
theorem cm.tree {H:View} {v:V} (h:Tree v):cm H v v:=λ_ _=>.tree _ h
theorem cm.sl {H:View} {id off len esz z:Nat} {es:List (List V)} (hH:H id=.arr z es) (hle:off+len<=es.length) (c:∀e∈es,∀v∈e,Tree v):
  cm H (.sl id off len esz) (.aY ((es.drop off).take len)):=by
 rintro h rfl
 have b:∀i,i<len->((es.drop off).take len).getD i []=es.getD (off+i) []:=λi hi=>by
  simp[hi]
 refine .sl id off len esz z es _ hH hle (by simp;omega) (λi hi=>by rw[b i hi]) (λi j hi a=>?_)
 rw[b i hi] at a ⊢
 refine .tree _ ?_
 have h1:off+i<es.length:=by omega
 have d:es.getD (off+i) []=es[off+i]:=by simp[h1]
 rw[d] at a ⊢
 have f:(es[off+i]).getD j .any=(es[off+i])[j]:=by simp[a]
 rw[f]
 exact c _ (abe _) _ (abe _)
theorem ay.borrow {P:Program} {q:Bool} {f:FuncId} {H:View} {vs c:List V} {K:V->View->Prop} {v:dd (H,K)} {t:V} (d:aC P f c t) (a:eh P f=true) (g:Ay t) (j:c.length=vs.length)
  (b:∀i,i<vs.length->cm H (vs.getD i .any) (c.getD i .any)) (hk:K t H):ay P q f vs H K v:=by
 unfold ay
 cases q with
 | true=>exact⟨a,λh e=>⟨t,h,b6.borrow d g j (λi hi=>b i hi h e),λ_ _=>rfl,e▸hk⟩⟩
 | false =>
  refine⟨a,?_⟩
  rintro h rfl
  exact⟨t,h,b6.borrow d g j (λi hi=>b i hi h rfl),.refl _,hk⟩
abbrev gi (x:Int):V:=.val (.int .i64 x)
abbrev gb (x:Bool):V:=.val (.bool x)
abbrev gs (x:ByteArray):V:=.val (.string x)
theorem mixed:(aa).follows .mixedOrders=true:=by kernel_rfl
def encI (l:List Int):V:=.aY (l.map λx=>[gi x])
def bY (l:List Bool):V:=.aY (l.map λx=>[gb x])
theorem bg (l:List Int):Tree (encI l):=by
 refine .aY _ λi j hi a=>?_
 simp only[abc] at hi
 simp[hi] at a ⊢
 subst a
 exact .val _
def aG {α:Type} (l:List α):Prop:=l.length<4611686018427387904
def qQ:SC:=
 ai [ai [ag [af 11 5,af 12 0,aM 13 12,aS 14 .lss 11 13],bO 14 (.exit 0)],.block 1 (ai [ag [af 17 0,af 18 5,aL 19 1 17 18,au 20 19,af 21 1,af 22 5,aL 23 1 21 22,au 24 23,aS 25 .neq 20 24],aX 25 (ai [ag [bb 4 false],.ret])]),ag [af 15 5,aI 16 .add 15 1,af 5 16]]
def sV:SF:=⟨ai [ag [bb 4 false],ai [ag [af 6 0,aM 7 6,af 8 1,aM 9 8,aS 10 .neq 7 9],aX 10 (ai [ag [bb 4 false],.ret])],ai [ag [aT 5 0],bR 0 qQ],ag [bb 4 true],.ret],
 [.tmp 4],26⟩
theorem zl:aJ aa 26 []=some sV:=by kernel_rfl
theorem XU {α:Type} [BEq α] [LawfulBEq α] {a b:List α} (h:a.length≠b.length):(a==b)=false:=by
 simp only[beq_eq_false_iff_ne];intro e;exact h (by rw[e])
theorem Yj (a b:List Int) (l:aG a) (H:View):az aa 26 [encI a,encI b] H λr H'=>r=gb (a==b)/\H'=H:=by
 refine az.of mixed zl ?_
 unfold aG at l
 simp(disch:=omega)only[↓wr,seval,wq,sV,encI]
 apply ao.ne<;>intro h
 .simp(disch:=omega)only[↓wr,seval,wq]
  rw[XU (by omega)]
 .simp(disch:=omega)only[↓wr,seval,wq]
  refine aW.intro (λk T H'=>∃i:Nat,i+k=a.length/\a.take i=b.take i/\T 0=encI a/\T 1=encI b/\T 5=gi i/\H'=H) a.length ?_ ?_
  .exact⟨0,by omega,by simp,rfl,rfl,rfl,rfl⟩
  .rintro k T H' ⟨i,hk,hi,c,h1,d,rfl⟩
   simp(disch:=omega)only[↓wr,seval,wq,qQ,c,d,encI]
   apply ao.dec<;>intro m
   .have g:a[i]?=some (a[i]'(by omega)):=aa8 (by omega)
    have j:b[i]?=some (b[i]'(by omega)):=aa8 (by omega)
    simp(disch:=omega)only[↓wr,seval,wq,c,h1,d,encI,aba,g,j]
    apply ao.ne<;>intro f
    .simp(disch:=omega)only[↓wr,seval,wq]
     have:(a==b)=false:=by
      simp only[beq_eq_false_iff_ne];rintro rfl;exact f rfl
     rw[this]
    .simp(disch:=omega)only[↓wr,seval,wq,c,h1,d,encI]
     refine⟨k-1,by omega,i+1,by omega,?_,rfl⟩
     rw[abr,abr,hi,g,j,f]
   .simp(disch:=omega)only[↓wr,seval,wq]
    have:a=b:=by
     have e:i=a.length:=by omega
     rw[abo (by omega),abo (by omega)] at hi
     exact hi
    rw[this];simp
theorem Pf (a b:List Int) (c:aG a):aC aa 26 [encI a,encI b] (gb (a==b)):=
 aC.of (by simp[bg]) ((Yj a b c _).mono λr H' h d _=>by rw[h.1];exact .tree _ (.val _))
theorem jQ (l:List Bool):Tree (bY l):=by
 refine .aY _ λi j hi a=>?_
 simp only[abc] at hi
 simp[hi] at a ⊢
 subst a
 exact .val _
end Gv
