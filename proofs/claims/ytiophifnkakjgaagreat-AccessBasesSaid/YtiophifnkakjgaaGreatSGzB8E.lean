/-
  Part 5 of the proof: what the machine does and what the functions answer.
  Conditions: those that each lemma names.
-/
import Derived.Test.YtiophifnkakjgaaGreatProg
import Derived.KernelRfl
import Derived.Test.YtiophifnkakjgaaGreatSGzB8D
set_option linter.unusedSimpArgs false
set_option linter.unusedVariables false
set_option maxRecDepth 100000
set_option maxHeartbeats 20000000
namespace Gv
open Go Go.Proofs
section
variable {P:Program} {n:Nat} {all:List Oper}
theorem Pz (h:aC):h.view h.length=.dead:=by simp[aC.view,Uu]
theorem SK {o:Oper} {T:Env} {h:aC} {s:SI} {K:V->View->Prop} (g:dx n all T o=some true) (i:∀ v eff rd,sI P s T h.view h.length=some (v,eff,rd)->ca P o T h.view h.length=some (v,eff,rd)) (hw:wI P s T h.view K) :
  ∃ v d rd wr,dP P n all o T h v d rd wr false/\jg h d/\K v d.view/\kC (s9 P s) rd wr false h.length d.length:=by
 obtain⟨v,eff,rd,e,hk⟩:=SL hw (Pz h)
 have f:=i _ _ _ e
 have a:∀ id,id∈eff.wr->h.view id≠.dead:=λid b=>(mM f id b).1
 refine⟨v,eff.apply h,rd,eff.wr,.op g f,?_,?_,?_,?_⟩
 .intro id b c
  rw[lq a]
  cases eff with
  | none=>exact c
  | new o=>simp only[bp.view,View.set];rw[Ux (by omega)];exact c
  | fi k o =>
   simp only[bp.view,View.set]
   rw[Ux (by rintro rfl;exact a id (by simp[bp.wr]) c)];exact c
  | eU k o =>
   simp only[bp.view,View.set]
   rw[Ux (by omega)]
   split
   .rfl
   .exact c
 .rw[lq (λid b=>(mM f id b).1)];exact hk
 .intro j
  obtain⟨rfl,rfl⟩:=(rR e).1 j
  exact⟨rfl,rfl,rfl,rfl⟩
 .intro h1
  rcases UZ (s9 P s) 1 with l | l
  .obtain⟨rfl,rfl⟩:=(rR e).1 (by omega);rfl
  .exact(rR e).2 (by omega)
theorem J8 {P:Program} {fr:Bool} {s:SI} {T:Env} {H:View} {n:Nat} {v:V} {eff:bp} {rd:List Nat} (h:sI P (yO P fr s) T H n=some (v,eff,rd)):sI P s T H n=some (v,eff,rd):=by
 unfold yO at h
 split at h
 .split at h
  .exact O1 h
  .exact h
 .split at h
  .rename_i a
   simp only[UJ] at a
   exact Q9 a.2 h
  .exact h
 .exact h
theorem zV (P:Program) (a:Fz) (o:Oper) :
  (∃ f args b,o.op=.call { callee:=.value f,args:=args,argTypes:=b }/\(mz P a o=.call (SX.of f) (args.toList.map SX.of)∨mz P a o=.oG (SX.of f) (args.toList.map SX.of))) ∨
  (∃ t x,o.op=.box t x/\mz P a o=.op (.js (SX.of x)))∨(∃ s d x,o.op=.convert s d x/\vy P s d=true/\mz P a o=.op (.gg (SX.of x)))∨mz P a o=.op (yO P a.fr (comp P o)):=by
 unfold mz
 split
 .rename_i f args b e
  refine .inl ⟨f,args,b,e,?_⟩
  by_cases g:(match o.dst with | some d=>a.l.contains (200000+d) | none=>false)=true
  .exact .inr (Uz g)
  .exact .inl (Ux g)
 .rename_i t x e
  by_cases c:(match o.dst with | some d=>a.l.contains d | none=>false)=true
  .exact .inr (.inl ⟨t,x,e,Uz c⟩)
  .refine .inr (.inr (.inr ?_))
   refine(Ux c).trans ?_
   simp only[comp,e,yO]
 .rename_i s d x e
  by_cases c:((match o.dst with | some d=>a.l.contains d | none=>false) && vy P s d)=true
  .exact .inr (.inr (.inl ⟨s,d,x,e,by simp only[UJ] at c;exact c.2,Uz c⟩))
  .exact .inr (.inr (.inr (Ux c)))
 .exact .inr (.inr (.inr rfl))
theorem dP.len {o:Oper} {T:Env} {h a:aC} {v:V} {rd wr:List Nat} {call:Bool} (st:dP P n all o T h v a rd wr call):h.length<=a.length:=by
 cases st with
 | skip=>exact UF _
 | op _ _=>rename_i eff _ _ ;cases eff <;> simp[bp.apply]
 | js _ _ _=>exact UF _
 | gg _ _ _ _ _ _=>exact UF _
 | call _ _ _ _ b _ _=>exact b.1
theorem RD {q:Fz} {o:Oper} {T:Env} {h:aC} {quiet:Bool} {K:V->View->Prop} (l:dx n all T o=some true) (hw:wB P quiet (mz P q o) T h.view K) :
  ∃ v b rd wr call,dP P n all o T h v b rd wr call/\jg h b/\K v b.view/\kC (iS P quiet (mz P q o)) rd wr call h.length b.length:=by
 rcases zV P q o with ⟨f,args,C,k,j | j⟩ | ⟨t,x,k,j⟩ | ⟨s,d,x,k,u,j⟩ | j
 rotate_left
 .rw[j] at hw ⊢
  simp only[wB] at hw
  split at hw
  .rename_i g first cap m
   rw[By] at hw
   rw[SX.cL] at m
   obtain⟨c,i⟩:=hw
   obtain⟨r,b,hr,hold,hk⟩:=i h rfl
   refine⟨r,b,[],[],true,.call l k m c hr (λid a _=>hold id a) (λid a=>by simp at a),λid a w=>(hold id a).trans w,hk,?_,?_⟩
   .intro p;simp[iS] at p
   .intro _;rfl
  .exact hw.elim
 rotate_right
 .rw[j] at hw ⊢
  simp only[wB] at hw
  split at hw
  .rename_i g first cap m
   rw[By] at hw
   rw[SX.cL] at m
   split at hw
   .rename_i y
    obtain⟨c,i⟩:=hw
    obtain⟨r,b,hr,hold,hk⟩:=i h rfl
    refine⟨r,b,[],[],true,.call l k m c hr (λid a _=>hold id a) (λid a=>by simp at a),λid a w=>(hold id a).trans w,hk,?_,?_⟩
    .intro p;simp[iS,y] at p
    .intro _;rfl
   .rename_i y
    obtain⟨c,i⟩:=hw
    obtain⟨r,b,hr,z,hk⟩:=i h rfl
    refine⟨r,b,[],List.range h.length,true,.call l k m c hr (λid a D=>?_) (λid a=>by simpa using a),z,hk,QB (by simp[iS,y])⟩
    exact absurd (by simpa using a) D
  .exact hw.elim
 .rw[j] at hw ⊢
  simp only[wB,wI,SX.cL] at hw
  exact⟨_,h,[],[],false,.js l k hw.1,.refl _,hw.2,λ_=>⟨rfl,rfl,rfl,rfl⟩,λ_=>rfl⟩
 .rw[j] at hw ⊢
  simp only[wB,wI,SX.cL] at hw
  obtain⟨e,h1,A,B⟩:=zW u
  split at hw
  .rename_i st E
   exact⟨_,h,[],[],false,.gg l k h1 A B E,.refl _,hw,λ_=>⟨rfl,rfl,rfl,rfl⟩,λ_=>rfl⟩
  .exact hw.elim
 .rw[j] at hw ⊢
  obtain⟨v,b,rd,wr,h1,p,A,B⟩:=SK (s:=yO P q.fr (comp P o)) l (λv eff rd F=>JX (J8 F)) hw
  exact⟨v,b,rd,wr,false,h1,p,A,B⟩
def fV (P:Program) (quiet:Bool) (l:List SO) (recs:List Rec):Prop :=
 l.length=recs.length/\∀ (i:Nat) (s:SO) (r:Rec),l[i]?=some s->recs[i]?=some r->kC (iS P quiet s.b) r.rd r.wr r.call r.lo r.hi
theorem fV.nil {quiet:Bool} : fV P quiet [] []:=⟨rfl,λi s r h=>by simp at h⟩
theorem fV.cons {quiet:Bool} {l:List SO} {a:List Rec} {s:SO} {r:Rec} (h:fV P quiet l a) (hr:kC (iS P quiet s.b) r.rd r.wr r.call r.lo r.hi):fV P quiet (s :: l) (r :: a):=by
 refine⟨by simp[h.1],λi e f d c=>?_⟩
 cases i with
 | zero=>simp at d c;subst d c;exact hr
 | succ i=>exact h.2 i e f (by simpa using d) (by simpa using c)
theorem fV.append {quiet:Bool} {l d:List SO} {b a:List Rec} (h:fV P quiet l b) (e:fV P quiet d a):fV P quiet (l ++ d) (b ++ a):=by
 refine⟨by simp[h.1,e.1],λi s r c hr=>?_⟩
 by_cases hi:i < l.length
 .rw[U5 hi] at c
  rw[U5 (h.1 ▸ hi)] at hr
  exact h.2 i s r c hr
 .rw[Vn (by omega)] at c
  rw[Vn (by have:=h.1;omega)] at hr
  exact e.2 (i - l.length) s r c (by rw[h.1];exact hr)
theorem sW {a:Fz} {o:Oper} {s:SO} (h:E9 P n all a o=some s):rL n o=true/\s.dst=o.dst/\s.b=mz P a o/\uM n all o=some s.guard:=by
 unfold E9 at h
 split at h
 .rename_i c
  simp only[UD] at h
  obtain⟨g,d,rfl⟩:=h
  exact⟨c,rfl,rfl,d⟩
 .simp at h
theorem A0 {o:Oper} {T:Env} (h:uM n all o=some none):dx n all T o=some true:=by
 unfold uM at h
 unfold dx
 split at h
 .rename_i a;rw[a]
 .split at h
  .split at h
   .simp at h
   .simp at h
  .simp at h
theorem k8 {o:Oper} {T:Env} {d:Nat} {want:Bool} (h:uM n all o=some (some (d,want))) :
  (∀ b,T d=.val (.bool b)->dx n all T o=some (b == want))/\(T d=.aY []->dx n all T o=some false):=by
 unfold uM at h
 unfold dx
 split at h
 .simp at h
 .rename_i j w e
  rw[e]
  split at h
  .rename_i g f
   split at h
   .rename_i a
    simp at h
    obtain⟨rfl,rfl⟩:=h
    simp only[f,a,if_true]
    exact⟨λb c=>by rw[c],λc=>by rw[c]⟩
   .simp at h
  .simp at h
theorem lh {a:Fz} {os:List Oper} (h:dG P n all a os=some []):os=[]:=by
 cases os with
 | nil=>rfl
 | cons o r =>
  simp only[dG] at h
  split at h <;> simp at h
theorem l8 {a:Fz} {os:List Oper} {s:SO} {l:List SO} (h:dG P n all a os=some (s :: l)):∃ o r,os=o :: r/\E9 P n all a o=some s/\dG P n all a r=some l:=by
 cases os with
 | nil=>simp[dG] at h
 | cons o r =>
  simp only[dG] at h
  split at h
  .rename_i c d h1 b
   simp at h
   obtain⟨rfl,rfl⟩:=h
   exact⟨o,r,rfl,h1,b⟩
  .simp at h
theorem q9 {d:Fz} : ∀ {l c:List SO} {os:List Oper},dG P n all d os=some (l ++ c)->∃ a b,os=a ++ b/\dG P n all d a=some l/\dG P n all d b=some c
 | [],c,os,h=>⟨[],os,rfl,rfl,h⟩
 | s :: l,c,os,h=>by
  obtain⟨o,r,rfl,h1,e⟩:=l8 h
  obtain⟨a,b,rfl,f,g⟩:=q9 e
  exact⟨o :: a,b,rfl,by simp[dG,h1,f],g⟩
theorem Tr.append {a b:List Oper} {T c d:Env} {h h1 e:aC} {f g:List Rec} (x:Tr P n all a T h f c h1) (y:Tr P n all b c h1 g d e):Tr P n all (a ++ b) T h (f ++ g) d e:=by
 induction x with
 | nil=>exact y
 | cons st i _ j=>exact .cons st i (j y)
theorem Ai {T:Env} {d:Nat} {v:V} (h:T d=v):T.put (some d) v=T:=by
 funext t
 simp only[Env.put]
 split
 .rename_i e;subst e;exact h.symm
 .rfl
theorem Gj {E:Fz} {quiet:Bool} {K:Env->View->Prop} (g:Option (Nat × Bool)):∀ (l:List (Option Nat × SB)) (os:List Oper) (T:Env) (h:aC),
  dG P n all E os=some (l.map λ(d,b)=>⟨d,g,b⟩)->(∀ d w,g=some (d,w)->T d=.val (.bool w)/\(l.all λx=>x.1 != some d)=true)->yK P quiet l T h.view K ->
  ∃ a m j,Tr P n all os T h a m j/\(jg h j/\h.length<=j.length)/\K m j.view/\fV P quiet (l.map λ(d,b)=>⟨d,g,b⟩) a
 | [],os,T,h,q,s,hw=>by
  have:=lh q;subst this
  exact⟨[],T,h,.nil,⟨.refl _,UF _⟩,hw,.nil⟩
 | (d,b) :: l,os,T,h,q,s,hw=>by
  obtain⟨o,r,rfl,h1,F⟩:=l8 q
  obtain⟨G,k,f,i⟩:=sW h1
  simp only at k f i
  have u:dx n all T o=some true:=by
   cases g with
   | none=>exact A0 i
   | some p =>
    obtain⟨y,w⟩:=p
    have:=(k8 (T:=T) i).1 w (s y w rfl).1
    rw[this];simp
  simp only[yK] at hw
  rw[f] at hw
  obtain⟨v,j,rd,wr,call,st,z,hk,H⟩:=RD u hw
  obtain⟨a,m,A,D,c,B,C⟩:=Gj g l r (T.put d v) j F (λy w e=>by
   have:=s y w e
   simp only[VL,UJ,bne_iff_ne,ne_eq] at this
   refine⟨?_,this.2.2⟩
   rw[<-this.1]
   cases d with
   | none=>rfl
   | some t=>simp only[Env.put];rw[Ux];intro e;subst e;exact this.2.1 rfl) hk
  rw[k] at D
  have hlen:=st.len
  exact⟨_,m,A,.cons st G D,⟨z.trans c.1 hlen,Vl hlen c.2⟩,B,C.cons (by rw[f];exact H)⟩
theorem CP {v:Fz} {quiet:Bool} (d:Nat) (w:Bool) (h:aC):∀ (l:List (Option Nat × SB)) (os:List Oper) (T:Env),
  dG P n all v os=some (l.map λ(c,b)=>⟨c,some (d,w),b⟩)->(T d=.val (.bool !w)∨T d=.aY [])->(l.all λx=>x.1 != some d)=true ->
  ∃ a,Tr P n all os T h a (iC l T) h/\fV P quiet (l.map λ(c,b)=>⟨c,some (d,w),b⟩) a
 | [],os,T,k,f,j=>by
  have:=lh k;subst this
  exact⟨[],.nil,.nil⟩
 | (c,b) :: l,os,T,k,f,j=>by
  obtain⟨o,r,rfl,h1,y⟩:=l8 k
  obtain⟨m,g,p,i⟩:=sW h1
  simp only at g p i
  have q:dx n all T o=some false:=by
   rcases f with f | f
   .rw[(k8 (T:=T) i).1 _ f];cases w <;> rfl
   .exact(k8 (T:=T) i).2 f
  simp only[VL,UJ,bne_iff_ne,ne_eq] at j
  obtain⟨a,u,s⟩:=CP d w h l r (T.put c (.aY [])) y (by
   have:(T.put c (.aY [])) d=T d:=by
    cases c with
    | none=>rfl
    | some t=>simp only[Env.put];rw[Ux];intro e;subst e;exact j.1 rfl
   rw[this];exact f) j.2
  rw[g] at u
  refine⟨_,?_,s.cons (r:=⟨[],[],false,h.length,h.length⟩) ⟨λ_=>⟨rfl,rfl,rfl,rfl⟩,λ_=>rfl⟩⟩
  have:=Tr.cons (.skip q) m u
  rw[iC,g]
  exact this
theorem SM {p:Fz} {quiet:Bool} {K:Env->View->Prop} {g:SG} {os:List Oper} {T:Env} {h:aC} (f:dG P n all p os=some g.flat) (c:tB g=true) (hw:wG P quiet g T h.view K) :
  ∃ a o k,Tr P n all os T h a o k/\(jg h k/\h.length<=k.length)/\K o k.view/\fV P quiet g.flat a:=by
 unfold wG at hw
 unfold SG.flat at f ⊢
 unfold tB at c
 split at hw
 .rename_i l
  rw[l] at f ⊢
  exact Gj none g.ops os T h f (λd w e=>by simp at e) hw
 .rename_i d want l
  rw[l] at f c ⊢
  simp only at c
  split at hw
  .rename_i b j
   by_cases e:b=want
   .subst e
    have:=hw.1 rfl
    rw[Ai j] at this
    exact Gj (some (d,b)) g.ops os T h f (λq w e=>by simp at e;obtain⟨rfl,rfl⟩:=e;exact⟨j,c⟩) this
   .have e':b = !want:=by cases b <;> cases want <;> simp_all
    have:=hw.2 e'
    subst e'
    rw[Ai j] at this
    obtain⟨a,m,i⟩:=CP (quiet:=quiet) d want h g.ops os T f (.inl j) c
    exact⟨a,_,h,m,⟨.refl _,UF _⟩,this,i⟩
  .rename_i j
   obtain⟨a,m,i⟩:=CP (quiet:=quiet) d want h g.ops os T f (.inr j) c
   exact⟨a,_,h,m,⟨.refl _,UF _⟩,hw,i⟩
  .exact hw.elim
theorem yi {s:Fz} {quiet:Bool} {K:Env->View->Prop} : ∀ (gs:List SG) (os:List Oper) (T:Env) (h:aC),dG P n all s os=some (kq gs)->gs.all tB=true->xh P quiet gs T h.view K ->
  ∃ c r e,Tr P n all os T h c r e/\(jg h e/\h.length<=e.length)/\K r e.view/\fV P quiet (kq gs) c
 | [],os,T,h,f,_,hw=>by
  have:=lh f;subst this
  exact⟨[],T,h,.nil,⟨.refl _,UF _⟩,hw,.nil⟩
 | g :: gs,os,T,h,f,d,hw=>by
  simp only[kq,U2,List.flatten_cons] at f ⊢
  simp only[VL,UJ] at d
  obtain⟨a,b,rfl,h1,t⟩:=q9 f
  obtain⟨w,u,i,j,st1,k,l⟩:=SM h1 d.1 hw
  obtain⟨x,v,m,o,st2,p,q⟩:=yi gs b u i t d.2 k
  exact⟨_,v,m,j.append o,⟨st1.1.trans st2.1 st1.2,Vl st1.2 st2.2⟩,p,l.append q⟩
theorem Tr.at_ {os:List Oper} {T g:Env} {h j:aC} {b:List Rec} (k:Tr P n all os T h b g j):∀ (i:Nat) (o:Oper),os[i]?=some o ->
  ∃ c h1 v e rd wr call a,b[i]?=some ⟨rd,wr,call,h1.length,e.length⟩/\dP P n all o c h1 v e rd wr call/\h.length<=h1.length/\Tr P n all (os.drop (i+1)) (c.put o.dst v) e a g j/\(∀ m,a[m]?=b[i+1+m]?) /\
   (∀ t,(∀ l∈os.take i,l.dst≠some t)->c t=T t):=by
 induction k with
 | nil=>intro i o hi;simp at hi
 | @cons o0 rest T g h h1 j v rd wr call b st D k s =>
  intro i o hi
  cases i with
  | zero =>
   simp at hi;subst hi
   exact⟨T,h,v,h1,rd,wr,call,b,rfl,st,UF _,by simpa using k,λm=>by rw[show 0+1+m=m+1 by omega,Ve],λt _=>rfl⟩
  | succ i =>
   simp at hi
   obtain⟨c,e,v2,u,p,Su,call2,a,w,x,y,z,A,B⟩:=s i o hi
   have hlen:h.length<=h1.length:=by
    cases st with
    | skip=>exact UF _
    | op _ _=>rename_i eff _ _;cases eff <;> simp[bp.apply]
    | js _ _ _=>exact UF _
    | gg _ _ _ _ _ _=>exact UF _
    | call _ _ _ _ C _ _=>exact C.1
   refine⟨c,e,v2,u,p,Su,call2,a,by simpa using w,x,Vl hlen y,by simpa using z,λm=>?_,λt q=>?_⟩
   .rw[A,show i+1+1+m=(i+1+m)+1 by omega,Ve]
   .simp only[List.take_succ_cons,UO] at q
    rw[B t λl r=>q l (.inr r)]
    have:=q o0 (.inl rfl)
    cases f:o0.dst with
    | none=>rfl
    | some d=>simp only[Env.put];rw[Ux];rintro rfl;exact this f
theorem LP {o:Oper} {T:Env} {h g:aC} {v:V} {rd wr:List Nat} {call:Bool} (st:dP P n all o T h v g rd wr call) (b:Ah o=true) (i:o.guard=none):v=.ptr h.length 0 0:=by
 unfold Ah at b
 have d:dx n all T o=some true:=by unfold dx;rw[i]
 cases st with
 | skip f=>rw[d] at f;simp at f
 | op _ a =>
  split at b
  .rename_i e c
   simp only[ca,c] at a
   split at a
   .unfold lP at a
    split at a
    .simp at a;exact a.1.symm
    .simp at a
   .simp at a
  .simp at b
 | js _ c _=>rw[c] at b;simp at b
 | gg _ c _ _ _ _=>rw[c] at b;simp at b
 | call _ c _ _ _ _ _=>rw[c] at b;simp at b
theorem Lm {o:Oper} {T:Env} {h g:aC} {v:V} {rd wr:List Nat} {call:Bool} {t id i j:Nat} (st:dP P n all o T h v g rd wr call) (c:kO o=some t) (k:T t=.ptr id i j):wr=[id]/\call=false:=by
 unfold kO at c
 split at c
 .rename_i ty l x d m
  simp at c;subst c
  have e:dx n all T o=some true:=by unfold dx;rw[m]
  cases st with
  | skip f=>rw[e] at f;simp at f
  | op _ b =>
   have p:ev T (.tmp l)=.ptr id i j:=k
   simp only[ca,d,p,qo] at b
   split at b
   .split at b
    .simp only[Uw,UA] at b
     obtain⟨_,he,_⟩:=b
     rw[<-he];exact⟨rfl,rfl⟩
    .simp at b
   .simp at b
  | js _ a _=>rw[d] at a;simp at a
  | gg _ a _ _ _ _=>rw[d] at a;simp at a
  | call _ a _ _ _ _ _=>rw[d] at a;simp at a
 .simp at c
theorem OB {o:Oper} {T:Env} {h g:aC} {v:V} {rd wr:List Nat} {call:Bool} (st:dP P n all o T h v g rd wr call) (d:Dv o=true):wr=[]/\call=false/\∀ id,id∈rd->id < h.length:=by
 unfold Dv at d
 cases st with
 | skip _=>exact⟨rfl,rfl,λid c=>by simp at c⟩
 | op _ b =>
  split at d
  .rename_i e a f
   simp only[ca,f,mw] at b
   split at b
   .rename_i id i j l
    split at b
    .rename_i z es hH
     split at b
     .simp only[UD] at b
      obtain⟨_,_,b⟩:=b
      simp at b
      obtain⟨_,rfl,rfl⟩:=b
      refine⟨rfl,rfl,λk c=>?_⟩
      simp at c;subst c
      exact ie (by rw[hH];simp)
     .simp at b
    .simp at b
   .simp only[UD] at b
    obtain⟨_,_,b⟩:=b
    simp at b
    obtain⟨_,rfl,rfl⟩:=b
    exact⟨rfl,rfl,λid c=>by simp at c⟩
   .simp at b
  .simp at d
 | js _ f _=>rw[f] at d;simp at d
 | gg _ f _ _ _ _=>rw[f] at d;simp at d
 | call _ f _ _ _ _ _=>rw[f] at d;simp at d
theorem v8 {T G:Env} {h H:aC} {e:List Rec} (I:Tr P n all all T h e G H) {i k:Nat} {a b:Rec} (hp:zl all i k=true) (g:e[i]?=some a) (J:e[k]?=some b):nS a b:=by
 unfold zl at hp
 split at hp
 .rename_i K L l m
  rw[UJ] at hp
  obtain⟨M,hp⟩:=hp
  split at hp
  .rename_i t o
   rw[VV] at hp
   obtain⟨j,N,hp⟩:=hp
   rw[VC] at N
   rw[UJ,UN] at hp
   obtain⟨O,c⟩:=hp
   unfold Sn at c
   split at c
   .rename_i Q p
    simp only[UJ,Vr,U3,bne_iff_ne,ne_eq,Option.isNone_iff_eq_none] at c
    obtain⟨⟨⟨R,S⟩,U⟩,V⟩:=c
    obtain⟨T1,h1,v1,W,X,Th,c1,q,D,E,e3,Y,Z,_⟩:=I.at_ i K l
    obtain⟨Tj,r,vj,an,aq,ar,cj,s,f1,f2,f3,f4,f5,_⟩:=Y.at_ (j - (i+1)) Q (by rw[Wk,show i+1+(j - (i+1))=j by omega];exact p)
    have u:(all.drop (i+1)).drop (j - (i+1)+1)=all.drop (j+1):=by rw[List.drop_drop];congr 1;omega
    rw[u] at f4
    obtain⟨Tk,v,vk,w,x,y,ck,z,g1,g2,g3,_,_,g6⟩:=f4.at_ (k - (j+1)) L (by rw[Wk,show j+1+(k - (j+1))=k by omega];exact m)
    rw[g] at D
    have A:=(Wl D)
    have f:e[k]?=some ⟨x,y,ck,v.length,w.length⟩:=by
     rw[<-g1,f5,Z];congr 1;omega
    rw[J] at f
    have f:=Wl f
    have hv:=LP f2 U S
    have B:Tk t=.ptr r.length 0 0:=by
     rw[g6 t λo' C=>V o' C,R,hv]
     simp[Env.put]
    obtain⟨s1,s2⟩:=Lm g2 o B
    obtain⟨F,l2,l3⟩:=OB E M
    rw[A,f]
    have hlen:h1.length<=W.length:=by
     cases E with
     | skip=>exact UF _
     | op _ _=>rename_i eff _ _;cases eff <;> simp[bp.apply]
     | js _ _ _=>exact UF _
     | gg _ _ _ _ _ _=>exact UF _
     | call _ _ _ _ g _ _=>exact g.1
    refine⟨λid d=>by simp[F] at d,λid d=>?_,λhc=>by simp[l2] at hc,λ_=>F,λid d=>?_⟩
    .simp only[s1,Vq] at d
     subst d
     intro hr
     have:=l3 _ hr
     omega
    .simp only[s1,Vq] at d
     subst d
     simp only
     omega
   .simp at c
  .simp at hp
 .simp at hp
theorem O5 {ls:List Nat} {d:List Rec} {T t:Env} {hp g:aC} (u:Tr P n all all T hp d t g) (h:Fa all ls=true) (y:ls.length=d.length) (hr:∀ (i x:Nat) (r:Rec),ls[i]?=some x->d[i]?=some r->kC x r.rd r.wr r.call r.lo r.hi):tK all d:=by
 intro i k a b j l m v
 have hi:i < d.length:=(UI.1 l).1
 have hk:k < d.length:=(UI.1 m).1
 unfold Fa at h
 simp only[U3] at h
 have h1:=h (ls[i]'(by omega),i) (by rw[Vo];simp[Uv (show i < ls.length by omega)])
  (ls[k]'(by omega),k) (by rw[Vo];simp[Uv (show k < ls.length by omega)])
 have q:=hr i _ a (Uv (by omega)) l
 have s:=hr k _ b (Uv (by omega)) m
 simp only[j,decide_true,Wf,v,Wn,Wc,Vr,UJ,UN] at h1
 rcases h1 with ((h1 | h1) | h1) | h1
 .obtain⟨f,e,o,w⟩:=q.1 h1
  exact⟨λid c=>by simp[e] at c,λid _=>by simp[f],λp=>by simp[o] at p,λ_=>e,λid _ z=>by omega⟩
 .obtain⟨f,e,o,w⟩:=s.1 h1
  exact⟨λid _=>by simp[f],λid c=>by simp[e] at c,λ_=>e,λp=>by simp[o] at p,λid c=>by simp[e] at c⟩
 .have f:=q.2 h1.1
  have e:=s.2 h1.2
  exact⟨λid c=>by simp[f] at c,λid c=>by simp[e] at c,λ_=>e,λ_=>f,λid c=>by simp[e] at c⟩
 .exact v8 u h1 l m
theorem Tr.keep {os:List Oper} {T c:Env} {h e:aC} {a:List Rec} (f:Tr P n all os T h a c e) {t:Nat} (g:∀ o∈os,o.dst≠some t):c t=T t:=by
 induction f with
 | nil=>rfl
 | @cons o0 rest T c h h1 e v rd wr call a st k f i =>
  rw[i λo j=>g o (by simp[j])]
  have:=g o0 (by simp)
  cases b:o0.dst with
  | none=>rfl
  | some d=>simp only[Env.put];rw[Ux];rintro rfl;exact this b
theorem wT {o:Oper} {T:Env} {h g:aC} {v:V} {rd wr:List Nat} {call:Bool} {t:Nat} (st:dP P n all o T h v g rd wr call) (d:rS o=some t):wr=[]/\call=false/\g.length=h.length/\∀ id,id∈rd->∃ i j,T t=.ptr id i j:=by
 unfold rS at d
 split at d
 .rename_i e m f
  simp at d;subst d
  cases st with
  | skip _=>exact⟨rfl,rfl,rfl,λid c=>by simp at c⟩
  | op _ a =>
   simp only[ca,f,mw] at a
   split at a
   .rename_i id i j k
    split at a
    .split at a
     .simp only[UD] at a
      obtain⟨_,_,a⟩:=a
      simp at a
      obtain⟨_,rfl,rfl⟩:=a
      refine⟨rfl,rfl,rfl,λl c=>?_⟩
      simp at c;subst c
      exact⟨i,j,k⟩
     .simp at a
    .simp at a
   .simp only[UD] at a
    obtain⟨_,_,a⟩:=a
    simp at a
    obtain⟨_,rfl,rfl⟩:=a
    exact⟨rfl,rfl,rfl,λid c=>by simp at c⟩
   .simp at a
  | js _ b _=>rw[f] at b;simp at b
  | gg _ b _ _ _ _=>rw[f] at b;simp at b
  | call _ b _ _ _ _ _=>rw[f] at b;simp at b
 .simp at d
theorem wy {i t:Nat} (h:stays all i t=true):∀ o∈all.drop i,o.dst≠some t:=by
 intro o a
 have:=U3.1 h o a
 simpa using this
theorem As {a:List (Nat × Nat)} {T:Env} {K:Prop} (b:xN a T K):∀ p∈a,iE (T p.1) (T p.2):=by
 induction a with
 | nil=>intro p hp;simp at hp
 | cons q l c =>
  intro p hp
  rcases UO.1 hp with rfl | hp
  .exact b.1
  .exact c b.2 p hp
theorem xN.rest {a:List (Nat × Nat)} {T:Env} {K:Prop} (b:xN a T K):K:=by
 induction a with
 | nil=>exact b
 | cons q l c=>exact c b.2
theorem qf {T l:Env} {h m:aC} {a:List Rec} (p:Tr P n all all T h a l m) {i t:Nat} {o:Oper} (j:all[i]?=some o) (q:stays all i t=true) {r:Rec} (hr:a[i]?=some r) :
  ∃ e h1 v f,dP P n all o e h1 v f r.rd r.wr r.call/\r.lo=h1.length/\r.hi=f.length/\e t=l t:=by
 obtain⟨e,h1,v,f,rd,wr,call,k,g,s,x,u,y,z⟩:=p.at_ i o j
 rw[hr] at g
 have g:=Wl g
 subst g
 refine⟨e,h1,v,f,s,rfl,rfl,?_⟩
 have hk:=wy q
 have hi:i < all.length:=(UI.1 j).1
 have b:all[i]=o:=(UI.1 j).2
 rw[Vg hi,b] at hk
 rw[u.keep λw b=>hk w (by simp[b])]
 have:=hk o (by simp)
 cases c:o.dst with
 | none=>rfl
 | some d=>simp only[Env.put];rw[Ux];rintro rfl;exact this c
theorem y7 {i a b j c d:Nat} (h:iE (.ptr i a b) (.ptr j c d)):i≠j:=h
theorem Br {i a b j c d e:Nat} (h:iE (.ptr i a b) (.sl j c d e)):i≠j:=h
theorem rJ {o:Oper} {T:Env} {h q:aC} {v:V} {rd wr:List Nat} {call:Bool} {t:Nat} (st:dP P n all o T h v q rd wr call) (g:pC o=some t) :
  call=false/\∀ id,id∈wr->(∃ i j,T t=.ptr id i j)∨∃ a b c,T t=.sl id a b c:=by
 unfold pC at g
 split at g
 .rename_i w m
  simp at g;subst g
  unfold kO at m
  split at m
  .rename_i ty t2 x k r
   simp at m;subst m
   cases st with
   | skip _=>exact⟨rfl,λid f=>by simp at f⟩
   | op _ d =>
    simp only[ca,k,qo] at d
    split at d
    .rename_i id i j p
     split at d
     .split at d
      .simp only[Uw,UA] at d
       obtain⟨_,he,_⟩:=d
       rw[<-he]
       refine⟨rfl,λl f=>?_⟩
       simp[bp.wr] at f;subst f
       exact .inl ⟨i,j,p⟩
      .simp at d
     .simp at d
    .simp at d
   | js _ e _=>rw[k] at e;simp at e
   | gg _ e _ _ _ _=>rw[k] at e;simp at e
   | call _ e _ _ _ _ _=>rw[k] at e;simp at e
  .simp at m
 .unfold Mr at g
  split at g
  .rename_i args s k r
   split at g
   .rename_i t2 y u
    simp at g;subst g
    cases st with
    | skip _=>exact⟨rfl,λid f=>by simp at f⟩
    | op _ d =>
     simp only[ca,k,u] at d
     split at d
     .unfold mO at d
      split at d
      .split at d
       .simp at d
       .split at d
        .split at d <;> first | (simp only[Uw,UA] at d;obtain⟨_,he,_⟩:=d;rw[<-he];exact⟨rfl,λl f=>by simp[bp.wr] at f⟩) | simp at d
        .split at d
         .simp at d
         .split at d
          .split at d
           .simp only[Uw,UA] at d
            obtain⟨_,he,_⟩:=d
            rw[<-he];exact⟨rfl,λl f=>by simp[bp.wr] at f⟩
           .simp at d
          .rename_i id off len esz p
           split at d
           .split at d
            .simp only[Uw,UA] at d
             obtain⟨_,he,_⟩:=d
             rw[<-he]
             refine⟨rfl,λl f=>?_⟩
             simp[bp.wr] at f;subst f
             exact .inr ⟨off,len,esz,p⟩
            .simp at d
           .simp at d
          .simp at d
      .simp at d
     .split at d
      .unfold rA at d
       repeat' (split at d)
       all_goals first | (simp only[Uw,UA] at d;obtain⟨_,he,_⟩:=d;rw[<-he];exact⟨rfl,λl f=>by simp[bp.wr] at f⟩) | simp at d
      .simp at d
    | js _ e _=>rw[k] at e;simp at e
    | gg _ e _ _ _ _=>rw[k] at e;simp at e
    | call _ e _ _ _ _ _=>rw[k] at e;simp at e
   .simp at g
  .simp at g
theorem PL {o:Oper} {T:Env} {h g:aC} {v:V} {rd wr:List Nat} {call:Bool} (st:dP P n all o T h v g rd wr call) (b:G0 o=true):rd=[]/\wr=[]/\call=false:=by
 unfold G0 at b
 cases st with
 | skip _=>exact⟨rfl,rfl,rfl⟩
 | op _ a =>
  split at b
  .rename_i ty len parts c
   simp only[ca,c,hX] at a
   have key:∀ {x:Option (V × bp × List Nat)} {e:bp},x=some (v,e,rd)->(∀ y,x=some y->y.2.1.wr=[]/\y.2.2=[])->rd=[]/\e.wr=[]:=λf d=>⟨(d _ f).2,(d _ f).1⟩
   obtain⟨i,k2⟩:=key a (by
    intro y d
    repeat' (first | (split at d)|(simp only[Uw] at d;subst d;exact⟨rfl,rfl⟩)|(simp at d;done)))
   exact⟨i,k2,rfl⟩
  .rename_i e c
   simp only[ca,c] at a
   split at a
   .unfold lP at a
    split at a
    .simp only[Uw,UA] at a
     obtain⟨_,he,hr⟩:=a
     rw[<-he,<-hr];exact⟨rfl,rfl,rfl⟩
    .simp at a
   .simp at a
  .simp at b
 | js _ c _=>rw[c] at b;simp at b
 | gg _ c _ _ _ _=>rw[c] at b;simp at b
 | call _ c _ _ _ _ _=>rw[c] at b;simp at b
theorem vc {o:Oper} {t:Nat} (h:kO o=some t):pC o=some t:=by unfold pC;rw[h]
theorem L2 {T w:Env} {h Q:aC} {l:List Rec} (u:Tr P n all all T h l w Q) {i k:Nat} {a b:Rec} {p:Nat × Nat} (hp:Be all i k=some p) (j:iE (w p.1) (w p.2)) (N:l[i]?=some a) (O:l[k]?=some b):nS a b:=by
 unfold Be at hp
 split at hp
 .rename_i Z ob q r
  split at hp
  .rename_i s t x y
   split at hp
   .rename_i g
    simp only[UJ] at g
    simp at hp;subst hp
    obtain⟨z,A,R,B,C,D,E,F⟩:=qf u q g.1 N
    obtain⟨Tb,G,S,H,I,_,_,J⟩:=qf u r g.2 O
    obtain⟨o,K,U,L⟩:=wT C x
    have j:iE (z s) (Tb t):=by rw[F,J];exact j
    refine⟨λid f=>by simp[o] at f,λid f hr=>?_,λv=>by simp[K] at v,λ_=>o,λid _ hx=>by omega⟩
    obtain⟨V,W,M⟩:=L id hr
    rw[M] at j
    rcases (rJ I (vc y)).2 id f with ⟨c,d,m⟩ | ⟨c,d,e,m⟩
    .rw[m] at j;exact y7 j rfl
    .rw[m] at j;exact Br j rfl
   .simp at hp
  .split at hp
   .rename_i t s y x
    split at hp
    .rename_i g
     simp only[UJ] at g
     simp at hp;subst hp
     obtain⟨z,A,R,B,C,D,E,F⟩:=qf u q g.1 N
     obtain⟨Tb,G,S,H,I,X,Y,J⟩:=qf u r g.2 O
     obtain⟨o,K,U,L⟩:=wT I x
     have j:iE (Tb s) (z t):=by rw[F,J];exact j
     refine⟨λid f hr=>?_,λid f=>by simp[o] at f,λv=>o,λv=>by simp[K] at v,λid f=>by simp[o] at f⟩
     obtain⟨V,W,M⟩:=L id hr
     rw[M] at j
     rcases (rJ C (vc y)).2 id f with ⟨c,d,m⟩ | ⟨c,d,e,m⟩
     .rw[m] at j;exact y7 j rfl
     .rw[m] at j;exact Br j rfl
    .simp at hp
   .simp at hp
 .simp at hp
theorem KD {T w:Env} {h Q:aC} {l:List Rec} (u:Tr P n all all T h l w Q) {i k:Nat} {a b:Rec} {p:Nat × Nat} (hp:Dl all i k=some p) (j:iE (w p.1) (w p.2)) (N:l[i]?=some a) (O:l[k]?=some b):nS a b:=by
 unfold Dl at hp
 split at hp
 .rename_i Z ob q r
  split at hp
  .rename_i s t x y
   split at hp
   .rename_i g
    simp only[UJ] at g
    simp at hp;subst hp
    obtain⟨z,A,R,B,C,D,E,F⟩:=qf u q g.1 N
    obtain⟨Tb,G,S,H,I,_,_,J⟩:=qf u r g.2 O
    obtain⟨o,K,U,L⟩:=wT C x
    have j:iE (z s) (Tb t):=by rw[F,J];exact j
    refine⟨λid f=>by simp[o] at f,λid f hr=>?_,λv=>by simp[K] at v,λ_=>o,λid _ hx=>by omega⟩
    obtain⟨V,W,M⟩:=L id hr
    rw[M] at j
    rcases (rJ I y).2 id f with ⟨c,d,m⟩ | ⟨c,d,e,m⟩
    .rw[m] at j;exact y7 j rfl
    .rw[m] at j;exact Br j rfl
   .simp at hp
  .split at hp
   .rename_i t s y x
    split at hp
    .rename_i g
     simp only[UJ] at g
     simp at hp;subst hp
     obtain⟨z,A,R,B,C,D,E,F⟩:=qf u q g.1 N
     obtain⟨Tb,G,S,H,I,X,Y,J⟩:=qf u r g.2 O
     obtain⟨o,K,U,L⟩:=wT I x
     have j:iE (Tb s) (z t):=by rw[F,J];exact j
     refine⟨λid f hr=>?_,λid f=>by simp[o] at f,λv=>o,λv=>by simp[K] at v,λid f=>by simp[o] at f⟩
     obtain⟨V,W,M⟩:=L id hr
     rw[M] at j
     rcases (rJ C y).2 id f with ⟨c,d,m⟩ | ⟨c,d,e,m⟩
     .rw[m] at j;exact y7 j rfl
     .rw[m] at j;exact Br j rfl
    .simp at hp
   .simp at hp
 .simp at hp
theorem LZ {l:List (Nat × Nat)} {a:List (Nat × Nat)} (h:Cf all l=some a):∀ q∈l,∃ p∈a,Be all q.1 q.2=some p:=by
 induction l generalizing a with
 | nil=>intro q b;simp at b
 | cons x r d =>
  obtain⟨i,k⟩:=x
  simp only[Cf] at h
  split at h
  .rename_i p j h1 f
   simp at h;subst h
   intro q b
   rcases UO.1 b with rfl | b
   .exact⟨p,by simp,h1⟩
   .obtain⟨g,c,e⟩:=d f q b
    exact⟨g,by simp[c],e⟩
  .simp at h
theorem KK {l:List (Nat × Nat)} {a:List (Nat × Nat)} (h:uz all l=some a):∀ q∈l,∃ f,(∀ p∈f,p∈a)/\zo all q.1 q.2=some f:=by
 induction l generalizing a with
 | nil=>intro q b;simp at b
 | cons x r g =>
  obtain⟨i,k⟩:=x
  simp only[uz] at h
  split at h
  .rename_i p n h1 j
   simp at h;subst h
   intro q b
   rcases UO.1 b with rfl | b
   .exact⟨p,λx c=>by simp[c],h1⟩
   .obtain⟨m,d,e⟩:=g j q b
    exact⟨m,λx c=>by simp[d x c],e⟩
  .simp at h
theorem OT {H:View} {x:V} {xs:List (List V)} {rd:List Nat} (h:bC H x=some (xs,rd)):∀ id,id∈rd->∃ a b c,x=.sl id a b c:=by
 unfold bC at h
 split at h
 .simp at h;obtain⟨_,rfl⟩:=h;intro id d;simp at d
 .simp at h;obtain⟨_,rfl⟩:=h;intro id d;simp at d
 .simp at h;obtain⟨_,rfl⟩:=h;intro id d;simp at d
 .simp at h;obtain⟨_,rfl⟩:=h;intro id d;simp at d
 .split at h
  .split at h
   .simp at h
    obtain⟨_,rfl⟩:=h
    intro id d
    simp at d;subst d
    exact⟨_,_,_,rfl⟩
   .simp at h
  .simp at h
 .simp at h;obtain⟨_,rfl⟩:=h;intro id d;simp at d
 .simp at h
theorem G9 {o:Oper} {T:Env} {h s:aC} {v:V} {rd wr:List Nat} {call:Bool} {t y d:Nat} (st:dP P n all o T h v s rd wr call) (l:za o=some (t,y,d)) :
  call=false/\(∀ id,id∈wr->∃ a b c,T t=.sl id a b c)/\(∀ id,id∈rd->(∃ a b c,T t=.sl id a b c)∨∃ a b c,T y=.sl id a b c)/\(h.length < s.length->∃ a b c,v=.sl h.length a b c)/\s.length<=h.length+1/\o.dst=some d:=by
 unfold za at l
 split at l
 .rename_i args z A r D m
  split at l
  .rename_i t2 B C
   simp at l
   obtain⟨rfl,rfl,rfl⟩:=l
   cases st with
   | skip _=>exact⟨rfl,λid g=>by simp at g,λid g=>by simp at g,λh=>by omega,by omega,m⟩
   | op _ f =>
    simp only[ca,r,C] at f
    have w:∀ {v':V} {i:bp} {k:List Nat},some (v',bp.none,([]:List Nat))=some (v,i,k)->false=false/\(∀ id,id∈i.wr->∃ a b c,T t2=.sl id a b c)/\(∀ id,id∈k->(∃ a b c,T t2=.sl id a b c)∨∃ a b c,T B=.sl id a b c)/\(h.length < (i.apply h).length->∃ a b c,v=.sl h.length a b c)/\(i.apply h).length<=h.length+1/\o.dst=some A:=by
     intro v' i k e
     simp only[Uw,UA] at e
     obtain⟨_,rfl,rfl⟩:=e
     exact⟨rfl,λid g=>by simp[bp.wr] at g,λid g=>by simp at g,λh=>by simp[bp.apply] at h,by simp[bp.apply],m⟩
    split at f
    .unfold mO at f
     split at f
     .rename_i e xs k _ u
      have p:=OT u
      split at f
      .simp at f
      .split at f
       .split at f <;> first | exact w f | simp at f
       .split at f
        .simp at f
        .split at f
         .split at f
          .simp only[Uw,UA] at f
           obtain⟨rfl,rfl,rfl⟩:=f
           exact⟨rfl,λid g=>by simp[bp.wr] at g,λid g=>.inr (p id g),λ_=>⟨_,_,_,rfl⟩,by simp[bp.apply],m⟩
          .simp at f
         .rename_i id off len esz x
          split at f
          .split at f
           .simp only[Uw,UA] at f
            obtain⟨rfl,rfl,rfl⟩:=f
            refine⟨rfl,λq g=>?_,λq g=>?_,λ_=>⟨_,_,_,rfl⟩,by simp[bp.apply],m⟩
            .simp[bp.wr] at g;subst g
             exact⟨off,len,esz,x⟩
            .rcases UO.1 g with rfl | g
             .exact .inl ⟨off,len,esz,x⟩
             .exact .inr (p q g)
           .simp at f
          .simp at f
         .simp at f
     .simp at f
    .split at f
     .unfold rA at f
      split at f
      .split at f
       .split at f
        .exact w f
        .split at f
         .simp only[Uw,UA] at f
          obtain⟨rfl,rfl,rfl⟩:=f
          exact⟨rfl,λid g=>by simp[bp.wr] at g,λid g=>by simp at g,λ_=>⟨_,_,_,rfl⟩,by simp[bp.apply],m⟩
         .simp at f
       .simp at f
      .simp at f
     .simp at f
   | js _ j _=>rw[r] at j;simp at j
   | gg _ j _ _ _ _=>rw[r] at j;simp at j
   | call _ j _ _ _ _ _=>rw[r] at j;simp at j
  .simp at l
 .simp at l
theorem N5 {T j:Env} {h q:aC} {a:List Rec} (s:Tr P n all all T h a j q) {i:Nat} {o:Oper} (k:all[i]?=some o) {r:Rec} (hr:a[i]?=some r) :
  ∃ e h1 v f,dP P n all o e h1 v f r.rd r.wr r.call/\r.lo=h1.length/\r.hi=f.length/\(∀ t,stays all i t=true->e t=j t)/\∀ d,o.dst=some d->stays all (i+1) d=true->j d=v:=by
 obtain⟨e,h1,v,f,rd,wr,call,l,g,u,y,p,z,A⟩:=s.at_ i o k
 rw[hr] at g
 have g:=Wl g
 subst g
 refine⟨e,h1,v,f,u,rfl,rfl,λt m=>?_,λd w m=>?_⟩
 .have hk:=wy m
  have hi:i < all.length:=(UI.1 k).1
  have b:all[i]=o:=(UI.1 k).2
  rw[Vg hi,b] at hk
  rw[p.keep λx b=>hk x (by simp[b])]
  have:=hk o (by simp)
  cases c:o.dst with
  | none=>rfl
  | some d=>simp only[Env.put];rw[Ux];rintro rfl;exact this c
 .rw[p.keep (wy m),w]
  simp[Env.put]
theorem yg {i a b c j d e f:Nat} (h:iE (.sl i a b c) (.sl j d e f)):i≠j:=h
theorem Ko {T r:Env} {h E:aC} {c:List Rec} (A:Tr P n all all T h c r E) {i k:Nat} {a b:Rec} {B:List (Nat × Nat)} (hp:Df all i k=some B) (o:∀ p∈B,iE (r p.1) (r p.2)) (F:c[i]?=some a) (G:c[k]?=some b):nS a b:=by
 unfold Df at hp
 split at hp
 .rename_i oa ob s u
  split at hp
  .rename_i t y d g C d' h1 H
   split at hp
   .rename_i l
    simp only[UJ] at l
    obtain⟨⟨⟨⟨s1,s2⟩,I⟩,v⟩,J⟩:=l
    simp at hp;subst hp
    have j:=o (t,g) (by simp)
    have a2:=o (t,C) (by simp)
    have a3:=o (g,y) (by simp)
    have a4:=o (d,g) (by simp)
    simp only at j a2 a3 a4
    obtain⟨Ta,w,va,K,L,M,N,x,z⟩:=N5 A s F
    obtain⟨Tb,O,vb,Q,R,_,_,q,_⟩:=N5 A u G
    obtain⟨S,U,V,W,p5,X⟩:=G9 L h1
    obtain⟨Y,D,Z,_⟩:=G9 R H
    have z:=z d X I
    rw[<-x t s1,<-q g v] at j
    rw[<-x t s1,<-q C J] at a2
    rw[<-q g v,<-x y s2] at a3
    rw[z,<-q g v] at a4
    refine⟨λid f hr=>?_,λid f hr=>?_,λm=>by rw[S] at m;simp at m,λm=>by rw[Y] at m;simp at m,λid f hx=>?_⟩
    .obtain⟨_,_,_,e⟩:=U id f
     rcases Z id hr with ⟨_,_,_,e'⟩ | ⟨_,_,_,e'⟩
     .rw[e,e'] at j;exact yg j rfl
     .rw[e,e'] at a2;exact yg a2 rfl
    .obtain⟨_,_,_,e⟩:=D id f
     rcases V id hr with ⟨_,_,_,e'⟩ | ⟨_,_,_,e'⟩
     .rw[e',e] at j;exact yg j rfl
     .rw[e,e'] at a3;exact yg a3 rfl
    .obtain⟨_,_,_,e⟩:=D id f
     obtain⟨_,_,_,e'⟩:=W (by omega)
     have:id=w.length:=by omega
     subst this
     rw[e,e'] at a4;exact yg a4 rfl
   .simp at hp
  .simp at hp
 .simp at hp
theorem Lc {T d:Env} {h m:aC} {c:List Rec} (e:Tr P n all all T h c d m) {i k:Nat} {a b:Rec} {f:List (Nat × Nat)} (hp:zo all i k=some f) (g:∀ p∈f,iE (d p.1) (d p.2)) (j:c[i]?=some a) (l:c[k]?=some b):nS a b:=by
 unfold zo at hp
 split at hp
 .rename_i p h1
  simp at hp;subst hp
  exact KD e h1 (g p (by simp)) j l
 .exact Ko e hp g j l
theorem Qn {ls:List Nat} {d:List Rec} {T o:Env} {hp q:aC} {j:List (Nat × Nat)} (v:Tr P n all all T hp d o q) (h:Cf all (kV all ls)=some j) (z:∀ p∈j,iE (o p.1) (o p.2)) (D:ls.length=d.length)
  (hr:∀ (i x:Nat) (r:Rec),ls[i]?=some x->d[i]?=some r->kC x r.rd r.wr r.call r.lo r.hi):tK all d:=by
 intro i k a b s l m A
 have hi:i < d.length:=(UI.1 l).1
 have hk:k < d.length:=(UI.1 m).1
 have w:=hr i _ a (Uv (by omega)) l
 have y:=hr k _ b (Uv (by omega)) m
 have B:(ls[i]'(by omega),i)∈ls.zipIdx:=by rw[Vo];simp[Uv (show i < ls.length by omega)]
 have mk:(ls[k]'(by omega),k)∈ls.zipIdx:=by rw[Vo];simp[Uv (show k < ls.length by omega)]
 by_cases h1:xE all (ls[i]'(by omega)) i (ls[k]'(by omega)) k=true
 .unfold xE at h1
  simp only[s,decide_true,Wf,A,Wn,Wc,Vr,UJ,UN] at h1
  rcases h1 with ((h1 | h1) | h1) | h1
  .obtain⟨g,f,t,C⟩:=w.1 h1
   exact⟨λid c=>by simp[f] at c,λid _=>by simp[g],λu=>by simp[t] at u,λ_=>f,λid _ E=>by omega⟩
  .obtain⟨g,f,t,C⟩:=y.1 h1
   exact⟨λid _=>by simp[g],λid c=>by simp[f] at c,λ_=>f,λu=>by simp[t] at u,λid c=>by simp[f] at c⟩
  .have g:=w.2 h1.1
   have f:=y.2 h1.2
   exact⟨λid c=>by simp[g] at c,λid c=>by simp[f] at c,λ_=>f,λ_=>g,λid c=>by simp[f] at c⟩
  .exact v8 v h1 l m
 .have hm:(i,k)∈kV all ls:=by
   unfold kV
   rw[List.mem_flatMap]
   refine⟨_,B,?_⟩
   rw[VD]
   exact⟨_,mk,by simp only;rw[Ux h1]⟩
  obtain⟨p,hp,e⟩:=LZ h (i,k) hm
  exact L2 v e (z p hp) l m
theorem DL {P:Program} {t:TypeId} {id:Nat} {q:V} {ok:Bool} {H1 a:View} (h:H1 id=a id):fa P t (.mp id) q ok H1=fa P t (.mp id) q ok a:=by
 unfold fa
 simp only[h]
theorem K2 {P:Program} {t:TypeId} {id:Nat} {q:V} {H1 a:View} (h:H1 id=a id):ep P t (.mp id) q H1=ep P t (.mp id) q a:=by
 cases hm:ez P t with
 | none=>simp only[ep,hm]
 | some x=>simp only[ep,hm,h]
theorem P0 {P:Program} {t:TypeId} {id:Nat} {q:V} {H:View} {v:V} {eff:bp} {rd:List Nat} (h:fa P t (.mp id) q false H=some (v,eff,rd)):eff=.none/\rd=[id]:=by
 simp only[fa,UX,if_false] at h
 repeat' (first | (simp only[Uw,UA] at h;exact⟨h.2.1.symm,h.2.2.symm⟩)|(split at h)|(simp at h;done))
theorem Mo {P:Program} {t:TypeId} {id:Nat} {q:V} {H:View} {v:V} {eff:bp} {rd:List Nat} (h:ep P t (.mp id) q H=some (v,eff,rd)):∃ obj,eff=.fi id obj:=by
 cases hm:ez P t with
 | none=>simp[ep,hm] at h
 | some x =>
  simp only[ep,hm] at h
  repeat' (first | (simp only[Uw,UA] at h;exact⟨_,h.2.1.symm⟩)|(split at h)|(simp at h;done))
theorem FF {o:Oper} {T:Env} {h f:aC} {v:V} {rd wr:List Nat} {call:Bool} (st:dP P n all o T h v f rd wr call) (i:dx n all T o=some true) (j:∀ e x,o.op≠.box e x) (k:∀ s d x,o.op≠.convert s d x) (l:∀ c,o.op≠.call c) :
  ∃ eff,ca P o T h.view h.length=some (v,eff,rd)/\f=eff.apply h/\wr=eff.wr/\call=false:=by
 cases st with
 | skip g=>rw[i] at g;simp at g
 | op _ b=>exact⟨_,b,rfl,rfl,rfl⟩
 | js _ a _=>exact absurd a (j _ _)
 | gg _ a _ _ _ _=>exact absurd a (k _ _ _)
 | call _ a _ _ _ _ _=>exact absurd a (l _)
theorem Q8 {a:List Rec} {f:Nat->Env} {b:Nat->aC} {vs:Nat->V} (d:AG P n all a f b vs) (i:a.length=all.length) {k:Nat} (hk:k<=all.length) (hw:∀ j r,j < k->a[j]?=some r->r.wr=[]) :
  ∀ j,j<=k->(b 0).length<=(b j).length/\∀ id,id < (b 0).length->(b j).view id=(b 0).view id:=by
 intro j
 induction j with
 | zero=>intro _;exact⟨UF _,λ_ _=>rfl⟩
 | succ j g =>
  intro l
  obtain⟨e,h⟩:=g (by omega)
  obtain⟨st,_,_,_,_⟩:=d j all[j] (a[j]'(by omega)) (Uv (by omega)) (Uv (by omega))
  refine⟨Vl e (tq st),λid c=>?_⟩
  rw[rv st (U4 c e) (by rw[hw j _ (by omega) (Uv (by omega))];simp)]
  exact h id c
theorem p9 {a:List Rec} {b:Nat->Env} {e:Nat->aC} {vs:Nat->V} (c:AG P n all a b e vs) (m:a.length=all.length) {i t:Nat} (h:stays all i t=true):∀ j,i<=j->j<=all.length->b j t=b i t:=by
 intro j d f
 refine y4 (vs:=vs) (N:=all.length) (λk o hk=>?_) rfl i j d f λk o h1 p g=>wy h o (by
  rw[List.mem_iff_getElem?]
  exact⟨k - i,by rw[Wk,show i+(k - i)=k by omega];exact g⟩)
 have l:k < all.length:=(UI.1 hk).1
 exact(c k o (a[k]'(by omega)) hk (Uv (by omega))).2.2.1
theorem Hl {ls:List Nat} {d:List Rec} {T I:Env} {hp bd:aC} {W:List (Nat × Nat)} {tp:Option (Nat × Nat)} (tr:Tr P n all all T hp d I bd) (h:uz all (Fj all ls tp)=some W) (hA:∀ p∈W,iE (I p.1) (I p.2)) (hl:ls.length=d.length)
  (hr:∀ (i x:Nat) (r:Rec),ls[i]?=some x->d[i]?=some r->kC x r.rd r.wr r.call r.lo r.hi) (X:∀ p,tp=some p->∃ D,Fc all ls p.1 p.2=some D/\Hw P D.1 (I D.2.1) (I D.2.2) hp.view):Kx P n all d T I hp:=by
 have main:∀ i k a b,i < k->d[i]?=some a->d[k]?=some b->ordered (fF all []) i k=false->tp≠some (i,k)->nS a b:=by
  intro i k a b K V S ho bl
  have hi:i < d.length:=(UI.1 V).1
  have hk:k < d.length:=(UI.1 S).1
  have la:=hr i _ a (Uv (by omega)) V
  have lb:=hr k _ b (Uv (by omega)) S
  have mi:(ls[i]'(by omega),i)∈ls.zipIdx:=by rw[Vo];simp[Uv (show i < ls.length by omega)]
  have mk:(ls[k]'(by omega),k)∈ls.zipIdx:=by rw[Vo];simp[Uv (show k < ls.length by omega)]
  by_cases h1:xE all (ls[i]'(by omega)) i (ls[k]'(by omega)) k=true
  .unfold xE at h1
   simp only[K,decide_true,Wf,ho,Wn,Wc,Vr,UJ,UN] at h1
   rcases h1 with ((h1 | h1) | h1) | h1
   .obtain⟨y,s,Y,e4⟩:=la.1 h1
    exact⟨λid c=>by simp[s] at c,λid _=>by simp[y],λZ=>by simp[Y] at Z,λ_=>s,λid _ hx=>by omega⟩
   .obtain⟨y,s,Y,e4⟩:=lb.1 h1
    exact⟨λid _=>by simp[y],λid c=>by simp[s] at c,λ_=>s,λZ=>by simp[Y] at Z,λid c=>by simp[s] at c⟩
   .have y:=la.2 h1.1
    have s:=lb.2 h1.2
    exact⟨λid c=>by simp[y] at c,λid c=>by simp[s] at c,λ_=>s,λ_=>y,λid c=>by simp[s] at c⟩
   .exact v8 tr h1 V S
  .have hm:(i,k)∈kV all ls:=by
    unfold kV
    rw[List.mem_flatMap]
    refine⟨_,mi,?_⟩
    rw[VD]
    exact⟨_,mk,by simp only;rw[Ux h1]⟩
   by_cases hn:newAt all k=true
   .unfold newAt at hn
    split at hn
    .rename_i ob L
     obtain⟨T1,cS,v,J,rd,wr,call,bn,y,s,_⟩:=tr.at_ k ob L
     rw[S] at y
     have y:=Wl y
     subst y
     obtain⟨n1,n2,n3⟩:=PL s hn
     exact⟨λid _=>by simp[n1],λid c=>by simp[n2] at c,λ_=>n2,λZ=>by simp[n3] at Z,λid c=>by simp[n2] at c⟩
    .simp at hn
   .obtain⟨p,hp,e⟩:=KK h (i,k) (by
     unfold Fj
     rw[Vu]
     refine⟨hm,?_⟩
     simp only[UJ,Wd,bne_iff_ne,ne_eq]
     exact⟨by simpa using hn,bl⟩)
    exact Lc tr e (λq hq=>hA q (hp q hq)) V S
 cases tp with
 | none=>exact tK.Te λi k a b h1 J h3 h4=>main i k a b h1 J h3 h4 (by simp)
 | some p =>
  obtain⟨i0,C⟩:=p
  obtain⟨D,f,u⟩:=X _ rfl
  intro M hs vs cV N an E w i
  by_cases hi:i=i0
  .subst hi
   refine⟨some C,λk a b h1 J h3 h4 h5=>main i k a b h1 J h3 h4 (λe=>h5 (by simp at e;rw[e])),λk a b o hk V S ho=>?_⟩
   simp at hk;subst hk
   unfold Fc at f
   simp only at f
   split at f
   .rename_i oa ob O L
    rw[ho] at O
    have O:=Wl O
    subst O
    split at f
    .rename_i t m q t' m' q' l z br bs
     split at f
     .rename_i F
      simp only[UJ,Vr,UN,U3,VC] at F
      obtain⟨⟨⟨⟨⟨⟨⟨⟨rfl,rfl⟩,rfl⟩,s1⟩,s2⟩,s3⟩,s4⟩,K⟩,U⟩:=F
      simp only[Uw] at f
      subst f
      simp only at u
      have bx:C < all.length:=(UI.1 L).1
      have b0:∀ j r,j < C->d[j]?=some r->r.wr=[]:=λj r hj b1=>by
       have h1:=U j hj
       have aq:j < ls.length:=by omega
       rw[Uu,Uv aq] at h1
       exact(hr j _ r (Uv aq) b1).2 h1
      have G:=Q8 w E (Nat.le_of_lt bx) b0
      have em:∀ j,i<=j->j<=all.length->M j m=I m:=λj h1 J=>by
       rw[<-an,p9 w E s1 j h1 J,p9 w E s1 all.length (by omega) (UF _)]
      have eq:∀ j,i<=j->j<=all.length->M j q=I q:=λj h1 J=>by
       rw[<-an,p9 w E s2 j h1 J,p9 w E s2 all.length (by omega) (UF _)]
      obtain⟨b2,_,_,b7,b8⟩:=w i o a ho V
      obtain⟨b9,_,_,_,_⟩:=w C ob b L S
      have gi:dx n all (M i) o=some true:=by unfold dx;rw[br]
      have gk:dx n all (M C) ob=some true:=by unfold dx;rw[bs]
      unfold Hw at u
      split at u
      .rename_i id c
       obtain⟨⟨c3,c0,H⟩,u⟩:=u
       have Q:id < hp.length:=ie (by rw[H];simp)
       have ar:(hs C).view id=hp.view id:=by rw[(G C (UF _)).2 id (by rw[N];exact Q),N]
       have a1:(hs i).view id=hp.view id:=by rw[(G i (Nat.le_of_lt K)).2 id (by rw[N];exact Q),N]
       obtain⟨cC,A,cc,cf,ch⟩:=FF b2 gi (by rw[l];simp) (by rw[l];simp) (by rw[l];simp)
       obtain⟨cN,B,cj,ck,c4⟩:=FF b9 gk (by rw[z];simp) (by rw[z];simp) (by rw[z];simp)
       simp only[ca,l] at A
       simp only[ca,z] at B
       have y:ev (M i) (.tmp m)=.mp id:=(em i (UF _) (by omega)).trans c
       have s:ev (M i) (.tmp q)=I q:=eq i (UF _) (by omega)
       have Y:ev (M C) (.tmp m)=.mp id:=(em C (by omega) (by omega)).trans c
       have e4:ev (M C) (.tmp q)=I q:=eq C (by omega) (by omega)
       rw[y,s] at A
       rw[Y,e4,K2 ar] at B
       obtain⟨l1,l2⟩:=P0 A
       obtain⟨obj,l3⟩:=Mo B
       subst l1 l3
       have cu:(hs (C+1)).view id=obj:=by
        rw[cj,lq (λda R=>by
         simp only[bp.wr,Vq] at R
         subst R
         rw[ar,H];simp)]
        simp[bp.view,View.set]
       refine⟨K,cf,ch,by rw[b7,b8,cc];rfl,λg hg cv=>?_⟩
       have a6:id < (hs i).length:=ie (by rw[a1,H];simp)
       have a7:g.view id=(hp.view.set id obj) id:=by
        rw[cv id a6,ck,Uz (by simp[bp.wr]),cu]
        simp[View.set]
       have cA:=u _ _ _ B
       have a8:ca P o (M i) g.view g.length=some (vs i,.none,a.rd):=by
        simp only[ca,l]
        rw[y,s,DL a7,cA,<-DL a1]
        exact A
       exact .op gi a8
      .exact u.elim
     .simp at f
    .simp at f
   .simp at f
  .exact⟨none,λk a b h1 J h3 h4 _=>main i k a b h1 J h3 h4 (λe=>hi (by simp at e;exact e.1.symm)),λk a b o h1=>by simp at h1⟩
theorem Qd (hm:P.follows .mixedOrders=true) {p:Fz} {id:Nat} {ops:Array Oper} {q:SC} {T:Env} {h:aC} {Q:Exit->Env->View->Prop} (a:BS P n p ops.toList=some q) (hw:wS P q T h.view Q) :
  ∃ e g d,cZ P n (.region id ops true) T h e g d/\(jg h d/\h.length<=d.length)/\Q e g d.view:=by
 unfold BS at a
 split at a
 .simp at a
 .rename_i l v
  split at a
  .simp at a
  .rename_i b
   have b:(group l).all tB=true:=by simpa using b
   have j:dG P n ops.toList p ops.toList=some (kq (group l)):=by rw[gu];exact v
   split at a
   .rename_i w
    simp only[UD] at a
    obtain⟨y,k,rfl⟩:=a
    obtain⟨f,g,d,t,m,hk,c⟩:=yi (group l) ops.toList T h j b hw
    rw[gu] at c
    refine⟨.normal,g,d,?_,m,hk.rest⟩
    have o:tK ops.toList f:=Qn t k (As hk) (by simpa using c.1) (λi x r u hr=>by
     simp only[Uy,UD] at u
     obtain⟨s,z,rfl⟩:=u
     exact c.2 i s r z hr)
    simpa using yb hm (id:=id) t w o
   .simp at a
theorem Pn (hm:P.follows .mixedOrders=true) {A:Fz} {id:Nat} {ops:Array Oper} {B:SC} {T:Env} {h:aC} {Q:Exit->Env->View->Prop} (b:Ck P n A ops.toList=some B) (hw:wS P B T h.view Q) :
  ∃ e k d,cZ P n (.region id ops true) T h e k d/\(jg h d/\h.length<=d.length)/\Q e k d.view:=by
 unfold Ck at b
 split at b
 .simp at b
 .rename_i l D
  split at b
  .simp at b
  .rename_i c
   have c:(group l).all tB=true:=by simpa using c
   have m:dG P n ops.toList A ops.toList=some (kq (group l)):=by rw[gu];exact D
   split at b
   .rename_i C
    split at b
    .simp only[UD] at b
     obtain⟨v,f,rfl⟩:=b
     obtain⟨o,k,d,q,g,hk,a⟩:=yi (group l) ops.toList T h m c hw
     rw[gu] at a
     refine⟨.normal,k,d,?_,g,hk.rest⟩
     have j:=Hl q f (As hk) (by simpa using a.1) (λi x r t hr=>by
      simp only[Uy,UD] at t
      obtain⟨s,w,rfl⟩:=t
      exact a.2 i s r w hr) (λp hp=>by simp at hp)
     simpa using vF hm (id:=id) q C j
    .rename_i p hp
     split at b
     .rename_i y z
      simp only[UD] at b
      obtain⟨v,f,rfl⟩:=b
      obtain⟨o,k,d,q,g,hk,a⟩:=yi (group l) ops.toList T h m c hw
      rw[gu] at a
      refine⟨.normal,k,d,?_,g,hk.2.rest⟩
      have j:=Hl q f (As hk.2) (by simpa using a.1) (λi x r t hr=>by
       simp only[Uy,UD] at t
       obtain⟨s,w,rfl⟩:=t
       exact a.2 i s r w hr) (λE u=>by
        simp only[Uw] at u
        subst u
        exact⟨y,z,hk.1⟩)
      simpa using vF hm (id:=id) q C j
     .simp at b
   .simp at b
theorem sn (hm:P.follows .mixedOrders=true) {u:Fz} {id:Nat} {ops:Array Oper} {draw quiet:Bool} {v:SC} {T:Env} {h:aC} {Q:Exit->Env->View->Prop} (a:rE P n u ops.toList draw quiet=some v) (hw:wS P v T h.view Q) :
  ∃ e d c,cZ P n (.region id ops draw) T h e d c/\(jg h c/\h.length<=c.length)/\Q e d c.view:=by
 unfold rE at a
 split at a
 .simp at a
 .rename_i l y
  split at a
  .simp at a
  .rename_i f
   have f:(group l).all tB=true:=by simpa using f
   have m:dG P n ops.toList u ops.toList=some (kq (group l)):=by rw[gu];exact y
   have key:xh P quiet (group l) T h.view (Q .normal)->(draw=true->lY ops.toList=true/\Fa ops.toList (l.map λs=>iS P quiet s.b)=true) ->
     ∃ e d c,cZ P n (.region id ops draw) T h e d c/\(jg h c/\h.length<=c.length)/\Q e d c.view:=by
    intro hw o
    obtain⟨j,d,c,p,q,hk,g⟩:=yi (group l) ops.toList T h m f hw
    rw[gu] at g
    refine⟨.normal,d,c,?_,q,hk⟩
    cases k:draw with
    | false=>simpa using HG (id:=id) p
    | true =>
     obtain⟨h1,z⟩:=o k
     have t:tK ops.toList j:=O5 p z (by simpa using g.1) (λi x r w hr=>by
      simp only[Uy,UD] at w
      obtain⟨s,A,rfl⟩:=w
      exact g.2 i s r A hr)
     simpa using yb hm (id:=id) p h1 t
   split at a
   .rename_i k
    split at a
    .rename_i B
     simp at a;subst a
     exact key hw (λ_=>by simpa using B)
    .simp at a
   .rename_i k
    simp at a;subst a
    exact key hw (λe=>absurd e k)
theorem fj {a b:Option SC} {c:SC} (h:orElse' a b=some c):a=some c∨b=some c:=by
 cases a with
 | none=>exact .inr h
 | some x=>exact .inl h
theorem Ma (hm:P.follows .mixedOrders=true) {k:List Nat} {id:Nat} {ops:Array Oper} {draw:Bool} {i:SC} {T:Env} {h:aC} {Q:Exit->Env->View->Prop} (c:BJ P n k ops.toList draw=some i) (hw:wS P i T h.view Q) :
  ∃ e j b,cZ P n (.region id ops draw) T h e j b/\(jg h b/\h.length<=b.length)/\Q e j b.view:=by
 unfold BJ at c
 rcases fj c with h1 | h1
 .exact sn hm h1 hw
 .clear c
  split at h1
  .rename_i l
   subst l
   rcases fj h1 with a | h1
   .split at a
    .exact Pn hm a hw
    .simp at a
   rcases fj h1 with a | h1
   .split at a
    .exact sn hm a hw
    .simp at a
   rcases fj h1 with d | d
   .exact Qd hm d hw
   .rcases fj d with f | f
    .exact sn hm f hw
    .rcases fj f with g | g
     .exact sn hm g hw
     .exact sn hm g hw
  .simp at h1
theorem DZ {e:Exit} {a b:Prop} (h:zU e a b):(e=.normal/\a)∨(e≠.normal/\b):=by
 cases e with
 | normal=>exact .inl ⟨rfl,h⟩
 | _=>exact .inr ⟨by simp,h⟩
def rN (P:Program) (n:Nat) (fz:List Nat) (c:Code):Prop:=∀ sc:SC,df P n fz c=some sc->∀ (T:Env) (h:aC) (Q:Exit->Env->View->Prop),wS P sc T h.view Q ->
 ∃ e T' h',cZ P n c T h e T' h'/\(jg h h'/\h.length<=h'.length)/\Q e T' h'.view
theorem El {b:List Nat} : rN P n b .skip:=by
 intro c a T h Q hw;simp[df] at a;subst a;exact⟨_,T,h,.skip,⟨.refl _,UF _⟩,hw⟩
theorem Gd {g:List Nat} {x y:Code} (i:rN P n g x) (j:rN P n g y):rN P n g (.seq x y):=by
 intro u c T h Q hw
 simp only[df] at c
 split at c
 .rename_i a b h1 q
  simp at c;subst c
  simp only[wS] at hw
  obtain⟨e,o,d,p,st1,f⟩:=i a h1 T h _ hw
  rcases DZ f with ⟨rfl,f⟩ | ⟨k,f⟩
  .obtain⟨r,s,l,t,st2,m⟩:=j b q o d _ f
   exact⟨r,s,l,p.seq t,⟨st1.1.trans st2.1 st1.2,Vl st1.2 st2.2⟩,m⟩
  .exact⟨e,o,d,p.JR k,st1,f⟩
 .simp at c
theorem oK {b:Fz} {ops:List Oper} {draw quiet:Bool} {a:SC} (h:rE P n b ops draw quiet=some a) (l:Nat):nK a l=none:=by
 unfold rE at h
 repeat' (first | (simp only[Uw] at h;subst h;rfl)|(split at h)|(simp at h;done))
theorem Ky {b:Fz} {ops:List Oper} {a:SC} (h:BS P n b ops=some a) (l:Nat):nK a l=none:=by
 unfold BS at h
 repeat' (first | (simp only[UD] at h;obtain⟨_,_,rfl⟩:=h;rfl)|(split at h)|(simp at h;done))
theorem Ln {b:Fz} {ops:List Oper} {a:SC} (h:Ck P n b ops=some a) (l:Nat):nK a l=none:=by
 unfold Ck at h
 repeat' (first | (simp only[UD] at h;obtain⟨_,_,rfl⟩:=h;rfl)|(split at h)|(simp at h;done))
theorem KX {f:List Nat} {ops:List Oper} {draw:Bool} {e:SC} (h:BJ P n f ops draw=some e) (l:Nat):nK e l=none:=by
 unfold BJ at h
 rcases fj h with h1 | h1
 .exact oK h1 l
 .split at h1
  .rcases fj h1 with a | h1
   .split at a
    .exact Ln a l
    .simp at a
   rcases fj h1 with a | h1
   .split at a
    .exact oK a l
    .simp at a
   rcases fj h1 with b | b
   .exact Ky b l
   .rcases fj b with c | c
    .exact oK c l
    .rcases fj c with d | d
     .exact oK d l
     .exact oK d l
  .simp at h1
theorem NG {j:List Nat} : ∀ (c:Code) (f:SC),df P n j c=some f->∀ l,match findLabel c l with
  | some rest=>∃ r,nK f l=some r/\df P n j rest=some r
  | none=>nK f l=none:=by
 intro c
 induction c with
 | seq x y h i =>
  intro f d l
  simp only[df] at d
  split at d
  .rename_i a b h1 k
   simp at d;subst d
   have g:=h a h1 l
   have p:=i b k l
   simp only[findLabel,nK]
   cases m:findLabel x l with
   | some rx =>
    rw[m] at g
    obtain⟨r,q,s⟩:=g
    exact⟨.seq r b,by rw[q],by simp only[df,s,k]⟩
   | none =>
    rw[m] at g
    simp only at g ⊢
    rw[g]
    exact p
  .simp at d
 | label o =>
  intro f d l
  simp[df] at d;subst d
  simp only[findLabel,nK]
  by_cases e:(o == l)=true
  .rw[Uz e];exact⟨.skip,by rw[Uz e],by simp[df]⟩
  .rw[Ux e];simp only;rw[Ux e]
 | region id ops draw=>intro f d l;simp only[df] at d;simp only[findLabel];exact KX d l
 | cond x y z _ _ =>
  intro f d l
  simp only[df] at d
  split at d
  .simp at d;subst d;rfl
  .simp at d
 | block id c _=>intro f d l;simp only[df,UD] at d;obtain⟨_,_,rfl⟩:=d;rfl
 | loop c _=>intro f d l;simp only[df,UD] at d;obtain⟨_,_,rfl⟩:=d;rfl
 | scope c _ =>
  intro f d l
  simp only[df] at d
  split at d
  .split at d
   .simp only[UD] at d;obtain⟨_,_,rfl⟩:=d;rfl
   .simp at d
  .simp at d
 | skip=>intro f d l;simp[df] at d;subst d;rfl
 | exit id=>intro f d l;simp[df] at d;subst d;rfl
 | ret=>intro f d l;simp[df] at d;subst d;rfl
 | goto o=>intro f d l;simp[df] at d;subst d;rfl
 | _=>intro f d;simp[df] at d
theorem LI {v:List Nat} {c:Code} (F:rN P n v c) (hr:∀ l rest,findLabel c l=some rest->rN P n v rest):rN P n v (.scope c):=by
 intro J d T h Q hw
 simp only[df] at d
 split at d
 .rename_i a h1
  split at d
  .rename_i l L
   simp only[UD] at d
   obtain⟨r,w,rfl⟩:=d
   have j:=NG c a h1 l
   cases m:findLabel c l with
   | none=>rw[m] at j;simp only at j;rw[j] at w;simp at w
   | some rest =>
    rw[m] at j
    obtain⟨M,t,o⟩:=j
    rw[w] at t
    have t:=Wl t
    subst t
    simp only[wS] at hw
    obtain⟨I,K,x,y⟩:=hw
    have go:∀ k T (h:aC),I k T h.view->∃ e E u,rB P n c rest T h e E u/\(jg h u/\h.length<=u.length)/\Q e E u.view:=by
     intro k
     induction k using Nat.strongRecOn with
     | ind k z =>
      intro T h G
      obtain⟨e,p,b,q,st1,s⟩:=hr l rest m r o T h _ (y k T h.view G)
      cases e with
      | goto H =>
       obtain⟨rfl,A,B,f⟩:=s
       obtain⟨o,C,g,D,st2,i⟩:=z A B p b f
       exact⟨o,C,g,rB.jump q m D,⟨st1.1.trans st2.1 st1.2,Vl st1.2 st2.2⟩,i⟩
      | _=>exact⟨_,p,b,.out q rfl,st1,s⟩
    obtain⟨e,p,b,q,st1,s⟩:=F a h1 T h _ x
    cases e with
    | goto H =>
     obtain⟨rfl,A,_,f⟩:=s
     obtain⟨o,C,g,D,st2,i⟩:=go A p b f
     exact⟨o,C,g,.scope (rB.jump q m D),⟨st1.1.trans st2.1 st1.2,Vl st1.2 st2.2⟩,i⟩
    | _=>exact⟨_,p,b,.scope (.out q rfl),st1,s⟩
  .simp at d
 .simp at d
theorem P5 (hm:P.follows .mixedOrders=true) {E:List Nat} : ∀ c:Code,rN P n E c/\∀ l rest,findLabel c l=some rest->rN P n E rest:=by
 intro c
 induction c with
 | skip=>exact⟨El,λl rest h=>by simp[findLabel] at h⟩
 | region id ops draw=>exact⟨λp d T h Q hw=>Ma hm d hw,λl rest h=>by simp[findLabel] at h⟩
 | seq x y o g =>
  refine⟨Gd o.1 g.1,λl rest h=>?_⟩
  simp only[findLabel] at h
  split at h
  .rename_i r hr
   simp only[Uw] at h;subst h
   exact Gd (o.2 _ _ hr) g.1
  .exact g.2 _ _ h
 | cond c x y o g =>
  refine⟨?_,λl rest h=>by simp[findLabel] at h⟩
  intro p d T h Q hw
  simp only[df] at d
  split at d
  .rename_i a b h1 H
   simp at d;subst d
   simp only[wS] at hw
   split at hw
   .rename_i t u
    have F:tx (SX.of c) t T=T:=by
     unfold tx
     split
     .rename_i k hk
      rw[hk] at u
      exact Ai u
     .rfl
    rw[SX.cL] at u
    cases t with
    | true =>
     have:=hw.1 rfl
     rw[F] at this
     obtain⟨e,j,f,m,st,i⟩:=o.1 a h1 T h Q this
     exact⟨e,j,f,.cond u m,st,i⟩
    | false =>
     have:=hw.2 rfl
     rw[F] at this
     obtain⟨e,j,f,m,st,i⟩:=g.1 b H T h Q this
     exact⟨e,j,f,.cond u m,st,i⟩
   .exact hw.elim
  .simp at d
 | block id c s =>
  refine⟨?_,λl rest h=>by simp[findLabel] at h⟩
  intro p d T h Q hw
  simp only[df,UD] at d
  obtain⟨a,h1,rfl⟩:=d
  simp only[wS] at hw
  obtain⟨e,j,f,m,st,i⟩:=s.1 a h1 T h _ hw
  exact⟨_,j,f,m.block,st,i⟩
 | loop c s =>
  refine⟨?_,λl rest h=>by simp[findLabel] at h⟩
  intro p d T h Q hw
  simp only[df,UD] at d
  obtain⟨a,h1,rfl⟩:=d
  simp only[wS] at hw
  obtain⟨I,⟨k,hk⟩,q⟩:=hw
  have go:∀ k T (h:aC),I k T h.view->∃ e j f,pZ P n c T h e j f/\(jg h f/\h.length<=f.length)/\Q e j f.view:=by
   intro k
   induction k using Nat.strongRecOn with
   | ind k w =>
    intro T h J
    obtain⟨e,G,v,m,st1,i⟩:=s.1 a h1 T h _ (q k T h.view J)
    rcases DZ i with ⟨rfl,K,z,A⟩ | ⟨B,i⟩
    .obtain⟨L,M,C,N,st2,D⟩:=w K z G v A
     exact⟨L,M,C,.step m N,⟨st1.1.trans st2.1 st1.2,Vl st1.2 st2.2⟩,D⟩
    .exact⟨e,G,v,.out m B,st1,i⟩
  obtain⟨e,j,f,m,st,i⟩:=go k T h hk
  exact⟨e,j,f,.loop m,st,i⟩
 | exit id=>exact⟨λp d T h Q hw=>by simp[df] at d;subst d;exact⟨_,T,h,.exit,⟨.refl _,UF _⟩,hw⟩,λl rest h=>by simp[findLabel] at h⟩
 | ret=>exact⟨λp d T h Q hw=>by simp[df] at d;subst d;exact⟨_,T,h,.ret,⟨.refl _,UF _⟩,hw⟩,λl rest h=>by simp[findLabel] at h⟩
 | label O=>exact⟨λp d T h Q hw=>by simp[df] at d;subst d;exact⟨_,T,h,.label,⟨.refl _,UF _⟩,hw⟩,λl rest h=>by
   simp only[findLabel] at h
   split at h
   .simp only[Uw] at h;subst h;exact El
   .simp at h⟩
 | goto O=>exact⟨λp d T h Q hw=>by simp[df] at d;subst d;exact⟨_,T,h,.goto,⟨.refl _,UF _⟩,hw⟩,λl rest h=>by simp[findLabel] at h⟩
 | scope c s=>exact⟨LI s.1 s.2,λl rest h=>by simp[findLabel] at h⟩
 | _=>exact⟨λp d=>by simp[df] at d,λl rest h=>by simp[findLabel] at h⟩
theorem SV (hm:P.follows .mixedOrders=true) {f:List Nat} (c:Code) (b:SC) (g:df P n f c=some b) (T:Env) (h:aC) (Q:Exit->Env->View->Prop) (hw:wS P b T h.view Q) :
 ∃ e d a,cZ P n c T h e d a/\(jg h a/\h.length<=a.length)/\Q e d a.view:=(P5 hm c).1 b g T h Q hw
theorem S5 {T:Env} {h:aC} {r:ResultVar} {l:List SR} {rest:List ResultVar} (b:fI P (r :: rest)=some l):∃ s c,l=s :: c/\fI P rest=some c/\∀ K:V->Prop,wR T h.view s K->∃ v,sK P T h r=some v/\K v:=by
 cases r with
 | tmp t =>
  simp only[fI,UD] at b
  obtain⟨c,h1,rfl⟩:=b
  exact⟨.tmp t,c,rfl,h1,λK hk=>⟨_,rfl,hk⟩⟩
 | cell a t =>
  simp only[fI] at b
  split at b
  .rename_i k c h1 m
   simp at b;subst b
   refine⟨.cell a k,c,rfl,m,λK hk=>?_⟩
   simp only[wR] at hk
   simp only[sK,mw,wj h1]
   split at hk
   .rename_i id i j d
    split at hk
    .rename_i es hH
     obtain⟨f,hk⟩:=hk
     obtain⟨v,g,hk⟩:=pE hk
     exact⟨v,by rw[d];simp only[hH];rw[Uz f,g];rfl,hk⟩
    .exact hk.elim
   .rename_i e j d
    obtain⟨v,g,hk⟩:=pE hk
    exact⟨v,by rw[d];simp only;rw[g];rfl,hk⟩
   .exact hk.elim
  .simp at b
theorem Ox {T:Env} {h:aC} {K:List V->Prop} : ∀ (rs:List ResultVar) (l:List SR) (acc:List V),fI P rs=some l->Bb T h.view l acc K->∃ vs,lW P T h rs=some vs/\K (acc ++ vs)
 | [],l,acc,a,hw=>by simp[fI] at a;subst a;exact⟨[],rfl,by simpa [Bb] using hw⟩
 | r :: rest,l,acc,a,hw=>by
  obtain⟨s,c,rfl,h1,d⟩:=S5 (T:=T) (h:=h) a
  simp only[Bb] at hw
  obtain⟨v,e,hk⟩:=d _ hw
  obtain⟨vs,b,hk⟩:=Ox rest c (acc ++ [v]) h1 hk
  exact⟨v :: vs,by simp[lW,e,b],by simpa using hk⟩
def wF (P:Program) (F:SF) (vs:List V) (H:View) (K:V->View->Prop):Prop :=
 vs.length<=F.n/\wS P F.code (lx vs) H λe T' H'=>(e=.ret∨e=.normal)/\Bb T' H' F.res [] λl=>K (wg l) H'
theorem av.of (hm:P.follows .mixedOrders=true) {f:FuncId} {j:List Nat} {F:SF} (b:aH P f j=some F) {vs:List V} {H:View} {K:V->View->Prop} (hw:wF P F vs H K):av P f vs H K:=by
 unfold aH at b
 split at b
 .rename_i fn g
  split at b
  .rename_i c k
   split at b
   .rename_i m rs h1 n o
    simp at b;subst b
    refine⟨o,?_⟩
    rintro h rfl
    obtain⟨e,r,p,q,st,he,hr⟩:=SV hm c m h1 _ h _ hw.2
    obtain⟨d,i,hk⟩:=Ox _ _ [] n hr
    refine⟨wg d,p,bK.Ja g k hw.1 q he ?_,st.1,by simpa using hk⟩
    unfold KJ
    rw[i]
    cases d with
    | nil=>rfl
    | cons a l=>cases l <;> rfl
   .simp at b
  .simp at b
 .simp at b
theorem av.mono {f:FuncId} {vs:List V} {H:View} {K c:V->View->Prop} (h:av P f vs H K) (hk:∀ r H',K r H'->c r H'):av P f vs H c :=
 ⟨h.1,λd e=>let ⟨r,g,a,s,b⟩:=h.2 d e; ⟨r,g,a,s,hk _ _ b⟩⟩
theorem az.LK {f:FuncId} {vs:List V} {H:View} {t:V} {K:V->View->Prop} (h:az P f vs t) (a:dE P f=true) (hk:K t H):B2 P f vs H K :=
 ⟨a,λb e=>⟨t,b,bK.gh h b,λ_ _=>rfl,e ▸ hk⟩⟩
theorem av.LK {f:FuncId} {vs:List V} {H:View} {K:V->View->Prop} (h:av P f vs H λr H'=>(∀ id,H id≠.dead->H' id=H id)/\K r H'):B2 P f vs H K :=
 ⟨h.1,λc e=>by
  obtain⟨r,g,i,st,d,hk⟩:=h.2 c e
  refine⟨r,g,i,λid a=>?_,hk⟩
  by_cases b:c.view id=.dead
  .rw[b];exact st id a b
  .rw[<-e] at d;exact d id b⟩
end
inductive cG {α:Type} (x:α):Type where
 | mk
def fG (s:ByteArray):List Int:=s.data.toList.map λb=>(b.toNat:Int)
theorem eR (s:ByteArray):s.size=(fG s).length:=by rw[fG,UB,bsize]
def aV (P:Program) (c:SC) (T:Env) (H:View) (Q:Exit->Env->View->Prop) (_:cG (T,H,Q)):Prop:=wS P (.loop c) T H Q
def Sg (P:Program) (l:Nat) (c r:SC) (T:Env) (H:View) (Q:Exit->Env->View->Prop) (_:cG (T,H,Q)):Prop:=wS P (.scope l c r) T H Q
def aw (P:Program) (quiet:Bool) (f:FuncId) (vs:List V) (H:View) (K:V->View->Prop) (_:cG (H,K)):Prop :=
 if quiet then B2 P f vs H K else av P f vs H K
def Bi {α:Type} (v:α) (F:α->Prop) (_:cG F):Prop:=F v
def dZ (v:V) (F:V->Prop) (_:cG F):Prop:=F v
def Hd (o:dB) (F:dB->Prop) (_:cG F):Prop:=F o
def qV {α:Type} (o:Option α) (F:Option α->Prop) (_:cG F):Prop:=F o
def ai (b:Bool) (A B:Prop) (_:cG (A,B)):Prop:=(b=true->A)/\(b=false->B)
theorem Ti {α:Type} (v:α) (F:α->Prop) (w:cG F):Bi v F w=F v:=propext Iff.rfl
section
variable (F:V->Prop) (w:cG F)
theorem I6 (v:Value):dZ (.val v) F w=F (.val v):=propext Iff.rfl
theorem Iy (k:Nat):dZ (.emp k) F w=F (.emp k):=propext Iff.rfl
theorem Jk:dZ .dS F w=F .dS:=propext Iff.rfl
theorem It (es:List (List V)):dZ (.aQ es) F w=F (.aQ es):=propext Iff.rfl
theorem NF (a b c d:Nat):dZ (.sl a b c d) F w=F (.sl a b c d):=propext Iff.rfl
theorem Jg (a b c:Nat):dZ (.ptr a b c) F w=F (.ptr a b c):=propext Iff.rfl
theorem GG (e:List V) (j:Nat):dZ (.aJ e j) F w=F (.aJ e j):=propext Iff.rfl
theorem LS (a:Nat):dZ (.mp a) F w=F (.mp a):=propext Iff.rfl
theorem MO (f:FuncId) (a b:List V):dZ (.fn f a b) F w=F (.fn f a b):=propext Iff.rfl
theorem Kb (cs:List V):dZ (.agg cs) F w=F (.agg cs):=propext Iff.rfl
theorem Kc (cs:List V):dZ (.aY cs) F w=F (.aY cs):=propext Iff.rfl
end
theorem IQ (F:dB->Prop) (w:cG F) (k:Nat) (es:List (List V)):Hd (.arr k es) F w=F (.arr k es):=propext Iff.rfl
theorem I4 (F:dB->Prop) (w:cG F) (es:List (V × V × Nat)) (k:Nat):Hd (.map es k) F w=F (.map es k):=propext Iff.rfl
theorem Gz {α:Type} (F:Option α->Prop) (w:cG F) (x:α):qV (some x) F w=F (some x):=propext Iff.rfl
theorem Gp (A B:Prop) (w:cG (A,B)):ai true A B w=A:=by simp[ai]
theorem D2 (A B:Prop) (w:cG (A,B)):ai false A B w=B:=by simp[ai]
theorem Ji (b:Bool) (A B:Prop) (w:cG (A,B)):ai (!b) A B w=ai b B A .mk:=by cases b <;> simp[ai]
theorem ai.split {b:Bool} {A B:Prop} {w:cG (A,B)} (h1:b=true->A) (a:b=false->B):ai b A B w:=⟨h1,a⟩
theorem ai.dec {p:Prop} [Decidable p] {A B:Prop} {w:cG (A,B)} (h1:p->A) (a:¬ p->B):ai (decide p) A B w:=⟨λh=>h1 (by simpa using h),λh=>a (by simpa using h)⟩
theorem ai.eq {a b:Int} {A B:Prop} {w:cG (A,B)} (h1:a=b->A) (c:¬ a=b->B):ai (a == b) A B w:=⟨λh=>h1 (by simpa using h),λh=>c (by simpa using h)⟩
theorem ai.ne {a b:Int} {A B:Prop} {w:cG (A,B)} (h1:¬ a=b->A) (c:a=b->B):ai (a != b) A B w:=⟨λh=>h1 (by simpa using h),λh=>c (by simpa using h)⟩
section
variable (P:Program) (T:Env) (H:View)
theorem QF (F:SF) (vs:List V) (K:V->View->Prop):wF P F vs H K=(vs.length<=F.n/\wS P F.code (lx vs) H λe a H'=>(e=.ret∨e=.normal)/\Bb a H' F.res [] λl=>Bi (wg l) (λv=>K v H') .mk):=propext Iff.rfl
theorem IH (Q:Exit->Env->View->Prop):wS P .skip T H Q=Q .normal T H:=propext Iff.rfl
theorem ED (q:Bool) (gs:List SG) (Q:Exit->Env->View->Prop):wS P (.region q gs) T H Q=xh P q gs T H (Q .normal):=propext Iff.rfl
theorem BE (a:List (Nat × Nat)) (gs:List SG) (Q:Exit->Env->View->Prop):wS P (.vo a gs) T H Q=xh P false gs T H (λb H'=>xN a b (Q .normal b H')):=propext Iff.rfl
theorem B9 (a:Nat × Nat × Nat) (b:List (Nat × Nat)) (gs:List SG) (Q:Exit->Env->View->Prop):wS P (.y6 a b gs) T H Q=xh P false gs T H (λc H'=>Hw P a.1 (c a.2.1) (c a.2.2) H/\xN b c (Q .normal c H')):=propext Iff.rfl
theorem I8 (K:Prop):xN [] T K=K:=propext Iff.rfl
theorem F1 (a b:Nat) (l:List (Nat × Nat)) (K:Prop):xN ((a,b) :: l) T K=(iE (T a) (T b)/\xN l T K):=propext Iff.rfl
theorem Jc (i j k a b c:Nat):iE (.ptr i j k) (.ptr a b c)=(i≠a):=propext Iff.rfl
theorem IW (i j k a b c d:Nat):iE (.ptr i j k) (.sl a b c d)=(i≠a):=propext Iff.rfl
theorem HC (i j k e:Nat):iE (.ptr i j k) (.emp e)=True:=id rfl
theorem Fu (i j k:Nat):iE (.ptr i j k) .dS=True:=id rfl
theorem Ha (i j k:Nat) (es:List (List V)):iE (.ptr i j k) (.aQ es)=True:=id rfl
theorem Jd (a b c d e f g h:Nat):iE (.sl a b c d) (.sl e f g h)=(a≠e):=propext Iff.rfl
theorem NS (a b c d e:Nat):iE (.sl a b c d) (.emp e)=True:=id rfl
theorem MY (a b c d:Nat):iE (.sl a b c d) .dS=True:=id rfl
theorem Ou (a b c d:Nat) (es:List (List V)):iE (.sl a b c d) (.aQ es)=True:=id rfl
theorem IK (k:Nat) (v:V):iE (.emp k) v=True:=by cases v <;> rfl
theorem Jx (v:V):iE .dS v=True:=by cases v <;> rfl
theorem J6 (es:List (List V)) (v:V):iE (.aQ es) v=True:=by cases v <;> rfl
theorem FI (e:List V) (j:Nat) (v:V):iE (.aJ e j) v=True:=by cases v <;> rfl
theorem Ol (x y:SC) (Q:Exit->Env->View->Prop):wS P (.seq x y) T H Q=wS P x T H λe a H'=>zU e (wS P y a H' Q) (Q e a H'):=propext Iff.rfl
theorem Kg (c:SX) (x y:SC) (Q:Exit->Env->View->Prop):wS P (.cond c x y) T H Q=dZ (c.at T) (λv=>match v with
 | .val (.bool b)=>ai b (wS P x (tx c true T) H Q) (wS P y (tx c false T) H Q) .mk
 | _=>False) .mk:=propext Iff.rfl
theorem FH (id:Nat) (c:SC) (Q:Exit->Env->View->Prop):wS P (.block id c) T H Q=wS P c T H λe=>Q (pX id e):=propext Iff.rfl
theorem J1 (id:Nat) (Q:Exit->Env->View->Prop):wS P (.exit id) T H Q=Q (.exit id) T H:=propext Iff.rfl
theorem Nb (Q:Exit->Env->View->Prop):wS P .ret T H Q=Q .ret T H:=propext Iff.rfl
theorem FC (l:Nat) (c r:SC) (Q:Exit->Env->View->Prop):wS P (.scope l c r) T H Q=Sg P l c r T H Q .mk:=propext Iff.rfl
theorem GZ (l:Nat) (Q:Exit->Env->View->Prop):wS P (.label l) T H Q=Q .normal T H:=propext Iff.rfl
theorem JY (l:Nat) (Q:Exit->Env->View->Prop):wS P (.goto l) T H Q=Q (.goto l) T H:=propext Iff.rfl
theorem BT (l c:Nat) (a b:Prop):zb l (.goto c) a b=(c=l/\a):=propext Iff.rfl
theorem yB (l:Nat) (a b:Prop):zb l .normal a b=b:=propext Iff.rfl
theorem Cx (l i:Nat) (a b:Prop):zb l (.exit i) a b=b:=propext Iff.rfl
theorem EP (l:Nat) (a b:Prop):zb l .ret a b=b:=propext Iff.rfl
theorem Hp (l:Nat) (a b:Prop):zU (.goto l) a b=b:=propext Iff.rfl
theorem Cw (i l:Nat):pX i (.goto l)=.goto l:=id rfl
theorem Ki (c:SC) (Q:Exit->Env->View->Prop):wS P (.loop c) T H Q=aV P c T H Q .mk:=propext Iff.rfl
theorem JS (q:Bool) (K:Env->View->Prop):xh P q [] T H K=K T H:=propext Iff.rfl
theorem FV (q:Bool) (g:SG) (r:List SG) (K:Env->View->Prop):xh P q (g :: r) T H K=wG P q g T H λa H'=>xh P q r a H' K:=propext Iff.rfl
theorem I9 (q:Bool) (ops:List (Option Nat × SB)) (K:Env->View->Prop):wG P q ⟨none,ops⟩ T H K=yK P q ops T H K:=propext Iff.rfl
theorem Jz (q:Bool) (d:Nat) (ops:List (Option Nat × SB)) (K:Env->View->Prop):wG P q ⟨some (d,true),ops⟩ T H K=dZ (T d) (λv=>match v with
 | .val (.bool b)=>ai b (yK P q ops (T.put (some d) (.val (.bool true))) H K) (K (iC ops (T.put (some d) (.val (.bool false)))) H) .mk
 | .aY []=>K (iC ops T) H
 | _=>False) .mk:=propext Iff.rfl
theorem GX (q:Bool) (d:Nat) (ops:List (Option Nat × SB)) (K:Env->View->Prop):wG P q ⟨some (d,false),ops⟩ T H K=dZ (T d) (λv=>match v with
  | .val (.bool b)=>ai b (K (iC ops (T.put (some d) (.val (.bool true)))) H) (yK P q ops (T.put (some d) (.val (.bool false))) H K) .mk
  | .aY []=>K (iC ops T) H
  | _=>False) .mk:=by
 simp only[wG,dZ]
 generalize T d=v
 cases v with
 | val x=>cases x <;> simp[ai,and_comm]
 | aY l=>cases l <;> simp
 | _=>simp
theorem zZ:iC [] T=T:=id rfl
theorem xZ (d:Option Nat) (b:SB) (r:List (Option Nat × SB)):iC ((d,b) :: r) T=iC r (T.put d (.aY [])):=id rfl
theorem IF (q:Bool) (K:Env->View->Prop):yK P q [] T H K=K T H:=propext Iff.rfl
theorem F9 (q:Bool) (d:Option Nat) (b:SB) (r:List (Option Nat × SB)) (K:Env->View->Prop):yK P q ((d,b) :: r) T H K=wB P q b T H λv H'=>Bi v (λv'=>yK P q r (T.put d v') H' K) .mk:=propext Iff.rfl
theorem Qr (q:Bool) (s:SI) (K:V->View->Prop):wB P q (.op s) T H K=wI P s T H K:=propext Iff.rfl
theorem Jn (q:Bool) (f:SX) (args:List SX) (K:V->View->Prop):wB P q (.call f args) T H K=dZ (f.at T) (λv=>match v with
 | .fn g first cap=>aw P q g (first ++ args.map (SX.at T) ++ cap) H K .mk
 | _=>False) .mk:=propext Iff.rfl
theorem FO (q:Bool) (f:SX) (args:List SX) (K:V->View->Prop):wB P q (.oG f args) T H K=dZ (f.at T) (λv=>match v with
 | .fn g first cap=>aw P true g (first ++ args.map (SX.at T) ++ cap) H K .mk
 | _=>False) .mk:=propext Iff.rfl
theorem Ml (x:SX) (K:V->View->Prop):wI P (.eU x) T H K=K (x.at T) H:=propext Iff.rfl
theorem JD (c a b:SX) (K:V->View->Prop):wI P (.pick c a b) T H K=dZ (c.at T) (λv=>match v with
  | .val (.bool t)=>ai t (K (a.at T) H) (K (b.at T) H) .mk
  | _=>False) .mk:=by
 simp only[wI,dZ]
 generalize c.at T=v
 cases v with
 | val x =>
  cases x with
  | bool t=>cases t <;> simp[ai]
  | _=>simp
 | _=>simp
theorem Mm (x:SX) (K:V->View->Prop):wI P (.box x) T H K=dZ (x.at T) (λv=>v.cells.all aF=true/\Bi v.cells (λcs=>∀ n,H n=.dead->K (.ptr n 0 0) (H.set n (.arr cs.length [cs]))) .mk) .mk:=propext Iff.rfl
theorem Mn (x:SX) (K:V->View->Prop):wI P (.js x) T H K=dZ (x.at T) (λv=>v.cells.all aF=true/\Bi v.cells (λcs=>K (.aJ cs 0) H) .mk) .mk:=propext Iff.rfl
theorem FE (z:List V) (K:V->View->Prop):wI P (.alloc z) T H K=(z.all aF=true/\∀ n,H n=.dead->K (.ptr n 0 0) (H.set n (.arr z.length [z]))):=propext Iff.rfl
theorem II (sz:Option Nat) (a:SX) (K:V->View->Prop):wI P (.load sz a) T H K=dZ (a.at T) (λv=>match v with
 | .ptr id i j=>Hd (H id) (λo=>match o with
  | .arr _ es=>i < es.length/\Bi (es.getD i []) (λe=>jU sz e j λv=>K v H) .mk
  | _=>False) .mk
 | .aJ e j=>jU sz e j λv=>K v H
 | _=>False) .mk:=propext Iff.rfl
theorem Gm (sz:Option Nat) (a:SX) (K:V->View->Prop):wI P (.zk sz a) T H K=dZ (a.at T) (λv=>match v with
 | .aJ e j=>jU sz e j λv=>K v H
 | _=>False) .mk:=propext Iff.rfl
theorem GF (sz:Nat) (a x:SX) (K:V->View->Prop):wI P (.store sz a x) T H K=dZ (a.at T) (λv=>match v with
 | .ptr id i j=>Hd (H id) (λo=>match o with
  | .arr esz es=>Bi (x.at T).cells (λcs=>(i < es.length/\cs.length=sz/\j+cs.length<=esz/\cs.all aF=true) /\
   Bi (es.set i (fq (es.getD i []) j cs)) (λes'=>K .any (H.set id (.arr esz es'))) .mk) .mk
  | _=>False) .mk
 | _=>False) .mk:=propext Iff.rfl
theorem JA (x:SX) (K:V->View->Prop):wI P (.Aj x) T H K=dZ (x.at T) (λv=>match v with
 | .ptr id i j=>K (.ptr id i j) H
 | .aJ e j=>K (.aJ e j) H
 | .fn f a b=>K (.fn f a b) H
 | _=>False) .mk:=propext Iff.rfl
theorem IZ (off:Nat) (x:SX) (K:V->View->Prop):wI P (.addr off x) T H K=dZ (x.at T) (λv=>match v with
 | .ptr id i j=>K (.ptr id i (j+off)) H
 | .aJ e j=>K (.aJ e (j+off)) H
 | _=>False) .mk:=propext Iff.rfl
theorem Hu (off:Nat) (sz:Option Nat) (x:SX) (K:V->View->Prop):wI P (.field off sz x) T H K=dZ (x.at T) (λv=>match v with
 | .agg cs=>jU sz cs off λv=>K v H
 | _=>False) .mk:=propext Iff.rfl
theorem Mw (sz:Nat) (x i:SX) (K:V->View->Prop):wI P (.idx sz x i) T H K=qV (asNat (i.at T)) (λo=>match o with
  | none=>False
  | some q=>dZ (x.at T) (λv=>match v with
   | .sl id off len esz=>(q < len/\esz=sz)/\K (.ptr id (off+q) 0) H
   | .aQ es=>qV es[q]? (λo=>match o with
    | some e=>e.length=sz/\K (.aJ e 0) H
    | none=>False) .mk
   | _=>False) .mk) .mk:=by
 simp only[wI,qV,dZ]
 cases asNat (i.at T) with
 | none=>rfl
 | some q =>
  simp only
  cases x.at T with
  | aQ es =>
   simp only
   cases h:es[q]? with
   | none=>simp
   | some e=>simp
  | _=>rfl
theorem JH (f:FuncId) (first cap:List SX) (K:V->View->Prop):wI P (.uo f first cap) T H K=K (.fn f (first.map (SX.at T)) (cap.map (SX.at T))) H:=propext Iff.rfl
theorem GD (K:V->View->Prop):wI P .qb T H K=(∀ n,H n=.dead->K (.mp n) (H.set n (.map [] 0))):=propext Iff.rfl
theorem MD (i:Nat) (x:SX) (K:V->View->Prop):wI P (.ext i x) T H K=dZ (x.at T) (λv=>match v with
 | .aY vs=>i < vs.length/\K (vs.getD i .any) H
 | _=>False) .mk:=propext Iff.rfl
theorem MS (x:SX) (K:V->View->Prop):wI P (.len x) T H K=qV (cd (x.at T)) (λo=>match o with
 | some n=>K (fO n) H
 | none=>False) .mk:=propext Iff.rfl
theorem IB (x:SX) (K:V->View->Prop):wI P (.pN x) T H K=dZ (x.at T) (λv=>match v with
 | .val (.string s)=>K (fO s.size) H
 | _=>False) .mk:=propext Iff.rfl
theorem Hy (op:BinOp) (x y:SX) (K:V->View->Prop):wI P (.arith op x y) T H K=dZ (x.at T) (λv=>dZ (y.at T) (λv'=>match v,v' with
 | .val (.int k a),.val (.int c b)=>k=c/\qV (gV op k a b) (λo=>match o with | some v=>K (.val v) H | none=>False) .mk
 | _,_=>False) .mk) .mk:=propext Iff.rfl
theorem QL (l:Bool) (x y:SX) (K:V->View->Prop):wI P (.sh l x y) T H K=dZ (x.at T) (λv=>dZ (y.at T) (λv'=>match v,v' with
 | .val (.int k a),.val (.int _ b)=>0<=b/\K (.val (.int k (K6 l k a b))) H
 | _,_=>False) .mk) .mk:=propext Iff.rfl
theorem MN (op:BinOp) (x y:SX) (K:V->View->Prop):wI P (.xg op x y) T H K=dZ (x.at T) (λv=>dZ (y.at T) (λv'=>match v,v' with
 | .val (.string a),.val (.string b)=>(match op with
  | .eql=>K (.val (.bool (iV a b))) H
  | .neq=>K (.val (.bool (!iV a b))) H
  | _=>False)
 | _,_=>False) .mk) .mk:=propext Iff.rfl
theorem Jl (x i:SX) (K:V->View->Prop):wI P (.im x i) T H K=dZ (x.at T) (λv=>qV (asNat (i.at T)) (λo=>match v,o with
  | .val (.string s),some q=>qV (fG s)[q]? (λo=>match o with
   | some c=>K (.val (.int .u8 c)) H
   | none=>False) .mk
  | _,_=>False) .mk) .mk:=by
 simp only[wI,qV,dZ]
 generalize x.at T=v
 generalize asNat (i.at T)=o
 cases v with
 | val u =>
  cases u with
  | string s =>
   cases o with
   | none=>rfl
   | some q =>
    simp only[fG,Uy]
    cases h:s.data.toList[q]? with
    | none=>simp
    | some e=>simp
  | _=>rfl
 | _=>rfl
theorem OC (x:SX) (K:V->View->Prop):wI P (.not x) T H K=dZ (x.at T) (λv=>match v with
 | .val (.bool t)=>K (.val (.bool (!t))) H
 | _=>False) .mk:=propext Iff.rfl
theorem MX (eq:Bool) (k:Nat) (x y:SX) (K:V->View->Prop):wI P (.nil eq k x y) T H K=qV (Am (eY k (x.at T)) (eY k (y.at T))) (λo=>match o with
 | some b=>K (.val (.bool (if eq=true then b else !b))) H
 | none=>False) .mk:=propext Iff.rfl
theorem JI (x y:SX) (K:V->View->Prop):wI P (.beq true x y) T H K=dZ (x.at T) (λv=>dZ (y.at T) (λv'=>match v,v' with
 | .val (.bool a),.val (.bool b)=>K (.val (.bool (a == b))) H
 | _,_=>False) .mk) .mk:=propext Iff.rfl
theorem Iv (x y:SX) (K:V->View->Prop):wI P (.beq false x y) T H K=dZ (x.at T) (λv=>dZ (y.at T) (λv'=>match v,v' with
 | .val (.bool a),.val (.bool b)=>K (.val (.bool (a != b))) H
 | _,_=>False) .mk) .mk:=propext Iff.rfl
theorem NL (x y:SX) (K:V->View->Prop):wI P (.mm true x y) T H K=dZ (x.at T) (λv=>dZ (y.at T) (λv'=>match v,v' with
 | .val (.int k a),.val (.int _ b)=>K (.val (.int k (if b > a then b else a))) H
 | _,_=>False) .mk) .mk:=propext Iff.rfl
theorem Nk (x y:SX) (K:V->View->Prop):wI P (.mm false x y) T H K=dZ (x.at T) (λv=>dZ (y.at T) (λv'=>match v,v' with
 | .val (.int k a),.val (.int _ b)=>K (.val (.int k (if b < a then b else a))) H
 | _,_=>False) .mk) .mk:=propext Iff.rfl
theorem Jv (k:IntKind) (x:SX) (K:V->View->Prop):wI P (.conv k x) T H K=dZ (x.at T) (λv=>match v with
 | .val (.int _ a)=>K (.val (.int k (k.wrap a))) H
 | _=>False) .mk:=propext Iff.rfl
theorem FK (n k:Nat) (o:dB):View.set H n o k=if k=n then o else H k:=id rfl
theorem GK (z:List V) (parts:List (Nat × Nat × SX)) (K:V->View->Prop):wI P (.build z parts) T H K=qV (lT z (parts.map λp=>(p.1,p.2.1,p.2.2.at T))) (λo=>match o with
 | some cs=>K (.agg cs) H
 | none=>False) .mk:=propext Iff.rfl
theorem DR (len sz:Nat) (z:List V) (parts:List (Nat × SX)) (K:V->View->Prop):wI P (.bP len sz z parts) T H K=qV (kZ sz (List.replicate len z) (parts.map λp=>(p.1,p.2.at T))) (λo=>match o with
 | some es=>∀ n,H n=.dead->K (.sl n 0 len sz) (H.set n (.arr sz es))
 | none=>False) .mk:=propext Iff.rfl
theorem Fv (sz:Nat) (x:SX) (lo hi:Option SX) (K:V->View->Prop):wI P (.slice sz x lo hi) T H K=qV (cJ sz (x.at T) (lo.map (SX.at T)) (hi.map (SX.at T))) (λo=>match o with
 | some (v,.none,_)=>K v H
 | _=>False) .mk:=propext Iff.rfl
theorem J9 (sz bytes:Nat) (z:List V) (l c:SX) (K:V->View->Prop):wI P (.make sz bytes z l c) T H K=qV (asNat (l.at T)) (λa=>qV (asNat (c.at T)) (λb=>match a,b with
 | some l,some c=>(l<=c/\c < aB/\bytes * c < aB)/\(c=0->K (.emp 2) H)/\(c≠0->∀ n,H n=.dead->K (.sl n 0 l sz) (H.set n (.arr sz (List.replicate l z))))
 | _,_=>False) .mk) .mk:=propext Iff.rfl
def mr (sz bytes:Nat) (x:V) (xs:List (List V)) (H:View) (K:V->View->Prop) (_:cG (H,K)):Prop:=if xs.isEmpty=true then (match x with
  | .emp k=>K (.emp k) H
  | .dS=>K .dS H
  | .aQ es=>K (.aQ es) H
  | .sl a b c d=>K (.sl a b c d) H
  | _=>False)
 else (xs.all λe=>e.length == sz && e.all aF)=true/\(match x with
  | .emp _=>(xs.length * bytes < aB/\xs.length < aB)/\∀ n,H n=.dead->K (.sl n 0 xs.length sz) (H.set n (.arr sz xs))
  | .sl id off len esz=>match H id with
   | .arr _ es=>(off+len<=es.length/\esz=sz/\(len+xs.length) * bytes < aB/\len+xs.length < aB) /\
    ∀ n,H n=.dead->K (.sl n 0 (len+xs.length) esz) ((H.set id .dead).set n (.arr esz ((es.drop off).take len ++ xs)))
   | _=>False
  | _=>False)
theorem Mx (sz bytes:Nat) (x y:SX) (K:V->View->Prop):wI P (.app sz bytes x y) T H K=qV (bC H (y.at T)) (λo=>match o with
 | some (xs,_)=>mr sz bytes (x.at T) xs H K .mk
 | none=>False) .mk:=propext Iff.rfl
theorem sZ (sz bytes k:Nat) (xs:List (List V)) (K:V->View->Prop) (w:cG (H,K)) (a:xs.isEmpty=false):mr sz bytes (.emp k) xs H K w=((xs.all λe=>e.length == sz && e.all aF)=true/\(xs.length * bytes < aB/\xs.length < aB)/\∀ n,H n=.dead->K (.sl n 0 xs.length sz) (H.set n (.arr sz xs))):=by
 unfold mr;rw[Ux (by rw[a];simp)]
theorem sO (sz bytes id off len esz:Nat) (xs:List (List V)) (K:V->View->Prop) (w:cG (H,K)) (a:xs.isEmpty=false):mr sz bytes (.sl id off len esz) xs H K w=((xs.all λe=>e.length == sz && e.all aF)=true/\Hd (H id) (λo=>match o with
  | .arr _ es=>(off+len<=es.length/\esz=sz/\(len+xs.length) * bytes < aB/\len+xs.length < aB) /\
   ∀ n,H n=.dead->K (.sl n 0 (len+xs.length) esz) ((H.set id .dead).set n (.arr esz ((es.drop off).take len ++ xs)))
  | _=>False) .mk):=by
 unfold mr Hd;rw[Ux (by rw[a];simp)]
theorem jO (id off len esz z:Nat) (es:List (List V)) (hH:H id=.arr z es) (a:off+(len+1)<=es.length):bC H (.sl id off (len+1) esz)=some ((es.drop off).take (len+1),[id]):=by
 simp only[bC,hH];rw[Uz a]
theorem mb (es:List (List V)):bC H (.aQ es)=some (es,[]):=id rfl
theorem tQ (k:Nat):bC H (.emp k)=some ([],[]):=id rfl
theorem JL (x:SX) (K:V->View->Prop):wI P (.CV x) T H K=dZ (x.at T) (λv=>match v with
 | .aQ es=>qV (kE es) (λo=>match o with
  | some l=>K (.val (.string ⟨l.toArray⟩)) H
  | none=>False) .mk
 | _=>False) .mk:=propext Iff.rfl
theorem Jq (x:SX) (K:V->View->Prop):wI P (.gg x) T H K=dZ (x.at T) (λv=>match v with
 | .val (.string s)=>K (.aQ (gD s)) H
 | _=>False) .mk:=propext Iff.rfl
def iW (P:Program) (op:Op) (ty:TypeId) (T:Env) (H:View) (K:V->View->Prop) (_:cG (T,H,K)):Prop:=wI P (.old op ty) T H K
theorem L9 (op:Op) (ty:TypeId) (K:V->View->Prop):wI P (.old op ty) T H K=iW P op ty T H K .mk:=propext Iff.rfl
theorem L8 (t:Nat):ev T (.tmp t)=T t:=id rfl
theorem Ho (v:Value):ev T (.const v)=fA v:=id rfl
theorem Mh (t:Nat):(SX.tmp t).at T=T t:=id rfl
theorem ME (v:V):(SX.val v).at T=v:=id rfl
theorem JJ (d t:Nat) (v:V):(T.put (some d) v) t=if t=d then v else T t:=id rfl
theorem FN (v:V):T.put none v=T:=id rfl
theorem GP (vs:List V) (t:Nat):lx vs t=vs.getD t .any:=id rfl
theorem Ca (e:List V) (j:Nat) (K:V->Prop):jU none e j K=(j < e.length/\K (e.getD j .any)):=propext Iff.rfl
theorem BX (n:Nat) (e:List V) (j:Nat) (K:V->Prop):jU (some n) e j K=(j+n<=e.length/\K (.agg ((e.drop j).take n))):=propext Iff.rfl
theorem B0 (a b:Prop):zU .normal a b=a:=propext Iff.rfl
theorem GM (i:Nat) (a b:Prop):zU (.exit i) a b=b:=propext Iff.rfl
theorem IL (a b:Prop):zU .ret a b=b:=propext Iff.rfl
theorem yM (i:Nat):pX i .normal=.normal:=id rfl
theorem DA (i:Nat):pX i .ret=.ret:=id rfl
theorem AW (i j:Nat):pX i (.exit j)=if j=i then .normal else .exit j:=by simp only[pX]
theorem JC (acc:List V) (K:List V->Prop):Bb T H [] acc K=K acc:=propext Iff.rfl
theorem HB (r:SR) (l:List SR) (acc:List V) (K:List V->Prop):Bb T H (r :: l) acc K=wR T H r λv=>Bb T H l (acc ++ [v]) K:=propext Iff.rfl
theorem M4 (t:Nat) (K:V->Prop):wR T H (.tmp t) K=K (T t):=propext Iff.rfl
theorem Jp (t:Nat) (sz:Option Nat) (K:V->Prop):wR T H (.cell t sz) K=dZ (T t) (λv=>match v with
 | .ptr id i j=>Hd (H id) (λo=>match o with
  | .arr _ es=>i < es.length/\Bi (es.getD i []) (λe=>jU sz e j K) .mk
  | _=>False) .mk
 | .aJ e j=>jU sz e j K
 | _=>False) .mk:=propext Iff.rfl
theorem Er (t:Nat) (b:Bool):tx (.tmp t) b T=T.put (some t) (.val (.bool b)):=id rfl
theorem DE (v:V) (b:Bool):tx (.val v) b T=T:=id rfl
theorem LW:(Exit.ret=Exit.ret∨Exit.ret=Exit.normal)=True:=by simp
theorem EH:(Exit.normal=Exit.ret∨Exit.normal=Exit.normal)=True:=by simp
end
section
variable {P:Program} {T:Env} {H:View}
theorem aV.intro {c:SC} {Q:Exit->Env->View->Prop} {v:cG (T,H,Q)} (I:Nat->Env->View->Prop) (k:Nat) (d:I k T H)
  (f:∀ k T H,I k T H->wS P c T H λe a H'=>zU e (∃ b,b < k/\I b a H') (Q e a H')):aV P c T H Q v:=by
 simp only[aV,wS]
 exact⟨I,⟨k,d⟩,f⟩
theorem aw.pure {q:Bool} {f:FuncId} {vs:List V} {K:V->View->Prop} {v:cG (H,K)} {t:V} (b:az P f vs t) (hk:K t H) (a:dE P f=true:=by kernel_rfl):aw P q f vs H K v:=by
 unfold aw
 cases q with
 | true=>exact b.LK a hk
 | false =>
  refine⟨a,?_⟩
  rintro h rfl
  exact⟨t,h,bK.gh b h,.refl _,hk⟩
theorem aw.dL {f:FuncId} {vs:List V} {K:V->View->Prop} {v:cG (H,K)} (a:av P f vs H K):aw P false f vs H K v:=a
theorem EF:aC.view []=λ_=>dB.dead:=by funext id;simp[aC.view]
theorem az.of {f:FuncId} {vs:List V} {t:V} (b:∀ v∈vs,Tree v) (h:av P f vs (λ_=>.dead) λr H'=>∀ a:aC,a.view=H'->Fr a r t):az P f vs t:=by
 obtain⟨r,a,c,_,d⟩:=h.2 [] EF
 exact az.wK b c (d a rfl)
theorem wrap64 {x:Int} (h1 : -9223372036854775808<=x) (d:x<=9223372036854775807):IntKind.wrap .i64 x=x:=by
 unfold IntKind.wrap
 have a:(2:Int) ^ IntKind.i64.bits=18446744073709551616:=by rfl
 have b:(2:Int) ^ (IntKind.i64.bits - 1)=9223372036854775808:=by rfl
 have c:IntKind.i64.signed=true:=by rfl
 simp only[a,b,c,Vt,UN]
 split <;> omega
theorem D9 {k:IntKind} {i:Int} (h:0<=i):asNat (.val (.int k i))=some i.toNat:=by simp[asNat,h]
end
theorem Eu (v:Value):V.cells (.val v)=[.val v]:=id rfl
theorem vg (v:Value):aF (.val v)=true:=id rfl
theorem DW (k:Nat):V.cells (.emp k)=[.emp k]:=id rfl
theorem zp (k:Nat):aF (.emp k)=true:=id rfl
theorem Em  : V.cells .dS=[.dS]:=id rfl
theorem ID  : aF .dS=true:=id rfl
theorem DS (es:List (List V)):V.cells (.aQ es)=[.aQ es]:=id rfl
theorem Ka (es:List (List V)):aF (.aQ es)=true:=id rfl
theorem GA (a b c d:Nat):V.cells (.sl a b c d)=[.sl a b c d]:=id rfl
theorem L5 (a b c d:Nat):aF (.sl a b c d)=true:=id rfl
theorem Eh (a b c:Nat):V.cells (.ptr a b c)=[.ptr a b c]:=id rfl
theorem Jh (a b c:Nat):aF (.ptr a b c)=true:=id rfl
theorem BK (e:List V) (j:Nat):V.cells (.aJ e j)=[.aJ e j]:=id rfl
theorem Hi (e:List V) (j:Nat):aF (.aJ e j)=true:=id rfl
theorem HJ (a:Nat):V.cells (.mp a)=[.mp a]:=id rfl
theorem N9 (a:Nat):aF (.mp a)=true:=id rfl
theorem HE (f:FuncId) (a b:List V):V.cells (.fn f a b)=[.fn f a b]:=id rfl
theorem Nc (f:FuncId) (a b:List V):aF (.fn f a b)=true:=id rfl
theorem Dw (cs:List V):V.cells (.agg cs)=cs:=id rfl
theorem Jw (k:Nat):cd (.emp k)=some 0:=id rfl
theorem Jt:cd .dS=some 0:=id rfl
theorem I0 (es:List (List V)):cd (.aQ es)=some es.length:=id rfl
theorem LY (a b c d:Nat):cd (.sl a b c d)=some c:=id rfl
abbrev Td {p:Prop} (_:p):Prop:=p
theorem QO (P:Program) (T:Env) (H:View) (a:SC) (Q:Exit->Env->View->Prop):wS P (ae [a]) T H Q=wS P a T H Q:=by rw[ae]
theorem Qz (P:Program) (T:Env) (H:View) (a b:SC) (l:List SC) (Q:Exit->Env->View->Prop):wS P (ae (a :: b :: l)) T H Q=wS P (.seq a (ae (b :: l))) T H Q:=by rw[ae]
abbrev Wr:Prop:=Td (And.intro @QO <| And.intro @Qz <| And.intro @QF <| And.intro @IH <| And.intro @ED <| And.intro @BE <| And.intro @B9 <| And.intro @I8 <| And.intro @F1 <| And.intro @Ol <|
 And.intro @Kg <| And.intro @FH <| And.intro @J1 <| And.intro @Nb <| And.intro @FC <| And.intro @GZ <| And.intro @JY <| And.intro @BT <| And.intro @yB <| And.intro @Cx <| And.intro @EP <| And.intro @Hp <| And.intro @Cw <|
 And.intro @Ki <| And.intro @JS <| And.intro @FV <| And.intro @I9 <|
 And.intro @Jz <| And.intro @GX <| And.intro @zZ <| And.intro @xZ <|
 And.intro @IF <| And.intro @F9 <| And.intro @Qr <| And.intro @Jn <| And.intro @FO <|
 And.intro @Ml <| And.intro @JD <| And.intro @Mm <| And.intro @Mn <|
 And.intro @FE <| And.intro @II <| And.intro @Gm <| And.intro @GF <|
 And.intro @JA <| And.intro @IZ <| And.intro @Hu <| And.intro @Mw <|
 And.intro @JH <| And.intro @GD <| And.intro @MD <| And.intro @MS <|
 And.intro @IB <| And.intro @Hy <| And.intro @QL <| And.intro @MN <| And.intro @Jl <|
 And.intro @OC <| And.intro @MX <| And.intro @JI <| And.intro @Iv <|
 And.intro @NL <| And.intro @Nk <| And.intro @Jv <| And.intro @JL <|
 And.intro @Jq <| And.intro @GK <| And.intro @DR <| And.intro @Fv <|
 And.intro @J9 <| And.intro @Mx <| And.intro @L9 <| And.intro @L8 <| And.intro @Ho <| And.intro @Mh <| And.intro @ME <|
 And.intro @JJ <| And.intro @FN <| And.intro @GP <| And.intro @Ca <|
 And.intro @BX <| And.intro @B0 <| And.intro @GM <| And.intro @IL <|
 And.intro @yM <| And.intro @DA <| And.intro @AW <| And.intro @JC <|
 And.intro @HB <| And.intro @M4 <| And.intro @Jp <| And.intro @Er @DE)
theorem wr:Wr:=⟨@QO,@Qz,@QF,@IH,@ED,@BE,@B9,@I8,@F1,@Ol,@Kg,@FH,@J1,@Nb,@FC,@GZ,@JY,@BT,@yB,@Cx,@EP,@Hp,@Cw,@Ki,@JS,@FV,@I9,@Jz,@GX,@zZ,@xZ,@IF,@F9,@Qr,@Jn,@FO,@Ml,@JD,@Mm,@Mn,@FE,@II,@Gm,@GF,@JA,@IZ,@Hu,@Mw,@JH,@GD,@MD,@MS,@IB,@Hy,@QL,@MN,@Jl,@OC,@MX,@JI,@Iv,@NL,@Nk,@Jv,@JL,@Jq,@GK,@DR,@Fv,@J9,@Mx,@L9,@L8,@Ho,@Mh,@ME,@JJ,@FN,@GP,@Ca,@BX,@B0,@GM,@IL,@yM,@DA,@AW,@JC,@HB,@M4,@Jp,@Er,@DE⟩
theorem Ns:wg []=.aY []:=id rfl
theorem Nn (v:V):wg [v]=v:=id rfl
theorem LU (v w:V) (l:List V):wg (v :: w :: l)=.aY (v :: w :: l):=id rfl
theorem QE (n:Nat):fO n=.val (.int .i64 n):=id rfl
theorem HK (e:List V) (j:Nat) (cs:List V):fq e j cs=e.take j ++ cs ++ e.drop (j+cs.length):=id rfl
theorem G5 (z:List V):lT z []=some z:=id rfl
theorem HA (z:List V) (o n:Nat) (x:V) (r:List (Nat × Nat × V)):lT z ((o,n,x) :: r)=if x.cells.length=n/\o+n<=z.length/\x.cells.all aF=true then lT (fq z o x.cells) r else none:=by rw[lT]
theorem JK (k:Nat) (z:List (List V)):kZ k z []=some z:=by rw[kZ]
theorem IS (k:Nat) (z:List (List V)) (i:Nat) (x:V) (r:List (Nat × V)):kZ k z ((i,x) :: r)=if x.cells.length=k/\i < z.length/\x.cells.all aF=true then kZ k (z.set i x.cells) r else none:=by rw[kZ]
theorem MU (b:Bool):Am (some true) (some b)=some b:=id rfl
theorem Od (b:Bool):Am (some b) (some true)=some b:=by cases b <;> rfl
section
variable (k:IntKind) (a b:Int)
theorem I3:gV .add k a b=some (.int k (k.wrap (a+b))):=id rfl
theorem Iu:gV .sub k a b=some (.int k (k.wrap (a - b))):=id rfl
theorem IA:gV .mul k a b=some (.int k (k.wrap (a * b))):=id rfl
theorem IC:gV .quo k a b=if b=0 then none else some (.int k (k.wrap (a.tdiv b))):=id rfl
theorem IG:gV .rem k a b=if b=0 then none else some (.int k (a.tmod b)):=id rfl
theorem IE:gV .eql k a b=some (.bool (a == b)):=id rfl
theorem Ke:gV .neq k a b=some (.bool (a != b)):=id rfl
theorem J0:gV .lss k a b=some (.bool (a < b)):=id rfl
theorem I2:gV .leq k a b=some (.bool (a<=b)):=id rfl
theorem Jb:gV .gtr k a b=some (.bool (a > b)):=id rfl
theorem JU:gV .geq k a b=some (.bool (a≥b)):=id rfl
theorem MT:gV .or k a b=some (.int k (k.wrap (BitVec.ofInt k.bits a ||| BitVec.ofInt k.bits b).toNat)):=id rfl
theorem J4:gV .and k a b=some (.int k (k.wrap (BitVec.ofInt k.bits a &&& BitVec.ofInt k.bits b).toNat)):=id rfl
theorem AX:gV .andNot k a b=some (.int k (k.wrap (BitVec.ofInt k.bits a &&& ~~~(BitVec.ofInt k.bits b)).toNat)):=id rfl
end
theorem NA:eY 0 (.emp 1)=some true:=id rfl
theorem Mi:eY 0 (.emp 2)=some false:=id rfl
theorem JE:eY 0 .dS=some false:=id rfl
theorem NP (a b n c:Nat):eY 0 (.sl a b (n+1) c)=some false:=id rfl
theorem IV (e:List V) (l:List (List V)):eY 0 (.aQ (e :: l))=some false:=id rfl
theorem J5 (a b c:Nat):eY 1 (.ptr a b c)=some false:=id rfl
theorem Gh (e:List V) (j:Nat):eY 1 (.aJ e j)=some false:=id rfl
theorem Nu (a:Nat):eY 2 (.mp a)=some false:=id rfl
theorem M1 (f:FuncId) (a b:List V):eY 3 (.fn f a b)=some false:=id rfl
theorem NZ:eY 1 (.val (.pointer none))=some true:=id rfl
theorem OG:eY 2 (.val (.map none))=some true:=id rfl
theorem NR:eY 3 (.val .nilFunc)=some true:=id rfl
abbrev Wq:Prop:=Td (And.intro @Ns <| And.intro @Nn <| And.intro @LU <| And.intro @QE <| And.intro @HK <| And.intro @G5 <| And.intro @HA <| And.intro @JK <| And.intro @IS <| And.intro @MU <| And.intro @Od <| And.intro @I3 <| And.intro @Iu <| And.intro @IA <| And.intro @IC <| And.intro @IG <| And.intro @IE <| And.intro @Ke <| And.intro @J0 <| And.intro @I2 <| And.intro @Jb <| And.intro @JU <| And.intro @MT <| And.intro @J4 <| And.intro @AX <| And.intro @NA <| And.intro @Mi <| And.intro @JE <| And.intro @NP <| And.intro @IV <| And.intro @J5 <| And.intro @Gh <| And.intro @Nu <| And.intro @M1 <| And.intro @NZ <| And.intro @OG <| And.intro @NR <| And.intro @eq_self.{1} <| And.intro @ne_eq.{1} <| And.intro @implies_true.{1} <| And.intro @implies_true.{0} <| And.intro @decide_true <| And.intro @decide_false <| And.intro @Jc <| And.intro @IW <| And.intro @HC <| And.intro @Fu <| And.intro @Ha <| And.intro @FI <| And.intro @Jd <| And.intro @NS <| And.intro @MY <| And.intro @Ou <| And.intro @IK <| And.intro @Jx <| And.intro @J6 <| And.intro @Eu <| And.intro @vg <| And.intro @DW <| And.intro @zp <| And.intro @Em <| And.intro @ID <| And.intro @DS <| And.intro @Ka <| And.intro @GA <| And.intro @L5 <| And.intro @Eh <| And.intro @Jh <| And.intro @BK <| And.intro @Hi <| And.intro @HJ <| And.intro @N9 <| And.intro @HE <| And.intro @Nc <| And.intro @Dw <| And.intro @Jw <| And.intro @Jt <| And.intro @I0 <| And.intro @LY <| And.intro @true_or <| And.intro @or_true <| And.intro @or_false <| And.intro @false_or <|
 And.intro @Ti <| And.intro @I6 <| And.intro @Iy <| And.intro @Jk <|
 And.intro @It <| And.intro @NF <| And.intro @Jg <| And.intro @GG <|
 And.intro @LS <| And.intro @MO <| And.intro @Kb <| And.intro @Kc <|
 And.intro @IQ <| And.intro @I4 <| And.intro @Gz <| And.intro @Gp <|
 And.intro @D2 <| And.intro @Ji <| And.intro @List.getD_cons_zero.{0} <| And.intro @List.getD_cons_succ.{0} <|
 And.intro @List.length_cons.{0} <| And.intro @List.length_nil.{0} <| And.intro @List.length_map.{0,0} <| And.intro @wrap64 <|
 And.intro @true_and <| And.intro @and_true <| And.intro @and_self <| And.intro @UN <|
 And.intro @Vz <| And.intro @List.all_cons.{0} <| And.intro @List.all_nil.{0} <| And.intro @Bool.and_self <|
 And.intro @List.nil_append.{0} <| And.intro @List.cons_append.{0} <| And.intro @Vm <| And.intro @D9 <|
 And.intro @U8 <| And.intro @LW <| And.intro @EH <| And.intro @bne_iff_ne.{0} <|
 And.intro @beq_iff_eq.{0} <| And.intro @Bool.not_eq_true <| And.intro @Wf <| And.intro @Bool.not_false <|
 And.intro @List.append_nil.{0} <| And.intro @List.map_cons.{0,0} <| And.intro @List.map_nil.{0,0} <| And.intro @Bool.true_eq_false <|
 And.intro @UX <| And.intro @false_implies <| And.intro @true_implies <| And.intro @Bool.not_not <|
 And.intro @List.drop_zero.{0} <| And.intro @FK <| And.intro @List.set_cons_zero.{0} <| And.intro @List.set_cons_succ.{0} <|
 And.intro @List.drop_nil.{0} <| And.intro @V5 <| And.intro @List.replicate_zero.{0} <| And.intro @List.replicate_succ.{0} <|
 And.intro @mb <| And.intro @tQ <| And.intro @sZ <| And.intro @sO <|
 And.intro @List.isEmpty_cons.{0} <| And.intro @Option.map_none.{0,0} <| And.intro @Option.map_some.{0,0} <| And.intro @Nat.succ_ne_zero <|
 And.intro @List.take_succ_cons.{0} <| And.intro @List.take_zero.{0} <| And.intro @List.drop_succ_cons.{0} <| And.intro @bne_eq_false_iff_eq.{0} <|
 And.intro @beq_eq_false_iff_ne.{0} <| And.intro @not_true_eq_false <| And.intro @not_false_eq_true @Decidable.not_not)
theorem wq:Wq:=⟨@Ns,@Nn,@LU,@QE,@HK,@G5,@HA,@JK,@IS,@MU,@Od,@I3,@Iu,@IA,@IC,@IG,@IE,@Ke,@J0,@I2,@Jb,@JU,@MT,@J4,@AX,@NA,@Mi,@JE,@NP,@IV,@J5,@Gh,@Nu,@M1,@NZ,@OG,@NR,@eq_self,@ne_eq,@implies_true,@implies_true,@decide_true,@decide_false,@Jc,@IW,@HC,@Fu,@Ha,@FI,@Jd,@NS,@MY,@Ou,@IK,@Jx,@J6,@Eu,@vg,@DW,@zp,@Em,@ID,@DS,@Ka,@GA,@L5,@Eh,@Jh,@BK,@Hi,@HJ,@N9,@HE,@Nc,@Dw,@Jw,@Jt,@I0,@LY,@true_or,@or_true,@or_false,@false_or,@Ti,@I6,@Iy,@Jk,@It,@NF,@Jg,@GG,@LS,@MO,@Kb,@Kc,@IQ,@I4,@Gz,@Gp,@D2,@Ji,@Vx,@V3,@UE,@UU,@UB,@wrap64,@true_and,@and_true,@and_self,@UN,@Vz,@VL,@List.all_nil,@Bool.and_self,@Vk,@Va,@Vm,@D9,@U8,@LW,@EH,@bne_iff_ne,@Vr,@Bool.not_eq_true,@Wf,@Bool.not_false,@V0,@U2,@VS,@Bool.true_eq_false,@UX,@false_implies,@true_implies,@Bool.not_not,@Vv,@FK,@List.set_cons_zero,@List.set_cons_succ,@List.drop_nil,@V5,@List.replicate_zero,@List.replicate_succ,@mb,@tQ,@sZ,@sO,@List.isEmpty_cons,@Option.map_none,@UH,@Nat.succ_ne_zero,@List.take_succ_cons,@List.take_zero,@List.drop_succ_cons,@bne_eq_false_iff_eq,@beq_eq_false_iff_ne,@not_true_eq_false,@not_false_eq_true,@Decidable.not_not⟩
inductive wC:V->Prop
 | val (v:Value):wC (.val v)
 | aY (cs:List V):(∀ i,i < cs.length->∃ v,cs.getD i .any=.val v)->wC (.aY cs)
theorem Pu {Z d:Nat->Prop} {μ μ':Mu} {hp b:Array Obj} {t:V} {x:Value} (e:wC t) (h:ay Z μ hp t x):ay d μ' b t x:=by
 cases e with
 | val=>cases h with | val _ a=>exact .val _ a
 | aY cs f =>
  cases h with
  | aY _ c h1 g =>
   refine .aY _ _ h1 λi hi=>?_
   have:=g i hi
   obtain⟨v,a⟩:=f i hi
   rw[a] at this ⊢
   generalize c.getD i undef=y at this ⊢
   cases this with | val _ a=>exact .val _ a
theorem bK.borrow {P:Program} {f:FuncId} {d vs:List V} {t:V} {h:aC} (q:az P f d t) (r:wC t) (u:d.length=vs.length)
  (j:∀ i,i < vs.length->Fr h (vs.getD i .any) (d.getD i .any)):bK P f vs h t h:=by
 refine⟨UF _,λZ μ F w xs c hr k=>?_⟩
 have l:fT (λb=>Z b∨jk μ b) μ w.heap d xs:=⟨by rw[u,c.1],λi hi=>A5 hr (j i (by omega)) (c.2 i (by omega))⟩
 have m:∀ b,(Z b∨jk μ b)->b < w.heap.size:=by
  rintro b (a | ⟨id,o,s,a⟩)
  .exact hr.cO b a
  .exact hr.lt _ _ _ _ a
 refine(q _ μ w xs l m).mono ?_
 rintro e w' ⟨x,z,rfl,v,n,A,y,g⟩
 have hm:gN Z Z μ μ w.heap w'.heap:=⟨λ_ h=>h,λb a=>g b (hr.cO b a) (λx=>x),λ_ _ h=>h,g.qO⟩
 exact⟨x,Z,μ,rfl,Pu r (v μ),⟨λid=>(hr.obj id).mono hm rfl (λb o s p=>g b (hr.lt _ _ _ _ p) (λx=>x)),hr.inj,λid b o s p=>U4 (hr.lt _ _ _ _ p) n.size,λb a=>U4 (hr.cO b a) n.size,hr.gH⟩,
  ⟨n,hm,λb a _=>g b a (λx=>x),λb a=>.inl a,λ_ _ _ _ h=>.inl h⟩,λ_ _=>rfl⟩
def cm (H:View) (v t:V):Prop:=∀ h:aC,h.view=H->Fr h v t
theorem cm.tree {H:View} {v:V} (h:Tree v):cm H v v:=λ_ _=>.tree _ h
theorem cm.sl {H:View} {id off len esz z:Nat} {es:List (List V)} (hH:H id=.arr z es) (hle:off+len<=es.length) (c:∀ e∈es,∀ v∈e,Tree v) :
  cm H (.sl id off len esz) (.aQ ((es.drop off).take len)):=by
 rintro h rfl
 have b:∀ i,i < len->((es.drop off).take len).getD i []=es.getD (off+i) []:=λi hi=>by
  simp[Uu,VO,hi]
 refine .sl id off len esz z es _ hH hle (by simp;omega) (λi hi=>by rw[b i hi]) (λi j hi a=>?_)
 rw[b i hi] at a ⊢
 refine .tree _ ?_
 have h1:off+i < es.length:=by omega
 have d:es.getD (off+i) []=es[off+i]:=by simp[Uu,h1]
 rw[d] at a ⊢
 have f:(es[off+i]).getD j .any=(es[off+i])[j]:=by simp[Uu,a]
 rw[f]
 exact c _ (UC _) _ (UC _)
theorem aw.borrow {P:Program} {q:Bool} {f:FuncId} {H:View} {vs c:List V} {K:V->View->Prop} {v:cG (H,K)} {t:V} (d:az P f c t) (a:dE P f=true) (g:wC t) (j:c.length=vs.length)
  (b:∀ i,i < vs.length->cm H (vs.getD i .any) (c.getD i .any)) (hk:K t H):aw P q f vs H K v:=by
 unfold aw
 cases q with
 | true=>exact⟨a,λh e=>⟨t,h,bK.borrow d g j (λi hi=>b i hi h e),λ_ _=>rfl,e ▸ hk⟩⟩
 | false =>
  refine⟨a,?_⟩
  rintro h rfl
  exact⟨t,h,bK.borrow d g j (λi hi=>b i hi h rfl),.refl _,hk⟩
abbrev gi (x:Int):V:=.val (.int .i64 x)
abbrev gb (x:Bool):V:=.val (.bool x)
abbrev gs (x:ByteArray):V:=.val (.string x)
theorem mixed:(Tryz.prog).follows .mixedOrders=true:=by kernel_rfl
def encI (l:List Int):V:=.aQ (l.map λx=>[gi x])
def cD (l:List Bool):V:=.aQ (l.map λx=>[gb x])
theorem bQ (l:List Int):Tree (encI l):=by
 refine .aQ _ λi j hi a=>?_
 simp only[UB] at hi
 simp[Uu,hi] at a ⊢
 subst a
 exact .val _
def aL {α:Type} (l:List α):Prop:=l.length < 4611686018427387904
def nL:SC :=
 ae [ae [ab [aa 11 5,aa 12 0,aM 13 12,aR 14 .lss 11 13],bX 14 (.exit 0)],.block 1 (ae [ab [aa 17 0,aa 18 5,aO 19 1 17 18,ak 20 19,aa 21 1,aa 22 5,aO 23 1 21 22,ak 24 23,aR 25 .neq 20 24],ba 25 (ae [ab [bq 4 false],.ret])]),ab [aa 15 5,aG 16 .add 15 1,aa 5 16]]
def qy:SF:=⟨ae [ab [bq 4 false],ae [ab [aa 6 0,aM 7 6,aa 8 1,aM 9 8,aR 10 .neq 7 9],ba 10 (ae [ab [bq 4 false],.ret])],ae [ab [aN 5 0],bY 0 nL],ab [bq 4 true],.ret],
 [.tmp 4],26⟩
theorem uZ:aH Tryz.prog 26 []=some qy:=by kernel_rfl
theorem RH {α:Type} [BEq α] [LawfulBEq α] {a b:List α} (h:a.length≠b.length):(a == b)=false:=by
 simp only[beq_eq_false_iff_ne];intro e;exact h (by rw[e])
theorem Rg (a b:List Int) (l:aL a) (H:View):av Tryz.prog 26 [encI a,encI b] H λr H'=>r=gb (a == b)/\H'=H:=by
 refine av.of mixed uZ ?_
 unfold aL at l
 simp(disch:=omega)only[↓wr,seval,wq,qy,encI]
 apply ai.ne<;>intro h
 .simp(disch:=omega)only[↓wr,seval,wq]
  rw[RH (by omega)]
 .simp(disch:=omega)only[↓wr,seval,wq]
  refine aV.intro (λk T H'=>∃ i:Nat,i+k=a.length/\a.take i=b.take i/\T 0=encI a/\T 1=encI b/\T 5=gi i/\H'=H) a.length ?_ ?_
  .exact⟨0,by omega,by simp,rfl,rfl,rfl,rfl⟩
  .rintro k T H' ⟨i,hk,hi,c,h1,d,rfl⟩
   simp(disch:=omega)only[↓wr,seval,wq,nL,c,h1,d,encI]
   apply ai.dec<;>intro m
   .have g:a[i]?=some (a[i]'(by omega)):=Uv (by omega)
    have j:b[i]?=some (b[i]'(by omega)):=Uv (by omega)
    simp(disch:=omega)only[↓wr,seval,wq,c,h1,d,encI,Uy,g,j,UH]
    apply ai.ne<;>intro f
    .simp(disch:=omega)only[↓wr,seval,wq]
     have:(a == b)=false:=by
      simp only[beq_eq_false_iff_ne];rintro rfl;exact f rfl
     rw[this]
    .simp(disch:=omega)only[↓wr,seval,wq,c,h1,d,encI]
     refine⟨k - 1,by omega,i+1,by omega,?_,rfl⟩
     rw[UW,UW,hi,g,j,f]
   .simp(disch:=omega)only[↓wr,seval,wq,c,h1,d,encI]
    have:a=b:=by
     have e:i=a.length:=by omega
     rw[UK (by omega),UK (by omega)] at hi
     exact hi
    rw[this];simp
theorem Iz (a b:List Int) (c:aL a):az Tryz.prog 26 [encI a,encI b] (gb (a == b)) :=
 az.of (by simp[bQ]) ((Rg a b c _).mono λr H' h d _=>by rw[h.1];exact .tree _ (.val _))
theorem jH (l:List Bool):Tree (cD l):=by
 refine .aQ _ λi j hi a=>?_
 simp only[UB] at hi
 simp[Uu,hi] at a ⊢
 subst a
 exact .val _
end Gv
