/-
  Part 5 of the proof: what the machine does and what the functions answer.
  Conditions: those that each lemma names.
-/
import Derived.Test.YtiophifnkakjgaaGreatProg
import Derived.KernelRfl
import Derived.Test.YtiophifnkakjgaaGreatSGzC3D
set_option linter.unusedSimpArgs false
set_option linter.unusedVariables false
set_option maxRecDepth 100000
set_option maxHeartbeats 20000000
namespace Gv
open Go Go.Proofs
section
variable {P:Program} {n:Nat} {all:List Oper}
theorem RF (h:Heap):h.view h.length=.dead:=by simp[Heap.view,Wo]
theorem U8 {o:Oper} {T:Env} {h:Heap} {s:SI} {K:V->View->Prop} (g:dq n all T o=some true) (i:∀ v eff rd,sI P s T h.view h.length=some (v,eff,rd)->bR P o T h.view h.length=some (v,eff,rd)) (hw:wI P s T h.view K) :
  ∃ v d rd wr,dH P n all o T h v d rd wr false/\jk h d/\K v d.view/\kV (sS P s) rd wr false h.length d.length:=by
 obtain⟨v,eff,rd,e,hk⟩:=Ve hw (RF h)
 have f:=i _ _ _ e
 have a:∀ id,id∈eff.wr->h.view id≠.dead:=λid b=>(mM f id b).1
 refine⟨v,eff.apply h,rd,eff.wr,.op g f,?_,?_,?_,?_⟩
 .intro id b c
  rw[j4 a]
  cases eff with
  | none=>exact c
  | new o=>simp only[aS.view,View.set];rw[Ws (by omega)];exact c
  | eP k o =>
   simp only[aS.view,View.set]
   rw[Ws (by rintro rfl;exact a id (by simp[aS.wr]) c)];exact c
  | dX k o =>
   simp only[aS.view,View.set]
   rw[Ws (by omega)]
   split
   .rfl
   .exact c
 .rw[j4 (λid b=>(mM f id b).1)];exact hk
 .intro j
  obtain⟨rfl,rfl⟩:=(rI e).1 j
  exact⟨rfl,rfl,rfl,rfl⟩
 .intro h1
  rcases W5 (sS P s) 1 with l | l
  .obtain⟨rfl,rfl⟩:=(rI e).1 (by omega);rfl
  .exact(rI e).2 (by omega)
theorem JI {P:Program} {fr:Bool} {s:SI} {T:Env} {H:View} {n:Nat} {v:V} {eff:aS} {rd:List Nat} (h:sI P (ym P fr s) T H n=some (v,eff,rd)):sI P s T H n=some (v,eff,rd):=by
 unfold ym at h
 split at h
 .split at h
  .exact Qr h
  .exact h
 .split at h
  .rename_i a
   simp only[WC] at a
   exact TB a.2 h
  .exact h
 .exact h
theorem Am (P:Program) (a:Fz) (o:Oper) :
  (∃ f args b,o.op=.call { callee:=.value f,args:=args,argTypes:=b }/\(my P a o=.call (SX.of f) (args.toList.map SX.of)∨my P a o=.sX (SX.of f) (args.toList.map SX.of))) ∨
  (∃ t x,o.op=.box t x/\my P a o=.op (.jL (SX.of x)))∨(∃ s d x,o.op=.convert s d x/\vn P s d=true/\my P a o=.op (.gu (SX.of x)))∨my P a o=.op (ym P a.fr (comp P o)):=by
 unfold my
 split
 .rename_i f args b e
  refine .inl ⟨f,args,b,e,?_⟩
  by_cases g:(match o.dst with | some d=>a.l.contains (200000+d) | none=>false)=true
  .exact .inr (Wv g)
  .exact .inl (Ws g)
 .rename_i t x e
  by_cases c:(match o.dst with | some d=>a.l.contains d | none=>false)=true
  .exact .inr (.inl ⟨t,x,e,Wv c⟩)
  .refine .inr (.inr (.inr ?_))
   refine(Ws c).trans ?_
   simp only[comp,e,ym]
 .rename_i s d x e
  by_cases c:((match o.dst with | some d=>a.l.contains d | none=>false) && vn P s d)=true
  .exact .inr (.inr (.inl ⟨s,d,x,e,by simp only[WC] at c;exact c.2,Wv c⟩))
  .exact .inr (.inr (.inr (Ws c)))
 .exact .inr (.inr (.inr rfl))
theorem dH.len {o:Oper} {T:Env} {h a:Heap} {v:V} {rd wr:List Nat} {call:Bool} (st:dH P n all o T h v a rd wr call):h.length<=a.length:=by
 cases st with
 | skip=>exact Wz _
 | op _ _=>rename_i eff _ _ ;cases eff <;> simp[aS.apply]
 | jL _ _ _=>exact Wz _
 | gu _ _ _ _ _ _=>exact Wz _
 | call _ _ _ _ b _ _=>exact b.1
theorem TN {q:Fz} {o:Oper} {T:Env} {h:Heap} {quiet:Bool} {K:V->View->Prop} (l:dq n all T o=some true) (hw:wB P quiet (my P q o) T h.view K) :
  ∃ v b rd wr call,dH P n all o T h v b rd wr call/\jk h b/\K v b.view/\kV (je P quiet (my P q o)) rd wr call h.length b.length:=by
 rcases Am P q o with ⟨f,args,C,k,j | j⟩ | ⟨t,x,k,j⟩ | ⟨s,d,x,k,u,j⟩ | j
 rotate_left
 .rw[j] at hw ⊢
  simp only[wB] at hw
  split at hw
  .rename_i g first cap m
   rw[CI] at hw
   rw[SX.cx] at m
   obtain⟨c,i⟩:=hw
   obtain⟨r,b,hr,hold,hk⟩:=i h rfl
   refine⟨r,b,[],[],true,.call l k m c hr (λid a _=>hold id a) (λid a=>by simp at a),λid a w=>(hold id a).trans w,hk,?_,?_⟩
   .intro p;simp[je] at p
   .intro _;rfl
  .exact hw.elim
 rotate_right
 .rw[j] at hw ⊢
  simp only[wB] at hw
  split at hw
  .rename_i g first cap m
   rw[CI] at hw
   rw[SX.cx] at m
   split at hw
   .rename_i y
    obtain⟨c,i⟩:=hw
    obtain⟨r,b,hr,hold,hk⟩:=i h rfl
    refine⟨r,b,[],[],true,.call l k m c hr (λid a _=>hold id a) (λid a=>by simp at a),λid a w=>(hold id a).trans w,hk,?_,?_⟩
    .intro p;simp[je,y] at p
    .intro _;rfl
   .rename_i y
    obtain⟨c,i⟩:=hw
    obtain⟨r,b,hr,z,hk⟩:=i h rfl
    refine⟨r,b,[],List.range h.length,true,.call l k m c hr (λid a D=>?_) (λid a=>by simpa using a),z,hk,Sm (by simp[je,y])⟩
    exact absurd (by simpa using a) D
  .exact hw.elim
 .rw[j] at hw ⊢
  simp only[wB,wI,SX.cx] at hw
  exact⟨_,h,[],[],false,.jL l k hw.1,.refl _,hw.2,λ_=>⟨rfl,rfl,rfl,rfl⟩,λ_=>rfl⟩
 .rw[j] at hw ⊢
  simp only[wB,wI,SX.cx] at hw
  obtain⟨e,h1,A,B⟩:=zU u
  split at hw
  .rename_i st E
   exact⟨_,h,[],[],false,.gu l k h1 A B E,.refl _,hw,λ_=>⟨rfl,rfl,rfl,rfl⟩,λ_=>rfl⟩
  .exact hw.elim
 .rw[j] at hw ⊢
  obtain⟨v,b,rd,wr,h1,p,A,B⟩:=U8 (s:=ym P q.fr (comp P o)) l (λv eff rd F=>La (JI F)) hw
  exact⟨v,b,rd,wr,false,h1,p,A,B⟩
def gg (P:Program) (quiet:Bool) (l:List SO) (recs:List Rec):Prop :=
 l.length=recs.length/\∀ (i:Nat) (s:SO) (r:Rec),l[i]?=some s->recs[i]?=some r->kV (je P quiet s.b) r.rd r.wr r.call r.lo r.hi
theorem gg.nil {quiet:Bool} : gg P quiet [] []:=⟨rfl,λi s r h=>by simp at h⟩
theorem gg.cons {quiet:Bool} {l:List SO} {a:List Rec} {s:SO} {r:Rec} (h:gg P quiet l a) (hr:kV (je P quiet s.b) r.rd r.wr r.call r.lo r.hi):gg P quiet (s :: l) (r :: a):=by
 refine⟨by simp[h.1],λi e f d c=>?_⟩
 cases i with
 | zero=>simp at d c;subst d c;exact hr
 | succ i=>exact h.2 i e f (by simpa using d) (by simpa using c)
theorem gg.append {quiet:Bool} {l l':List SO} {b a:List Rec} (h:gg P quiet l b) (d:gg P quiet l' a):gg P quiet (l ++ l') (b ++ a):=by
 refine⟨by simp[h.1,d.1],λi s r c hr=>?_⟩
 by_cases hi:i < l.length
 .rw[WS hi] at c
  rw[WS (h.1 ▸ hi)] at hr
  exact h.2 i s r c hr
 .rw[Xi (by omega)] at c
  rw[Xi (by have:=h.1;omega)] at hr
  exact d.2 (i - l.length) s r c (by rw[h.1];exact hr)
theorem tz {a:Fz} {o:Oper} {s:SO} (h:FT P n all a o=some s):qV n o=true/\s.dst=o.dst/\s.b=my P a o/\uu n all o=some s.guard:=by
 unfold FT at h
 split at h
 .rename_i c
  simp only[WB] at h
  obtain⟨g,d,rfl⟩:=h
  exact⟨c,rfl,rfl,d⟩
 .simp at h
theorem BY {o:Oper} {T:Env} (h:uu n all o=some none):dq n all T o=some true:=by
 unfold uu at h
 unfold dq
 split at h
 .rename_i a;rw[a]
 .split at h
  .split at h
   .simp at h
   .simp at h
  .simp at h
theorem lB {o:Oper} {T:Env} {d:Nat} {want:Bool} (h:uu n all o=some (some (d,want))) :
  (∀ b,T d=.val (.bool b)->dq n all T o=some (b == want))/\(T d=.aO []->dq n all T o=some false):=by
 unfold uu at h
 unfold dq
 split at h
 .simp at h
 .rename_i j w e
  rw[e]
  split at h
  .rename_i g f
   split at h
   .rename_i a
    simp at h
    obtain⟨rfl,rfl⟩:=h
    simp only[f,a,if_true]
    exact⟨λb c=>by rw[c],λc=>by rw[c]⟩
   .simp at h
  .simp at h
theorem lM {a:Fz} {os:List Oper} (h:dA P n all a os=some []):os=[]:=by
 cases os with
 | nil=>rfl
 | cons o r =>
  simp only[dA] at h
  split at h <;> simp at h
theorem l9 {a:Fz} {os:List Oper} {s:SO} {l:List SO} (h:dA P n all a os=some (s :: l)):∃ o r,os=o :: r/\FT P n all a o=some s/\dA P n all a r=some l:=by
 cases os with
 | nil=>simp[dA] at h
 | cons o r =>
  simp only[dA] at h
  split at h
  .rename_i c l' h1 b
   simp at h
   obtain⟨rfl,rfl⟩:=h
   exact⟨o,r,rfl,h1,b⟩
  .simp at h
theorem qJ {c:Fz} : ∀ {l l':List SO} {os:List Oper},dA P n all c os=some (l ++ l')->∃ a b,os=a ++ b/\dA P n all c a=some l/\dA P n all c b=some l'
 | [],l',os,h=>⟨[],os,rfl,rfl,h⟩
 | s :: l,l',os,h=>by
  obtain⟨o,r,rfl,h1,d⟩:=l9 h
  obtain⟨a,b,rfl,e,f⟩:=qJ d
  exact⟨o :: a,b,rfl,by simp[dA,h1,e],f⟩
theorem Tr.append {a b:List Oper} {T c d:Env} {h h1 e:Heap} {f g:List Rec} (x:Tr P n all a T h f c h1) (y:Tr P n all b c h1 g d e):Tr P n all (a ++ b) T h (f ++ g) d e:=by
 induction x with
 | nil=>exact y
 | cons st i _ j=>exact .cons st i (j y)
theorem AZ {T:Env} {d:Nat} {v:V} (h:T d=v):T.put (some d) v=T:=by
 funext t
 simp only[Env.put]
 split
 .rename_i e;subst e;exact h.symm
 .rfl
theorem Ib {E:Fz} {quiet:Bool} {K:Env->View->Prop} (g:Option (Nat × Bool)):∀ (l:List (Option Nat × SB)) (os:List Oper) (T:Env) (h:Heap),
  dA P n all E os=some (l.map λ(d,b)=>⟨d,g,b⟩)->(∀ d w,g=some (d,w)->T d=.val (.bool w)/\(l.all λx=>x.1 != some d)=true)->yb P quiet l T h.view K ->
  ∃ a m j,Tr P n all os T h a m j/\(jk h j/\h.length<=j.length)/\K m j.view/\gg P quiet (l.map λ(d,b)=>⟨d,g,b⟩) a
 | [],os,T,h,q,s,hw=>by
  have:=lM q;subst this
  exact⟨[],T,h,.nil,⟨.refl _,Wz _⟩,hw,.nil⟩
 | (d,b) :: l,os,T,h,q,s,hw=>by
  obtain⟨o,r,rfl,h1,F⟩:=l9 q
  obtain⟨G,k,f,i⟩:=tz h1
  simp only at k f i
  have u:dq n all T o=some true:=by
   cases g with
   | none=>exact BY i
   | some p =>
    obtain⟨y,w⟩:=p
    have:=(lB (T:=T) i).1 w (s y w rfl).1
    rw[this];simp
  simp only[yb] at hw
  rw[f] at hw
  obtain⟨v,j,rd,wr,call,st,z,hk,H⟩:=TN u hw
  obtain⟨a,m,A,D,c,B,C⟩:=Ib g l r (T.put d v) j F (λy w e=>by
   have:=s y w e
   simp only[XK,WC,bne_iff_ne,ne_eq] at this
   refine⟨?_,this.2.2⟩
   rw[<-this.1]
   cases d with
   | none=>rfl
   | some t=>simp only[Env.put];rw[Ws];intro e;subst e;exact this.2.1 rfl) hk
  rw[k] at D
  have hlen:=st.len
  exact⟨_,m,A,.cons st G D,⟨z.trans c.1 hlen,Xo hlen c.2⟩,B,C.cons (by rw[f];exact H)⟩
theorem Df {v:Fz} {quiet:Bool} (d:Nat) (w:Bool) (h:Heap):∀ (l:List (Option Nat × SB)) (os:List Oper) (T:Env),
  dA P n all v os=some (l.map λ(c,b)=>⟨c,some (d,w),b⟩)->(T d=.val (.bool !w)∨T d=.aO [])->(l.all λx=>x.1 != some d)=true ->
  ∃ a,Tr P n all os T h a (iT l T) h/\gg P quiet (l.map λ(c,b)=>⟨c,some (d,w),b⟩) a
 | [],os,T,k,f,j=>by
  have:=lM k;subst this
  exact⟨[],.nil,.nil⟩
 | (c,b) :: l,os,T,k,f,j=>by
  obtain⟨o,r,rfl,h1,y⟩:=l9 k
  obtain⟨m,g,p,i⟩:=tz h1
  simp only at g p i
  have q:dq n all T o=some false:=by
   rcases f with f | f
   .rw[(lB (T:=T) i).1 _ f];cases w <;> rfl
   .exact(lB (T:=T) i).2 f
  simp only[XK,WC,bne_iff_ne,ne_eq] at j
  obtain⟨a,u,s⟩:=Df d w h l r (T.put c (.aO [])) y (by
   have:(T.put c (.aO [])) d=T d:=by
    cases c with
    | none=>rfl
    | some t=>simp only[Env.put];rw[Ws];intro e;subst e;exact j.1 rfl
   rw[this];exact f) j.2
  rw[g] at u
  refine⟨_,?_,s.cons (r:=⟨[],[],false,h.length,h.length⟩) ⟨λ_=>⟨rfl,rfl,rfl,rfl⟩,λ_=>rfl⟩⟩
  have:=Tr.cons (.skip q) m u
  rw[iT,g]
  exact this
theorem U7 {p:Fz} {quiet:Bool} {K:Env->View->Prop} {g:SG} {os:List Oper} {T:Env} {h:Heap} (f:dA P n all p os=some g.flat) (c:td g=true) (hw:wG P quiet g T h.view K) :
  ∃ a o k,Tr P n all os T h a o k/\(jk h k/\h.length<=k.length)/\K o k.view/\gg P quiet g.flat a:=by
 unfold wG at hw
 unfold SG.flat at f ⊢
 unfold td at c
 split at hw
 .rename_i l
  rw[l] at f ⊢
  exact Ib none g.ops os T h f (λd w e=>by simp at e) hw
 .rename_i d want l
  rw[l] at f c ⊢
  simp only at c
  split at hw
  .rename_i b j
   by_cases e:b=want
   .subst e
    have:=hw.1 rfl
    rw[AZ j] at this
    exact Ib (some (d,b)) g.ops os T h f (λq w e=>by simp at e;obtain⟨rfl,rfl⟩:=e;exact⟨j,c⟩) this
   .have e':b = !want:=by cases b <;> cases want <;> simp_all
    have:=hw.2 e'
    subst e'
    rw[AZ j] at this
    obtain⟨a,m,i⟩:=Df (quiet:=quiet) d want h g.ops os T f (.inl j) c
    exact⟨a,_,h,m,⟨.refl _,Wz _⟩,this,i⟩
  .rename_i j
   obtain⟨a,m,i⟩:=Df (quiet:=quiet) d want h g.ops os T f (.inr j) c
   exact⟨a,_,h,m,⟨.refl _,Wz _⟩,hw,i⟩
  .exact hw.elim
theorem xD {s:Fz} {quiet:Bool} {K:Env->View->Prop} : ∀ (gs:List SG) (os:List Oper) (T:Env) (h:Heap),dA P n all s os=some (kM gs)->gs.all td=true->xe P quiet gs T h.view K ->
  ∃ c r e,Tr P n all os T h c r e/\(jk h e/\h.length<=e.length)/\K r e.view/\gg P quiet (kM gs) c
 | [],os,T,h,f,_,hw=>by
  have:=lM f;subst this
  exact⟨[],T,h,.nil,⟨.refl _,Wz _⟩,hw,.nil⟩
 | g :: gs,os,T,h,f,d,hw=>by
  simp only[kM,WZ,List.flatten_cons] at f ⊢
  simp only[XK,WC] at d
  obtain⟨a,b,rfl,h1,t⟩:=qJ f
  obtain⟨w,u,i,j,st1,k,l⟩:=U7 h1 d.1 hw
  obtain⟨x,v,m,o,st2,p,q⟩:=xD gs b u i t d.2 k
  exact⟨_,v,m,j.append o,⟨st1.1.trans st2.1 st1.2,Xo st1.2 st2.2⟩,p,l.append q⟩
theorem Tr.at_ {os:List Oper} {T g:Env} {h j:Heap} {b:List Rec} (k:Tr P n all os T h b g j):∀ (i:Nat) (o:Oper),os[i]?=some o ->
  ∃ c h1 v e rd wr call a,b[i]?=some ⟨rd,wr,call,h1.length,e.length⟩/\dH P n all o c h1 v e rd wr call/\h.length<=h1.length/\Tr P n all (os.drop (i+1)) (c.put o.dst v) e a g j/\(∀ m,a[m]?=b[i+1+m]?) /\
   (∀ t,(∀ l∈os.take i,l.dst≠some t)->c t=T t):=by
 induction k with
 | nil=>intro i o hi;simp at hi
 | @cons o0 rest T g h h1 j v rd wr call b st D k s =>
  intro i o hi
  cases i with
  | zero =>
   simp at hi;subst hi
   exact⟨T,h,v,h1,rd,wr,call,b,rfl,st,Wz _,by simpa using k,λm=>by rw[show 0+1+m=m+1 by omega,Xl],λt _=>rfl⟩
  | succ i =>
   simp at hi
   obtain⟨c,e,v2,u,p,UG,call2,a,w,x,y,z,A,B⟩:=s i o hi
   have hlen:h.length<=h1.length:=by
    cases st with
    | skip=>exact Wz _
    | op _ _=>rename_i eff _ _;cases eff <;> simp[aS.apply]
    | jL _ _ _=>exact Wz _
    | gu _ _ _ _ _ _=>exact Wz _
    | call _ _ _ _ C _ _=>exact C.1
   refine⟨c,e,v2,u,p,UG,call2,a,by simpa using w,x,Xo hlen y,by simpa using z,λm=>?_,λt q=>?_⟩
   .rw[A,show i+1+1+m=(i+1+m)+1 by omega,Xl]
   .simp only[List.take_succ_cons,WK] at q
    rw[B t λl r=>q l (.inr r)]
    have:=q o0 (.inl rfl)
    cases f:o0.dst with
    | none=>rfl
    | some d=>simp only[Env.put];rw[Ws];rintro rfl;exact this f
theorem MS {o:Oper} {T:Env} {h g:Heap} {v:V} {rd wr:List Nat} {call:Bool} (st:dH P n all o T h v g rd wr call) (b:Az o=true) (i:o.guard=none):v=.ptr h.length 0 0:=by
 unfold Az at b
 have d:dq n all T o=some true:=by unfold dq;rw[i]
 cases st with
 | skip f=>rw[d] at f;simp at f
 | op _ a =>
  split at b
  .rename_i e c
   simp only[bR,c] at a
   split at a
   .unfold lU at a
    split at a
    .simp at a;exact a.1.symm
    .simp at a
   .simp at a
  .simp at b
 | jL _ c _=>rw[c] at b;simp at b
 | gu _ c _ _ _ _=>rw[c] at b;simp at b
 | call _ c _ _ _ _ _=>rw[c] at b;simp at b
theorem MC {o:Oper} {T:Env} {h g:Heap} {v:V} {rd wr:List Nat} {call:Bool} {t id i j:Nat} (st:dH P n all o T h v g rd wr call) (c:kZ o=some t) (k:T t=.ptr id i j):wr=[id]/\call=false:=by
 unfold kZ at c
 split at c
 .rename_i ty l x d m
  simp at c;subst c
  have e:dq n all T o=some true:=by unfold dq;rw[m]
  cases st with
  | skip f=>rw[e] at f;simp at f
  | op _ b =>
   have p:ev T (.tmp l)=.ptr id i j:=k
   simp only[bR,d,p,qv] at b
   split at b
   .split at b
    .simp only[Wu,Wx] at b
     obtain⟨_,he,_⟩:=b
     rw[<-he];exact⟨rfl,rfl⟩
    .simp at b
   .simp at b
  | jL _ a _=>rw[d] at a;simp at a
  | gu _ a _ _ _ _=>rw[d] at a;simp at a
  | call _ a _ _ _ _ _=>rw[d] at a;simp at a
 .simp at c
theorem NL {o:Oper} {T:Env} {h g:Heap} {v:V} {rd wr:List Nat} {call:Bool} (st:dH P n all o T h v g rd wr call) (d:DA o=true):wr=[]/\call=false/\∀ id,id∈rd->id < h.length:=by
 unfold DA at d
 cases st with
 | skip _=>exact⟨rfl,rfl,λid c=>by simp at c⟩
 | op _ b =>
  split at d
  .rename_i e a f
   simp only[bR,f,mC] at b
   split at b
   .rename_i id i j l
    split at b
    .rename_i z es hH
     split at b
     .simp only[WB] at b
      obtain⟨_,_,b⟩:=b
      simp at b
      obtain⟨_,rfl,rfl⟩:=b
      refine⟨rfl,rfl,λk c=>?_⟩
      simp at c;subst c
      exact eu (by rw[hH];simp)
     .simp at b
    .simp at b
   .simp only[WB] at b
    obtain⟨_,_,b⟩:=b
    simp at b
    obtain⟨_,rfl,rfl⟩:=b
    exact⟨rfl,rfl,λid c=>by simp at c⟩
   .simp at b
  .simp at d
 | jL _ f _=>rw[f] at d;simp at d
 | gu _ f _ _ _ _=>rw[f] at d;simp at d
 | call _ f _ _ _ _ _=>rw[f] at d;simp at d
theorem vu {T G:Env} {h H:Heap} {e:List Rec} (I:Tr P n all all T h e G H) {i k:Nat} {a b:Rec} (hp:zj all i k=true) (g:e[i]?=some a) (J:e[k]?=some b):nE a b:=by
 unfold zj at hp
 split at hp
 .rename_i K L l m
  rw[WC] at hp
  obtain⟨M,hp⟩:=hp
  split at hp
  .rename_i t o
   rw[XZ] at hp
   obtain⟨j,N,hp⟩:=hp
   rw[XA] at N
   rw[WC,WH] at hp
   obtain⟨O,c⟩:=hp
   unfold Up at c
   split at c
   .rename_i Q p
    simp only[WC,Xw,WU,bne_iff_ne,ne_eq,Option.isNone_iff_eq_none] at c
    obtain⟨⟨⟨R,S⟩,U⟩,V⟩:=c
    obtain⟨T1,h1,v1,W,X,Vk,c1,q,D,E,e3,Y,Z,_⟩:=I.at_ i K l
    obtain⟨Tj,r,vj,ab,ae,al,cj,s,f1,f2,f3,f4,f5,_⟩:=Y.at_ (j - (i+1)) Q (by rw[XJ,show i+1+(j - (i+1))=j by omega];exact p)
    have u:(all.drop (i+1)).drop (j - (i+1)+1)=all.drop (j+1):=by rw[List.drop_drop];congr 1;omega
    rw[u] at f4
    obtain⟨Tk,v,vk,w,x,y,ck,z,g1,g2,g3,_,_,g6⟩:=f4.at_ (k - (j+1)) L (by rw[XJ,show j+1+(k - (j+1))=k by omega];exact m)
    rw[g] at D
    have A:=(Yz D)
    have f:e[k]?=some ⟨x,y,ck,v.length,w.length⟩:=by
     rw[<-g1,f5,Z];congr 1;omega
    rw[J] at f
    have f:=Yz f
    have hv:=MS f2 U S
    have B:Tk t=.ptr r.length 0 0:=by
     rw[g6 t λo' C=>V o' C,R,hv]
     simp[Env.put]
    obtain⟨s1,s2⟩:=MC g2 o B
    obtain⟨F,l2,l3⟩:=NL E M
    rw[A,f]
    have hlen:h1.length<=W.length:=by
     cases E with
     | skip=>exact Wz _
     | op _ _=>rename_i eff _ _;cases eff <;> simp[aS.apply]
     | jL _ _ _=>exact Wz _
     | gu _ _ _ _ _ _=>exact Wz _
     | call _ _ _ _ g _ _=>exact g.1
    refine⟨λid d=>by simp[F] at d,λid d=>?_,λhc=>by simp[l2] at hc,λ_=>F,λid d=>?_⟩
    .simp only[s1,XB] at d
     subst d
     intro hr
     have:=l3 _ hr
     omega
    .simp only[s1,XB] at d
     subst d
     simp only
     omega
   .simp at c
  .simp at hp
 .simp at hp
theorem Rq {ls:List Nat} {d:List Rec} {T t:Env} {hp g:Heap} (u:Tr P n all all T hp d t g) (h:FW all ls=true) (y:ls.length=d.length) (hr:∀ (i x:Nat) (r:Rec),ls[i]?=some x->d[i]?=some r->kV x r.rd r.wr r.call r.lo r.hi):tN all d:=by
 intro i k a b j l m v
 have hi:i < d.length:=(Wy.1 l).1
 have hk:k < d.length:=(Wy.1 m).1
 unfold FW at h
 simp only[WU] at h
 have h1:=h (ls[i]'(by omega),i) (by rw[Xv];simp[Wp (show i < ls.length by omega)])
  (ls[k]'(by omega),k) (by rw[Xv];simp[Wp (show k < ls.length by omega)])
 have q:=hr i _ a (Wp (by omega)) l
 have s:=hr k _ b (Wp (by omega)) m
 simp only[j,decide_true,Yw,v,YA,Yc,Xw,WC,WH] at h1
 rcases h1 with ((h1 | h1) | h1) | h1
 .obtain⟨f,e,o,w⟩:=q.1 h1
  exact⟨λid c=>by simp[e] at c,λid _=>by simp[f],λp=>by simp[o] at p,λ_=>e,λid _ z=>by omega⟩
 .obtain⟨f,e,o,w⟩:=s.1 h1
  exact⟨λid _=>by simp[f],λid c=>by simp[e] at c,λ_=>e,λp=>by simp[o] at p,λid c=>by simp[e] at c⟩
 .have f:=q.2 h1.1
  have e:=s.2 h1.2
  exact⟨λid c=>by simp[f] at c,λid c=>by simp[e] at c,λ_=>e,λ_=>f,λid c=>by simp[e] at c⟩
 .exact vu u h1 l m
theorem Tr.keep {os:List Oper} {T c:Env} {h e:Heap} {a:List Rec} (f:Tr P n all os T h a c e) {t:Nat} (g:∀ o∈os,o.dst≠some t):c t=T t:=by
 induction f with
 | nil=>rfl
 | @cons o0 rest T c h h1 e v rd wr call a st k f i =>
  rw[i λo j=>g o (by simp[j])]
  have:=g o0 (by simp)
  cases b:o0.dst with
  | none=>rfl
  | some d=>simp only[Env.put];rw[Ws];rintro rfl;exact this b
theorem wN {o:Oper} {T:Env} {h g:Heap} {v:V} {rd wr:List Nat} {call:Bool} {t:Nat} (st:dH P n all o T h v g rd wr call) (d:rB o=some t):wr=[]/\call=false/\g.length=h.length/\∀ id,id∈rd->∃ i j,T t=.ptr id i j:=by
 unfold rB at d
 split at d
 .rename_i e m f
  simp at d;subst d
  cases st with
  | skip _=>exact⟨rfl,rfl,rfl,λid c=>by simp at c⟩
  | op _ a =>
   simp only[bR,f,mC] at a
   split at a
   .rename_i id i j k
    split at a
    .split at a
     .simp only[WB] at a
      obtain⟨_,_,a⟩:=a
      simp at a
      obtain⟨_,rfl,rfl⟩:=a
      refine⟨rfl,rfl,rfl,λl c=>?_⟩
      simp at c;subst c
      exact⟨i,j,k⟩
     .simp at a
    .simp at a
   .simp only[WB] at a
    obtain⟨_,_,a⟩:=a
    simp at a
    obtain⟨_,rfl,rfl⟩:=a
    exact⟨rfl,rfl,rfl,λid c=>by simp at c⟩
   .simp at a
  | jL _ b _=>rw[f] at b;simp at b
  | gu _ b _ _ _ _=>rw[f] at b;simp at b
  | call _ b _ _ _ _ _=>rw[f] at b;simp at b
 .simp at d
theorem wc {i t:Nat} (h:stays all i t=true):∀ o∈all.drop i,o.dst≠some t:=by
 intro o a
 have:=WU.1 h o a
 simpa using this
theorem AU {a:List (Nat × Nat)} {T:Env} {K:Prop} (b:yY a T K):∀ p∈a,iO (T p.1) (T p.2):=by
 induction a with
 | nil=>intro p hp;simp at hp
 | cons q l c =>
  intro p hp
  rcases WK.1 hp with rfl | hp
  .exact b.1
  .exact c b.2 p hp
theorem yY.rest {a:List (Nat × Nat)} {T:Env} {K:Prop} (b:yY a T K):K:=by
 induction a with
 | nil=>exact b
 | cons q l c=>exact c b.2
theorem qk {T l:Env} {h m:Heap} {a:List Rec} (p:Tr P n all all T h a l m) {i t:Nat} {o:Oper} (j:all[i]?=some o) (q:stays all i t=true) {r:Rec} (hr:a[i]?=some r) :
  ∃ e h1 v f,dH P n all o e h1 v f r.rd r.wr r.call/\r.lo=h1.length/\r.hi=f.length/\e t=l t:=by
 obtain⟨e,h1,v,f,rd,wr,call,k,g,s,x,u,y,z⟩:=p.at_ i o j
 rw[hr] at g
 have g:=Yz g
 subst g
 refine⟨e,h1,v,f,s,rfl,rfl,?_⟩
 have hk:=wc q
 have hi:i < all.length:=(Wy.1 j).1
 have b:all[i]=o:=(Wy.1 j).2
 rw[XH hi,b] at hk
 rw[u.keep λw b=>hk w (by simp[b])]
 have:=hk o (by simp)
 cases c:o.dst with
 | none=>rfl
 | some d=>simp only[Env.put];rw[Ws];rintro rfl;exact this c
theorem zD {i a b j c d:Nat} (h:iO (.ptr i a b) (.ptr j c d)):i≠j:=h
theorem CA {i a b j c d e:Nat} (h:iO (.ptr i a b) (.sl j c d e)):i≠j:=h
theorem ry {o:Oper} {T:Env} {h q:Heap} {v:V} {rd wr:List Nat} {call:Bool} {t:Nat} (st:dH P n all o T h v q rd wr call) (g:pn o=some t) :
  call=false/\∀ id,id∈wr->(∃ i j,T t=.ptr id i j)∨∃ a b c,T t=.sl id a b c:=by
 unfold pn at g
 split at g
 .rename_i w m
  simp at g;subst g
  unfold kZ at m
  split at m
  .rename_i ty t2 x k r
   simp at m;subst m
   cases st with
   | skip _=>exact⟨rfl,λid f=>by simp at f⟩
   | op _ d =>
    simp only[bR,k,qv] at d
    split at d
    .rename_i id i j p
     split at d
     .split at d
      .simp only[Wu,Wx] at d
       obtain⟨_,he,_⟩:=d
       rw[<-he]
       refine⟨rfl,λl f=>?_⟩
       simp[aS.wr] at f;subst f
       exact .inl ⟨i,j,p⟩
      .simp at d
     .simp at d
    .simp at d
   | jL _ e _=>rw[k] at e;simp at e
   | gu _ e _ _ _ _=>rw[k] at e;simp at e
   | call _ e _ _ _ _ _=>rw[k] at e;simp at e
  .simp at m
 .unfold Pc at g
  split at g
  .rename_i args s k r
   split at g
   .rename_i t2 y u
    simp at g;subst g
    cases st with
    | skip _=>exact⟨rfl,λid f=>by simp at f⟩
    | op _ d =>
     simp only[bR,k,u] at d
     split at d
     .unfold nA at d
      split at d
      .split at d
       .simp at d
       .split at d
        .split at d <;> first | (simp only[Wu,Wx] at d;obtain⟨_,he,_⟩:=d;rw[<-he];exact⟨rfl,λl f=>by simp[aS.wr] at f⟩) | simp at d
        .split at d
         .simp at d
         .split at d
          .split at d
           .simp only[Wu,Wx] at d
            obtain⟨_,he,_⟩:=d
            rw[<-he];exact⟨rfl,λl f=>by simp[aS.wr] at f⟩
           .simp at d
          .rename_i id off len esz p
           split at d
           .split at d
            .simp only[Wu,Wx] at d
             obtain⟨_,he,_⟩:=d
             rw[<-he]
             refine⟨rfl,λl f=>?_⟩
             simp[aS.wr] at f;subst f
             exact .inr ⟨off,len,esz,p⟩
            .simp at d
           .simp at d
          .simp at d
      .simp at d
     .split at d
      .unfold qU at d
       repeat' (split at d)
       all_goals first | (simp only[Wu,Wx] at d;obtain⟨_,he,_⟩:=d;rw[<-he];exact⟨rfl,λl f=>by simp[aS.wr] at f⟩) | simp at d
      .simp at d
    | jL _ e _=>rw[k] at e;simp at e
    | gu _ e _ _ _ _=>rw[k] at e;simp at e
    | call _ e _ _ _ _ _=>rw[k] at e;simp at e
   .simp at g
  .simp at g
theorem Rj {o:Oper} {T:Env} {h g:Heap} {v:V} {rd wr:List Nat} {call:Bool} (st:dH P n all o T h v g rd wr call) (b:G3 o=true):rd=[]/\wr=[]/\call=false:=by
 unfold G3 at b
 cases st with
 | skip _=>exact⟨rfl,rfl,rfl⟩
 | op _ a =>
  split at b
  .rename_i ty len parts c
   simp only[bR,c,ix] at a
   have key:∀ {x:Option (V × aS × List Nat)} {e:aS},x=some (v,e,rd)->(∀ y,x=some y->y.2.1.wr=[]/\y.2.2=[])->rd=[]/\e.wr=[]:=λf d=>⟨(d _ f).2,(d _ f).1⟩
   obtain⟨i,k2⟩:=key a (by
    intro y d
    repeat' (first | (split at d)|(simp only[Wu] at d;subst d;exact⟨rfl,rfl⟩)|(simp at d;done)))
   exact⟨i,k2,rfl⟩
  .rename_i e c
   simp only[bR,c] at a
   split at a
   .unfold lU at a
    split at a
    .simp only[Wu,Wx] at a
     obtain⟨_,he,hr⟩:=a
     rw[<-he,<-hr];exact⟨rfl,rfl,rfl⟩
    .simp at a
   .simp at a
  .simp at b
 | jL _ c _=>rw[c] at b;simp at b
 | gu _ c _ _ _ _=>rw[c] at b;simp at b
 | call _ c _ _ _ _ _=>rw[c] at b;simp at b
theorem vf {o:Oper} {t:Nat} (h:kZ o=some t):pn o=some t:=by unfold pn;rw[h]
theorem Nf {T w:Env} {h Q:Heap} {l:List Rec} (u:Tr P n all all T h l w Q) {i k:Nat} {a b:Rec} {p:Nat × Nat} (hp:B9 all i k=some p) (j:iO (w p.1) (w p.2)) (N:l[i]?=some a) (O:l[k]?=some b):nE a b:=by
 unfold B9 at hp
 split at hp
 .rename_i Z ob q r
  split at hp
  .rename_i s t x y
   split at hp
   .rename_i g
    simp only[WC] at g
    simp at hp;subst hp
    obtain⟨z,A,R,B,C,D,E,F⟩:=qk u q g.1 N
    obtain⟨Tb,G,S,H,I,_,_,J⟩:=qk u r g.2 O
    obtain⟨o,K,U,L⟩:=wN C x
    have j:iO (z s) (Tb t):=by rw[F,J];exact j
    refine⟨λid f=>by simp[o] at f,λid f hr=>?_,λv=>by simp[K] at v,λ_=>o,λid _ hx=>by omega⟩
    obtain⟨V,W,M⟩:=L id hr
    rw[M] at j
    rcases (ry I (vf y)).2 id f with ⟨c,d,m⟩ | ⟨c,d,e,m⟩
    .rw[m] at j;exact zD j rfl
    .rw[m] at j;exact CA j rfl
   .simp at hp
  .split at hp
   .rename_i t s y x
    split at hp
    .rename_i g
     simp only[WC] at g
     simp at hp;subst hp
     obtain⟨z,A,R,B,C,D,E,F⟩:=qk u q g.1 N
     obtain⟨Tb,G,S,H,I,X,Y,J⟩:=qk u r g.2 O
     obtain⟨o,K,U,L⟩:=wN I x
     have j:iO (Tb s) (z t):=by rw[F,J];exact j
     refine⟨λid f hr=>?_,λid f=>by simp[o] at f,λv=>o,λv=>by simp[K] at v,λid f=>by simp[o] at f⟩
     obtain⟨V,W,M⟩:=L id hr
     rw[M] at j
     rcases (ry C (vf y)).2 id f with ⟨c,d,m⟩ | ⟨c,d,e,m⟩
     .rw[m] at j;exact zD j rfl
     .rw[m] at j;exact CA j rfl
    .simp at hp
   .simp at hp
 .simp at hp
theorem Mn {T w:Env} {h Q:Heap} {l:List Rec} (u:Tr P n all all T h l w Q) {i k:Nat} {a b:Rec} {p:Nat × Nat} (hp:Dt all i k=some p) (j:iO (w p.1) (w p.2)) (N:l[i]?=some a) (O:l[k]?=some b):nE a b:=by
 unfold Dt at hp
 split at hp
 .rename_i Z ob q r
  split at hp
  .rename_i s t x y
   split at hp
   .rename_i g
    simp only[WC] at g
    simp at hp;subst hp
    obtain⟨z,A,R,B,C,D,E,F⟩:=qk u q g.1 N
    obtain⟨Tb,G,S,H,I,_,_,J⟩:=qk u r g.2 O
    obtain⟨o,K,U,L⟩:=wN C x
    have j:iO (z s) (Tb t):=by rw[F,J];exact j
    refine⟨λid f=>by simp[o] at f,λid f hr=>?_,λv=>by simp[K] at v,λ_=>o,λid _ hx=>by omega⟩
    obtain⟨V,W,M⟩:=L id hr
    rw[M] at j
    rcases (ry I y).2 id f with ⟨c,d,m⟩ | ⟨c,d,e,m⟩
    .rw[m] at j;exact zD j rfl
    .rw[m] at j;exact CA j rfl
   .simp at hp
  .split at hp
   .rename_i t s y x
    split at hp
    .rename_i g
     simp only[WC] at g
     simp at hp;subst hp
     obtain⟨z,A,R,B,C,D,E,F⟩:=qk u q g.1 N
     obtain⟨Tb,G,S,H,I,X,Y,J⟩:=qk u r g.2 O
     obtain⟨o,K,U,L⟩:=wN I x
     have j:iO (Tb s) (z t):=by rw[F,J];exact j
     refine⟨λid f hr=>?_,λid f=>by simp[o] at f,λv=>o,λv=>by simp[K] at v,λid f=>by simp[o] at f⟩
     obtain⟨V,W,M⟩:=L id hr
     rw[M] at j
     rcases (ry C y).2 id f with ⟨c,d,m⟩ | ⟨c,d,e,m⟩
     .rw[m] at j;exact zD j rfl
     .rw[m] at j;exact CA j rfl
    .simp at hp
   .simp at hp
 .simp at hp
theorem P3 {l:List (Nat × Nat)} {a:List (Nat × Nat)} (h:Bj all l=some a):∀ q∈l,∃ p∈a,B9 all q.1 q.2=some p:=by
 induction l generalizing a with
 | nil=>intro q b;simp at b
 | cons x r d =>
  obtain⟨i,k⟩:=x
  simp only[Bj] at h
  split at h
  .rename_i p l' h1 f
   simp at h;subst h
   intro q b
   rcases WK.1 b with rfl | b
   .exact⟨p,by simp,h1⟩
   .obtain⟨g,c,e⟩:=d f q b
    exact⟨g,by simp[c],e⟩
  .simp at h
theorem MX {l:List (Nat × Nat)} {a:List (Nat × Nat)} (h:uG all l=some a):∀ q∈l,∃ f,(∀ p∈f,p∈a)/\zp all q.1 q.2=some f:=by
 induction l generalizing a with
 | nil=>intro q b;simp at b
 | cons x r g =>
  obtain⟨i,k⟩:=x
  simp only[uG] at h
  split at h
  .rename_i p l' h1 j
   simp at h;subst h
   intro q b
   rcases WK.1 b with rfl | b
   .exact⟨p,λx c=>by simp[c],h1⟩
   .obtain⟨m,d,e⟩:=g j q b
    exact⟨m,λx c=>by simp[d x c],e⟩
  .simp at h
theorem Qe {H:View} {x:V} {xs:List (List V)} {rd:List Nat} (h:bD H x=some (xs,rd)):∀ id,id∈rd->∃ a b c,x=.sl id a b c:=by
 unfold bD at h
 split at h
 .simp at h;obtain⟨_,rfl⟩:=h;intro id d;simp at d
 .simp at h;obtain⟨_,rfl⟩:=h;intro id d;simp at d
 .simp at h;obtain⟨_,rfl⟩:=h;intro id d;simp at d
 .simp at h;obtain⟨_,rfl⟩:=h;intro id d;simp at d
 .split at h
  .split at h
   .simp at h
    obtain⟨_,rfl⟩:=h
    intro id d
    simp at d;subst d
    exact⟨_,_,_,rfl⟩
   .simp at h
  .simp at h
 .simp at h;obtain⟨_,rfl⟩:=h;intro id d;simp at d
 .simp at h
theorem II {o:Oper} {T:Env} {h s:Heap} {v:V} {rd wr:List Nat} {call:Bool} {t y d:Nat} (st:dH P n all o T h v s rd wr call) (l:zF o=some (t,y,d)) :
  call=false/\(∀ id,id∈wr->∃ a b c,T t=.sl id a b c)/\(∀ id,id∈rd->(∃ a b c,T t=.sl id a b c)∨∃ a b c,T y=.sl id a b c)/\(h.length < s.length->∃ a b c,v=.sl h.length a b c)/\s.length<=h.length+1/\o.dst=some d:=by
 unfold zF at l
 split at l
 .rename_i args z A r D m
  split at l
  .rename_i t2 B C
   simp at l
   obtain⟨rfl,rfl,rfl⟩:=l
   cases st with
   | skip _=>exact⟨rfl,λid g=>by simp at g,λid g=>by simp at g,λh=>by omega,by omega,m⟩
   | op _ f =>
    simp only[bR,r,C] at f
    have w:∀ {v':V} {i:aS} {k:List Nat},some (v',aS.none,([]:List Nat))=some (v,i,k)->false=false/\(∀ id,id∈i.wr->∃ a b c,T t2=.sl id a b c)/\(∀ id,id∈k->(∃ a b c,T t2=.sl id a b c)∨∃ a b c,T B=.sl id a b c)/\(h.length < (i.apply h).length->∃ a b c,v=.sl h.length a b c)/\(i.apply h).length<=h.length+1/\o.dst=some A:=by
     intro v' i k e
     simp only[Wu,Wx] at e
     obtain⟨_,rfl,rfl⟩:=e
     exact⟨rfl,λid g=>by simp[aS.wr] at g,λid g=>by simp at g,λh=>by simp[aS.apply] at h,by simp[aS.apply],m⟩
    split at f
    .unfold nA at f
     split at f
     .rename_i e xs k _ u
      have p:=Qe u
      split at f
      .simp at f
      .split at f
       .split at f <;> first | exact w f | simp at f
       .split at f
        .simp at f
        .split at f
         .split at f
          .simp only[Wu,Wx] at f
           obtain⟨rfl,rfl,rfl⟩:=f
           exact⟨rfl,λid g=>by simp[aS.wr] at g,λid g=>.inr (p id g),λ_=>⟨_,_,_,rfl⟩,by simp[aS.apply],m⟩
          .simp at f
         .rename_i id off len esz x
          split at f
          .split at f
           .simp only[Wu,Wx] at f
            obtain⟨rfl,rfl,rfl⟩:=f
            refine⟨rfl,λq g=>?_,λq g=>?_,λ_=>⟨_,_,_,rfl⟩,by simp[aS.apply],m⟩
            .simp[aS.wr] at g;subst g
             exact⟨off,len,esz,x⟩
            .rcases WK.1 g with rfl | g
             .exact .inl ⟨off,len,esz,x⟩
             .exact .inr (p q g)
           .simp at f
          .simp at f
         .simp at f
     .simp at f
    .split at f
     .unfold qU at f
      split at f
      .split at f
       .split at f
        .exact w f
        .split at f
         .simp only[Wu,Wx] at f
          obtain⟨rfl,rfl,rfl⟩:=f
          exact⟨rfl,λid g=>by simp[aS.wr] at g,λid g=>by simp at g,λ_=>⟨_,_,_,rfl⟩,by simp[aS.apply],m⟩
         .simp at f
       .simp at f
      .simp at f
     .simp at f
   | jL _ j _=>rw[r] at j;simp at j
   | gu _ j _ _ _ _=>rw[r] at j;simp at j
   | call _ j _ _ _ _ _=>rw[r] at j;simp at j
  .simp at l
 .simp at l
theorem PW {T j:Env} {h q:Heap} {a:List Rec} (s:Tr P n all all T h a j q) {i:Nat} {o:Oper} (k:all[i]?=some o) {r:Rec} (hr:a[i]?=some r) :
  ∃ e h1 v f,dH P n all o e h1 v f r.rd r.wr r.call/\r.lo=h1.length/\r.hi=f.length/\(∀ t,stays all i t=true->e t=j t)/\∀ d,o.dst=some d->stays all (i+1) d=true->j d=v:=by
 obtain⟨e,h1,v,f,rd,wr,call,l,g,u,y,p,z,A⟩:=s.at_ i o k
 rw[hr] at g
 have g:=Yz g
 subst g
 refine⟨e,h1,v,f,u,rfl,rfl,λt m=>?_,λd w m=>?_⟩
 .have hk:=wc m
  have hi:i < all.length:=(Wy.1 k).1
  have b:all[i]=o:=(Wy.1 k).2
  rw[XH hi,b] at hk
  rw[p.keep λx b=>hk x (by simp[b])]
  have:=hk o (by simp)
  cases c:o.dst with
  | none=>rfl
  | some d=>simp only[Env.put];rw[Ws];rintro rfl;exact this c
 .rw[p.keep (wc m),w]
  simp[Env.put]
theorem xJ {i a b c j d e f:Nat} (h:iO (.sl i a b c) (.sl j d e f)):i≠j:=h
theorem LR {T r:Env} {h E:Heap} {c:List Rec} (A:Tr P n all all T h c r E) {i k:Nat} {a b:Rec} {B:List (Nat × Nat)} (hp:DT all i k=some B) (o:∀ p∈B,iO (r p.1) (r p.2)) (F:c[i]?=some a) (G:c[k]?=some b):nE a b:=by
 unfold DT at hp
 split at hp
 .rename_i oa ob s u
  split at hp
  .rename_i t y d g C d' h1 H
   split at hp
   .rename_i l
    simp only[WC] at l
    obtain⟨⟨⟨⟨s1,s2⟩,I⟩,v⟩,J⟩:=l
    simp at hp;subst hp
    have j:=o (t,g) (by simp)
    have a2:=o (t,C) (by simp)
    have a3:=o (g,y) (by simp)
    have a4:=o (d,g) (by simp)
    simp only at j a2 a3 a4
    obtain⟨Ta,w,va,K,L,M,N,x,z⟩:=PW A s F
    obtain⟨Tb,O,vb,Q,R,_,_,q,_⟩:=PW A u G
    obtain⟨S,U,V,W,p5,X⟩:=II L h1
    obtain⟨Y,D,Z,_⟩:=II R H
    have z:=z d X I
    rw[<-x t s1,<-q g v] at j
    rw[<-x t s1,<-q C J] at a2
    rw[<-q g v,<-x y s2] at a3
    rw[z,<-q g v] at a4
    refine⟨λid f hr=>?_,λid f hr=>?_,λm=>by rw[S] at m;simp at m,λm=>by rw[Y] at m;simp at m,λid f hx=>?_⟩
    .obtain⟨_,_,_,e⟩:=U id f
     rcases Z id hr with ⟨_,_,_,e'⟩ | ⟨_,_,_,e'⟩
     .rw[e,e'] at j;exact xJ j rfl
     .rw[e,e'] at a2;exact xJ a2 rfl
    .obtain⟨_,_,_,e⟩:=D id f
     rcases V id hr with ⟨_,_,_,e'⟩ | ⟨_,_,_,e'⟩
     .rw[e',e] at j;exact xJ j rfl
     .rw[e,e'] at a3;exact xJ a3 rfl
    .obtain⟨_,_,_,e⟩:=D id f
     obtain⟨_,_,_,e'⟩:=W (by omega)
     have:id=w.length:=by omega
     subst this
     rw[e,e'] at a4;exact xJ a4 rfl
   .simp at hp
  .simp at hp
 .simp at hp
theorem Mw {T d:Env} {h m:Heap} {c:List Rec} (e:Tr P n all all T h c d m) {i k:Nat} {a b:Rec} {f:List (Nat × Nat)} (hp:zp all i k=some f) (g:∀ p∈f,iO (d p.1) (d p.2)) (j:c[i]?=some a) (l:c[k]?=some b):nE a b:=by
 unfold zp at hp
 split at hp
 .rename_i p h1
  simp at hp;subst hp
  exact Mn e h1 (g p (by simp)) j l
 .exact LR e hp g j l
theorem Rb {ls:List Nat} {d:List Rec} {T o:Env} {hp q:Heap} {j:List (Nat × Nat)} (v:Tr P n all all T hp d o q) (h:Bj all (k9 all ls)=some j) (z:∀ p∈j,iO (o p.1) (o p.2)) (D:ls.length=d.length)
  (hr:∀ (i x:Nat) (r:Rec),ls[i]?=some x->d[i]?=some r->kV x r.rd r.wr r.call r.lo r.hi):tN all d:=by
 intro i k a b s l m A
 have hi:i < d.length:=(Wy.1 l).1
 have hk:k < d.length:=(Wy.1 m).1
 have w:=hr i _ a (Wp (by omega)) l
 have y:=hr k _ b (Wp (by omega)) m
 have B:(ls[i]'(by omega),i)∈ls.zipIdx:=by rw[Xv];simp[Wp (show i < ls.length by omega)]
 have mk:(ls[k]'(by omega),k)∈ls.zipIdx:=by rw[Xv];simp[Wp (show k < ls.length by omega)]
 by_cases h1:yN all (ls[i]'(by omega)) i (ls[k]'(by omega)) k=true
 .unfold yN at h1
  simp only[s,decide_true,Yw,A,YA,Yc,Xw,WC,WH] at h1
  rcases h1 with ((h1 | h1) | h1) | h1
  .obtain⟨g,f,t,C⟩:=w.1 h1
   exact⟨λid c=>by simp[f] at c,λid _=>by simp[g],λu=>by simp[t] at u,λ_=>f,λid _ E=>by omega⟩
  .obtain⟨g,f,t,C⟩:=y.1 h1
   exact⟨λid _=>by simp[g],λid c=>by simp[f] at c,λ_=>f,λu=>by simp[t] at u,λid c=>by simp[f] at c⟩
  .have g:=w.2 h1.1
   have f:=y.2 h1.2
   exact⟨λid c=>by simp[g] at c,λid c=>by simp[f] at c,λ_=>f,λ_=>g,λid c=>by simp[f] at c⟩
  .exact vu v h1 l m
 .have hm:(i,k)∈k9 all ls:=by
   unfold k9
   rw[List.mem_flatMap]
   refine⟨_,B,?_⟩
   rw[XR]
   exact⟨_,mk,by simp only;rw[Ws h1]⟩
  obtain⟨p,hp,e⟩:=P3 h (i,k) hm
  exact Nf v e (z p hp) l m
theorem Fb {P:Program} {t:TypeId} {id:Nat} {q:V} {ok:Bool} {H1 a:View} (h:H1 id=a id):fc P t (.mp id) q ok H1=fc P t (.mp id) q ok a:=by
 unfold fc
 simp only[h]
theorem ME {P:Program} {t:TypeId} {id:Nat} {q:V} {H1 a:View} (h:H1 id=a id):ew P t (.mp id) q H1=ew P t (.mp id) q a:=by
 cases hm:dR P t with
 | none=>simp only[ew,hm]
 | some x=>simp only[ew,hm,h]
theorem QH {P:Program} {t:TypeId} {id:Nat} {q:V} {H:View} {v:V} {eff:aS} {rd:List Nat} (h:fc P t (.mp id) q false H=some (v,eff,rd)):eff=.none/\rd=[id]:=by
 simp only[fc,WR,if_false] at h
 repeat' (first | (simp only[Wu,Wx] at h;exact⟨h.2.1.symm,h.2.2.symm⟩)|(split at h)|(simp at h;done))
theorem Ny {P:Program} {t:TypeId} {id:Nat} {q:V} {H:View} {v:V} {eff:aS} {rd:List Nat} (h:ew P t (.mp id) q H=some (v,eff,rd)):∃ obj,eff=.eP id obj:=by
 cases hm:dR P t with
 | none=>simp[ew,hm] at h
 | some x =>
  simp only[ew,hm] at h
  repeat' (first | (simp only[Wu,Wx] at h;exact⟨_,h.2.1.symm⟩)|(split at h)|(simp at h;done))
theorem IA {o:Oper} {T:Env} {h f:Heap} {v:V} {rd wr:List Nat} {call:Bool} (st:dH P n all o T h v f rd wr call) (i:dq n all T o=some true) (j:∀ e x,o.op≠.box e x) (k:∀ s d x,o.op≠.convert s d x) (l:∀ c,o.op≠.call c) :
  ∃ eff,bR P o T h.view h.length=some (v,eff,rd)/\f=eff.apply h/\wr=eff.wr/\call=false:=by
 cases st with
 | skip g=>rw[i] at g;simp at g
 | op _ b=>exact⟨_,b,rfl,rfl,rfl⟩
 | jL _ a _=>exact absurd a (j _ _)
 | gu _ a _ _ _ _=>exact absurd a (k _ _ _)
 | call _ a _ _ _ _ _=>exact absurd a (l _)
theorem Te {a:List Rec} {f:Nat->Env} {b:Nat->Heap} {vs:Nat->V} (d:AW P n all a f b vs) (i:a.length=all.length) {k:Nat} (hk:k<=all.length) (hw:∀ j r,j < k->a[j]?=some r->r.wr=[]) :
  ∀ j,j<=k->(b 0).length<=(b j).length/\∀ id,id < (b 0).length->(b j).view id=(b 0).view id:=by
 intro j
 induction j with
 | zero=>intro _;exact⟨Wz _,λ_ _=>rfl⟩
 | succ j g =>
  intro l
  obtain⟨e,h⟩:=g (by omega)
  obtain⟨st,_,_,_,_⟩:=d j all[j] (a[j]'(by omega)) (Wp (by omega)) (Wp (by omega))
  refine⟨Xo e (tq st),λid c=>?_⟩
  rw[ra st (W4 c e) (by rw[hw j _ (by omega) (Wp (by omega))];simp)]
  exact h id c
theorem pI {a:List Rec} {b:Nat->Env} {e:Nat->Heap} {vs:Nat->V} (c:AW P n all a b e vs) (m:a.length=all.length) {i t:Nat} (h:stays all i t=true):∀ j,i<=j->j<=all.length->b j t=b i t:=by
 intro j d f
 refine zu (vs:=vs) (N:=all.length) (λk o hk=>?_) rfl i j d f λk o h1 p g=>wc h o (by
  rw[List.mem_iff_getElem?]
  exact⟨k - i,by rw[XJ,show i+(k - i)=k by omega];exact g⟩)
 have l:k < all.length:=(Wy.1 hk).1
 exact(c k o (a[k]'(by omega)) hk (Wp (by omega))).2.2.1
theorem Hh {ls:List Nat} {d:List Rec} {T I:Env} {hp a8:Heap} {W:List (Nat × Nat)} {tp:Option (Nat × Nat)} (tr:Tr P n all all T hp d I a8) (h:uG all (F0 all ls tp)=some W) (hA:∀ p∈W,iO (I p.1) (I p.2)) (hl:ls.length=d.length)
  (hr:∀ (i x:Nat) (r:Rec),ls[i]?=some x->d[i]?=some r->kV x r.rd r.wr r.call r.lo r.hi) (X:∀ p,tp=some p->∃ D,F3 all ls p.1 p.2=some D/\Hz P D.1 (I D.2.1) (I D.2.2) hp.view):MY P n all d T I hp:=by
 have main:∀ i k a b,i < k->d[i]?=some a->d[k]?=some b->ordered (fM all []) i k=false->tp≠some (i,k)->nE a b:=by
  intro i k a b K V S ho bd
  have hi:i < d.length:=(Wy.1 V).1
  have hk:k < d.length:=(Wy.1 S).1
  have la:=hr i _ a (Wp (by omega)) V
  have lb:=hr k _ b (Wp (by omega)) S
  have mi:(ls[i]'(by omega),i)∈ls.zipIdx:=by rw[Xv];simp[Wp (show i < ls.length by omega)]
  have mk:(ls[k]'(by omega),k)∈ls.zipIdx:=by rw[Xv];simp[Wp (show k < ls.length by omega)]
  by_cases h1:yN all (ls[i]'(by omega)) i (ls[k]'(by omega)) k=true
  .unfold yN at h1
   simp only[K,decide_true,Yw,ho,YA,Yc,Xw,WC,WH] at h1
   rcases h1 with ((h1 | h1) | h1) | h1
   .obtain⟨y,s,Y,e4⟩:=la.1 h1
    exact⟨λid c=>by simp[s] at c,λid _=>by simp[y],λZ=>by simp[Y] at Z,λ_=>s,λid _ hx=>by omega⟩
   .obtain⟨y,s,Y,e4⟩:=lb.1 h1
    exact⟨λid _=>by simp[y],λid c=>by simp[s] at c,λ_=>s,λZ=>by simp[Y] at Z,λid c=>by simp[s] at c⟩
   .have y:=la.2 h1.1
    have s:=lb.2 h1.2
    exact⟨λid c=>by simp[y] at c,λid c=>by simp[s] at c,λ_=>s,λ_=>y,λid c=>by simp[s] at c⟩
   .exact vu tr h1 V S
  .have hm:(i,k)∈k9 all ls:=by
    unfold k9
    rw[List.mem_flatMap]
    refine⟨_,mi,?_⟩
    rw[XR]
    exact⟨_,mk,by simp only;rw[Ws h1]⟩
   by_cases hn:newAt all k=true
   .unfold newAt at hn
    split at hn
    .rename_i ob L
     obtain⟨T1,cu,v,J,rd,wr,call,bl,y,s,_⟩:=tr.at_ k ob L
     rw[S] at y
     have y:=Yz y
     subst y
     obtain⟨n1,n2,n3⟩:=Rj s hn
     exact⟨λid _=>by simp[n1],λid c=>by simp[n2] at c,λ_=>n2,λZ=>by simp[n3] at Z,λid c=>by simp[n2] at c⟩
    .simp at hn
   .obtain⟨p,hp,e⟩:=MX h (i,k) (by
     unfold F0
     rw[XF]
     refine⟨hm,?_⟩
     simp only[WC,Yt,bne_iff_ne,ne_eq]
     exact⟨by simpa using hn,bd⟩)
    exact Mw tr e (λq hq=>hA q (hp q hq)) V S
 cases tp with
 | none=>exact tN.Vg λi k a b h1 J h3 h4=>main i k a b h1 J h3 h4 (by simp)
 | some p =>
  obtain⟨i0,C⟩:=p
  obtain⟨D,f,u⟩:=X _ rfl
  intro M hs vs cv N ab E w i
  by_cases hi:i=i0
  .subst hi
   refine⟨some C,λk a b h1 J h3 h4 h5=>main i k a b h1 J h3 h4 (λe=>h5 (by simp at e;rw[e])),λk a b o hk V S ho=>?_⟩
   simp at hk;subst hk
   unfold F3 at f
   simp only at f
   split at f
   .rename_i oa ob O L
    rw[ho] at O
    have O:=Yz O
    subst O
    split at f
    .rename_i t m q t' m' q' l z bn br
     split at f
     .rename_i F
      simp only[WC,Xw,WH,WU,XA] at F
      obtain⟨⟨⟨⟨⟨⟨⟨⟨rfl,rfl⟩,rfl⟩,s1⟩,s2⟩,s3⟩,s4⟩,K⟩,U⟩:=F
      simp only[Wu] at f
      subst f
      simp only at u
      have bs:C < all.length:=(Wy.1 L).1
      have bx:∀ j r,j < C->d[j]?=some r->r.wr=[]:=λj r hj b0=>by
       have h1:=U j hj
       have ae:j < ls.length:=by omega
       rw[Wo,Wp ae] at h1
       exact(hr j _ r (Wp ae) b0).2 h1
      have G:=Te w E (Nat.le_of_lt bs) bx
      have em:∀ j,i<=j->j<=all.length->M j m=I m:=λj h1 J=>by
       rw[<-ab,pI w E s1 j h1 J,pI w E s1 all.length (by omega) (Wz _)]
      have eq:∀ j,i<=j->j<=all.length->M j q=I q:=λj h1 J=>by
       rw[<-ab,pI w E s2 j h1 J,pI w E s2 all.length (by omega) (Wz _)]
      obtain⟨b1,_,_,b2,b3⟩:=w i o a ho V
      obtain⟨b4,_,_,_,_⟩:=w C ob b L S
      have gi:dq n all (M i) o=some true:=by unfold dq;rw[bn]
      have gk:dq n all (M C) ob=some true:=by unfold dq;rw[br]
      unfold Hz at u
      split at u
      .rename_i id c
       obtain⟨⟨cA,c0,H⟩,u⟩:=u
       have Q:id < hp.length:=eu (by rw[H];simp)
       have al:(hs C).view id=hp.view id:=by rw[(G C (Wz _)).2 id (by rw[N];exact Q),N]
       have ar:(hs i).view id=hp.view id:=by rw[(G i (Nat.le_of_lt K)).2 id (by rw[N];exact Q),N]
       obtain⟨cj,A,b5,b8,b9⟩:=IA b1 gi (by rw[l];simp) (by rw[l];simp) (by rw[l];simp)
       obtain⟨ck,B,ca,cb,cC⟩:=IA b4 gk (by rw[z];simp) (by rw[z];simp) (by rw[z];simp)
       simp only[bR,l] at A
       simp only[bR,z] at B
       have y:ev (M i) (.tmp m)=.mp id:=(em i (Wz _) (by omega)).trans c
       have s:ev (M i) (.tmp q)=I q:=eq i (Wz _) (by omega)
       have Y:ev (M C) (.tmp m)=.mp id:=(em C (by omega) (by omega)).trans c
       have e4:ev (M C) (.tmp q)=I q:=eq C (by omega) (by omega)
       rw[y,s] at A
       rw[Y,e4,ME al] at B
       obtain⟨l1,l2⟩:=QH A
       obtain⟨obj,l3⟩:=Ny B
       subst l1 l3
       have cc:(hs (C+1)).view id=obj:=by
        rw[ca,j4 (λcI R=>by
         simp only[aS.wr,XB] at R
         subst R
         rw[al,H];simp)]
        simp[aS.view,View.set]
       refine⟨K,b8,b9,by rw[b2,b3,b5];rfl,λg hg cf=>?_⟩
       have a1:id < (hs i).length:=eu (by rw[ar,H];simp)
       have a6:g.view id=(hp.view.set id obj) id:=by
        rw[cf id a1,cb,Wv (by simp[aS.wr]),cc]
        simp[View.set]
       have ch:=u _ _ _ B
       have a7:bR P o (M i) g.view g.length=some (vs i,.none,a.rd):=by
        simp only[bR,l]
        rw[y,s,Fb a6,ch,<-Fb ar]
        exact A
       exact .op gi a7
      .exact u.elim
     .simp at f
    .simp at f
   .simp at f
  .exact⟨none,λk a b h1 J h3 h4 _=>main i k a b h1 J h3 h4 (λe=>hi (by simp at e;exact e.1.symm)),λk a b o h1=>by simp at h1⟩
theorem Qi (hm:P.follows .mixedOrders=true) {p:Fz} {id:Nat} {ops:Array Oper} {q:SC} {T:Env} {h:Heap} {Q:Exit->Env->View->Prop} (a:BZ P n p ops.toList=some q) (hw:wS P q T h.view Q) :
  ∃ e g d,cL P n (.region id ops true) T h e g d/\(jk h d/\h.length<=d.length)/\Q e g d.view:=by
 unfold BZ at a
 split at a
 .simp at a
 .rename_i l v
  split at a
  .simp at a
  .rename_i b
   have b:(group l).all td=true:=by simpa using b
   have j:dA P n ops.toList p ops.toList=some (kM (group l)):=by rw[gF];exact v
   split at a
   .rename_i w
    simp only[WB] at a
    obtain⟨y,k,rfl⟩:=a
    obtain⟨f,g,d,t,m,hk,c⟩:=xD (group l) ops.toList T h j b hw
    rw[gF] at c
    refine⟨.normal,g,d,?_,m,hk.rest⟩
    have o:tN ops.toList f:=Rb t k (AU hk) (by simpa using c.1) (λi x r u hr=>by
     simp only[Ww,WB] at u
     obtain⟨s,z,rfl⟩:=u
     exact c.2 i s r z hr)
    simpa using y4 hm (id:=id) t w o
   .simp at a
theorem Qk (hm:P.follows .mixedOrders=true) {A:Fz} {id:Nat} {ops:Array Oper} {B:SC} {T:Env} {h:Heap} {Q:Exit->Env->View->Prop} (b:Bw P n A ops.toList=some B) (hw:wS P B T h.view Q) :
  ∃ e k d,cL P n (.region id ops true) T h e k d/\(jk h d/\h.length<=d.length)/\Q e k d.view:=by
 unfold Bw at b
 split at b
 .simp at b
 .rename_i l D
  split at b
  .simp at b
  .rename_i c
   have c:(group l).all td=true:=by simpa using c
   have m:dA P n ops.toList A ops.toList=some (kM (group l)):=by rw[gF];exact D
   split at b
   .rename_i C
    split at b
    .simp only[WB] at b
     obtain⟨v,f,rfl⟩:=b
     obtain⟨o,k,d,q,g,hk,a⟩:=xD (group l) ops.toList T h m c hw
     rw[gF] at a
     refine⟨.normal,k,d,?_,g,hk.rest⟩
     have j:=Hh q f (AU hk) (by simpa using a.1) (λi x r t hr=>by
      simp only[Ww,WB] at t
      obtain⟨s,w,rfl⟩:=t
      exact a.2 i s r w hr) (λp hp=>by simp at hp)
     simpa using wi hm (id:=id) q C j
    .rename_i p hp
     split at b
     .rename_i y z
      simp only[WB] at b
      obtain⟨v,f,rfl⟩:=b
      obtain⟨o,k,d,q,g,hk,a⟩:=xD (group l) ops.toList T h m c hw
      rw[gF] at a
      refine⟨.normal,k,d,?_,g,hk.2.rest⟩
      have j:=Hh q f (AU hk.2) (by simpa using a.1) (λi x r t hr=>by
       simp only[Ww,WB] at t
       obtain⟨s,w,rfl⟩:=t
       exact a.2 i s r w hr) (λE u=>by
        simp only[Wu] at u
        subst u
        exact⟨y,z,hk.1⟩)
      simpa using wi hm (id:=id) q C j
     .simp at b
   .simp at b
theorem rM (hm:P.follows .mixedOrders=true) {u:Fz} {id:Nat} {ops:Array Oper} {draw quiet:Bool} {v:SC} {T:Env} {h:Heap} {Q:Exit->Env->View->Prop} (a:rr P n u ops.toList draw quiet=some v) (hw:wS P v T h.view Q) :
  ∃ e d c,cL P n (.region id ops draw) T h e d c/\(jk h c/\h.length<=c.length)/\Q e d c.view:=by
 unfold rr at a
 split at a
 .simp at a
 .rename_i l y
  split at a
  .simp at a
  .rename_i f
   have f:(group l).all td=true:=by simpa using f
   have m:dA P n ops.toList u ops.toList=some (kM (group l)):=by rw[gF];exact y
   have key:xe P quiet (group l) T h.view (Q .normal)->(draw=true->lZ ops.toList=true/\FW ops.toList (l.map λs=>je P quiet s.b)=true) ->
     ∃ e d c,cL P n (.region id ops draw) T h e d c/\(jk h c/\h.length<=c.length)/\Q e d c.view:=by
    intro hw o
    obtain⟨j,d,c,p,q,hk,g⟩:=xD (group l) ops.toList T h m f hw
    rw[gF] at g
    refine⟨.normal,d,c,?_,q,hk⟩
    cases k:draw with
    | false=>simpa using Ii (id:=id) p
    | true =>
     obtain⟨h1,z⟩:=o k
     have t:tN ops.toList j:=Rq p z (by simpa using g.1) (λi x r w hr=>by
      simp only[Ww,WB] at w
      obtain⟨s,A,rfl⟩:=w
      exact g.2 i s r A hr)
     simpa using y4 hm (id:=id) p h1 t
   split at a
   .rename_i k
    split at a
    .rename_i B
     simp at a;subst a
     exact key hw (λ_=>by simpa using B)
    .simp at a
   .rename_i k
    simp at a;subst a
    exact key hw (λe=>absurd e k)
theorem fj {a b:Option SC} {c:SC} (h:orElse' a b=some c):a=some c∨b=some c:=by
 cases a with
 | none=>exact .inr h
 | some x=>exact .inl h
theorem M4 (hm:P.follows .mixedOrders=true) {k:List Nat} {id:Nat} {ops:Array Oper} {draw:Bool} {i:SC} {T:Env} {h:Heap} {Q:Exit->Env->View->Prop} (c:Ce P n k ops.toList draw=some i) (hw:wS P i T h.view Q) :
  ∃ e j b,cL P n (.region id ops draw) T h e j b/\(jk h b/\h.length<=b.length)/\Q e j b.view:=by
 unfold Ce at c
 rcases fj c with h1 | h1
 .exact rM hm h1 hw
 .clear c
  split at h1
  .rename_i l
   subst l
   rcases fj h1 with a | h1
   .split at a
    .exact Qk hm a hw
    .simp at a
   rcases fj h1 with a | h1
   .split at a
    .exact rM hm a hw
    .simp at a
   rcases fj h1 with d | d
   .exact Qi hm d hw
   .rcases fj d with f | f
    .exact rM hm f hw
    .rcases fj f with g | g
     .exact rM hm g hw
     .exact rM hm g hw
  .simp at h1
theorem Ek {e:Exit} {a b:Prop} (h:Ag e a b):(e=.normal/\a)∨(e≠.normal/\b):=by
 cases e with
 | normal=>exact .inl ⟨rfl,h⟩
 | _=>exact .inr ⟨by simp,h⟩
def q8 (P:Program) (n:Nat) (fz:List Nat) (c:Code):Prop:=∀ sc:SC,c8 P n fz c=some sc->∀ (T:Env) (h:Heap) (Q:Exit->Env->View->Prop),wS P sc T h.view Q ->
 ∃ e T' h',cL P n c T h e T' h'/\(jk h h'/\h.length<=h'.length)/\Q e T' h'.view
theorem Es {b:List Nat} : q8 P n b .skip:=by
 intro c a T h Q hw;simp[c8] at a;subst a;exact⟨_,T,h,.skip,⟨.refl _,Wz _⟩,hw⟩
theorem Hr {g:List Nat} {x y:Code} (i:q8 P n g x) (j:q8 P n g y):q8 P n g (.seq x y):=by
 intro u c T h Q hw
 simp only[c8] at c
 split at c
 .rename_i a b h1 q
  simp at c;subst c
  simp only[wS] at hw
  obtain⟨e,o,d,p,st1,f⟩:=i a h1 T h _ hw
  rcases Ek f with ⟨rfl,f⟩ | ⟨k,f⟩
  .obtain⟨r,s,l,t,st2,m⟩:=j b q o d _ f
   exact⟨r,s,l,p.seq t,⟨st1.1.trans st2.1 st1.2,Xo st1.2 st2.2⟩,m⟩
  .exact⟨e,o,d,p.Kr k,st1,f⟩
 .simp at c
theorem nD {b:Fz} {ops:List Oper} {draw quiet:Bool} {a:SC} (h:rr P n b ops draw quiet=some a) (l:Nat):oH a l=none:=by
 unfold rr at h
 repeat' (first | (simp only[Wu] at h;subst h;rfl)|(split at h)|(simp at h;done))
theorem L0 {b:Fz} {ops:List Oper} {a:SC} (h:BZ P n b ops=some a) (l:Nat):oH a l=none:=by
 unfold BZ at h
 repeat' (first | (simp only[WB] at h;obtain⟨_,_,rfl⟩:=h;rfl)|(split at h)|(simp at h;done))
theorem Mv {b:Fz} {ops:List Oper} {a:SC} (h:Bw P n b ops=some a) (l:Nat):oH a l=none:=by
 unfold Bw at h
 repeat' (first | (simp only[WB] at h;obtain⟨_,_,rfl⟩:=h;rfl)|(split at h)|(simp at h;done))
theorem Ml {f:List Nat} {ops:List Oper} {draw:Bool} {e:SC} (h:Ce P n f ops draw=some e) (l:Nat):oH e l=none:=by
 unfold Ce at h
 rcases fj h with h1 | h1
 .exact nD h1 l
 .split at h1
  .rcases fj h1 with a | h1
   .split at a
    .exact Mv a l
    .simp at a
   rcases fj h1 with a | h1
   .split at a
    .exact nD a l
    .simp at a
   rcases fj h1 with b | b
   .exact L0 b l
   .rcases fj b with c | c
    .exact nD c l
    .rcases fj c with d | d
     .exact nD d l
     .exact nD d l
  .simp at h1
theorem Po {j:List Nat} : ∀ (c:Code) (f:SC),c8 P n j c=some f->∀ l,match findLabel c l with
  | some rest=>∃ r,oH f l=some r/\c8 P n j rest=some r
  | none=>oH f l=none:=by
 intro c
 induction c with
 | seq x y h i =>
  intro f d l
  simp only[c8] at d
  split at d
  .rename_i a b h1 k
   simp at d;subst d
   have g:=h a h1 l
   have o:=i b k l
   simp only[findLabel,oH]
   cases m:findLabel x l with
   | some rx =>
    rw[m] at g
    obtain⟨r,p,q⟩:=g
    exact⟨.seq r b,by rw[p],by simp only[c8,q,k]⟩
   | none =>
    rw[m] at g
    simp only at g ⊢
    rw[g]
    exact o
  .simp at d
 | label l' =>
  intro f d l
  simp[c8] at d;subst d
  simp only[findLabel,oH]
  by_cases e:(l' == l)=true
  .rw[Wv e];exact⟨.skip,by rw[Wv e],by simp[c8]⟩
  .rw[Ws e];simp only;rw[Ws e]
 | region id ops draw=>intro f d l;simp only[c8] at d;simp only[findLabel];exact Ml d l
 | cond x y z _ _ =>
  intro f d l
  simp only[c8] at d
  split at d
  .simp at d;subst d;rfl
  .simp at d
 | block id c _=>intro f d l;simp only[c8,WB] at d;obtain⟨_,_,rfl⟩:=d;rfl
 | loop c _=>intro f d l;simp only[c8,WB] at d;obtain⟨_,_,rfl⟩:=d;rfl
 | scope c _ =>
  intro f d l
  simp only[c8] at d
  split at d
  .split at d
   .simp only[WB] at d;obtain⟨_,_,rfl⟩:=d;rfl
   .simp at d
  .simp at d
 | skip=>intro f d l;simp[c8] at d;subst d;rfl
 | exit id=>intro f d l;simp[c8] at d;subst d;rfl
 | ret=>intro f d l;simp[c8] at d;subst d;rfl
 | goto l'=>intro f d l;simp[c8] at d;subst d;rfl
 | _=>intro f d;simp[c8] at d
theorem LQ {v:List Nat} {c:Code} (F:q8 P n v c) (hr:∀ l rest,findLabel c l=some rest->q8 P n v rest):q8 P n v (.scope c):=by
 intro H d T h Q hw
 simp only[c8] at d
 split at d
 .rename_i a h1
  split at d
  .rename_i l J
   simp only[WB] at d
   obtain⟨r,w,rfl⟩:=d
   have j:=Po c a h1 l
   cases m:findLabel c l with
   | none=>rw[m] at j;simp only at j;rw[j] at w;simp at w
   | some rest =>
    rw[m] at j
    obtain⟨L,t,o⟩:=j
    rw[w] at t
    have t:=Yz t
    subst t
    simp only[wS] at hw
    obtain⟨I,K,x,y⟩:=hw
    have go:∀ k T (h:Heap),I k T h.view->∃ e E u,rj P n c rest T h e E u/\(jk h u/\h.length<=u.length)/\Q e E u.view:=by
     intro k
     induction k using Nat.strongRecOn with
     | ind k z =>
      intro T h G
      obtain⟨e,p,b,q,st1,s⟩:=hr l rest m r o T h _ (y k T h.view G)
      cases e with
      | goto l' =>
       obtain⟨rfl,A,B,f⟩:=s
       obtain⟨o,C,g,D,st2,i⟩:=z A B p b f
       exact⟨o,C,g,rj.jump q m D,⟨st1.1.trans st2.1 st1.2,Xo st1.2 st2.2⟩,i⟩
      | _=>exact⟨_,p,b,.out q rfl,st1,s⟩
    obtain⟨e,p,b,q,st1,s⟩:=F a h1 T h _ x
    cases e with
    | goto l' =>
     obtain⟨rfl,A,_,f⟩:=s
     obtain⟨o,C,g,D,st2,i⟩:=go A p b f
     exact⟨o,C,g,.scope (rj.jump q m D),⟨st1.1.trans st2.1 st1.2,Xo st1.2 st2.2⟩,i⟩
    | _=>exact⟨_,p,b,.scope (.out q rfl),st1,s⟩
  .simp at d
 .simp at d
theorem QM (hm:P.follows .mixedOrders=true) {E:List Nat} : ∀ c:Code,q8 P n E c/\∀ l rest,findLabel c l=some rest->q8 P n E rest:=by
 intro c
 induction c with
 | skip=>exact⟨Es,λl rest h=>by simp[findLabel] at h⟩
 | region id ops draw=>exact⟨λp d T h Q hw=>M4 hm d hw,λl rest h=>by simp[findLabel] at h⟩
 | seq x y o g =>
  refine⟨Hr o.1 g.1,λl rest h=>?_⟩
  simp only[findLabel] at h
  split at h
  .rename_i r hr
   simp only[Wu] at h;subst h
   exact Hr (o.2 _ _ hr) g.1
  .exact g.2 _ _ h
 | cond c x y o g =>
  refine⟨?_,λl rest h=>by simp[findLabel] at h⟩
  intro p d T h Q hw
  simp only[c8] at d
  split at d
  .rename_i a b h1 H
   simp at d;subst d
   simp only[wS] at hw
   split at hw
   .rename_i t u
    have F:sL (SX.of c) t T=T:=by
     unfold sL
     split
     .rename_i k hk
      rw[hk] at u
      exact AZ u
     .rfl
    rw[SX.cx] at u
    cases t with
    | true =>
     have:=hw.1 rfl
     rw[F] at this
     obtain⟨e,j,f,m,st,i⟩:=o.1 a h1 T h Q this
     exact⟨e,j,f,.cond u m,st,i⟩
    | false =>
     have:=hw.2 rfl
     rw[F] at this
     obtain⟨e,j,f,m,st,i⟩:=g.1 b H T h Q this
     exact⟨e,j,f,.cond u m,st,i⟩
   .exact hw.elim
  .simp at d
 | block id c s =>
  refine⟨?_,λl rest h=>by simp[findLabel] at h⟩
  intro p d T h Q hw
  simp only[c8,WB] at d
  obtain⟨a,h1,rfl⟩:=d
  simp only[wS] at hw
  obtain⟨e,j,f,m,st,i⟩:=s.1 a h1 T h _ hw
  exact⟨_,j,f,m.block,st,i⟩
 | loop c s =>
  refine⟨?_,λl rest h=>by simp[findLabel] at h⟩
  intro p d T h Q hw
  simp only[c8,WB] at d
  obtain⟨a,h1,rfl⟩:=d
  simp only[wS] at hw
  obtain⟨I,⟨k,hk⟩,q⟩:=hw
  have go:∀ k T (h:Heap),I k T h.view->∃ e j f,pH P n c T h e j f/\(jk h f/\h.length<=f.length)/\Q e j f.view:=by
   intro k
   induction k using Nat.strongRecOn with
   | ind k w =>
    intro T h J
    obtain⟨e,G,v,m,st1,i⟩:=s.1 a h1 T h _ (q k T h.view J)
    rcases Ek i with ⟨rfl,K,z,A⟩ | ⟨B,i⟩
    .obtain⟨L,M,C,N,st2,D⟩:=w K z G v A
     exact⟨L,M,C,.step m N,⟨st1.1.trans st2.1 st1.2,Xo st1.2 st2.2⟩,D⟩
    .exact⟨e,G,v,.out m B,st1,i⟩
  obtain⟨e,j,f,m,st,i⟩:=go k T h hk
  exact⟨e,j,f,.loop m,st,i⟩
 | exit id=>exact⟨λp d T h Q hw=>by simp[c8] at d;subst d;exact⟨_,T,h,.exit,⟨.refl _,Wz _⟩,hw⟩,λl rest h=>by simp[findLabel] at h⟩
 | ret=>exact⟨λp d T h Q hw=>by simp[c8] at d;subst d;exact⟨_,T,h,.ret,⟨.refl _,Wz _⟩,hw⟩,λl rest h=>by simp[findLabel] at h⟩
 | label l'=>exact⟨λp d T h Q hw=>by simp[c8] at d;subst d;exact⟨_,T,h,.label,⟨.refl _,Wz _⟩,hw⟩,λl rest h=>by
   simp only[findLabel] at h
   split at h
   .simp only[Wu] at h;subst h;exact Es
   .simp at h⟩
 | goto l'=>exact⟨λp d T h Q hw=>by simp[c8] at d;subst d;exact⟨_,T,h,.goto,⟨.refl _,Wz _⟩,hw⟩,λl rest h=>by simp[findLabel] at h⟩
 | scope c s=>exact⟨LQ s.1 s.2,λl rest h=>by simp[findLabel] at h⟩
 | _=>exact⟨λp d=>by simp[c8] at d,λl rest h=>by simp[findLabel] at h⟩
theorem U6 (hm:P.follows .mixedOrders=true) {f:List Nat} (c:Code) (b:SC) (g:c8 P n f c=some b) (T:Env) (h:Heap) (Q:Exit->Env->View->Prop) (hw:wS P b T h.view Q) :
 ∃ e d a,cL P n c T h e d a/\(jk h a/\h.length<=a.length)/\Q e d a.view:=(QM hm c).1 b g T h Q hw
theorem U3 {T:Env} {h:Heap} {r:ResultVar} {l:List SR} {rest:List ResultVar} (b:fR P (r :: rest)=some l):∃ s l',l=s :: l'/\fR P rest=some l'/\∀ K:V->Prop,wR T h.view s K->∃ v,se P T h r=some v/\K v:=by
 cases r with
 | tmp t =>
  simp only[fR,WB] at b
  obtain⟨l',h1,rfl⟩:=b
  exact⟨.tmp t,l',rfl,h1,λK hk=>⟨_,rfl,hk⟩⟩
 | cell a t =>
  simp only[fR] at b
  split at b
  .rename_i k l' h1 g
   simp at b;subst b
   refine⟨.cell a k,l',rfl,g,λK hk=>?_⟩
   simp only[wR] at hk
   simp only[se,mC,wv h1]
   split at hk
   .rename_i id i j c
    split at hk
    .rename_i es hH
     obtain⟨d,hk⟩:=hk
     obtain⟨v,f,hk⟩:=pe hk
     exact⟨v,by rw[c];simp only[hH];rw[Wv d,f];rfl,hk⟩
    .exact hk.elim
   .rename_i e j c
    obtain⟨v,f,hk⟩:=pe hk
    exact⟨v,by rw[c];simp only;rw[f];rfl,hk⟩
   .exact hk.elim
  .simp at b
theorem Oa {T:Env} {h:Heap} {K:List V->Prop} : ∀ (rs:List ResultVar) (l:List SR) (acc:List V),fR P rs=some l->Bn T h.view l acc K->∃ vs,ma P T h rs=some vs/\K (acc ++ vs)
 | [],l,acc,a,hw=>by simp[fR] at a;subst a;exact⟨[],rfl,by simpa [Bn] using hw⟩
 | r :: rest,l,acc,a,hw=>by
  obtain⟨s,l',rfl,h1,c⟩:=U3 (T:=T) (h:=h) a
  simp only[Bn] at hw
  obtain⟨v,d,hk⟩:=c _ hw
  obtain⟨vs,b,hk⟩:=Oa rest l' (acc ++ [v]) h1 hk
  exact⟨v :: vs,by simp[ma,d,b],by simpa using hk⟩
def wF (P:Program) (F:SF) (vs:List V) (H:View) (K:V->View->Prop):Prop :=
 vs.length<=F.n/\wS P F.code (lO vs) H λe T' H'=>(e=.ret∨e=.normal)/\Bn T' H' F.res [] λl=>K (vP l) H'
theorem ao.of (hm:P.follows .mixedOrders=true) {f:FuncId} {j:List Nat} {F:SF} (b:aG P f j=some F) {vs:List V} {H:View} {K:V->View->Prop} (hw:wF P F vs H K):ao P f vs H K:=by
 unfold aG at b
 split at b
 .rename_i fn g
  split at b
  .rename_i c k
   split at b
   .rename_i m rs h1 n o
    simp at b;subst b
    refine⟨o,?_⟩
    rintro h rfl
    obtain⟨e,r,p,q,st,he,hr⟩:=U6 hm c m h1 _ h _ hw.2
    obtain⟨d,i,hk⟩:=Oa _ _ [] n hr
    refine⟨vP d,p,bC.KC g k hw.1 q he ?_,st.1,by simpa using hk⟩
    unfold LI
    rw[i]
    cases d with
    | nil=>rfl
    | cons a l=>cases l <;> rfl
   .simp at b
  .simp at b
 .simp at b
theorem ao.mono {f:FuncId} {vs:List V} {H:View} {K c:V->View->Prop} (h:ao P f vs H K) (hk:∀ r H',K r H'->c r H'):ao P f vs H c :=
 ⟨h.1,λd e=>let ⟨r,g,a,s,b⟩:=h.2 d e; ⟨r,g,a,s,hk _ _ b⟩⟩
theorem az.MK {f:FuncId} {vs:List V} {H:View} {t:V} {K:V->View->Prop} (h:az P f vs t) (a:dw P f=true) (hk:K t H):Cg P f vs H K :=
 ⟨a,λb e=>⟨t,b,bC.gn h b,λ_ _=>rfl,e ▸ hk⟩⟩
theorem ao.MK {f:FuncId} {vs:List V} {H:View} {K:V->View->Prop} (h:ao P f vs H λr H'=>(∀ id,H id≠.dead->H' id=H id)/\K r H'):Cg P f vs H K :=
 ⟨h.1,λc e=>by
  obtain⟨r,g,i,st,d,hk⟩:=h.2 c e
  refine⟨r,g,i,λid a=>?_,hk⟩
  by_cases b:c.view id=.dead
  .rw[b];exact st id a b
  .rw[<-e] at d;exact d id b⟩
end
inductive ct {α:Type} (x:α):Type where
 | mk
def fP (s:ByteArray):List Int:=s.data.toList.map λb=>(b.toNat:Int)
theorem eU (s:ByteArray):s.size=(fP s).length:=by rw[fP,WG,bsize]
def bk (P:Program) (c:SC) (T:Env) (H:View) (Q:Exit->Env->View->Prop) (_:ct (T,H,Q)):Prop:=wS P (.loop c) T H Q
def Uu (P:Program) (l:Nat) (c r:SC) (T:Env) (H:View) (Q:Exit->Env->View->Prop) (_:ct (T,H,Q)):Prop:=wS P (.scope l c r) T H Q
def aq (P:Program) (quiet:Bool) (f:FuncId) (vs:List V) (H:View) (K:V->View->Prop) (_:ct (H,K)):Prop :=
 if quiet then Cg P f vs H K else ao P f vs H K
def BM {α:Type} (v:α) (F:α->Prop) (_:ct F):Prop:=F v
def dY (v:V) (F:V->Prop) (_:ct F):Prop:=F v
def GU (o:bN) (F:bN->Prop) (_:ct F):Prop:=F o
def pX {α:Type} (o:Option α) (F:Option α->Prop) (_:ct F):Prop:=F o
def aj (b:Bool) (A B:Prop) (_:ct (A,B)):Prop:=(b=true->A)/\(b=false->B)
theorem Vl {α:Type} (v:α) (F:α->Prop) (w:ct F):BM v F w=F v:=propext Iff.rfl
section
variable (F:V->Prop) (w:ct F)
theorem Ll (v:Value):dY (.val v) F w=F (.val v):=propext Iff.rfl
theorem Ko (k:Nat):dY (.emp k) F w=F (.emp k):=propext Iff.rfl
theorem Kw:dY .dM F w=F .dM:=propext Iff.rfl
theorem Lg (es:List (List V)):dY (.aL es) F w=F (.aL es):=propext Iff.rfl
theorem NJ (a b c d:Nat):dY (.sl a b c d) F w=F (.sl a b c d):=propext Iff.rfl
theorem KL (a b c:Nat):dY (.ptr a b c) F w=F (.ptr a b c):=propext Iff.rfl
theorem IW (e:List V) (j:Nat):dY (.aN e j) F w=F (.aN e j):=propext Iff.rfl
theorem OT (a:Nat):dY (.mp a) F w=F (.mp a):=propext Iff.rfl
theorem NW (f:FuncId) (a b:List V):dY (.fn f a b) F w=F (.fn f a b):=propext Iff.rfl
theorem Kc (cs:List V):dY (.agg cs) F w=F (.agg cs):=propext Iff.rfl
theorem KV (cs:List V):dY (.aO cs) F w=F (.aO cs):=propext Iff.rfl
end
theorem KP (F:bN->Prop) (w:ct F) (k:Nat) (es:List (List V)):GU (.arr k es) F w=F (.arr k es):=propext Iff.rfl
theorem KN (F:bN->Prop) (w:ct F) (es:List (V × V × Nat)) (k:Nat):GU (.map es k) F w=F (.map es k):=propext Iff.rfl
theorem HI {α:Type} (F:Option α->Prop) (w:ct F) (x:α):pX (some x) F w=F (some x):=propext Iff.rfl
theorem Iw (A B:Prop) (w:ct (A,B)):aj true A B w=A:=by simp[aj]
theorem Ec (A B:Prop) (w:ct (A,B)):aj false A B w=B:=by simp[aj]
theorem Ki (b:Bool) (A B:Prop) (w:ct (A,B)):aj (!b) A B w=aj b B A .mk:=by cases b <;> simp[aj]
theorem aj.split {b:Bool} {A B:Prop} {w:ct (A,B)} (h1:b=true->A) (a:b=false->B):aj b A B w:=⟨h1,a⟩
theorem aj.dec {p:Prop} [Decidable p] {A B:Prop} {w:ct (A,B)} (h1:p->A) (a:¬ p->B):aj (decide p) A B w:=⟨λh=>h1 (by simpa using h),λh=>a (by simpa using h)⟩
theorem aj.eq {a b:Int} {A B:Prop} {w:ct (A,B)} (h1:a=b->A) (c:¬ a=b->B):aj (a == b) A B w:=⟨λh=>h1 (by simpa using h),λh=>c (by simpa using h)⟩
theorem aj.ne {a b:Int} {A B:Prop} {w:ct (A,B)} (h1:¬ a=b->A) (c:a=b->B):aj (a != b) A B w:=⟨λh=>h1 (by simpa using h),λh=>c (by simpa using h)⟩
section
variable (P:Program) (T:Env) (H:View)
theorem R7 (F:SF) (vs:List V) (K:V->View->Prop):wF P F vs H K=(vs.length<=F.n/\wS P F.code (lO vs) H λe a H'=>(e=.ret∨e=.normal)/\Bn a H' F.res [] λl=>BM (vP l) (λv=>K v H') .mk):=propext Iff.rfl
theorem J2 (Q:Exit->Env->View->Prop):wS P .skip T H Q=Q .normal T H:=propext Iff.rfl
theorem EZ (q:Bool) (gs:List SG) (Q:Exit->Env->View->Prop):wS P (.region q gs) T H Q=xe P q gs T H (Q .normal):=propext Iff.rfl
theorem Bl (a:List (Nat × Nat)) (gs:List SG) (Q:Exit->Env->View->Prop):wS P (.rH a gs) T H Q=xe P false gs T H (λb H'=>yY a b (Q .normal b H')):=propext Iff.rfl
theorem CU (a:Nat × Nat × Nat) (b:List (Nat × Nat)) (gs:List SG) (Q:Exit->Env->View->Prop):wS P (.uP a b gs) T H Q=xe P false gs T H (λc H'=>Hz P a.1 (c a.2.1) (c a.2.2) H/\yY b c (Q .normal c H')):=propext Iff.rfl
theorem J1 (K:Prop):yY [] T K=K:=propext Iff.rfl
theorem Gh (a b:Nat) (l:List (Nat × Nat)) (K:Prop):yY ((a,b) :: l) T K=(iO (T a) (T b)/\yY l T K):=propext Iff.rfl
theorem JK (i j k a b c:Nat):iO (.ptr i j k) (.ptr a b c)=(i≠a):=propext Iff.rfl
theorem JY (i j k a b c d:Nat):iO (.ptr i j k) (.sl a b c d)=(i≠a):=propext Iff.rfl
theorem Il (i j k e:Nat):iO (.ptr i j k) (.emp e)=True:=id rfl
theorem IT (i j k:Nat):iO (.ptr i j k) .dM=True:=id rfl
theorem GB (i j k:Nat) (es:List (List V)):iO (.ptr i j k) (.aL es)=True:=id rfl
theorem JG (a b c d e f g h:Nat):iO (.sl a b c d) (.sl e f g h)=(a≠e):=propext Iff.rfl
theorem Oj (a b c d e:Nat):iO (.sl a b c d) (.emp e)=True:=id rfl
theorem PF (a b c d:Nat):iO (.sl a b c d) .dM=True:=id rfl
theorem Oc (a b c d:Nat) (es:List (List V)):iO (.sl a b c d) (.aL es)=True:=id rfl
theorem K4 (k:Nat) (v:V):iO (.emp k) v=True:=by cases v <;> rfl
theorem JH (v:V):iO .dM v=True:=by cases v <;> rfl
theorem Kj (es:List (List V)) (v:V):iO (.aL es) v=True:=by cases v <;> rfl
theorem GL (e:List V) (j:Nat) (v:V):iO (.aN e j) v=True:=by cases v <;> rfl
theorem PU (x y:SC) (Q:Exit->Env->View->Prop):wS P (.seq x y) T H Q=wS P x T H λe a H'=>Ag e (wS P y a H' Q) (Q e a H'):=propext Iff.rfl
theorem KX (c:SX) (x y:SC) (Q:Exit->Env->View->Prop):wS P (.cond c x y) T H Q=dY (c.at T) (λv=>match v with
 | .val (.bool b)=>aj b (wS P x (sL c true T) H Q) (wS P y (sL c false T) H Q) .mk
 | _=>False) .mk:=propext Iff.rfl
theorem Gr (id:Nat) (c:SC) (Q:Exit->Env->View->Prop):wS P (.block id c) T H Q=wS P c T H λe=>Q (pE id e):=propext Iff.rfl
theorem JJ (id:Nat) (Q:Exit->Env->View->Prop):wS P (.exit id) T H Q=Q (.exit id) T H:=propext Iff.rfl
theorem Ns (Q:Exit->Env->View->Prop):wS P .ret T H Q=Q .ret T H:=propext Iff.rfl
theorem GG (l:Nat) (c r:SC) (Q:Exit->Env->View->Prop):wS P (.scope l c r) T H Q=Uu P l c r T H Q .mk:=propext Iff.rfl
theorem GS (l:Nat) (Q:Exit->Env->View->Prop):wS P (.label l) T H Q=Q .normal T H:=propext Iff.rfl
theorem K6 (l:Nat) (Q:Exit->Env->View->Prop):wS P (.goto l) T H Q=Q (.goto l) T H:=propext Iff.rfl
theorem Bt (l l':Nat) (a b:Prop):zC l (.goto l') a b=(l'=l/\a):=propext Iff.rfl
theorem yM (l:Nat) (a b:Prop):zC l .normal a b=b:=propext Iff.rfl
theorem Cz (l i:Nat) (a b:Prop):zC l (.exit i) a b=b:=propext Iff.rfl
theorem Fy (l:Nat) (a b:Prop):zC l .ret a b=b:=propext Iff.rfl
theorem Hu (l:Nat) (a b:Prop):Ag (.goto l) a b=b:=propext Iff.rfl
theorem B2 (i l:Nat):pE i (.goto l)=.goto l:=id rfl
theorem JS (c:SC) (Q:Exit->Env->View->Prop):wS P (.loop c) T H Q=bk P c T H Q .mk:=propext Iff.rfl
theorem Jz (q:Bool) (K:Env->View->Prop):xe P q [] T H K=K T H:=propext Iff.rfl
theorem F7 (q:Bool) (g:SG) (r:List SG) (K:Env->View->Prop):xe P q (g :: r) T H K=wG P q g T H λa H'=>xe P q r a H' K:=propext Iff.rfl
theorem JO (q:Bool) (ops:List (Option Nat × SB)) (K:Env->View->Prop):wG P q ⟨none,ops⟩ T H K=yb P q ops T H K:=propext Iff.rfl
theorem J0 (q:Bool) (d:Nat) (ops:List (Option Nat × SB)) (K:Env->View->Prop):wG P q ⟨some (d,true),ops⟩ T H K=dY (T d) (λv=>match v with
 | .val (.bool b)=>aj b (yb P q ops (T.put (some d) (.val (.bool true))) H K) (K (iT ops (T.put (some d) (.val (.bool false)))) H) .mk
 | .aO []=>K (iT ops T) H
 | _=>False) .mk:=propext Iff.rfl
theorem Gj (q:Bool) (d:Nat) (ops:List (Option Nat × SB)) (K:Env->View->Prop):wG P q ⟨some (d,false),ops⟩ T H K=dY (T d) (λv=>match v with
  | .val (.bool b)=>aj b (K (iT ops (T.put (some d) (.val (.bool true)))) H) (yb P q ops (T.put (some d) (.val (.bool false))) H K) .mk
  | .aO []=>K (iT ops T) H
  | _=>False) .mk:=by
 simp only[wG,dY]
 generalize T d=v
 cases v with
 | val x=>cases x <;> simp[aj,and_comm]
 | aO l=>cases l <;> simp
 | _=>simp
theorem Ah:iT [] T=T:=id rfl
theorem yW (d:Option Nat) (b:SB) (r:List (Option Nat × SB)):iT ((d,b) :: r) T=iT r (T.put d (.aO [])):=id rfl
theorem Kb (q:Bool) (K:Env->View->Prop):yb P q [] T H K=K T H:=propext Iff.rfl
theorem IS (q:Bool) (d:Option Nat) (b:SB) (r:List (Option Nat × SB)) (K:Env->View->Prop):yb P q ((d,b) :: r) T H K=wB P q b T H λv H'=>BM v (λv'=>yb P q r (T.put d v') H' K) .mk:=propext Iff.rfl
theorem R5 (q:Bool) (s:SI) (K:V->View->Prop):wB P q (.op s) T H K=wI P s T H K:=propext Iff.rfl
theorem JM (q:Bool) (f:SX) (args:List SX) (K:V->View->Prop):wB P q (.call f args) T H K=dY (f.at T) (λv=>match v with
 | .fn g first cap=>aq P q g (first ++ args.map (SX.at T) ++ cap) H K .mk
 | _=>False) .mk:=propext Iff.rfl
theorem Gx (q:Bool) (f:SX) (args:List SX) (K:V->View->Prop):wB P q (.sX f args) T H K=dY (f.at T) (λv=>match v with
 | .fn g first cap=>aq P true g (first ++ args.map (SX.at T) ++ cap) H K .mk
 | _=>False) .mk:=propext Iff.rfl
theorem PX (x:SX) (K:V->View->Prop):wI P (.dX x) T H K=K (x.at T) H:=propext Iff.rfl
theorem KH (c a b:SX) (K:V->View->Prop):wI P (.pick c a b) T H K=dY (c.at T) (λv=>match v with
  | .val (.bool t)=>aj t (K (a.at T) H) (K (b.at T) H) .mk
  | _=>False) .mk:=by
 simp only[wI,dY]
 generalize c.at T=v
 cases v with
 | val x =>
  cases x with
  | bool t=>cases t <;> simp[aj]
  | _=>simp
 | _=>simp
theorem Pl (x:SX) (K:V->View->Prop):wI P (.box x) T H K=dY (x.at T) (λv=>v.cells.all aE=true/\BM v.cells (λcs=>∀ n,H n=.dead->K (.ptr n 0 0) (H.set n (.arr cs.length [cs]))) .mk) .mk:=propext Iff.rfl
theorem O4 (x:SX) (K:V->View->Prop):wI P (.jL x) T H K=dY (x.at T) (λv=>v.cells.all aE=true/\BM v.cells (λcs=>K (.aN cs 0) H) .mk) .mk:=propext Iff.rfl
theorem Gd (z:List V) (K:V->View->Prop):wI P (.alloc z) T H K=(z.all aE=true/\∀ n,H n=.dead->K (.ptr n 0 0) (H.set n (.arr z.length [z]))):=propext Iff.rfl
theorem Lj (sz:Option Nat) (a:SX) (K:V->View->Prop):wI P (.load sz a) T H K=dY (a.at T) (λv=>match v with
 | .ptr id i j=>GU (H id) (λo=>match o with
  | .arr _ es=>i < es.length/\BM (es.getD i []) (λe=>j6 sz e j λv=>K v H) .mk
  | _=>False) .mk
 | .aN e j=>j6 sz e j λv=>K v H
 | _=>False) .mk:=propext Iff.rfl
theorem IU (sz:Option Nat) (a:SX) (K:V->View->Prop):wI P (.zr sz a) T H K=dY (a.at T) (λv=>match v with
 | .aN e j=>j6 sz e j λv=>K v H
 | _=>False) .mk:=propext Iff.rfl
theorem Gg (sz:Nat) (a x:SX) (K:V->View->Prop):wI P (.store sz a x) T H K=dY (a.at T) (λv=>match v with
 | .ptr id i j=>GU (H id) (λo=>match o with
  | .arr esz es=>BM (x.at T).cells (λcs=>(i < es.length/\cs.length=sz/\j+cs.length<=esz/\cs.all aE=true) /\
   BM (es.set i (fp (es.getD i []) j cs)) (λes'=>K .any (H.set id (.arr esz es'))) .mk) .mk
  | _=>False) .mk
 | _=>False) .mk:=propext Iff.rfl
theorem JU (x:SX) (K:V->View->Prop):wI P (.AA x) T H K=dY (x.at T) (λv=>match v with
 | .ptr id i j=>K (.ptr id i j) H
 | .aN e j=>K (.aN e j) H
 | .fn f a b=>K (.fn f a b) H
 | _=>False) .mk:=propext Iff.rfl
theorem KT (off:Nat) (x:SX) (K:V->View->Prop):wI P (.addr off x) T H K=dY (x.at T) (λv=>match v with
 | .ptr id i j=>K (.ptr id i (j+off)) H
 | .aN e j=>K (.aN e (j+off)) H
 | _=>False) .mk:=propext Iff.rfl
theorem IH (off:Nat) (sz:Option Nat) (x:SX) (K:V->View->Prop):wI P (.field off sz x) T H K=dY (x.at T) (λv=>match v with
 | .agg cs=>j6 sz cs off λv=>K v H
 | _=>False) .mk:=propext Iff.rfl
theorem OG (sz:Nat) (x i:SX) (K:V->View->Prop):wI P (.idx sz x i) T H K=pX (asNat (i.at T)) (λo=>match o with
  | none=>False
  | some q=>dY (x.at T) (λv=>match v with
   | .sl id off len esz=>(q < len/\esz=sz)/\K (.ptr id (off+q) 0) H
   | .aL es=>pX es[q]? (λo=>match o with
    | some e=>e.length=sz/\K (.aN e 0) H
    | none=>False) .mk
   | _=>False) .mk) .mk:=by
 simp only[wI,pX,dY]
 cases asNat (i.at T) with
 | none=>rfl
 | some q =>
  simp only
  cases x.at T with
  | aL es =>
   simp only
   cases h:es[q]? with
   | none=>simp
   | some e=>simp
  | _=>rfl
theorem Kx (f:FuncId) (first cap:List SX) (K:V->View->Prop):wI P (.qH f first cap) T H K=K (.fn f (first.map (SX.at T)) (cap.map (SX.at T))) H:=propext Iff.rfl
theorem IX (K:V->View->Prop):wI P .oo T H K=(∀ n,H n=.dead->K (.mp n) (H.set n (.map [] 0))):=propext Iff.rfl
theorem PD (i:Nat) (x:SX) (K:V->View->Prop):wI P (.ext i x) T H K=dY (x.at T) (λv=>match v with
 | .aO vs=>i < vs.length/\K (vs.getD i .any) H
 | _=>False) .mk:=propext Iff.rfl
theorem NV (x:SX) (K:V->View->Prop):wI P (.len x) T H K=pX (cT (x.at T)) (λo=>match o with
 | some n=>K (bU n) H
 | none=>False) .mk:=propext Iff.rfl
theorem JL (x:SX) (K:V->View->Prop):wI P (.pr x) T H K=dY (x.at T) (λv=>match v with
 | .val (.string s)=>K (bU s.size) H
 | _=>False) .mk:=propext Iff.rfl
theorem Ht (op:BinOp) (x y:SX) (K:V->View->Prop):wI P (.arith op x y) T H K=dY (x.at T) (λv=>dY (y.at T) (λv'=>match v,v' with
 | .val (.int k a),.val (.int c b)=>k=c/\pX (ik op k a b) (λo=>match o with | some v=>K (.val v) H | none=>False) .mk
 | _,_=>False) .mk) .mk:=propext Iff.rfl
theorem Sc (l:Bool) (x y:SX) (K:V->View->Prop):wI P (.sh l x y) T H K=dY (x.at T) (λv=>dY (y.at T) (λv'=>match v,v' with
 | .val (.int k a),.val (.int _ b)=>0<=b/\K (.val (.int k (Lr l k a b))) H
 | _,_=>False) .mk) .mk:=propext Iff.rfl
theorem Oq (op:BinOp) (x y:SX) (K:V->View->Prop):wI P (.yo op x y) T H K=dY (x.at T) (λv=>dY (y.at T) (λv'=>match v,v' with
 | .val (.string a),.val (.string b)=>(match op with
  | .eql=>K (.val (.bool (iX a b))) H
  | .neq=>K (.val (.bool (!iX a b))) H
  | _=>False)
 | _,_=>False) .mk) .mk:=propext Iff.rfl
theorem JP (x i:SX) (K:V->View->Prop):wI P (.iF x i) T H K=dY (x.at T) (λv=>pX (asNat (i.at T)) (λo=>match v,o with
  | .val (.string s),some q=>pX (fP s)[q]? (λo=>match o with
   | some c=>K (.val (.int .u8 c)) H
   | none=>False) .mk
  | _,_=>False) .mk) .mk:=by
 simp only[wI,pX,dY]
 generalize x.at T=v
 generalize asNat (i.at T)=o
 cases v with
 | val u =>
  cases u with
  | string s =>
   cases o with
   | none=>rfl
   | some q =>
    simp only[fP,Ww]
    cases h:s.data.toList[q]? with
    | none=>simp
    | some e=>simp
  | _=>rfl
 | _=>rfl
theorem OW (x:SX) (K:V->View->Prop):wI P (.not x) T H K=dY (x.at T) (λv=>match v with
 | .val (.bool t)=>K (.val (.bool (!t))) H
 | _=>False) .mk:=propext Iff.rfl
theorem M6 (eq:Bool) (k:Nat) (x y:SX) (K:V->View->Prop):wI P (.nil eq k x y) T H K=pX (AN (eX k (x.at T)) (eX k (y.at T))) (λo=>match o with
 | some b=>K (.val (.bool (if eq=true then b else !b))) H
 | none=>False) .mk:=propext Iff.rfl
theorem K8 (x y:SX) (K:V->View->Prop):wI P (.beq true x y) T H K=dY (x.at T) (λv=>dY (y.at T) (λv'=>match v,v' with
 | .val (.bool a),.val (.bool b)=>K (.val (.bool (a == b))) H
 | _,_=>False) .mk) .mk:=propext Iff.rfl
theorem K9 (x y:SX) (K:V->View->Prop):wI P (.beq false x y) T H K=dY (x.at T) (λv=>dY (y.at T) (λv'=>match v,v' with
 | .val (.bool a),.val (.bool b)=>K (.val (.bool (a != b))) H
 | _,_=>False) .mk) .mk:=propext Iff.rfl
theorem OB (x y:SX) (K:V->View->Prop):wI P (.mm true x y) T H K=dY (x.at T) (λv=>dY (y.at T) (λv'=>match v,v' with
 | .val (.int k a),.val (.int _ b)=>K (.val (.int k (if b > a then b else a))) H
 | _,_=>False) .mk) .mk:=propext Iff.rfl
theorem OU (x y:SX) (K:V->View->Prop):wI P (.mm false x y) T H K=dY (x.at T) (λv=>dY (y.at T) (λv'=>match v,v' with
 | .val (.int k a),.val (.int _ b)=>K (.val (.int k (if b < a then b else a))) H
 | _,_=>False) .mk) .mk:=propext Iff.rfl
theorem Kl (k:IntKind) (x:SX) (K:V->View->Prop):wI P (.conv k x) T H K=dY (x.at T) (λv=>match v with
 | .val (.int _ a)=>K (.val (.int k (k.wrap a))) H
 | _=>False) .mk:=propext Iff.rfl
theorem HM (n k:Nat) (o:bN):View.set H n o k=if k=n then o else H k:=id rfl
theorem Hi (z:List V) (parts:List (Nat × Nat × SX)) (K:V->View->Prop):wI P (.build z parts) T H K=pX (lY z (parts.map λp=>(p.1,p.2.1,p.2.2.at T))) (λo=>match o with
 | some cs=>K (.agg cs) H
 | none=>False) .mk:=propext Iff.rfl
theorem Fu (len sz:Nat) (z:List V) (parts:List (Nat × SX)) (K:V->View->Prop):wI P (.bS len sz z parts) T H K=pX (lK sz (List.replicate len z) (parts.map λp=>(p.1,p.2.at T))) (λo=>match o with
 | some es=>∀ n,H n=.dead->K (.sl n 0 len sz) (H.set n (.arr sz es))
 | none=>False) .mk:=propext Iff.rfl
theorem Gl (sz:Nat) (x:SX) (lo hi:Option SX) (K:V->View->Prop):wI P (.slice sz x lo hi) T H K=pX (cY sz (x.at T) (lo.map (SX.at T)) (hi.map (SX.at T))) (λo=>match o with
 | some (v,.none,_)=>K v H
 | _=>False) .mk:=propext Iff.rfl
theorem Ku (sz bytes:Nat) (z:List V) (l c:SX) (K:V->View->Prop):wI P (.make sz bytes z l c) T H K=pX (asNat (l.at T)) (λa=>pX (asNat (c.at T)) (λb=>match a,b with
 | some l,some c=>(l<=c/\c < aD/\bytes * c < aD)/\(c=0->K (.emp 2) H)/\(c≠0->∀ n,H n=.dead->K (.sl n 0 l sz) (H.set n (.arr sz (List.replicate l z))))
 | _,_=>False) .mk) .mk:=propext Iff.rfl
def nS (sz bytes:Nat) (x:V) (xs:List (List V)) (H:View) (K:V->View->Prop) (_:ct (H,K)):Prop:=if xs.isEmpty=true then (match x with
  | .emp k=>K (.emp k) H
  | .dM=>K .dM H
  | .aL es=>K (.aL es) H
  | .sl a b c d=>K (.sl a b c d) H
  | _=>False)
 else (xs.all λe=>e.length == sz && e.all aE)=true/\(match x with
  | .emp _=>(xs.length * bytes < aD/\xs.length < aD)/\∀ n,H n=.dead->K (.sl n 0 xs.length sz) (H.set n (.arr sz xs))
  | .sl id off len esz=>match H id with
   | .arr _ es=>(off+len<=es.length/\esz=sz/\(len+xs.length) * bytes < aD/\len+xs.length < aD) /\
    ∀ n,H n=.dead->K (.sl n 0 (len+xs.length) esz) ((H.set id .dead).set n (.arr esz ((es.drop off).take len ++ xs)))
   | _=>False
  | _=>False)
theorem M9 (sz bytes:Nat) (x y:SX) (K:V->View->Prop):wI P (.app sz bytes x y) T H K=pX (bD H (y.at T)) (λo=>match o with
 | some (xs,_)=>nS sz bytes (x.at T) xs H K .mk
 | none=>False) .mk:=propext Iff.rfl
theorem yI (sz bytes k:Nat) (xs:List (List V)) (K:V->View->Prop) (w:ct (H,K)) (a:xs.isEmpty=false):nS sz bytes (.emp k) xs H K w=((xs.all λe=>e.length == sz && e.all aE)=true/\(xs.length * bytes < aD/\xs.length < aD)/\∀ n,H n=.dead->K (.sl n 0 xs.length sz) (H.set n (.arr sz xs))):=by
 unfold nS;rw[Ws (by rw[a];simp)]
theorem wg (sz bytes id off len esz:Nat) (xs:List (List V)) (K:V->View->Prop) (w:ct (H,K)) (a:xs.isEmpty=false):nS sz bytes (.sl id off len esz) xs H K w=((xs.all λe=>e.length == sz && e.all aE)=true/\GU (H id) (λo=>match o with
  | .arr _ es=>(off+len<=es.length/\esz=sz/\(len+xs.length) * bytes < aD/\len+xs.length < aD) /\
   ∀ n,H n=.dead->K (.sl n 0 (len+xs.length) esz) ((H.set id .dead).set n (.arr esz ((es.drop off).take len ++ xs)))
  | _=>False) .mk):=by
 unfold nS GU;rw[Ws (by rw[a];simp)]
theorem rv (id off len esz z:Nat) (es:List (List V)) (hH:H id=.arr z es) (a:off+(len+1)<=es.length):bD H (.sl id off (len+1) esz)=some ((es.drop off).take (len+1),[id]):=by
 simp only[bD,hH];rw[Wv a]
theorem ug (es:List (List V)):bD H (.aL es)=some (es,[]):=id rfl
theorem Ac (k:Nat):bD H (.emp k)=some ([],[]):=id rfl
theorem J7 (x:SX) (K:V->View->Prop):wI P (.DI x) T H K=dY (x.at T) (λv=>match v with
 | .aL es=>pX (ll es) (λo=>match o with
  | some l=>K (.val (.string ⟨l.toArray⟩)) H
  | none=>False) .mk
 | _=>False) .mk:=propext Iff.rfl
theorem Ka (x:SX) (K:V->View->Prop):wI P (.gu x) T H K=dY (x.at T) (λv=>match v with
 | .val (.string s)=>K (.aL (gN s)) H
 | _=>False) .mk:=propext Iff.rfl
def iZ (P:Program) (op:Op) (ty:TypeId) (T:Env) (H:View) (K:V->View->Prop) (_:ct (T,H,K)):Prop:=wI P (.old op ty) T H K
theorem OJ (op:Op) (ty:TypeId) (K:V->View->Prop):wI P (.old op ty) T H K=iZ P op ty T H K .mk:=propext Iff.rfl
theorem Oi (t:Nat):ev T (.tmp t)=T t:=id rfl
theorem IC (v:Value):ev T (.const v)=fA v:=id rfl
theorem Ng (t:Nat):(SX.tmp t).at T=T t:=id rfl
theorem PN (v:V):(SX.val v).at T=v:=id rfl
theorem JC (d t:Nat) (v:V):(T.put (some d) v) t=if t=d then v else T t:=id rfl
theorem Gu (v:V):T.put none v=T:=id rfl
theorem GW (vs:List V) (t:Nat):lO vs t=vs.getD t .any:=id rfl
theorem CS (e:List V) (j:Nat) (K:V->Prop):j6 none e j K=(j < e.length/\K (e.getD j .any)):=propext Iff.rfl
theorem BK (n:Nat) (e:List V) (j:Nat) (K:V->Prop):j6 (some n) e j K=(j+n<=e.length/\K (.agg ((e.drop j).take n))):=propext Iff.rfl
theorem Cy (a b:Prop):Ag .normal a b=a:=propext Iff.rfl
theorem GQ (i:Nat) (a b:Prop):Ag (.exit i) a b=b:=propext Iff.rfl
theorem Kd (a b:Prop):Ag .ret a b=b:=propext Iff.rfl
theorem yx (i:Nat):pE i .normal=.normal:=id rfl
theorem Ee (i:Nat):pE i .ret=.ret:=id rfl
theorem Cw (i j:Nat):pE i (.exit j)=if j=i then .normal else .exit j:=by simp only[pE]
theorem Kp (acc:List V) (K:List V->Prop):Bn T H [] acc K=K acc:=propext Iff.rfl
theorem Iz (r:SR) (l:List SR) (acc:List V) (K:List V->Prop):Bn T H (r :: l) acc K=wR T H r λv=>Bn T H l (acc ++ [v]) K:=propext Iff.rfl
theorem NS (t:Nat) (K:V->Prop):wR T H (.tmp t) K=K (T t):=propext Iff.rfl
theorem Kh (t:Nat) (sz:Option Nat) (K:V->Prop):wR T H (.cell t sz) K=dY (T t) (λv=>match v with
 | .ptr id i j=>GU (H id) (λo=>match o with
  | .arr _ es=>i < es.length/\BM (es.getD i []) (λe=>j6 sz e j K) .mk
  | _=>False) .mk
 | .aN e j=>j6 sz e j K
 | _=>False) .mk:=propext Iff.rfl
theorem D9 (t:Nat) (b:Bool):sL (.tmp t) b T=T.put (some t) (.val (.bool b)):=id rfl
theorem Ex (v:V) (b:Bool):sL (.val v) b T=T:=id rfl
theorem Pq:(Exit.ret=Exit.ret∨Exit.ret=Exit.normal)=True:=by simp
theorem Ez:(Exit.normal=Exit.ret∨Exit.normal=Exit.normal)=True:=by simp
end
section
variable {P:Program} {T:Env} {H:View}
theorem bk.intro {c:SC} {Q:Exit->Env->View->Prop} {v:ct (T,H,Q)} (I:Nat->Env->View->Prop) (k:Nat) (d:I k T H)
  (f:∀ k T H,I k T H->wS P c T H λe a H'=>Ag e (∃ b,b < k/\I b a H') (Q e a H')):bk P c T H Q v:=by
 simp only[bk,wS]
 exact⟨I,⟨k,d⟩,f⟩
theorem aq.pure {q:Bool} {f:FuncId} {vs:List V} {K:V->View->Prop} {v:ct (H,K)} {t:V} (b:az P f vs t) (hk:K t H) (a:dw P f=true:=by kernel_rfl):aq P q f vs H K v:=by
 unfold aq
 cases q with
 | true=>exact b.MK a hk
 | false =>
  refine⟨a,?_⟩
  rintro h rfl
  exact⟨t,h,bC.gn b h,.refl _,hk⟩
theorem aq.bX {f:FuncId} {vs:List V} {K:V->View->Prop} {v:ct (H,K)} (a:ao P f vs H K):aq P false f vs H K v:=a
theorem Fp:Heap.view []=λ_=>bN.dead:=by funext id;simp[Heap.view]
theorem az.of {f:FuncId} {vs:List V} {t:V} (b:∀ v∈vs,Tree v) (h:ao P f vs (λ_=>.dead) λr H'=>∀ a:Heap,a.view=H'->Fr a r t):az P f vs t:=by
 obtain⟨r,a,c,_,d⟩:=h.2 [] Fp
 exact az.vR b c (d a rfl)
theorem wrap64 {x:Int} (h1 : -9223372036854775808<=x) (d:x<=9223372036854775807):IntKind.wrap .i64 x=x:=by
 unfold IntKind.wrap
 have a:(2:Int) ^ IntKind.i64.bits=18446744073709551616:=by rfl
 have b:(2:Int) ^ (IntKind.i64.bits - 1)=9223372036854775808:=by rfl
 have c:IntKind.i64.signed=true:=by rfl
 simp only[a,b,c,Xj,WH]
 split <;> omega
theorem Fk {k:IntKind} {i:Int} (h:0<=i):asNat (.val (.int k i))=some i.toNat:=by simp[asNat,h]
end
theorem Eh (v:Value):V.cells (.val v)=[.val v]:=id rfl
theorem C7 (v:Value):aE (.val v)=true:=id rfl
theorem Fg (k:Nat):V.cells (.emp k)=[.emp k]:=id rfl
theorem Dg (k:Nat):aE (.emp k)=true:=id rfl
theorem EO  : V.cells .dM=[.dM]:=id rfl
theorem JB  : aE .dM=true:=id rfl
theorem EH (es:List (List V)):V.cells (.aL es)=[.aL es]:=id rfl
theorem Kn (es:List (List V)):aE (.aL es)=true:=id rfl
theorem Gm (a b c d:Nat):V.cells (.sl a b c d)=[.sl a b c d]:=id rfl
theorem OZ (a b c d:Nat):aE (.sl a b c d)=true:=id rfl
theorem EW (a b c:Nat):V.cells (.ptr a b c)=[.ptr a b c]:=id rfl
theorem Lb (a b c:Nat):aE (.ptr a b c)=true:=id rfl
theorem BC (e:List V) (j:Nat):V.cells (.aN e j)=[.aN e j]:=id rfl
theorem HP (e:List V) (j:Nat):aE (.aN e j)=true:=id rfl
theorem GR (a:Nat):V.cells (.mp a)=[.mp a]:=id rfl
theorem No (a:Nat):aE (.mp a)=true:=id rfl
theorem He (f:FuncId) (a b:List V):V.cells (.fn f a b)=[.fn f a b]:=id rfl
theorem N5 (f:FuncId) (a b:List V):aE (.fn f a b)=true:=id rfl
theorem Eb (cs:List V):V.cells (.agg cs)=cs:=id rfl
theorem J6 (k:Nat):cT (.emp k)=some 0:=id rfl
theorem Ld:cT .dM=some 0:=id rfl
theorem Kg (es:List (List V)):cT (.aL es)=some es.length:=id rfl
theorem Pw (a b c d:Nat):cT (.sl a b c d)=some c:=id rfl
abbrev Vm {p:Prop} (_:p):Prop:=p
theorem Sq (P:Program) (T:Env) (H:View) (a:SC) (Q:Exit->Env->View->Prop):wS P (ai [a]) T H Q=wS P a T H Q:=by rw[ai]
theorem Sb (P:Program) (T:Env) (H:View) (a b:SC) (l:List SC) (Q:Exit->Env->View->Prop):wS P (ai (a :: b :: l)) T H Q=wS P (.seq a (ai (b :: l))) T H Q:=by rw[ai]
abbrev Wr:Prop:=Vm (And.intro @Sq <| And.intro @Sb <| And.intro @R7 <| And.intro @J2 <| And.intro @EZ <| And.intro @Bl <| And.intro @CU <| And.intro @J1 <| And.intro @Gh <| And.intro @PU <|
 And.intro @KX <| And.intro @Gr <| And.intro @JJ <| And.intro @Ns <| And.intro @GG <| And.intro @GS <| And.intro @K6 <| And.intro @Bt <| And.intro @yM <| And.intro @Cz <| And.intro @Fy <| And.intro @Hu <| And.intro @B2 <|
 And.intro @JS <| And.intro @Jz <| And.intro @F7 <| And.intro @JO <|
 And.intro @J0 <| And.intro @Gj <| And.intro @Ah <| And.intro @yW <|
 And.intro @Kb <| And.intro @IS <| And.intro @R5 <| And.intro @JM <| And.intro @Gx <|
 And.intro @PX <| And.intro @KH <| And.intro @Pl <| And.intro @O4 <|
 And.intro @Gd <| And.intro @Lj <| And.intro @IU <| And.intro @Gg <|
 And.intro @JU <| And.intro @KT <| And.intro @IH <| And.intro @OG <|
 And.intro @Kx <| And.intro @IX <| And.intro @PD <| And.intro @NV <|
 And.intro @JL <| And.intro @Ht <| And.intro @Sc <| And.intro @Oq <| And.intro @JP <|
 And.intro @OW <| And.intro @M6 <| And.intro @K8 <| And.intro @K9 <|
 And.intro @OB <| And.intro @OU <| And.intro @Kl <| And.intro @J7 <|
 And.intro @Ka <| And.intro @Hi <| And.intro @Fu <| And.intro @Gl <|
 And.intro @Ku <| And.intro @M9 <| And.intro @OJ <| And.intro @Oi <| And.intro @IC <| And.intro @Ng <| And.intro @PN <|
 And.intro @JC <| And.intro @Gu <| And.intro @GW <| And.intro @CS <|
 And.intro @BK <| And.intro @Cy <| And.intro @GQ <| And.intro @Kd <|
 And.intro @yx <| And.intro @Ee <| And.intro @Cw <| And.intro @Kp <|
 And.intro @Iz <| And.intro @NS <| And.intro @Kh <| And.intro @D9 @Ex)
theorem wr:Wr:=⟨@Sq,@Sb,@R7,@J2,@EZ,@Bl,@CU,@J1,@Gh,@PU,@KX,@Gr,@JJ,@Ns,@GG,@GS,@K6,@Bt,@yM,@Cz,@Fy,@Hu,@B2,@JS,@Jz,@F7,@JO,@J0,@Gj,@Ah,@yW,@Kb,@IS,@R5,@JM,@Gx,@PX,@KH,@Pl,@O4,@Gd,@Lj,@IU,@Gg,@JU,@KT,@IH,@OG,@Kx,@IX,@PD,@NV,@JL,@Ht,@Sc,@Oq,@JP,@OW,@M6,@K8,@K9,@OB,@OU,@Kl,@J7,@Ka,@Hi,@Fu,@Gl,@Ku,@M9,@OJ,@Oi,@IC,@Ng,@PN,@JC,@Gu,@GW,@CS,@BK,@Cy,@GQ,@Kd,@yx,@Ee,@Cw,@Kp,@Iz,@NS,@Kh,@D9,@Ex⟩
theorem N7:vP []=.aO []:=id rfl
theorem Ps (v:V):vP [v]=v:=id rfl
theorem PC (v w:V) (l:List V):vP (v :: w :: l)=.aO (v :: w :: l):=id rfl
theorem Sh (n:Nat):bU n=.val (.int .i64 n):=id rfl
theorem Hl (e:List V) (j:Nat) (cs:List V):fp e j cs=e.take j ++ cs ++ e.drop (j+cs.length):=id rfl
theorem HC (z:List V):lY z []=some z:=id rfl
theorem IN (z:List V) (o n:Nat) (x:V) (r:List (Nat × Nat × V)):lY z ((o,n,x) :: r)=if x.cells.length=n/\o+n<=z.length/\x.cells.all aE=true then lY (fp z o x.cells) r else none:=by rw[lY]
theorem Li (k:Nat) (z:List (List V)):lK k z []=some z:=by rw[lK]
theorem JT (k:Nat) (z:List (List V)) (i:Nat) (x:V) (r:List (Nat × V)):lK k z ((i,x) :: r)=if x.cells.length=k/\i < z.length/\x.cells.all aE=true then lK k (z.set i x.cells) r else none:=by rw[lK]
theorem Pj (b:Bool):AN (some true) (some b)=some b:=id rfl
theorem Pu (b:Bool):AN (some b) (some true)=some b:=by cases b <;> rfl
section
variable (k:IntKind) (a b:Int)
theorem Kz:ik .add k a b=some (.int k (k.wrap (a+b))):=id rfl
theorem JF:ik .sub k a b=some (.int k (k.wrap (a - b))):=id rfl
theorem JQ:ik .mul k a b=some (.int k (k.wrap (a * b))):=id rfl
theorem Lo:ik .quo k a b=if b=0 then none else some (.int k (k.wrap (a.tdiv b))):=id rfl
theorem J8:ik .rem k a b=if b=0 then none else some (.int k (a.tmod b)):=id rfl
theorem KK:ik .eql k a b=some (.bool (a == b)):=id rfl
theorem Lf:ik .neq k a b=some (.bool (a != b)):=id rfl
theorem J5:ik .lss k a b=some (.bool (a < b)):=id rfl
theorem KR:ik .leq k a b=some (.bool (a<=b)):=id rfl
theorem Ke:ik .gtr k a b=some (.bool (a > b)):=id rfl
theorem Lc:ik .geq k a b=some (.bool (a≥b)):=id rfl
theorem PK:ik .or k a b=some (.int k (k.wrap (BitVec.ofInt k.bits a ||| BitVec.ofInt k.bits b).toNat)):=id rfl
theorem KJ:ik .and k a b=some (.int k (k.wrap (BitVec.ofInt k.bits a &&& BitVec.ofInt k.bits b).toNat)):=id rfl
theorem CJ:ik .andNot k a b=some (.int k (k.wrap (BitVec.ofInt k.bits a &&& ~~~(BitVec.ofInt k.bits b)).toNat)):=id rfl
end
theorem MZ:eX 0 (.emp 1)=some true:=id rfl
theorem OD:eX 0 (.emp 2)=some false:=id rfl
theorem JA:eX 0 .dM=some false:=id rfl
theorem NQ (a b n c:Nat):eX 0 (.sl a b (n+1) c)=some false:=id rfl
theorem Ky (e:List V) (l:List (List V)):eX 0 (.aL (e :: l))=some false:=id rfl
theorem JW (a b c:Nat):eX 1 (.ptr a b c)=some false:=id rfl
theorem Iq (e:List V) (j:Nat):eX 1 (.aN e j)=some false:=id rfl
theorem N9 (a:Nat):eX 2 (.mp a)=some false:=id rfl
theorem OR (f:FuncId) (a b:List V):eX 3 (.fn f a b)=some false:=id rfl
theorem M0:eX 1 (.val (.pointer none))=some true:=id rfl
theorem Ot:eX 2 (.val (.map none))=some true:=id rfl
theorem O6:eX 3 (.val .nilFunc)=some true:=id rfl
abbrev Wq:Prop:=Vm (And.intro @N7 <| And.intro @Ps <| And.intro @PC <| And.intro @Sh <| And.intro @Hl <| And.intro @HC <| And.intro @IN <| And.intro @Li <| And.intro @JT <| And.intro @Pj <| And.intro @Pu <| And.intro @Kz <| And.intro @JF <| And.intro @JQ <| And.intro @Lo <| And.intro @J8 <| And.intro @KK <| And.intro @Lf <| And.intro @J5 <| And.intro @KR <| And.intro @Ke <| And.intro @Lc <| And.intro @PK <| And.intro @KJ <| And.intro @CJ <| And.intro @MZ <| And.intro @OD <| And.intro @JA <| And.intro @NQ <| And.intro @Ky <| And.intro @JW <| And.intro @Iq <| And.intro @N9 <| And.intro @OR <| And.intro @M0 <| And.intro @Ot <| And.intro @O6 <| And.intro @eq_self.{1} <| And.intro @ne_eq.{1} <| And.intro @implies_true.{1} <| And.intro @implies_true.{0} <| And.intro @decide_true <| And.intro @decide_false <| And.intro @JK <| And.intro @JY <| And.intro @Il <| And.intro @IT <| And.intro @GB <| And.intro @GL <| And.intro @JG <| And.intro @Oj <| And.intro @PF <| And.intro @Oc <| And.intro @K4 <| And.intro @JH <| And.intro @Kj <| And.intro @Eh <| And.intro @C7 <| And.intro @Fg <| And.intro @Dg <| And.intro @EO <| And.intro @JB <| And.intro @EH <| And.intro @Kn <| And.intro @Gm <| And.intro @OZ <| And.intro @EW <| And.intro @Lb <| And.intro @BC <| And.intro @HP <| And.intro @GR <| And.intro @No <| And.intro @He <| And.intro @N5 <| And.intro @Eb <| And.intro @J6 <| And.intro @Ld <| And.intro @Kg <| And.intro @Pw <| And.intro @true_or <| And.intro @or_true <| And.intro @or_false <| And.intro @false_or <|
 And.intro @Vl <| And.intro @Ll <| And.intro @Ko <| And.intro @Kw <|
 And.intro @Lg <| And.intro @NJ <| And.intro @KL <| And.intro @IW <|
 And.intro @OT <| And.intro @NW <| And.intro @Kc <| And.intro @KV <|
 And.intro @KP <| And.intro @KN <| And.intro @HI <| And.intro @Iw <|
 And.intro @Ec <| And.intro @Ki <| And.intro @List.getD_cons_zero.{0} <| And.intro @List.getD_cons_succ.{0} <|
 And.intro @List.length_cons.{0} <| And.intro @List.length_nil.{0} <| And.intro @List.length_map.{0,0} <| And.intro @wrap64 <|
 And.intro @true_and <| And.intro @and_true <| And.intro @and_self <| And.intro @WH <|
 And.intro @XC <| And.intro @List.all_cons.{0} <| And.intro @List.all_nil.{0} <| And.intro @Bool.and_self <|
 And.intro @List.nil_append.{0} <| And.intro @List.cons_append.{0} <| And.intro @Xk <| And.intro @Fk <|
 And.intro @W8 <| And.intro @Pq <| And.intro @Ez <| And.intro @bne_iff_ne.{0} <|
 And.intro @beq_iff_eq.{0} <| And.intro @Bool.not_eq_true <| And.intro @Yw <| And.intro @Bool.not_false <|
 And.intro @List.append_nil.{0} <| And.intro @List.map_cons.{0,0} <| And.intro @List.map_nil.{0,0} <| And.intro @Bool.true_eq_false <|
 And.intro @WR <| And.intro @false_implies <| And.intro @true_implies <| And.intro @Bool.not_not <|
 And.intro @List.drop_zero.{0} <| And.intro @HM <| And.intro @List.set_cons_zero.{0} <| And.intro @List.set_cons_succ.{0} <|
 And.intro @List.drop_nil.{0} <| And.intro @XW <| And.intro @List.replicate_zero.{0} <| And.intro @List.replicate_succ.{0} <|
 And.intro @ug <| And.intro @Ac <| And.intro @yI <| And.intro @wg <|
 And.intro @List.isEmpty_cons.{0} <| And.intro @Option.map_none.{0,0} <| And.intro @Option.map_some.{0,0} <| And.intro @Nat.succ_ne_zero <|
 And.intro @List.take_succ_cons.{0} <| And.intro @List.take_zero.{0} <| And.intro @List.drop_succ_cons.{0} <| And.intro @bne_eq_false_iff_eq.{0} <|
 And.intro @beq_eq_false_iff_ne.{0} <| And.intro @not_true_eq_false <| And.intro @not_false_eq_true @Yu)
theorem wq:Wq:=⟨@N7,@Ps,@PC,@Sh,@Hl,@HC,@IN,@Li,@JT,@Pj,@Pu,@Kz,@JF,@JQ,@Lo,@J8,@KK,@Lf,@J5,@KR,@Ke,@Lc,@PK,@KJ,@CJ,@MZ,@OD,@JA,@NQ,@Ky,@JW,@Iq,@N9,@OR,@M0,@Ot,@O6,@eq_self,@ne_eq,@implies_true,@implies_true,@decide_true,@decide_false,@JK,@JY,@Il,@IT,@GB,@GL,@JG,@Oj,@PF,@Oc,@K4,@JH,@Kj,@Eh,@C7,@Fg,@Dg,@EO,@JB,@EH,@Kn,@Gm,@OZ,@EW,@Lb,@BC,@HP,@GR,@No,@He,@N5,@Eb,@J6,@Ld,@Kg,@Pw,@true_or,@or_true,@or_false,@false_or,@Vl,@Ll,@Ko,@Kw,@Lg,@NJ,@KL,@IW,@OT,@NW,@Kc,@KV,@KP,@KN,@HI,@Iw,@Ec,@Ki,@Xx,@Ye,@WD,@WW,@WG,@wrap64,@true_and,@and_true,@and_self,@WH,@XC,@XK,@List.all_nil,@Bool.and_self,@Xt,@Xh,@Xk,@Fk,@W8,@Pq,@Ez,@bne_iff_ne,@Xw,@Bool.not_eq_true,@Yw,@Bool.not_false,@Xe,@WZ,@Yy,@Bool.true_eq_false,@WR,@false_implies,@true_implies,@Bool.not_not,@X1,@HM,@List.set_cons_zero,@List.set_cons_succ,@List.drop_nil,@XW,@List.replicate_zero,@List.replicate_succ,@ug,@Ac,@yI,@wg,@List.isEmpty_cons,@Option.map_none,@WL,@Nat.succ_ne_zero,@List.take_succ_cons,@List.take_zero,@List.drop_succ_cons,@bne_eq_false_iff_eq,@beq_eq_false_iff_ne,@not_true_eq_false,@not_false_eq_true,@Yu⟩
inductive x8:V->Prop
 | val (v:Value):x8 (.val v)
 | aO (cs:List V):(∀ i,i < cs.length->∃ v,cs.getD i .any=.val v)->x8 (.aO cs)
theorem QU {Z d:Nat->Prop} {μ μ':Mu} {hp b:Array Obj} {t:V} {x:Value} (e:x8 t) (h:aw Z μ hp t x):aw d μ' b t x:=by
 cases e with
 | val=>cases h with | val _ a=>exact .val _ a
 | aO cs f =>
  cases h with
  | aO _ c h1 g =>
   refine .aO _ _ h1 λi hi=>?_
   have:=g i hi
   obtain⟨v,a⟩:=f i hi
   rw[a] at this ⊢
   generalize c.getD i undef=y at this ⊢
   cases this with | val _ a=>exact .val _ a
theorem bC.borrow {P:Program} {f:FuncId} {d vs:List V} {t:V} {h:Heap} (q:az P f d t) (r:x8 t) (u:d.length=vs.length)
  (j:∀ i,i < vs.length->Fr h (vs.getD i .any) (d.getD i .any)):bC P f vs h t h:=by
 refine⟨Wz _,λZ μ F w xs c hr k=>?_⟩
 have l:fO (λb=>Z b∨jr μ b) μ w.heap d xs:=⟨by rw[u,c.1],λi hi=>CQ hr (j i (by omega)) (c.2 i (by omega))⟩
 have m:∀ b,(Z b∨jr μ b)->b < w.heap.size:=by
  rintro b (a | ⟨id,o,s,a⟩)
  .exact hr.cw b a
  .exact hr.lt _ _ _ _ a
 refine(q _ μ w xs l m).mono ?_
 rintro e w' ⟨x,z,rfl,v,n,A,y,g⟩
 have hm:ia Z Z μ μ w.heap w'.heap:=⟨λ_ h=>h,λb a=>g b (hr.cw b a) (λx=>x),λ_ _ h=>h,g.kU⟩
 exact⟨x,Z,μ,rfl,QU r (v μ),⟨λid=>(hr.obj id).mono hm rfl (λb o s p=>g b (hr.lt _ _ _ _ p) (λx=>x)),hr.inj,λid b o s p=>W4 (hr.lt _ _ _ _ p) n.size,λb a=>W4 (hr.cw b a) n.size,hr.gR⟩,
  ⟨n,hm,λb a _=>g b a (λx=>x),λb a=>.inl a,λ_ _ _ _ h=>.inl h⟩,λ_ _=>rfl⟩
def cg (H:View) (v t:V):Prop:=∀ h:Heap,h.view=H->Fr h v t
theorem cg.tree {H:View} {v:V} (h:Tree v):cg H v v:=λ_ _=>.tree _ h
theorem cg.sl {H:View} {id off len esz z:Nat} {es:List (List V)} (hH:H id=.arr z es) (hle:off+len<=es.length) (c:∀ e∈es,∀ v∈e,Tree v) :
  cg H (.sl id off len esz) (.aL ((es.drop off).take len)):=by
 rintro h rfl
 have b:∀ i,i < len->((es.drop off).take len).getD i []=es.getD (off+i) []:=λi hi=>by
  simp[Wo,XI,hi]
 refine .sl id off len esz z es _ hH hle (by simp;omega) (λi hi=>by rw[b i hi]) (λi j hi a=>?_)
 rw[b i hi] at a ⊢
 refine .tree _ ?_
 have h1:off+i < es.length:=by omega
 have d:es.getD (off+i) []=es[off+i]:=by simp[Wo,h1]
 rw[d] at a ⊢
 have f:(es[off+i]).getD j .any=(es[off+i])[j]:=by simp[Wo,a]
 rw[f]
 exact c _ (WA _) _ (WA _)
theorem aq.borrow {P:Program} {q:Bool} {f:FuncId} {H:View} {vs c:List V} {K:V->View->Prop} {v:ct (H,K)} {t:V} (d:az P f c t) (a:dw P f=true) (g:x8 t) (j:c.length=vs.length)
  (b:∀ i,i < vs.length->cg H (vs.getD i .any) (c.getD i .any)) (hk:K t H):aq P q f vs H K v:=by
 unfold aq
 cases q with
 | true=>exact⟨a,λh e=>⟨t,h,bC.borrow d g j (λi hi=>b i hi h e),λ_ _=>rfl,e ▸ hk⟩⟩
 | false =>
  refine⟨a,?_⟩
  rintro h rfl
  exact⟨t,h,bC.borrow d g j (λi hi=>b i hi h rfl),.refl _,hk⟩
abbrev gi (x:Int):V:=.val (.int .i64 x)
abbrev gb (x:Bool):V:=.val (.bool x)
abbrev gs (x:ByteArray):V:=.val (.string x)
theorem mixed:(Tryz.prog).follows .mixedOrders=true:=by kernel_rfl
def encI (l:List Int):V:=.aL (l.map λx=>[gi x])
def cB (l:List Bool):V:=.aL (l.map λx=>[gb x])
theorem aX (l:List Int):Tree (encI l):=by
 refine .aL _ λi j hi a=>?_
 simp only[WG] at hi
 simp[Wo,hi] at a ⊢
 subst a
 exact .val _
def aC {α:Type} (l:List α):Prop:=l.length < 4611686018427387904
def nC:SC :=
 ai [ai [af [aa 11 5,aa 12 0,aQ 13 12,aZ 14 .lss 11 13],cp 14 (.exit 0)],.block 1 (ai [af [aa 17 0,aa 18 5,aY 19 1 17 18,au 20 19,aa 21 1,aa 22 5,aY 23 1 21 22,au 24 23,aZ 25 .neq 20 24],bf 25 (ai [af [bc 4 false],.ret])]),af [aa 15 5,aF 16 .add 15 1,aa 5 16]]
def pV:SF:=⟨ai [af [bc 4 false],ai [af [aa 6 0,aQ 7 6,aa 8 1,aQ 9 8,aZ 10 .neq 7 9],bf 10 (ai [af [bc 4 false],.ret])],ai [af [bb 5 0],cz 0 nC],af [bc 4 true],.ret],
 [.tmp 4],26⟩
theorem uy:aG Tryz.prog 26 []=some pV:=by kernel_rfl
theorem TL {α:Type} [BEq α] [LawfulBEq α] {a b:List α} (h:a.length≠b.length):(a == b)=false:=by
 simp only[beq_eq_false_iff_ne];intro e;exact h (by rw[e])
theorem Tq (a b:List Int) (l:aC a) (H:View):ao Tryz.prog 26 [encI a,encI b] H λr H'=>r=gb (a == b)/\H'=H:=by
 refine ao.of mixed uy ?_
 unfold aC at l
 simp(disch:=omega)only[↓wr,seval,wq,pV,encI]
 apply aj.ne<;>intro h
 .simp(disch:=omega)only[↓wr,seval,wq]
  rw[TL (by omega)]
 .simp(disch:=omega)only[↓wr,seval,wq]
  refine bk.intro (λk T H'=>∃ i:Nat,i+k=a.length/\a.take i=b.take i/\T 0=encI a/\T 1=encI b/\T 5=gi i/\H'=H) a.length ?_ ?_
  .exact⟨0,by omega,by simp,rfl,rfl,rfl,rfl⟩
  .rintro k T H' ⟨i,hk,hi,c,h1,d,rfl⟩
   simp(disch:=omega)only[↓wr,seval,wq,nC,c,h1,d,encI]
   apply aj.dec<;>intro m
   .have g:a[i]?=some (a[i]'(by omega)):=Wp (by omega)
    have j:b[i]?=some (b[i]'(by omega)):=Wp (by omega)
    simp(disch:=omega)only[↓wr,seval,wq,c,h1,d,encI,Ww,g,j,WL]
    apply aj.ne<;>intro f
    .simp(disch:=omega)only[↓wr,seval,wq]
     have:(a == b)=false:=by
      simp only[beq_eq_false_iff_ne];rintro rfl;exact f rfl
     rw[this]
    .simp(disch:=omega)only[↓wr,seval,wq,c,h1,d,encI]
     refine⟨k - 1,by omega,i+1,by omega,?_,rfl⟩
     rw[WY,WY,hi,g,j,f]
   .simp(disch:=omega)only[↓wr,seval,wq,c,h1,d,encI]
    have:a=b:=by
     have e:i=a.length:=by omega
     rw[WT (by omega),WT (by omega)] at hi
     exact hi
    rw[this];simp
theorem Kf (a b:List Int) (c:aC a):az Tryz.prog 26 [encI a,encI b] (gb (a == b)) :=
 az.of (by simp[aX]) ((Tq a b c _).mono λr H' h d _=>by rw[h.1];exact .tree _ (.val _))
theorem kW (l:List Bool):Tree (cB l):=by
 refine .aL _ λi j hi a=>?_
 simp only[WG] at hi
 simp[Wo,hi] at a ⊢
 subst a
 exact .val _
end Gv
