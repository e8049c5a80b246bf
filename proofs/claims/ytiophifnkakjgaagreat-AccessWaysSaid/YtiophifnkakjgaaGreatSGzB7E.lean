/-
  Part 5 of the proof: what the machine does and what the functions answer.
  Conditions: those that each lemma names.
-/
import Derived.Test.YtiophifnkakjgaaGreatProg
import Derived.KernelRfl
import Derived.Test.YtiophifnkakjgaaGreatSGzB7D
set_option linter.unusedSimpArgs false
set_option linter.unusedVariables false
set_option maxRecDepth 100000
set_option maxHeartbeats 20000000
namespace Gv
open Go Go.Proofs
section
variable {P:Program} {n:Nat} {all:List Oper}
theorem Nk (h:az):h.view h.length=.dead:=by simp[az.view,Sm]
theorem Rg {o:Oper} {T:Env} {h:az} {s:SI} {K:V->View->Prop} (g:dt n all T o=some true) (i:∀ v eff rd,sI P s T h.view h.length=some (v,eff,rd)->bY P o T h.view h.length=some (v,eff,rd)) (hw:wI P s T h.view K) :
  ∃ v d rd wr,dJ P n all o T h v d rd wr false/\iN h d/\K v d.view/\jZ (sr P s) rd wr false h.length d.length:=by
 obtain⟨v,eff,rd,e,hk⟩:=Ra hw (Nk h)
 have f:=i _ _ _ e
 have a:∀ id,id∈eff.wr->h.view id≠.dead:=λid b=>(lS f id b).1
 refine⟨v,eff.apply h,rd,eff.wr,.op g f,?_,?_,?_,?_⟩
 .intro id b c
  rw[kE a]
  cases eff with
  | none=>exact c
  | new o=>simp only[bh.view,View.set];rw[Sr (by omega)];exact c
  | eS k o =>
   simp only[bh.view,View.set]
   rw[Sr (by rintro rfl;exact a id (by simp[bh.wr]) c)];exact c
  | eJ k o =>
   simp only[bh.view,View.set]
   rw[Sr (by omega)]
   split
   .rfl
   .exact c
 .rw[kE (λid b=>(lS f id b).1)];exact hk
 .intro j
  obtain⟨rfl,rfl⟩:=(qN e).1 j
  exact⟨rfl,rfl,rfl,rfl⟩
 .intro h1
  rcases SY (sr P s) 1 with l | l
  .obtain⟨rfl,rfl⟩:=(qN e).1 (by omega);rfl
  .exact(qN e).2 (by omega)
theorem G4 {P:Program} {fr:Bool} {s:SI} {T:Env} {H:View} {n:Nat} {v:V} {eff:bh} {rd:List Nat} (h:sI P (wU P fr s) T H n=some (v,eff,rd)):sI P s T H n=some (v,eff,rd):=by
 unfold wU at h
 split at h
 .split at h
  .exact OA h
  .exact h
 .split at h
  .rename_i a
   simp only[SE] at a
   exact PY a.2 h
  .exact h
 .exact h
theorem yE (P:Program) (a:Fz) (o:Oper) :
  (∃ f args b,o.op=.call { callee:=.value f,args:=args,argTypes:=b }/\(lK P a o=.call (SX.of f) (args.toList.map SX.of)∨lK P a o=.nM (SX.of f) (args.toList.map SX.of))) ∨
  (∃ t x,o.op=.box t x/\lK P a o=.op (.jd (SX.of x)))∨(∃ s d x,o.op=.convert s d x/\ta P s d=true/\lK P a o=.op (.fN (SX.of x)))∨lK P a o=.op (wU P a.fr (comp P o)):=by
 unfold lK
 split
 .rename_i f args b e
  refine .inl ⟨f,args,b,e,?_⟩
  by_cases g:(match o.dst with | some d=>a.l.contains (200000+d) | none=>false)=true
  .exact .inr (St g)
  .exact .inl (Sr g)
 .rename_i t x e
  by_cases c:(match o.dst with | some d=>a.l.contains d | none=>false)=true
  .exact .inr (.inl ⟨t,x,e,St c⟩)
  .refine .inr (.inr (.inr ?_))
   refine(Sr c).trans ?_
   simp only[comp,e,wU]
 .rename_i s d x e
  by_cases c:((match o.dst with | some d=>a.l.contains d | none=>false) && ta P s d)=true
  .exact .inr (.inr (.inl ⟨s,d,x,e,by simp only[SE] at c;exact c.2,St c⟩))
  .exact .inr (.inr (.inr (Sr c)))
 .exact .inr (.inr (.inr rfl))
theorem dJ.len {o:Oper} {T:Env} {h a:az} {v:V} {rd wr:List Nat} {call:Bool} (st:dJ P n all o T h v a rd wr call):h.length<=a.length:=by
 cases st with
 | skip=>exact Sy _
 | op _ _=>rename_i eff _ _ ;cases eff <;> simp[bh.apply]
 | jd _ _ _=>exact Sy _
 | fN _ _ _ _ _ _=>exact Sy _
 | call _ _ _ _ b _ _=>exact b.1
theorem Pu {q:Fz} {o:Oper} {T:Env} {h:az} {quiet:Bool} {K:V->View->Prop} (l:dt n all T o=some true) (hw:wB P quiet (lK P q o) T h.view K) :
  ∃ v b rd wr call,dJ P n all o T h v b rd wr call/\iN h b/\K v b.view/\jZ (iq P quiet (lK P q o)) rd wr call h.length b.length:=by
 rcases yE P q o with ⟨f,args,C,k,j | j⟩ | ⟨t,x,k,j⟩ | ⟨s,d,x,k,u,j⟩ | j
 rotate_left
 .rw[j] at hw ⊢
  simp only[wB] at hw
  split at hw
  .rename_i g first cap m
   rw[Aw] at hw
   rw[SX.cF] at m
   obtain⟨c,i⟩:=hw
   obtain⟨r,b,hr,hold,hk⟩:=i h rfl
   refine⟨r,b,[],[],true,.call l k m c hr (λid a _=>hold id a) (λid a=>by simp at a),λid a w=>(hold id a).trans w,hk,?_,?_⟩
   .intro p;simp[iq] at p
   .intro _;rfl
  .exact hw.elim
 rotate_right
 .rw[j] at hw ⊢
  simp only[wB] at hw
  split at hw
  .rename_i g first cap m
   rw[Aw] at hw
   rw[SX.cF] at m
   split at hw
   .rename_i y
    obtain⟨c,i⟩:=hw
    obtain⟨r,b,hr,hold,hk⟩:=i h rfl
    refine⟨r,b,[],[],true,.call l k m c hr (λid a _=>hold id a) (λid a=>by simp at a),λid a w=>(hold id a).trans w,hk,?_,?_⟩
    .intro p;simp[iq,y] at p
    .intro _;rfl
   .rename_i y
    obtain⟨c,i⟩:=hw
    obtain⟨r,b,hr,z,hk⟩:=i h rfl
    refine⟨r,b,[],List.range h.length,true,.call l k m c hr (λid a D=>?_) (λid a=>by simpa using a),z,hk,OY (by simp[iq,y])⟩
    exact absurd (by simpa using a) D
  .exact hw.elim
 .rw[j] at hw ⊢
  simp only[wB,wI,SX.cF] at hw
  exact⟨_,h,[],[],false,.jd l k hw.1,.refl _,hw.2,λ_=>⟨rfl,rfl,rfl,rfl⟩,λ_=>rfl⟩
 .rw[j] at hw ⊢
  simp only[wB,wI,SX.cF] at hw
  obtain⟨e,h1,A,B⟩:=yj u
  split at hw
  .rename_i st E
   exact⟨_,h,[],[],false,.fN l k h1 A B E,.refl _,hw,λ_=>⟨rfl,rfl,rfl,rfl⟩,λ_=>rfl⟩
  .exact hw.elim
 .rw[j] at hw ⊢
  obtain⟨v,b,rd,wr,h1,p,A,B⟩:=Rg (s:=wU P q.fr (comp P o)) l (λv eff rd F=>G7 (G4 F)) hw
  exact⟨v,b,rd,wr,false,h1,p,A,B⟩
def fK (P:Program) (quiet:Bool) (l:List SO) (recs:List Rec):Prop :=
 l.length=recs.length/\∀ (i:Nat) (s:SO) (r:Rec),l[i]?=some s->recs[i]?=some r->jZ (iq P quiet s.b) r.rd r.wr r.call r.lo r.hi
theorem fK.nil {quiet:Bool} : fK P quiet [] []:=⟨rfl,λi s r h=>by simp at h⟩
theorem fK.cons {quiet:Bool} {l:List SO} {a:List Rec} {s:SO} {r:Rec} (h:fK P quiet l a) (hr:jZ (iq P quiet s.b) r.rd r.wr r.call r.lo r.hi):fK P quiet (s :: l) (r :: a):=by
 refine⟨by simp[h.1],λi e f d c=>?_⟩
 cases i with
 | zero=>simp at d c;subst d c;exact hr
 | succ i=>exact h.2 i e f (by simpa using d) (by simpa using c)
theorem fK.append {quiet:Bool} {l d:List SO} {b a:List Rec} (h:fK P quiet l b) (e:fK P quiet d a):fK P quiet (l ++ d) (b ++ a):=by
 refine⟨by simp[h.1,e.1],λi s r c hr=>?_⟩
 by_cases hi:i < l.length
 .rw[S9 hi] at c
  rw[S9 (h.1 ▸ hi)] at hr
  exact h.2 i s r c hr
 .rw[Tu (by omega)] at c
  rw[Tu (by have:=h.1;omega)] at hr
  exact e.2 (i - l.length) s r c (by rw[h.1];exact hr)
theorem rY {a:Fz} {o:Oper} {s:SO} (h:DS P n all a o=some s):qt n o=true/\s.dst=o.dst/\s.b=lK P a o/\th n all o=some s.guard:=by
 unfold DS at h
 split at h
 .rename_i c
  simp only[Sw] at h
  obtain⟨g,d,rfl⟩:=h
  exact⟨c,rfl,rfl,d⟩
 .simp at h
theorem A0 {o:Oper} {T:Env} (h:th n all o=some none):dt n all T o=some true:=by
 unfold th at h
 unfold dt
 split at h
 .rename_i a;rw[a]
 .split at h
  .split at h
   .simp at h
   .simp at h
  .simp at h
theorem kJ {o:Oper} {T:Env} {d:Nat} {want:Bool} (h:th n all o=some (some (d,want))) :
  (∀ b,T d=.val (.bool b)->dt n all T o=some (b == want))/\(T d=.aS []->dt n all T o=some false):=by
 unfold th at h
 unfold dt
 split at h
 .simp at h
 .rename_i j w e
  rw[e]
  split at h
  .rename_i g f
   split at h
   .rename_i a
    simp at h
    obtain⟨rfl,rfl⟩:=h
    simp only[f,a,if_true]
    exact⟨λb c=>by rw[c],λc=>by rw[c]⟩
   .simp at h
  .simp at h
theorem kx {a:Fz} {os:List Oper} (h:dB P n all a os=some []):os=[]:=by
 cases os with
 | nil=>rfl
 | cons o r =>
  simp only[dB] at h
  split at h <;> simp at h
theorem k9 {a:Fz} {os:List Oper} {s:SO} {l:List SO} (h:dB P n all a os=some (s :: l)):∃ o r,os=o :: r/\DS P n all a o=some s/\dB P n all a r=some l:=by
 cases os with
 | nil=>simp[dB] at h
 | cons o r =>
  simp only[dB] at h
  split at h
  .rename_i c d h1 b
   simp at h
   obtain⟨rfl,rfl⟩:=h
   exact⟨o,r,rfl,h1,b⟩
  .simp at h
theorem qa {d:Fz} : ∀ {l c:List SO} {os:List Oper},dB P n all d os=some (l ++ c)->∃ a b,os=a ++ b/\dB P n all d a=some l/\dB P n all d b=some c
 | [],c,os,h=>⟨[],os,rfl,rfl,h⟩
 | s :: l,c,os,h=>by
  obtain⟨o,r,rfl,h1,e⟩:=k9 h
  obtain⟨a,b,rfl,f,g⟩:=qa e
  exact⟨o :: a,b,rfl,by simp[dB,h1,f],g⟩
theorem Tr.append {a b:List Oper} {T c d:Env} {h h1 e:az} {f g:List Rec} (x:Tr P n all a T h f c h1) (y:Tr P n all b c h1 g d e):Tr P n all (a ++ b) T h (f ++ g) d e:=by
 induction x with
 | nil=>exact y
 | cons st i _ j=>exact .cons st i (j y)
theorem yS {T:Env} {d:Nat} {v:V} (h:T d=v):T.put (some d) v=T:=by
 funext t
 simp only[Env.put]
 split
 .rename_i e;subst e;exact h.symm
 .rfl
theorem EK {E:Fz} {quiet:Bool} {K:Env->View->Prop} (g:Option (Nat × Bool)):∀ (l:List (Option Nat × SB)) (os:List Oper) (T:Env) (h:az),
  dB P n all E os=some (l.map λ(d,b)=>⟨d,g,b⟩)->(∀ d w,g=some (d,w)->T d=.val (.bool w)/\(l.all λx=>x.1 != some d)=true)->xq P quiet l T h.view K ->
  ∃ a m j,Tr P n all os T h a m j/\(iN h j/\h.length<=j.length)/\K m j.view/\fK P quiet (l.map λ(d,b)=>⟨d,g,b⟩) a
 | [],os,T,h,q,s,hw=>by
  have:=kx q;subst this
  exact⟨[],T,h,.nil,⟨.refl _,Sy _⟩,hw,.nil⟩
 | (d,b) :: l,os,T,h,q,s,hw=>by
  obtain⟨o,r,rfl,h1,F⟩:=k9 q
  obtain⟨G,k,f,i⟩:=rY h1
  simp only at k f i
  have u:dt n all T o=some true:=by
   cases g with
   | none=>exact A0 i
   | some p =>
    obtain⟨y,w⟩:=p
    have:=(kJ (T:=T) i).1 w (s y w rfl).1
    rw[this];simp
  simp only[xq] at hw
  rw[f] at hw
  obtain⟨v,j,rd,wr,call,st,z,hk,H⟩:=Pu u hw
  obtain⟨a,m,A,D,c,B,C⟩:=EK g l r (T.put d v) j F (λy w e=>by
   have:=s y w e
   simp only[TU,SE,bne_iff_ne,ne_eq] at this
   refine⟨?_,this.2.2⟩
   rw[<-this.1]
   cases d with
   | none=>rfl
   | some t=>simp only[Env.put];rw[Sr];intro e;subst e;exact this.2.1 rfl) hk
  rw[k] at D
  have hlen:=st.len
  exact⟨_,m,A,.cons st G D,⟨z.trans c.1 hlen,Tq hlen c.2⟩,B,C.cons (by rw[f];exact H)⟩
theorem BB {v:Fz} {quiet:Bool} (d:Nat) (w:Bool) (h:az):∀ (l:List (Option Nat × SB)) (os:List Oper) (T:Env),
  dB P n all v os=some (l.map λ(c,b)=>⟨c,some (d,w),b⟩)->(T d=.val (.bool !w)∨T d=.aS [])->(l.all λx=>x.1 != some d)=true ->
  ∃ a,Tr P n all os T h a (ie l T) h/\fK P quiet (l.map λ(c,b)=>⟨c,some (d,w),b⟩) a
 | [],os,T,k,f,j=>by
  have:=kx k;subst this
  exact⟨[],.nil,.nil⟩
 | (c,b) :: l,os,T,k,f,j=>by
  obtain⟨o,r,rfl,h1,y⟩:=k9 k
  obtain⟨m,g,p,i⟩:=rY h1
  simp only at g p i
  have q:dt n all T o=some false:=by
   rcases f with f | f
   .rw[(kJ (T:=T) i).1 _ f];cases w <;> rfl
   .exact(kJ (T:=T) i).2 f
  simp only[TU,SE,bne_iff_ne,ne_eq] at j
  obtain⟨a,u,s⟩:=BB d w h l r (T.put c (.aS [])) y (by
   have:(T.put c (.aS [])) d=T d:=by
    cases c with
    | none=>rfl
    | some t=>simp only[Env.put];rw[Sr];intro e;subst e;exact j.1 rfl
   rw[this];exact f) j.2
  rw[g] at u
  refine⟨_,?_,s.cons (r:=⟨[],[],false,h.length,h.length⟩) ⟨λ_=>⟨rfl,rfl,rfl,rfl⟩,λ_=>rfl⟩⟩
  have:=Tr.cons (.skip q) m u
  rw[ie,g]
  exact this
theorem QX {p:Fz} {quiet:Bool} {K:Env->View->Prop} {g:SG} {os:List Oper} {T:Env} {h:az} (f:dB P n all p os=some g.flat) (c:r5 g=true) (hw:wG P quiet g T h.view K) :
  ∃ a o k,Tr P n all os T h a o k/\(iN h k/\h.length<=k.length)/\K o k.view/\fK P quiet g.flat a:=by
 unfold wG at hw
 unfold SG.flat at f ⊢
 unfold r5 at c
 split at hw
 .rename_i l
  rw[l] at f ⊢
  exact EK none g.ops os T h f (λd w e=>by simp at e) hw
 .rename_i d want l
  rw[l] at f c ⊢
  simp only at c
  split at hw
  .rename_i b j
   by_cases e:b=want
   .subst e
    have:=hw.1 rfl
    rw[yS j] at this
    exact EK (some (d,b)) g.ops os T h f (λq w e=>by simp at e;obtain⟨rfl,rfl⟩:=e;exact⟨j,c⟩) this
   .have e':b = !want:=by cases b <;> cases want <;> simp_all
    have:=hw.2 e'
    subst e'
    rw[yS j] at this
    obtain⟨a,m,i⟩:=BB (quiet:=quiet) d want h g.ops os T f (.inl j) c
    exact⟨a,_,h,m,⟨.refl _,Sy _⟩,this,i⟩
  .rename_i j
   obtain⟨a,m,i⟩:=BB (quiet:=quiet) d want h g.ops os T f (.inr j) c
   exact⟨a,_,h,m,⟨.refl _,Sy _⟩,hw,i⟩
  .exact hw.elim
theorem vY {s:Fz} {quiet:Bool} {K:Env->View->Prop} : ∀ (gs:List SG) (os:List Oper) (T:Env) (h:az),dB P n all s os=some (jU gs)->gs.all r5=true->vA P quiet gs T h.view K ->
  ∃ c r e,Tr P n all os T h c r e/\(iN h e/\h.length<=e.length)/\K r e.view/\fK P quiet (jU gs) c
 | [],os,T,h,f,_,hw=>by
  have:=kx f;subst this
  exact⟨[],T,h,.nil,⟨.refl _,Sy _⟩,hw,.nil⟩
 | g :: gs,os,T,h,f,d,hw=>by
  simp only[jU,S7,List.flatten_cons] at f ⊢
  simp only[TU,SE] at d
  obtain⟨a,b,rfl,h1,t⟩:=qa f
  obtain⟨w,u,i,j,st1,k,l⟩:=QX h1 d.1 hw
  obtain⟨x,v,m,o,st2,p,q⟩:=vY gs b u i t d.2 k
  exact⟨_,v,m,j.append o,⟨st1.1.trans st2.1 st1.2,Tq st1.2 st2.2⟩,p,l.append q⟩
theorem Tr.at_ {os:List Oper} {T g:Env} {h j:az} {b:List Rec} (k:Tr P n all os T h b g j):∀ (i:Nat) (o:Oper),os[i]?=some o ->
  ∃ c h1 v e rd wr call a,b[i]?=some ⟨rd,wr,call,h1.length,e.length⟩/\dJ P n all o c h1 v e rd wr call/\h.length<=h1.length/\Tr P n all (os.drop (i+1)) (c.put o.dst v) e a g j/\(∀ m,a[m]?=b[i+1+m]?) /\
   (∀ t,(∀ l∈os.take i,l.dst≠some t)->c t=T t):=by
 induction k with
 | nil=>intro i o hi;simp at hi
 | @cons o0 rest T g h h1 j v rd wr call b st D k s =>
  intro i o hi
  cases i with
  | zero =>
   simp at hi;subst hi
   exact⟨T,h,v,h1,rd,wr,call,b,rfl,st,Sy _,by simpa using k,λm=>by rw[show 0+1+m=m+1 by omega,Tl],λt _=>rfl⟩
  | succ i =>
   simp at hi
   obtain⟨c,e,v2,u,p,QD,call2,a,w,x,y,z,A,B⟩:=s i o hi
   have hlen:h.length<=h1.length:=by
    cases st with
    | skip=>exact Sy _
    | op _ _=>rename_i eff _ _;cases eff <;> simp[bh.apply]
    | jd _ _ _=>exact Sy _
    | fN _ _ _ _ _ _=>exact Sy _
    | call _ _ _ _ C _ _=>exact C.1
   refine⟨c,e,v2,u,p,QD,call2,a,by simpa using w,x,Tq hlen y,by simpa using z,λm=>?_,λt q=>?_⟩
   .rw[A,show i+1+1+m=(i+1+m)+1 by omega,Tl]
   .simp only[List.take_succ_cons,SM] at q
    rw[B t λl r=>q l (.inr r)]
    have:=q o0 (.inl rfl)
    cases f:o0.dst with
    | none=>rfl
    | some d=>simp only[Env.put];rw[Sr];rintro rfl;exact this f
theorem J2 {o:Oper} {T:Env} {h g:az} {v:V} {rd wr:List Nat} {call:Bool} (st:dJ P n all o T h v g rd wr call) (b:yT o=true) (i:o.guard=none):v=.ptr h.length 0 0:=by
 unfold yT at b
 have d:dt n all T o=some true:=by unfold dt;rw[i]
 cases st with
 | skip f=>rw[d] at f;simp at f
 | op _ a =>
  split at b
  .rename_i e c
   simp only[bY,c] at a
   split at a
   .unfold kY at a
    split at a
    .simp at a;exact a.1.symm
    .simp at a
   .simp at a
  .simp at b
 | jd _ c _=>rw[c] at b;simp at b
 | fN _ c _ _ _ _=>rw[c] at b;simp at b
 | call _ c _ _ _ _ _=>rw[c] at b;simp at b
theorem I0 {o:Oper} {T:Env} {h g:az} {v:V} {rd wr:List Nat} {call:Bool} {t id i j:Nat} (st:dJ P n all o T h v g rd wr call) (c:j5 o=some t) (k:T t=.ptr id i j):wr=[id]/\call=false:=by
 unfold j5 at c
 split at c
 .rename_i ty l x d m
  simp at c;subst c
  have e:dt n all T o=some true:=by unfold dt;rw[m]
  cases st with
  | skip f=>rw[e] at f;simp at f
  | op _ b =>
   have p:ev T (.tmp l)=.ptr id i j:=k
   simp only[bY,d,p,pq] at b
   split at b
   .split at b
    .simp only[Sq,Su] at b
     obtain⟨_,he,_⟩:=b
     rw[<-he];exact⟨rfl,rfl⟩
    .simp at b
   .simp at b
  | jd _ a _=>rw[d] at a;simp at a
  | fN _ a _ _ _ _=>rw[d] at a;simp at a
  | call _ a _ _ _ _ _=>rw[d] at a;simp at a
 .simp at c
theorem Mk {o:Oper} {T:Env} {h g:az} {v:V} {rd wr:List Nat} {call:Bool} (st:dJ P n all o T h v g rd wr call) (d:By o=true):wr=[]/\call=false/\∀ id,id∈rd->id < h.length:=by
 unfold By at d
 cases st with
 | skip _=>exact⟨rfl,rfl,λid c=>by simp at c⟩
 | op _ b =>
  split at d
  .rename_i e a f
   simp only[bY,f,lH] at b
   split at b
   .rename_i id i j l
    split at b
    .rename_i z es hH
     split at b
     .simp only[Sw] at b
      obtain⟨_,_,b⟩:=b
      simp at b
      obtain⟨_,rfl,rfl⟩:=b
      refine⟨rfl,rfl,λk c=>?_⟩
      simp at c;subst c
      exact gX (by rw[hH];simp)
     .simp at b
    .simp at b
   .simp only[Sw] at b
    obtain⟨_,_,b⟩:=b
    simp at b
    obtain⟨_,rfl,rfl⟩:=b
    exact⟨rfl,rfl,λid c=>by simp at c⟩
   .simp at b
  .simp at d
 | jd _ f _=>rw[f] at d;simp at d
 | fN _ f _ _ _ _=>rw[f] at d;simp at d
 | call _ f _ _ _ _ _=>rw[f] at d;simp at d
theorem uI {T G:Env} {h H:az} {e:List Rec} (I:Tr P n all all T h e G H) {i k:Nat} {a b:Rec} (hp:x7 all i k=true) (g:e[i]?=some a) (J:e[k]?=some b):nC a b:=by
 unfold x7 at hp
 split at hp
 .rename_i K L l m
  rw[SE] at hp
  obtain⟨M,hp⟩:=hp
  split at hp
  .rename_i t o
   rw[Uj] at hp
   obtain⟨j,N,hp⟩:=hp
   rw[TL] at N
   rw[SE,SN] at hp
   obtain⟨O,c⟩:=hp
   unfold Qm at c
   split at c
   .rename_i Q p
    simp only[SE,TA,Tc,bne_iff_ne,ne_eq,Option.isNone_iff_eq_none] at c
    obtain⟨⟨⟨R,S⟩,U⟩,V⟩:=c
    obtain⟨T1,h1,v1,W,X,Rh,c1,q,D,E,e3,Y,Z,_⟩:=I.at_ i K l
    obtain⟨Tj,r,vj,an,aq,ar,cj,s,f1,f2,f3,f4,f5,_⟩:=Y.at_ (j - (i+1)) Q (by rw[Ux,show i+1+(j - (i+1))=j by omega];exact p)
    have u:(all.drop (i+1)).drop (j - (i+1)+1)=all.drop (j+1):=by rw[List.drop_drop];congr 1;omega
    rw[u] at f4
    obtain⟨Tk,v,vk,w,x,y,ck,z,g1,g2,g3,_,_,g6⟩:=f4.at_ (k - (j+1)) L (by rw[Ux,show j+1+(k - (j+1))=k by omega];exact m)
    rw[g] at D
    have A:=(Uy D)
    have f:e[k]?=some ⟨x,y,ck,v.length,w.length⟩:=by
     rw[<-g1,f5,Z];congr 1;omega
    rw[J] at f
    have f:=Uy f
    have hv:=J2 f2 U S
    have B:Tk t=.ptr r.length 0 0:=by
     rw[g6 t λo' C=>V o' C,R,hv]
     simp[Env.put]
    obtain⟨s1,s2⟩:=I0 g2 o B
    obtain⟨F,l2,l3⟩:=Mk E M
    rw[A,f]
    have hlen:h1.length<=W.length:=by
     cases E with
     | skip=>exact Sy _
     | op _ _=>rename_i eff _ _;cases eff <;> simp[bh.apply]
     | jd _ _ _=>exact Sy _
     | fN _ _ _ _ _ _=>exact Sy _
     | call _ _ _ _ g _ _=>exact g.1
    refine⟨λid d=>by simp[F] at d,λid d=>?_,λhc=>by simp[l2] at hc,λ_=>F,λid d=>?_⟩
    .simp only[s1,Tz] at d
     subst d
     intro hr
     have:=l3 _ hr
     omega
    .simp only[s1,Tz] at d
     subst d
     simp only
     omega
   .simp at c
  .simp at hp
 .simp at hp
theorem OK {ls:List Nat} {d:List Rec} {T t:Env} {hp g:az} (u:Tr P n all all T hp d t g) (h:DL all ls=true) (y:ls.length=d.length) (hr:∀ (i x:Nat) (r:Rec),ls[i]?=some x->d[i]?=some r->jZ x r.rd r.wr r.call r.lo r.hi):s6 all d:=by
 intro i k a b j l m v
 have hi:i < d.length:=(SH.1 l).1
 have hk:k < d.length:=(SH.1 m).1
 unfold DL at h
 simp only[Tc] at h
 have h1:=h (ls[i]'(by omega),i) (by rw[Tw];simp[Sn (show i < ls.length by omega)])
  (ls[k]'(by omega),k) (by rw[Tw];simp[Sn (show k < ls.length by omega)])
 have q:=hr i _ a (Sn (by omega)) l
 have s:=hr k _ b (Sn (by omega)) m
 simp only[j,decide_true,Ut,v,Bool.false_or,Up,TA,SE,SN] at h1
 rcases h1 with ((h1 | h1) | h1) | h1
 .obtain⟨f,e,o,w⟩:=q.1 h1
  exact⟨λid c=>by simp[e] at c,λid _=>by simp[f],λp=>by simp[o] at p,λ_=>e,λid _ z=>by omega⟩
 .obtain⟨f,e,o,w⟩:=s.1 h1
  exact⟨λid _=>by simp[f],λid c=>by simp[e] at c,λ_=>e,λp=>by simp[o] at p,λid c=>by simp[e] at c⟩
 .have f:=q.2 h1.1
  have e:=s.2 h1.2
  exact⟨λid c=>by simp[f] at c,λid c=>by simp[e] at c,λ_=>e,λ_=>f,λid c=>by simp[e] at c⟩
 .exact uI u h1 l m
theorem Tr.keep {os:List Oper} {T c:Env} {h e:az} {a:List Rec} (f:Tr P n all os T h a c e) {t:Nat} (g:∀ o∈os,o.dst≠some t):c t=T t:=by
 induction f with
 | nil=>rfl
 | @cons o0 rest T c h h1 e v rd wr call a st k f i =>
  rw[i λo j=>g o (by simp[j])]
  have:=g o0 (by simp)
  cases b:o0.dst with
  | none=>rfl
  | some d=>simp only[Env.put];rw[Sr];rintro rfl;exact this b
theorem ud {o:Oper} {T:Env} {h g:az} {v:V} {rd wr:List Nat} {call:Bool} {t:Nat} (st:dJ P n all o T h v g rd wr call) (d:qJ o=some t):wr=[]/\call=false/\g.length=h.length/\∀ id,id∈rd->∃ i j,T t=.ptr id i j:=by
 unfold qJ at d
 split at d
 .rename_i e m f
  simp at d;subst d
  cases st with
  | skip _=>exact⟨rfl,rfl,rfl,λid c=>by simp at c⟩
  | op _ a =>
   simp only[bY,f,lH] at a
   split at a
   .rename_i id i j k
    split at a
    .split at a
     .simp only[Sw] at a
      obtain⟨_,_,a⟩:=a
      simp at a
      obtain⟨_,rfl,rfl⟩:=a
      refine⟨rfl,rfl,rfl,λl c=>?_⟩
      simp at c;subst c
      exact⟨i,j,k⟩
     .simp at a
    .simp at a
   .simp only[Sw] at a
    obtain⟨_,_,a⟩:=a
    simp at a
    obtain⟨_,rfl,rfl⟩:=a
    exact⟨rfl,rfl,rfl,λid c=>by simp at c⟩
   .simp at a
  | jd _ b _=>rw[f] at b;simp at b
  | fN _ b _ _ _ _=>rw[f] at b;simp at b
  | call _ b _ _ _ _ _=>rw[f] at b;simp at b
 .simp at d
theorem vc {i t:Nat} (h:stays all i t=true):∀ o∈all.drop i,o.dst≠some t:=by
 intro o a
 have:=Tc.1 h o a
 simpa using this
theorem zr {a:List (Nat × Nat)} {T:Env} {K:Prop} (b:wY a T K):∀ p∈a,iH (T p.1) (T p.2):=by
 induction a with
 | nil=>intro p hp;simp at hp
 | cons q l c =>
  intro p hp
  rcases SM.1 hp with rfl | hp
  .exact b.1
  .exact c b.2 p hp
theorem wY.rest {a:List (Nat × Nat)} {T:Env} {K:Prop} (b:wY a T K):K:=by
 induction a with
 | nil=>exact b
 | cons q l c=>exact c b.2
theorem pS {T l:Env} {h m:az} {a:List Rec} (p:Tr P n all all T h a l m) {i t:Nat} {o:Oper} (j:all[i]?=some o) (q:stays all i t=true) {r:Rec} (hr:a[i]?=some r) :
  ∃ e h1 v f,dJ P n all o e h1 v f r.rd r.wr r.call/\r.lo=h1.length/\r.hi=f.length/\e t=l t:=by
 obtain⟨e,h1,v,f,rd,wr,call,k,g,s,x,u,y,z⟩:=p.at_ i o j
 rw[hr] at g
 have g:=Uy g
 subst g
 refine⟨e,h1,v,f,s,rfl,rfl,?_⟩
 have hk:=vc q
 have hi:i < all.length:=(SH.1 j).1
 have b:all[i]=o:=(SH.1 j).2
 rw[To hi,b] at hk
 rw[u.keep λw b=>hk w (by simp[b])]
 have:=hk o (by simp)
 cases c:o.dst with
 | none=>rfl
 | some d=>simp only[Env.put];rw[Sr];rintro rfl;exact this c
theorem x8 {i a b j c d:Nat} (h:iH (.ptr i a b) (.ptr j c d)):i≠j:=h
theorem zD {i a b j c d e:Nat} (h:iH (.ptr i a b) (.sl j c d e)):i≠j:=h
theorem qx {o:Oper} {T:Env} {h q:az} {v:V} {rd wr:List Nat} {call:Bool} {t:Nat} (st:dJ P n all o T h v q rd wr call) (g:oD o=some t) :
  call=false/\∀ id,id∈wr->(∃ i j,T t=.ptr id i j)∨∃ a b c,T t=.sl id a b c:=by
 unfold oD at g
 split at g
 .rename_i w m
  simp at g;subst g
  unfold j5 at m
  split at m
  .rename_i ty t2 x k r
   simp at m;subst m
   cases st with
   | skip _=>exact⟨rfl,λid f=>by simp at f⟩
   | op _ d =>
    simp only[bY,k,pq] at d
    split at d
    .rename_i id i j p
     split at d
     .split at d
      .simp only[Sq,Su] at d
       obtain⟨_,he,_⟩:=d
       rw[<-he]
       refine⟨rfl,λl f=>?_⟩
       simp[bh.wr] at f;subst f
       exact .inl ⟨i,j,p⟩
      .simp at d
     .simp at d
    .simp at d
   | jd _ e _=>rw[k] at e;simp at e
   | fN _ e _ _ _ _=>rw[k] at e;simp at e
   | call _ e _ _ _ _ _=>rw[k] at e;simp at e
  .simp at m
 .unfold K8 at g
  split at g
  .rename_i args s k r
   split at g
   .rename_i t2 y u
    simp at g;subst g
    cases st with
    | skip _=>exact⟨rfl,λid f=>by simp at f⟩
    | op _ d =>
     simp only[bY,k,u] at d
     split at d
     .unfold mw at d
      split at d
      .split at d
       .simp at d
       .split at d
        .split at d <;> first | (simp only[Sq,Su] at d;obtain⟨_,he,_⟩:=d;rw[<-he];exact⟨rfl,λl f=>by simp[bh.wr] at f⟩) | simp at d
        .split at d
         .simp at d
         .split at d
          .split at d
           .simp only[Sq,Su] at d
            obtain⟨_,he,_⟩:=d
            rw[<-he];exact⟨rfl,λl f=>by simp[bh.wr] at f⟩
           .simp at d
          .rename_i id off len esz p
           split at d
           .split at d
            .simp only[Sq,Su] at d
             obtain⟨_,he,_⟩:=d
             rw[<-he]
             refine⟨rfl,λl f=>?_⟩
             simp[bh.wr] at f;subst f
             exact .inr ⟨off,len,esz,p⟩
            .simp at d
           .simp at d
          .simp at d
      .simp at d
     .split at d
      .unfold qv at d
       repeat' (split at d)
       all_goals first | (simp only[Sq,Su] at d;obtain⟨_,he,_⟩:=d;rw[<-he];exact⟨rfl,λl f=>by simp[bh.wr] at f⟩) | simp at d
      .simp at d
    | jd _ e _=>rw[k] at e;simp at e
    | fN _ e _ _ _ _=>rw[k] at e;simp at e
    | call _ e _ _ _ _ _=>rw[k] at e;simp at e
   .simp at g
  .simp at g
theorem NA {o:Oper} {T:Env} {h g:az} {v:V} {rd wr:List Nat} {call:Bool} (st:dJ P n all o T h v g rd wr call) (b:FC o=true):rd=[]/\wr=[]/\call=false:=by
 unfold FC at b
 cases st with
 | skip _=>exact⟨rfl,rfl,rfl⟩
 | op _ a =>
  split at b
  .rename_i ty len parts c
   simp only[bY,c,gQ] at a
   have key:∀ {x:Option (V × bh × List Nat)} {e:bh},x=some (v,e,rd)->(∀ y,x=some y->y.2.1.wr=[]/\y.2.2=[])->rd=[]/\e.wr=[]:=λf d=>⟨(d _ f).2,(d _ f).1⟩
   obtain⟨i,k2⟩:=key a (by
    intro y d
    repeat' (first | (split at d)|(simp only[Sq] at d;subst d;exact⟨rfl,rfl⟩)|(simp at d;done)))
   exact⟨i,k2,rfl⟩
  .rename_i e c
   simp only[bY,c] at a
   split at a
   .unfold kY at a
    split at a
    .simp only[Sq,Su] at a
     obtain⟨_,he,hr⟩:=a
     rw[<-he,<-hr];exact⟨rfl,rfl,rfl⟩
    .simp at a
   .simp at a
  .simp at b
 | jd _ c _=>rw[c] at b;simp at b
 | fN _ c _ _ _ _=>rw[c] at b;simp at b
 | call _ c _ _ _ _ _=>rw[c] at b;simp at b
theorem tV {o:Oper} {t:Nat} (h:j5 o=some t):oD o=some t:=by unfold oD;rw[h]
theorem KH {T w:Env} {h Q:az} {l:List Rec} (u:Tr P n all all T h l w Q) {i k:Nat} {a b:Rec} {p:Nat × Nat} (hp:Ab all i k=some p) (j:iH (w p.1) (w p.2)) (N:l[i]?=some a) (O:l[k]?=some b):nC a b:=by
 unfold Ab at hp
 split at hp
 .rename_i Z ob q r
  split at hp
  .rename_i s t x y
   split at hp
   .rename_i g
    simp only[SE] at g
    simp at hp;subst hp
    obtain⟨z,A,R,B,C,D,E,F⟩:=pS u q g.1 N
    obtain⟨Tb,G,S,H,I,_,_,J⟩:=pS u r g.2 O
    obtain⟨o,K,U,L⟩:=ud C x
    have j:iH (z s) (Tb t):=by rw[F,J];exact j
    refine⟨λid f=>by simp[o] at f,λid f hr=>?_,λv=>by simp[K] at v,λ_=>o,λid _ hx=>by omega⟩
    obtain⟨V,W,M⟩:=L id hr
    rw[M] at j
    rcases (qx I (tV y)).2 id f with ⟨c,d,m⟩ | ⟨c,d,e,m⟩
    .rw[m] at j;exact x8 j rfl
    .rw[m] at j;exact zD j rfl
   .simp at hp
  .split at hp
   .rename_i t s y x
    split at hp
    .rename_i g
     simp only[SE] at g
     simp at hp;subst hp
     obtain⟨z,A,R,B,C,D,E,F⟩:=pS u q g.1 N
     obtain⟨Tb,G,S,H,I,X,Y,J⟩:=pS u r g.2 O
     obtain⟨o,K,U,L⟩:=ud I x
     have j:iH (Tb s) (z t):=by rw[F,J];exact j
     refine⟨λid f hr=>?_,λid f=>by simp[o] at f,λv=>o,λv=>by simp[K] at v,λid f=>by simp[o] at f⟩
     obtain⟨V,W,M⟩:=L id hr
     rw[M] at j
     rcases (qx C (tV y)).2 id f with ⟨c,d,m⟩ | ⟨c,d,e,m⟩
     .rw[m] at j;exact x8 j rfl
     .rw[m] at j;exact zD j rfl
    .simp at hp
   .simp at hp
 .simp at hp
theorem Jd {T w:Env} {h Q:az} {l:List Rec} (u:Tr P n all all T h l w Q) {i k:Nat} {a b:Rec} {p:Nat × Nat} (hp:B1 all i k=some p) (j:iH (w p.1) (w p.2)) (N:l[i]?=some a) (O:l[k]?=some b):nC a b:=by
 unfold B1 at hp
 split at hp
 .rename_i Z ob q r
  split at hp
  .rename_i s t x y
   split at hp
   .rename_i g
    simp only[SE] at g
    simp at hp;subst hp
    obtain⟨z,A,R,B,C,D,E,F⟩:=pS u q g.1 N
    obtain⟨Tb,G,S,H,I,_,_,J⟩:=pS u r g.2 O
    obtain⟨o,K,U,L⟩:=ud C x
    have j:iH (z s) (Tb t):=by rw[F,J];exact j
    refine⟨λid f=>by simp[o] at f,λid f hr=>?_,λv=>by simp[K] at v,λ_=>o,λid _ hx=>by omega⟩
    obtain⟨V,W,M⟩:=L id hr
    rw[M] at j
    rcases (qx I y).2 id f with ⟨c,d,m⟩ | ⟨c,d,e,m⟩
    .rw[m] at j;exact x8 j rfl
    .rw[m] at j;exact zD j rfl
   .simp at hp
  .split at hp
   .rename_i t s y x
    split at hp
    .rename_i g
     simp only[SE] at g
     simp at hp;subst hp
     obtain⟨z,A,R,B,C,D,E,F⟩:=pS u q g.1 N
     obtain⟨Tb,G,S,H,I,X,Y,J⟩:=pS u r g.2 O
     obtain⟨o,K,U,L⟩:=ud I x
     have j:iH (Tb s) (z t):=by rw[F,J];exact j
     refine⟨λid f hr=>?_,λid f=>by simp[o] at f,λv=>o,λv=>by simp[K] at v,λid f=>by simp[o] at f⟩
     obtain⟨V,W,M⟩:=L id hr
     rw[M] at j
     rcases (qx C y).2 id f with ⟨c,d,m⟩ | ⟨c,d,e,m⟩
     .rw[m] at j;exact x8 j rfl
     .rw[m] at j;exact zD j rfl
    .simp at hp
   .simp at hp
 .simp at hp
theorem KB {l:List (Nat × Nat)} {a:List (Nat × Nat)} (h:AR all l=some a):∀ q∈l,∃ p∈a,Ab all q.1 q.2=some p:=by
 induction l generalizing a with
 | nil=>intro q b;simp at b
 | cons x r d =>
  obtain⟨i,k⟩:=x
  simp only[AR] at h
  split at h
  .rename_i p j h1 f
   simp at h;subst h
   intro q b
   rcases SM.1 b with rfl | b
   .exact⟨p,by simp,h1⟩
   .obtain⟨g,c,e⟩:=d f q b
    exact⟨g,by simp[c],e⟩
  .simp at h
theorem Jf {l:List (Nat × Nat)} {a:List (Nat × Nat)} (h:tK all l=some a):∀ q∈l,∃ f,(∀ p∈f,p∈a)/\xN all q.1 q.2=some f:=by
 induction l generalizing a with
 | nil=>intro q b;simp at b
 | cons x r g =>
  obtain⟨i,k⟩:=x
  simp only[tK] at h
  split at h
  .rename_i p n h1 j
   simp at h;subst h
   intro q b
   rcases SM.1 b with rfl | b
   .exact⟨p,λx c=>by simp[c],h1⟩
   .obtain⟨m,d,e⟩:=g j q b
    exact⟨m,λx c=>by simp[d x c],e⟩
  .simp at h
theorem Lt {H:View} {x:V} {xs:List (List V)} {rd:List Nat} (h:bA H x=some (xs,rd)):∀ id,id∈rd->∃ a b c,x=.sl id a b c:=by
 unfold bA at h
 split at h
 .simp at h;obtain⟨_,rfl⟩:=h;intro id d;simp at d
 .simp at h;obtain⟨_,rfl⟩:=h;intro id d;simp at d
 .simp at h;obtain⟨_,rfl⟩:=h;intro id d;simp at d
 .simp at h;obtain⟨_,rfl⟩:=h;intro id d;simp at d
 .split at h
  .split at h
   .simp at h
    obtain⟨_,rfl⟩:=h
    intro id d
    simp at d;subst d
    exact⟨_,_,_,rfl⟩
   .simp at h
  .simp at h
 .simp at h;obtain⟨_,rfl⟩:=h;intro id d;simp at d
 .simp at h
theorem Eg {o:Oper} {T:Env} {h s:az} {v:V} {rd wr:List Nat} {call:Bool} {t y d:Nat} (st:dJ P n all o T h v s rd wr call) (l:yb o=some (t,y,d)) :
  call=false/\(∀ id,id∈wr->∃ a b c,T t=.sl id a b c)/\(∀ id,id∈rd->(∃ a b c,T t=.sl id a b c)∨∃ a b c,T y=.sl id a b c)/\(h.length < s.length->∃ a b c,v=.sl h.length a b c)/\s.length<=h.length+1/\o.dst=some d:=by
 unfold yb at l
 split at l
 .rename_i args z A r D m
  split at l
  .rename_i t2 B C
   simp at l
   obtain⟨rfl,rfl,rfl⟩:=l
   cases st with
   | skip _=>exact⟨rfl,λid g=>by simp at g,λid g=>by simp at g,λh=>by omega,by omega,m⟩
   | op _ f =>
    simp only[bY,r,C] at f
    have w:∀ {v':V} {i:bh} {k:List Nat},some (v',bh.none,([]:List Nat))=some (v,i,k)->false=false/\(∀ id,id∈i.wr->∃ a b c,T t2=.sl id a b c)/\(∀ id,id∈k->(∃ a b c,T t2=.sl id a b c)∨∃ a b c,T B=.sl id a b c)/\(h.length < (i.apply h).length->∃ a b c,v=.sl h.length a b c)/\(i.apply h).length<=h.length+1/\o.dst=some A:=by
     intro v' i k e
     simp only[Sq,Su] at e
     obtain⟨_,rfl,rfl⟩:=e
     exact⟨rfl,λid g=>by simp[bh.wr] at g,λid g=>by simp at g,λh=>by simp[bh.apply] at h,by simp[bh.apply],m⟩
    split at f
    .unfold mw at f
     split at f
     .rename_i e xs k _ u
      have p:=Lt u
      split at f
      .simp at f
      .split at f
       .split at f <;> first | exact w f | simp at f
       .split at f
        .simp at f
        .split at f
         .split at f
          .simp only[Sq,Su] at f
           obtain⟨rfl,rfl,rfl⟩:=f
           exact⟨rfl,λid g=>by simp[bh.wr] at g,λid g=>.inr (p id g),λ_=>⟨_,_,_,rfl⟩,by simp[bh.apply],m⟩
          .simp at f
         .rename_i id off len esz x
          split at f
          .split at f
           .simp only[Sq,Su] at f
            obtain⟨rfl,rfl,rfl⟩:=f
            refine⟨rfl,λq g=>?_,λq g=>?_,λ_=>⟨_,_,_,rfl⟩,by simp[bh.apply],m⟩
            .simp[bh.wr] at g;subst g
             exact⟨off,len,esz,x⟩
            .rcases SM.1 g with rfl | g
             .exact .inl ⟨off,len,esz,x⟩
             .exact .inr (p q g)
           .simp at f
          .simp at f
         .simp at f
     .simp at f
    .split at f
     .unfold qv at f
      split at f
      .split at f
       .split at f
        .exact w f
        .split at f
         .simp only[Sq,Su] at f
          obtain⟨rfl,rfl,rfl⟩:=f
          exact⟨rfl,λid g=>by simp[bh.wr] at g,λid g=>by simp at g,λ_=>⟨_,_,_,rfl⟩,by simp[bh.apply],m⟩
         .simp at f
       .simp at f
      .simp at f
     .simp at f
   | jd _ j _=>rw[r] at j;simp at j
   | fN _ j _ _ _ _=>rw[r] at j;simp at j
   | call _ j _ _ _ _ _=>rw[r] at j;simp at j
  .simp at l
 .simp at l
theorem LU {T j:Env} {h q:az} {a:List Rec} (s:Tr P n all all T h a j q) {i:Nat} {o:Oper} (k:all[i]?=some o) {r:Rec} (hr:a[i]?=some r) :
  ∃ e h1 v f,dJ P n all o e h1 v f r.rd r.wr r.call/\r.lo=h1.length/\r.hi=f.length/\(∀ t,stays all i t=true->e t=j t)/\∀ d,o.dst=some d->stays all (i+1) d=true->j d=v:=by
 obtain⟨e,h1,v,f,rd,wr,call,l,g,u,y,p,z,A⟩:=s.at_ i o k
 rw[hr] at g
 have g:=Uy g
 subst g
 refine⟨e,h1,v,f,u,rfl,rfl,λt m=>?_,λd w m=>?_⟩
 .have hk:=vc m
  have hi:i < all.length:=(SH.1 k).1
  have b:all[i]=o:=(SH.1 k).2
  rw[To hi,b] at hk
  rw[p.keep λx b=>hk x (by simp[b])]
  have:=hk o (by simp)
  cases c:o.dst with
  | none=>rfl
  | some d=>simp only[Env.put];rw[Sr];rintro rfl;exact this c
 .rw[p.keep (vc m),w]
  simp[Env.put]
theorem xD {i a b c j d e f:Nat} (h:iH (.sl i a b c) (.sl j d e f)):i≠j:=h
theorem I2 {T r:Env} {h E:az} {c:List Rec} (A:Tr P n all all T h c r E) {i k:Nat} {a b:Rec} {B:List (Nat × Nat)} (hp:Bn all i k=some B) (o:∀ p∈B,iH (r p.1) (r p.2)) (F:c[i]?=some a) (G:c[k]?=some b):nC a b:=by
 unfold Bn at hp
 split at hp
 .rename_i oa ob s u
  split at hp
  .rename_i t y d g C d' h1 H
   split at hp
   .rename_i l
    simp only[SE] at l
    obtain⟨⟨⟨⟨s1,s2⟩,I⟩,v⟩,J⟩:=l
    simp at hp;subst hp
    have j:=o (t,g) (by simp)
    have a2:=o (t,C) (by simp)
    have a3:=o (g,y) (by simp)
    have a4:=o (d,g) (by simp)
    simp only at j a2 a3 a4
    obtain⟨Ta,w,va,K,L,M,N,x,z⟩:=LU A s F
    obtain⟨Tb,O,vb,Q,R,_,_,q,_⟩:=LU A u G
    obtain⟨S,U,V,W,p5,X⟩:=Eg L h1
    obtain⟨Y,D,Z,_⟩:=Eg R H
    have z:=z d X I
    rw[<-x t s1,<-q g v] at j
    rw[<-x t s1,<-q C J] at a2
    rw[<-q g v,<-x y s2] at a3
    rw[z,<-q g v] at a4
    refine⟨λid f hr=>?_,λid f hr=>?_,λm=>by rw[S] at m;simp at m,λm=>by rw[Y] at m;simp at m,λid f hx=>?_⟩
    .obtain⟨_,_,_,e⟩:=U id f
     rcases Z id hr with ⟨_,_,_,e'⟩ | ⟨_,_,_,e'⟩
     .rw[e,e'] at j;exact xD j rfl
     .rw[e,e'] at a2;exact xD a2 rfl
    .obtain⟨_,_,_,e⟩:=D id f
     rcases V id hr with ⟨_,_,_,e'⟩ | ⟨_,_,_,e'⟩
     .rw[e',e] at j;exact xD j rfl
     .rw[e,e'] at a3;exact xD a3 rfl
    .obtain⟨_,_,_,e⟩:=D id f
     obtain⟨_,_,_,e'⟩:=W (by omega)
     have:id=w.length:=by omega
     subst this
     rw[e,e'] at a4;exact xD a4 rfl
   .simp at hp
  .simp at hp
 .simp at hp
theorem JV {T d:Env} {h m:az} {c:List Rec} (e:Tr P n all all T h c d m) {i k:Nat} {a b:Rec} {f:List (Nat × Nat)} (hp:xN all i k=some f) (g:∀ p∈f,iH (d p.1) (d p.2)) (j:c[i]?=some a) (l:c[k]?=some b):nC a b:=by
 unfold xN at hp
 split at hp
 .rename_i p h1
  simp at hp;subst hp
  exact Jd e h1 (g p (by simp)) j l
 .exact I2 e hp g j l
theorem NJ {ls:List Nat} {d:List Rec} {T o:Env} {hp q:az} {j:List (Nat × Nat)} (v:Tr P n all all T hp d o q) (h:AR all (j9 all ls)=some j) (z:∀ p∈j,iH (o p.1) (o p.2)) (D:ls.length=d.length)
  (hr:∀ (i x:Nat) (r:Rec),ls[i]?=some x->d[i]?=some r->jZ x r.rd r.wr r.call r.lo r.hi):s6 all d:=by
 intro i k a b s l m A
 have hi:i < d.length:=(SH.1 l).1
 have hk:k < d.length:=(SH.1 m).1
 have w:=hr i _ a (Sn (by omega)) l
 have y:=hr k _ b (Sn (by omega)) m
 have B:(ls[i]'(by omega),i)∈ls.zipIdx:=by rw[Tw];simp[Sn (show i < ls.length by omega)]
 have mk:(ls[k]'(by omega),k)∈ls.zipIdx:=by rw[Tw];simp[Sn (show k < ls.length by omega)]
 by_cases h1:we all (ls[i]'(by omega)) i (ls[k]'(by omega)) k=true
 .unfold we at h1
  simp only[s,decide_true,Ut,A,Bool.false_or,Up,TA,SE,SN] at h1
  rcases h1 with ((h1 | h1) | h1) | h1
  .obtain⟨g,f,t,C⟩:=w.1 h1
   exact⟨λid c=>by simp[f] at c,λid _=>by simp[g],λu=>by simp[t] at u,λ_=>f,λid _ E=>by omega⟩
  .obtain⟨g,f,t,C⟩:=y.1 h1
   exact⟨λid _=>by simp[g],λid c=>by simp[f] at c,λ_=>f,λu=>by simp[t] at u,λid c=>by simp[f] at c⟩
  .have g:=w.2 h1.1
   have f:=y.2 h1.2
   exact⟨λid c=>by simp[g] at c,λid c=>by simp[f] at c,λ_=>f,λ_=>g,λid c=>by simp[f] at c⟩
  .exact uI v h1 l m
 .have hm:(i,k)∈j9 all ls:=by
   unfold j9
   rw[List.mem_flatMap]
   refine⟨_,B,?_⟩
   rw[TM]
   exact⟨_,mk,by simp only;rw[Sr h1]⟩
  obtain⟨p,hp,e⟩:=KB h (i,k) hm
  exact KH v e (z p hp) l m
theorem Cl {P:Program} {t:TypeId} {id:Nat} {q:V} {ok:Bool} {H1 a:View} (h:H1 id=a id):eQ P t (.mp id) q ok H1=eQ P t (.mp id) q ok a:=by
 unfold eQ
 simp only[h]
theorem IX {P:Program} {t:TypeId} {id:Nat} {q:V} {H1 a:View} (h:H1 id=a id):ec P t (.mp id) q H1=ec P t (.mp id) q a:=by
 cases hm:ef P t with
 | none=>simp only[ec,hm]
 | some x=>simp only[ec,hm,h]
theorem Ob {P:Program} {t:TypeId} {id:Nat} {q:V} {H:View} {v:V} {eff:bh} {rd:List Nat} (h:eQ P t (.mp id) q false H=some (v,eff,rd)):eff=.none/\rd=[id]:=by
 simp only[eQ,SU,if_false] at h
 repeat' (first | (simp only[Sq,Su] at h;exact⟨h.2.1.symm,h.2.2.symm⟩)|(split at h)|(simp at h;done))
theorem Lb {P:Program} {t:TypeId} {id:Nat} {q:V} {H:View} {v:V} {eff:bh} {rd:List Nat} (h:ec P t (.mp id) q H=some (v,eff,rd)):∃ obj,eff=.eS id obj:=by
 cases hm:ef P t with
 | none=>simp[ec,hm] at h
 | some x =>
  simp only[ec,hm] at h
  repeat' (first | (simp only[Sq,Su] at h;exact⟨_,h.2.1.symm⟩)|(split at h)|(simp at h;done))
theorem Fj {o:Oper} {T:Env} {h f:az} {v:V} {rd wr:List Nat} {call:Bool} (st:dJ P n all o T h v f rd wr call) (i:dt n all T o=some true) (j:∀ e x,o.op≠.box e x) (k:∀ s d x,o.op≠.convert s d x) (l:∀ c,o.op≠.call c) :
  ∃ eff,bY P o T h.view h.length=some (v,eff,rd)/\f=eff.apply h/\wr=eff.wr/\call=false:=by
 cases st with
 | skip g=>rw[i] at g;simp at g
 | op _ b=>exact⟨_,b,rfl,rfl,rfl⟩
 | jd _ a _=>exact absurd a (j _ _)
 | fN _ a _ _ _ _=>exact absurd a (k _ _ _)
 | call _ a _ _ _ _ _=>exact absurd a (l _)
theorem Ph {a:List Rec} {f:Nat->Env} {b:Nat->az} {vs:Nat->V} (d:zh P n all a f b vs) (i:a.length=all.length) {k:Nat} (hk:k<=all.length) (hw:∀ j r,j < k->a[j]?=some r->r.wr=[]) :
  ∀ j,j<=k->(b 0).length<=(b j).length/\∀ id,id < (b 0).length->(b j).view id=(b 0).view id:=by
 intro j
 induction j with
 | zero=>intro _;exact⟨Sy _,λ_ _=>rfl⟩
 | succ j g =>
  intro l
  obtain⟨e,h⟩:=g (by omega)
  obtain⟨st,_,_,_,_⟩:=d j all[j] (a[j]'(by omega)) (Sn (by omega)) (Sn (by omega))
  refine⟨Tq e (sm st),λid c=>?_⟩
  rw[qm st (S8 c e) (by rw[hw j _ (by omega) (Sn (by omega))];simp)]
  exact h id c
theorem pf {a:List Rec} {b:Nat->Env} {e:Nat->az} {vs:Nat->V} (c:zh P n all a b e vs) (m:a.length=all.length) {i t:Nat} (h:stays all i t=true):∀ j,i<=j->j<=all.length->b j t=b i t:=by
 intro j d f
 refine xO (vs:=vs) (N:=all.length) (λk o hk=>?_) rfl i j d f λk o h1 p g=>vc h o (by
  rw[List.mem_iff_getElem?]
  exact⟨k - i,by rw[Ux,show i+(k - i)=k by omega];exact g⟩)
 have l:k < all.length:=(SH.1 hk).1
 exact(c k o (a[k]'(by omega)) hk (Sn (by omega))).2.2.1
theorem Ge {ls:List Nat} {d:List Rec} {T I:Env} {hp bd:az} {W:List (Nat × Nat)} {tp:Option (Nat × Nat)} (tr:Tr P n all all T hp d I bd) (h:tK all (DM all ls tp)=some W) (hA:∀ p∈W,iH (I p.1) (I p.2)) (hl:ls.length=d.length)
  (hr:∀ (i x:Nat) (r:Rec),ls[i]?=some x->d[i]?=some r->jZ x r.rd r.wr r.call r.lo r.hi) (X:∀ p,tp=some p->∃ D,DI all ls p.1 p.2=some D/\Fi P D.1 (I D.2.1) (I D.2.2) hp.view):Ke P n all d T I hp:=by
 have main:∀ i k a b,i < k->d[i]?=some a->d[k]?=some b->ordered (fo all []) i k=false->tp≠some (i,k)->nC a b:=by
  intro i k a b K V S ho bl
  have hi:i < d.length:=(SH.1 V).1
  have hk:k < d.length:=(SH.1 S).1
  have la:=hr i _ a (Sn (by omega)) V
  have lb:=hr k _ b (Sn (by omega)) S
  have mi:(ls[i]'(by omega),i)∈ls.zipIdx:=by rw[Tw];simp[Sn (show i < ls.length by omega)]
  have mk:(ls[k]'(by omega),k)∈ls.zipIdx:=by rw[Tw];simp[Sn (show k < ls.length by omega)]
  by_cases h1:we all (ls[i]'(by omega)) i (ls[k]'(by omega)) k=true
  .unfold we at h1
   simp only[K,decide_true,Ut,ho,Bool.false_or,Up,TA,SE,SN] at h1
   rcases h1 with ((h1 | h1) | h1) | h1
   .obtain⟨y,s,Y,e4⟩:=la.1 h1
    exact⟨λid c=>by simp[s] at c,λid _=>by simp[y],λZ=>by simp[Y] at Z,λ_=>s,λid _ hx=>by omega⟩
   .obtain⟨y,s,Y,e4⟩:=lb.1 h1
    exact⟨λid _=>by simp[y],λid c=>by simp[s] at c,λ_=>s,λZ=>by simp[Y] at Z,λid c=>by simp[s] at c⟩
   .have y:=la.2 h1.1
    have s:=lb.2 h1.2
    exact⟨λid c=>by simp[y] at c,λid c=>by simp[s] at c,λ_=>s,λ_=>y,λid c=>by simp[s] at c⟩
   .exact uI tr h1 V S
  .have hm:(i,k)∈j9 all ls:=by
    unfold j9
    rw[List.mem_flatMap]
    refine⟨_,mi,?_⟩
    rw[TM]
    exact⟨_,mk,by simp only;rw[Sr h1]⟩
   by_cases hn:newAt all k=true
   .unfold newAt at hn
    split at hn
    .rename_i ob L
     obtain⟨T1,cS,v,J,rd,wr,call,bn,y,s,_⟩:=tr.at_ k ob L
     rw[S] at y
     have y:=Uy y
     subst y
     obtain⟨n1,n2,n3⟩:=NA s hn
     exact⟨λid _=>by simp[n1],λid c=>by simp[n2] at c,λ_=>n2,λZ=>by simp[n3] at Z,λid c=>by simp[n2] at c⟩
    .simp at hn
   .obtain⟨p,hp,e⟩:=Jf h (i,k) (by
     unfold DM
     rw[TD]
     refine⟨hm,?_⟩
     simp only[SE,Ur,bne_iff_ne,ne_eq]
     exact⟨by simpa using hn,bl⟩)
    exact JV tr e (λq hq=>hA q (hp q hq)) V S
 cases tp with
 | none=>exact s6.Rk λi k a b h1 J h3 h4=>main i k a b h1 J h3 h4 (by simp)
 | some p =>
  obtain⟨i0,C⟩:=p
  obtain⟨D,f,u⟩:=X _ rfl
  intro M hs vs cV N an E w i
  by_cases hi:i=i0
  .subst hi
   refine⟨some C,λk a b h1 J h3 h4 h5=>main i k a b h1 J h3 h4 (λe=>h5 (by simp at e;rw[e])),λk a b o hk V S ho=>?_⟩
   simp at hk;subst hk
   unfold DI at f
   simp only at f
   split at f
   .rename_i oa ob O L
    rw[ho] at O
    have O:=Uy O
    subst O
    split at f
    .rename_i t m q t' m' q' l z br bs
     split at f
     .rename_i F
      simp only[SE,TA,SN,Tc,TL] at F
      obtain⟨⟨⟨⟨⟨⟨⟨⟨rfl,rfl⟩,rfl⟩,s1⟩,s2⟩,s3⟩,s4⟩,K⟩,U⟩:=F
      simp only[Sq] at f
      subst f
      simp only at u
      have bx:C < all.length:=(SH.1 L).1
      have b0:∀ j r,j < C->d[j]?=some r->r.wr=[]:=λj r hj b1=>by
       have h1:=U j hj
       have aq:j < ls.length:=by omega
       rw[Sm,Sn aq] at h1
       exact(hr j _ r (Sn aq) b1).2 h1
      have G:=Ph w E (Nat.le_of_lt bx) b0
      have em:∀ j,i<=j->j<=all.length->M j m=I m:=λj h1 J=>by
       rw[<-an,pf w E s1 j h1 J,pf w E s1 all.length (by omega) (Sy _)]
      have eq:∀ j,i<=j->j<=all.length->M j q=I q:=λj h1 J=>by
       rw[<-an,pf w E s2 j h1 J,pf w E s2 all.length (by omega) (Sy _)]
      obtain⟨b2,_,_,b7,b8⟩:=w i o a ho V
      obtain⟨b9,_,_,_,_⟩:=w C ob b L S
      have gi:dt n all (M i) o=some true:=by unfold dt;rw[br]
      have gk:dt n all (M C) ob=some true:=by unfold dt;rw[bs]
      unfold Fi at u
      split at u
      .rename_i id c
       obtain⟨⟨c3,c0,H⟩,u⟩:=u
       have Q:id < hp.length:=gX (by rw[H];simp)
       have ar:(hs C).view id=hp.view id:=by rw[(G C (Sy _)).2 id (by rw[N];exact Q),N]
       have a1:(hs i).view id=hp.view id:=by rw[(G i (Nat.le_of_lt K)).2 id (by rw[N];exact Q),N]
       obtain⟨cC,A,cc,cf,ch⟩:=Fj b2 gi (by rw[l];simp) (by rw[l];simp) (by rw[l];simp)
       obtain⟨cN,B,cj,ck,c4⟩:=Fj b9 gk (by rw[z];simp) (by rw[z];simp) (by rw[z];simp)
       simp only[bY,l] at A
       simp only[bY,z] at B
       have y:ev (M i) (.tmp m)=.mp id:=(em i (Sy _) (by omega)).trans c
       have s:ev (M i) (.tmp q)=I q:=eq i (Sy _) (by omega)
       have Y:ev (M C) (.tmp m)=.mp id:=(em C (by omega) (by omega)).trans c
       have e4:ev (M C) (.tmp q)=I q:=eq C (by omega) (by omega)
       rw[y,s] at A
       rw[Y,e4,IX ar] at B
       obtain⟨l1,l2⟩:=Ob A
       obtain⟨obj,l3⟩:=Lb B
       subst l1 l3
       have cu:(hs (C+1)).view id=obj:=by
        rw[cj,kE (λda R=>by
         simp only[bh.wr,Tz] at R
         subst R
         rw[ar,H];simp)]
        simp[bh.view,View.set]
       refine⟨K,cf,ch,by rw[b7,b8,cc];rfl,λg hg cv=>?_⟩
       have a6:id < (hs i).length:=gX (by rw[a1,H];simp)
       have a7:g.view id=(hp.view.set id obj) id:=by
        rw[cv id a6,ck,St (by simp[bh.wr]),cu]
        simp[View.set]
       have cA:=u _ _ _ B
       have a8:bY P o (M i) g.view g.length=some (vs i,.none,a.rd):=by
        simp only[bY,l]
        rw[y,s,Cl a7,cA,<-Cl a1]
        exact A
       exact .op gi a8
      .exact u.elim
     .simp at f
    .simp at f
   .simp at f
  .exact⟨none,λk a b h1 J h3 h4 _=>main i k a b h1 J h3 h4 (λe=>hi (by simp at e;exact e.1.symm)),λk a b o h1=>by simp at h1⟩
theorem NT (hm:P.follows .mixedOrders=true) {p:Fz} {id:Nat} {ops:Array Oper} {q:SC} {T:Env} {h:az} {Q:Exit->Env->View->Prop} (a:zZ P n p ops.toList=some q) (hw:wS P q T h.view Q) :
  ∃ e g d,cX P n (.region id ops true) T h e g d/\(iN h d/\h.length<=d.length)/\Q e g d.view:=by
 unfold zZ at a
 split at a
 .simp at a
 .rename_i l v
  split at a
  .simp at a
  .rename_i b
   have b:(group l).all r5=true:=by simpa using b
   have j:dB P n ops.toList p ops.toList=some (jU (group l)):=by rw[fZ];exact v
   split at a
   .rename_i w
    simp only[Sw] at a
    obtain⟨y,k,rfl⟩:=a
    obtain⟨f,g,d,t,m,hk,c⟩:=vY (group l) ops.toList T h j b hw
    rw[fZ] at c
    refine⟨.normal,g,d,?_,m,hk.rest⟩
    have o:s6 ops.toList f:=NJ t k (zr hk) (by simpa using c.1) (λi x r u hr=>by
     simp only[Ss,Sw] at u
     obtain⟨s,z,rfl⟩:=u
     exact c.2 i s r z hr)
    simpa using xz hm (id:=id) t w o
   .simp at a
theorem NI (hm:P.follows .mixedOrders=true) {A:Fz} {id:Nat} {ops:Array Oper} {B:SC} {T:Env} {h:az} {Q:Exit->Env->View->Prop} (b:Aq P n A ops.toList=some B) (hw:wS P B T h.view Q) :
  ∃ e k d,cX P n (.region id ops true) T h e k d/\(iN h d/\h.length<=d.length)/\Q e k d.view:=by
 unfold Aq at b
 split at b
 .simp at b
 .rename_i l D
  split at b
  .simp at b
  .rename_i c
   have c:(group l).all r5=true:=by simpa using c
   have m:dB P n ops.toList A ops.toList=some (jU (group l)):=by rw[fZ];exact D
   split at b
   .rename_i C
    split at b
    .simp only[Sw] at b
     obtain⟨v,f,rfl⟩:=b
     obtain⟨o,k,d,q,g,hk,a⟩:=vY (group l) ops.toList T h m c hw
     rw[fZ] at a
     refine⟨.normal,k,d,?_,g,hk.rest⟩
     have j:=Ge q f (zr hk) (by simpa using a.1) (λi x r t hr=>by
      simp only[Ss,Sw] at t
      obtain⟨s,w,rfl⟩:=t
      exact a.2 i s r w hr) (λp hp=>by simp at hp)
     simpa using uM hm (id:=id) q C j
    .rename_i p hp
     split at b
     .rename_i y z
      simp only[Sw] at b
      obtain⟨v,f,rfl⟩:=b
      obtain⟨o,k,d,q,g,hk,a⟩:=vY (group l) ops.toList T h m c hw
      rw[fZ] at a
      refine⟨.normal,k,d,?_,g,hk.2.rest⟩
      have j:=Ge q f (zr hk.2) (by simpa using a.1) (λi x r t hr=>by
       simp only[Ss,Sw] at t
       obtain⟨s,w,rfl⟩:=t
       exact a.2 i s r w hr) (λE u=>by
        simp only[Sq] at u
        subst u
        exact⟨y,z,hk.1⟩)
      simpa using uM hm (id:=id) q C j
     .simp at b
   .simp at b
theorem rG (hm:P.follows .mixedOrders=true) {u:Fz} {id:Nat} {ops:Array Oper} {draw quiet:Bool} {v:SC} {T:Env} {h:az} {Q:Exit->Env->View->Prop} (a:qD P n u ops.toList draw quiet=some v) (hw:wS P v T h.view Q) :
  ∃ e d c,cX P n (.region id ops draw) T h e d c/\(iN h c/\h.length<=c.length)/\Q e d c.view:=by
 unfold qD at a
 split at a
 .simp at a
 .rename_i l y
  split at a
  .simp at a
  .rename_i f
   have f:(group l).all r5=true:=by simpa using f
   have m:dB P n ops.toList u ops.toList=some (jU (group l)):=by rw[fZ];exact y
   have key:vA P quiet (group l) T h.view (Q .normal)->(draw=true->k8 ops.toList=true/\DL ops.toList (l.map λs=>iq P quiet s.b)=true) ->
     ∃ e d c,cX P n (.region id ops draw) T h e d c/\(iN h c/\h.length<=c.length)/\Q e d c.view:=by
    intro hw o
    obtain⟨j,d,c,p,q,hk,g⟩:=vY (group l) ops.toList T h m f hw
    rw[fZ] at g
    refine⟨.normal,d,c,?_,q,hk⟩
    cases k:draw with
    | false=>simpa using Em (id:=id) p
    | true =>
     obtain⟨h1,z⟩:=o k
     have t:s6 ops.toList j:=OK p z (by simpa using g.1) (λi x r w hr=>by
      simp only[Ss,Sw] at w
      obtain⟨s,A,rfl⟩:=w
      exact g.2 i s r A hr)
     simpa using xz hm (id:=id) p h1 t
   split at a
   .rename_i k
    split at a
    .rename_i B
     simp at a;subst a
     exact key hw (λ_=>by simpa using B)
    .simp at a
   .rename_i k
    simp at a;subst a
    exact key hw (λe=>absurd e k)
theorem eV {a b:Option SC} {c:SC} (h:orElse' a b=some c):a=some c∨b=some c:=by
 cases a with
 | none=>exact .inr h
 | some x=>exact .inl h
theorem KY (hm:P.follows .mixedOrders=true) {k:List Nat} {id:Nat} {ops:Array Oper} {draw:Bool} {i:SC} {T:Env} {h:az} {Q:Exit->Env->View->Prop} (c:AZ P n k ops.toList draw=some i) (hw:wS P i T h.view Q) :
  ∃ e j b,cX P n (.region id ops draw) T h e j b/\(iN h b/\h.length<=b.length)/\Q e j b.view:=by
 unfold AZ at c
 rcases eV c with h1 | h1
 .exact rG hm h1 hw
 .clear c
  split at h1
  .rename_i l
   subst l
   rcases eV h1 with a | h1
   .split at a
    .exact NI hm a hw
    .simp at a
   rcases eV h1 with a | h1
   .split at a
    .exact rG hm a hw
    .simp at a
   rcases eV h1 with d | d
   .exact NT hm d hw
   .rcases eV d with f | f
    .exact rG hm f hw
    .rcases eV f with g | g
     .exact rG hm g hw
     .exact rG hm g hw
  .simp at h1
theorem CB {e:Exit} {a b:Prop} (h:yH e a b):(e=.normal/\a)∨(e≠.normal/\b):=by
 cases e with
 | normal=>exact .inl ⟨rfl,h⟩
 | _=>exact .inr ⟨by simp,h⟩
def qI (P:Program) (n:Nat) (fz:List Nat) (c:Code):Prop:=∀ sc:SC,c9 P n fz c=some sc->∀ (T:Env) (h:az) (Q:Exit->Env->View->Prop),wS P sc T h.view Q ->
 ∃ e T' h',cX P n c T h e T' h'/\(iN h h'/\h.length<=h'.length)/\Q e T' h'.view
theorem Dl {b:List Nat} : qI P n b .skip:=by
 intro c a T h Q hw;simp[c9] at a;subst a;exact⟨_,T,h,.skip,⟨.refl _,Sy _⟩,hw⟩
theorem FQ {g:List Nat} {x y:Code} (i:qI P n g x) (j:qI P n g y):qI P n g (.seq x y):=by
 intro u c T h Q hw
 simp only[c9] at c
 split at c
 .rename_i a b h1 q
  simp at c;subst c
  simp only[wS] at hw
  obtain⟨e,o,d,p,st1,f⟩:=i a h1 T h _ hw
  rcases CB f with ⟨rfl,f⟩ | ⟨k,f⟩
  .obtain⟨r,s,l,t,st2,m⟩:=j b q o d _ f
   exact⟨r,s,l,p.seq t,⟨st1.1.trans st2.1 st1.2,Tq st1.2 st2.2⟩,m⟩
  .exact⟨e,o,d,p.HR k,st1,f⟩
 .simp at c
theorem nA {b:Fz} {ops:List Oper} {draw quiet:Bool} {a:SC} (h:qD P n b ops draw quiet=some a) (l:Nat):mL a l=none:=by
 unfold qD at h
 repeat' (first | (simp only[Sq] at h;subst h;rfl)|(split at h)|(simp at h;done))
theorem I4 {b:Fz} {ops:List Oper} {a:SC} (h:zZ P n b ops=some a) (l:Nat):mL a l=none:=by
 unfold zZ at h
 repeat' (first | (simp only[Sw] at h;obtain⟨_,_,rfl⟩:=h;rfl)|(split at h)|(simp at h;done))
theorem JN {b:Fz} {ops:List Oper} {a:SC} (h:Aq P n b ops=some a) (l:Nat):mL a l=none:=by
 unfold Aq at h
 repeat' (first | (simp only[Sw] at h;obtain⟨_,_,rfl⟩:=h;rfl)|(split at h)|(simp at h;done))
theorem Jm {f:List Nat} {ops:List Oper} {draw:Bool} {e:SC} (h:AZ P n f ops draw=some e) (l:Nat):mL e l=none:=by
 unfold AZ at h
 rcases eV h with h1 | h1
 .exact nA h1 l
 .split at h1
  .rcases eV h1 with a | h1
   .split at a
    .exact JN a l
    .simp at a
   rcases eV h1 with a | h1
   .split at a
    .exact nA a l
    .simp at a
   rcases eV h1 with b | b
   .exact I4 b l
   .rcases eV b with c | c
    .exact nA c l
    .rcases eV c with d | d
     .exact nA d l
     .exact nA d l
  .simp at h1
theorem KN {j:List Nat} : ∀ (c:Code) (f:SC),c9 P n j c=some f->∀ l,match findLabel c l with
  | some rest=>∃ r,mL f l=some r/\c9 P n j rest=some r
  | none=>mL f l=none:=by
 intro c
 induction c with
 | seq x y h i =>
  intro f d l
  simp only[c9] at d
  split at d
  .rename_i a b h1 k
   simp at d;subst d
   have g:=h a h1 l
   have p:=i b k l
   simp only[findLabel,mL]
   cases m:findLabel x l with
   | some rx =>
    rw[m] at g
    obtain⟨r,q,s⟩:=g
    exact⟨.seq r b,by rw[q],by simp only[c9,s,k]⟩
   | none =>
    rw[m] at g
    simp only at g ⊢
    rw[g]
    exact p
  .simp at d
 | label o =>
  intro f d l
  simp[c9] at d;subst d
  simp only[findLabel,mL]
  by_cases e:(o == l)=true
  .rw[St e];exact⟨.skip,by rw[St e],by simp[c9]⟩
  .rw[Sr e];simp only;rw[Sr e]
 | region id ops draw=>intro f d l;simp only[c9] at d;simp only[findLabel];exact Jm d l
 | cond x y z _ _ =>
  intro f d l
  simp only[c9] at d
  split at d
  .simp at d;subst d;rfl
  .simp at d
 | block id c _=>intro f d l;simp only[c9,Sw] at d;obtain⟨_,_,rfl⟩:=d;rfl
 | loop c _=>intro f d l;simp only[c9,Sw] at d;obtain⟨_,_,rfl⟩:=d;rfl
 | scope c _ =>
  intro f d l
  simp only[c9] at d
  split at d
  .split at d
   .simp only[Sw] at d;obtain⟨_,_,rfl⟩:=d;rfl
   .simp at d
  .simp at d
 | skip=>intro f d l;simp[c9] at d;subst d;rfl
 | exit id=>intro f d l;simp[c9] at d;subst d;rfl
 | ret=>intro f d l;simp[c9] at d;subst d;rfl
 | goto o=>intro f d l;simp[c9] at d;subst d;rfl
 | _=>intro f d;simp[c9] at d
theorem J1 {v:List Nat} {c:Code} (F:qI P n v c) (hr:∀ l rest,findLabel c l=some rest->qI P n v rest):qI P n v (.scope c):=by
 intro J d T h Q hw
 simp only[c9] at d
 split at d
 .rename_i a h1
  split at d
  .rename_i l L
   simp only[Sw] at d
   obtain⟨r,w,rfl⟩:=d
   have j:=KN c a h1 l
   cases m:findLabel c l with
   | none=>rw[m] at j;simp only at j;rw[j] at w;simp at w
   | some rest =>
    rw[m] at j
    obtain⟨M,t,o⟩:=j
    rw[w] at t
    have t:=Uy t
    subst t
    simp only[wS] at hw
    obtain⟨I,K,x,y⟩:=hw
    have go:∀ k T (h:az),I k T h.view->∃ e E u,qH P n c rest T h e E u/\(iN h u/\h.length<=u.length)/\Q e E u.view:=by
     intro k
     induction k using Nat.strongRecOn with
     | ind k z =>
      intro T h G
      obtain⟨e,p,b,q,st1,s⟩:=hr l rest m r o T h _ (y k T h.view G)
      cases e with
      | goto H =>
       obtain⟨rfl,A,B,f⟩:=s
       obtain⟨o,C,g,D,st2,i⟩:=z A B p b f
       exact⟨o,C,g,qH.jump q m D,⟨st1.1.trans st2.1 st1.2,Tq st1.2 st2.2⟩,i⟩
      | _=>exact⟨_,p,b,.out q rfl,st1,s⟩
    obtain⟨e,p,b,q,st1,s⟩:=F a h1 T h _ x
    cases e with
    | goto H =>
     obtain⟨rfl,A,_,f⟩:=s
     obtain⟨o,C,g,D,st2,i⟩:=go A p b f
     exact⟨o,C,g,.scope (qH.jump q m D),⟨st1.1.trans st2.1 st1.2,Tq st1.2 st2.2⟩,i⟩
    | _=>exact⟨_,p,b,.scope (.out q rfl),st1,s⟩
  .simp at d
 .simp at d
theorem Ou (hm:P.follows .mixedOrders=true) {E:List Nat} : ∀ c:Code,qI P n E c/\∀ l rest,findLabel c l=some rest->qI P n E rest:=by
 intro c
 induction c with
 | skip=>exact⟨Dl,λl rest h=>by simp[findLabel] at h⟩
 | region id ops draw=>exact⟨λp d T h Q hw=>KY hm d hw,λl rest h=>by simp[findLabel] at h⟩
 | seq x y o g =>
  refine⟨FQ o.1 g.1,λl rest h=>?_⟩
  simp only[findLabel] at h
  split at h
  .rename_i r hr
   simp only[Sq] at h;subst h
   exact FQ (o.2 _ _ hr) g.1
  .exact g.2 _ _ h
 | cond c x y o g =>
  refine⟨?_,λl rest h=>by simp[findLabel] at h⟩
  intro p d T h Q hw
  simp only[c9] at d
  split at d
  .rename_i a b h1 H
   simp at d;subst d
   simp only[wS] at hw
   split at hw
   .rename_i t u
    have F:rV (SX.of c) t T=T:=by
     unfold rV
     split
     .rename_i k hk
      rw[hk] at u
      exact yS u
     .rfl
    rw[SX.cF] at u
    cases t with
    | true =>
     have:=hw.1 rfl
     rw[F] at this
     obtain⟨e,j,f,m,st,i⟩:=o.1 a h1 T h Q this
     exact⟨e,j,f,.cond u m,st,i⟩
    | false =>
     have:=hw.2 rfl
     rw[F] at this
     obtain⟨e,j,f,m,st,i⟩:=g.1 b H T h Q this
     exact⟨e,j,f,.cond u m,st,i⟩
   .exact hw.elim
  .simp at d
 | block id c s =>
  refine⟨?_,λl rest h=>by simp[findLabel] at h⟩
  intro p d T h Q hw
  simp only[c9,Sw] at d
  obtain⟨a,h1,rfl⟩:=d
  simp only[wS] at hw
  obtain⟨e,j,f,m,st,i⟩:=s.1 a h1 T h _ hw
  exact⟨_,j,f,m.block,st,i⟩
 | loop c s =>
  refine⟨?_,λl rest h=>by simp[findLabel] at h⟩
  intro p d T h Q hw
  simp only[c9,Sw] at d
  obtain⟨a,h1,rfl⟩:=d
  simp only[wS] at hw
  obtain⟨I,⟨k,hk⟩,q⟩:=hw
  have go:∀ k T (h:az),I k T h.view->∃ e j f,pg P n c T h e j f/\(iN h f/\h.length<=f.length)/\Q e j f.view:=by
   intro k
   induction k using Nat.strongRecOn with
   | ind k w =>
    intro T h J
    obtain⟨e,G,v,m,st1,i⟩:=s.1 a h1 T h _ (q k T h.view J)
    rcases CB i with ⟨rfl,K,z,A⟩ | ⟨B,i⟩
    .obtain⟨L,M,C,N,st2,D⟩:=w K z G v A
     exact⟨L,M,C,.step m N,⟨st1.1.trans st2.1 st1.2,Tq st1.2 st2.2⟩,D⟩
    .exact⟨e,G,v,.out m B,st1,i⟩
  obtain⟨e,j,f,m,st,i⟩:=go k T h hk
  exact⟨e,j,f,.loop m,st,i⟩
 | exit id=>exact⟨λp d T h Q hw=>by simp[c9] at d;subst d;exact⟨_,T,h,.exit,⟨.refl _,Sy _⟩,hw⟩,λl rest h=>by simp[findLabel] at h⟩
 | ret=>exact⟨λp d T h Q hw=>by simp[c9] at d;subst d;exact⟨_,T,h,.ret,⟨.refl _,Sy _⟩,hw⟩,λl rest h=>by simp[findLabel] at h⟩
 | label O=>exact⟨λp d T h Q hw=>by simp[c9] at d;subst d;exact⟨_,T,h,.label,⟨.refl _,Sy _⟩,hw⟩,λl rest h=>by
   simp only[findLabel] at h
   split at h
   .simp only[Sq] at h;subst h;exact Dl
   .simp at h⟩
 | goto O=>exact⟨λp d T h Q hw=>by simp[c9] at d;subst d;exact⟨_,T,h,.goto,⟨.refl _,Sy _⟩,hw⟩,λl rest h=>by simp[findLabel] at h⟩
 | scope c s=>exact⟨J1 s.1 s.2,λl rest h=>by simp[findLabel] at h⟩
 | _=>exact⟨λp d=>by simp[c9] at d,λl rest h=>by simp[findLabel] at h⟩
theorem Q9 (hm:P.follows .mixedOrders=true) {f:List Nat} (c:Code) (b:SC) (g:c9 P n f c=some b) (T:Env) (h:az) (Q:Exit->Env->View->Prop) (hw:wS P b T h.view Q) :
 ∃ e d a,cX P n c T h e d a/\(iN h a/\h.length<=a.length)/\Q e d a.view:=(Ou hm c).1 b g T h Q hw
theorem Q1 {T:Env} {h:az} {r:ResultVar} {l:List SR} {rest:List ResultVar} (b:fu P (r :: rest)=some l):∃ s c,l=s :: c/\fu P rest=some c/\∀ K:V->Prop,wR T h.view s K->∃ v,rA P T h r=some v/\K v:=by
 cases r with
 | tmp t =>
  simp only[fu,Sw] at b
  obtain⟨c,h1,rfl⟩:=b
  exact⟨.tmp t,c,rfl,h1,λK hk=>⟨_,rfl,hk⟩⟩
 | cell a t =>
  simp only[fu] at b
  split at b
  .rename_i k c h1 m
   simp at b;subst b
   refine⟨.cell a k,c,rfl,m,λK hk=>?_⟩
   simp only[wR] at hk
   simp only[rA,lH,ue h1]
   split at hk
   .rename_i id i j d
    split at hk
    .rename_i es hH
     obtain⟨f,hk⟩:=hk
     obtain⟨v,g,hk⟩:=oz hk
     exact⟨v,by rw[d];simp only[hH];rw[St f,g];rfl,hk⟩
    .exact hk.elim
   .rename_i e j d
    obtain⟨v,g,hk⟩:=oz hk
    exact⟨v,by rw[d];simp only;rw[g];rfl,hk⟩
   .exact hk.elim
  .simp at b
theorem Kt {T:Env} {h:az} {K:List V->Prop} : ∀ (rs:List ResultVar) (l:List SR) (acc:List V),fu P rs=some l->Ak T h.view l acc K->∃ vs,lh P T h rs=some vs/\K (acc ++ vs)
 | [],l,acc,a,hw=>by simp[fu] at a;subst a;exact⟨[],rfl,by simpa [Ak] using hw⟩
 | r :: rest,l,acc,a,hw=>by
  obtain⟨s,c,rfl,h1,d⟩:=Q1 (T:=T) (h:=h) a
  simp only[Ak] at hw
  obtain⟨v,e,hk⟩:=d _ hw
  obtain⟨vs,b,hk⟩:=Kt rest c (acc ++ [v]) h1 hk
  exact⟨v :: vs,by simp[lh,e,b],by simpa using hk⟩
def wF (P:Program) (F:SF) (vs:List V) (H:View) (K:V->View->Prop):Prop :=
 vs.length<=F.n/\wS P F.code (kC vs) H λe T' H'=>(e=.ret∨e=.normal)/\Ak T' H' F.res [] λl=>K (uK l) H'
theorem au.of (hm:P.follows .mixedOrders=true) {f:FuncId} {j:List Nat} {F:SF} (b:aI P f j=some F) {vs:List V} {H:View} {K:V->View->Prop} (hw:wF P F vs H K):au P f vs H K:=by
 unfold aI at b
 split at b
 .rename_i fn g
  split at b
  .rename_i c k
   split at b
   .rename_i m rs h1 n o
    simp at b;subst b
    refine⟨o,?_⟩
    rintro h rfl
    obtain⟨e,r,p,q,st,he,hr⟩:=Q9 hm c m h1 _ h _ hw.2
    obtain⟨d,i,hk⟩:=Kt _ _ [] n hr
    refine⟨uK d,p,bE.HY g k hw.1 q he ?_,st.1,by simpa using hk⟩
    unfold JX
    rw[i]
    cases d with
    | nil=>rfl
    | cons a l=>cases l <;> rfl
   .simp at b
  .simp at b
 .simp at b
theorem au.mono {f:FuncId} {vs:List V} {H:View} {K c:V->View->Prop} (h:au P f vs H K) (hk:∀ r H',K r H'->c r H'):au P f vs H c :=
 ⟨h.1,λd e=>let ⟨r,g,a,s,b⟩:=h.2 d e; ⟨r,g,a,s,hk _ _ b⟩⟩
theorem ay.Ki {f:FuncId} {vs:List V} {H:View} {t:V} {K:V->View->Prop} (h:ay P f vs t) (a:dw P f=true) (hk:K t H):Bi P f vs H K :=
 ⟨a,λb e=>⟨t,b,bE.fO h b,λ_ _=>rfl,e ▸ hk⟩⟩
theorem au.Ki {f:FuncId} {vs:List V} {H:View} {K:V->View->Prop} (h:au P f vs H λr H'=>(∀ id,H id≠.dead->H' id=H id)/\K r H'):Bi P f vs H K :=
 ⟨h.1,λc e=>by
  obtain⟨r,g,i,st,d,hk⟩:=h.2 c e
  refine⟨r,g,i,λid a=>?_,hk⟩
  by_cases b:c.view id=.dead
  .rw[b];exact st id a b
  .rw[<-e] at d;exact d id b⟩
end
inductive cx {α:Type} (x:α):Type where
 | mk
def fq (s:ByteArray):List Int:=s.data.toList.map λb=>(b.toNat:Int)
theorem eD (s:ByteArray):s.size=(fq s).length:=by rw[fq,Sv,bsize]
def aY (P:Program) (c:SC) (T:Env) (H:View) (Q:Exit->Env->View->Prop) (_:cx (T,H,Q)):Prop:=wS P (.loop c) T H Q
def QA (P:Program) (l:Nat) (c r:SC) (T:Env) (H:View) (Q:Exit->Env->View->Prop) (_:cx (T,H,Q)):Prop:=wS P (.scope l c r) T H Q
def av (P:Program) (quiet:Bool) (f:FuncId) (vs:List V) (H:View) (K:V->View->Prop) (_:cx (H,K)):Prop :=
 if quiet then Bi P f vs H K else au P f vs H K
def Ax {α:Type} (v:α) (F:α->Prop) (_:cx F):Prop:=F v
def dS (v:V) (F:V->Prop) (_:cx F):Prop:=F v
def FM (o:dF) (F:dF->Prop) (_:cx F):Prop:=F o
def pH {α:Type} (o:Option α) (F:Option α->Prop) (_:cx F):Prop:=F o
def ai (b:Bool) (A B:Prop) (_:cx (A,B)):Prop:=(b=true->A)/\(b=false->B)
theorem Rj {α:Type} (v:α) (F:α->Prop) (w:cx F):Ax v F w=F v:=propext Iff.rfl
section
variable (F:V->Prop) (w:cx F)
theorem HK (v:Value):dS (.val v) F w=F (.val v):=propext Iff.rfl
theorem Iu (k:Nat):dS (.emp k) F w=F (.emp k):=propext Iff.rfl
theorem G0:dS .dK F w=F .dK:=propext Iff.rfl
theorem Ib (es:List (List V)):dS (.aT es) F w=F (.aT es):=propext Iff.rfl
theorem Me (a b c d:Nat):dS (.sl a b c d) F w=F (.sl a b c d):=propext Iff.rfl
theorem IE (a b c:Nat):dS (.ptr a b c) F w=F (.ptr a b c):=propext Iff.rfl
theorem EY (e:List V) (j:Nat):dS (.aG e j) F w=F (.aG e j):=propext Iff.rfl
theorem M1 (a:Nat):dS (.mp a) F w=F (.mp a):=propext Iff.rfl
theorem KP (f:FuncId) (a b:List V):dS (.fn f a b) F w=F (.fn f a b):=propext Iff.rfl
theorem IG (cs:List V):dS (.agg cs) F w=F (.agg cs):=propext Iff.rfl
theorem Ic (cs:List V):dS (.aS cs) F w=F (.aS cs):=propext Iff.rfl
end
theorem Hk (F:dF->Prop) (w:cx F) (k:Nat) (es:List (List V)):FM (.arr k es) F w=F (.arr k es):=propext Iff.rfl
theorem HN (F:dF->Prop) (w:cx F) (es:List (V × V × Nat)) (k:Nat):FM (.map es k) F w=F (.map es k):=propext Iff.rfl
theorem EW {α:Type} (F:Option α->Prop) (w:cx F) (x:α):pH (some x) F w=F (some x):=propext Iff.rfl
theorem F2 (A B:Prop) (w:cx (A,B)):ai true A B w=A:=by simp[ai]
theorem Dd (A B:Prop) (w:cx (A,B)):ai false A B w=B:=by simp[ai]
theorem Hu (b:Bool) (A B:Prop) (w:cx (A,B)):ai (!b) A B w=ai b B A .mk:=by cases b <;> simp[ai]
theorem ai.split {b:Bool} {A B:Prop} {w:cx (A,B)} (h1:b=true->A) (a:b=false->B):ai b A B w:=⟨h1,a⟩
theorem ai.dec {p:Prop} [Decidable p] {A B:Prop} {w:cx (A,B)} (h1:p->A) (a:¬ p->B):ai (decide p) A B w:=⟨λh=>h1 (by simpa using h),λh=>a (by simpa using h)⟩
theorem ai.eq {a b:Int} {A B:Prop} {w:cx (A,B)} (h1:a=b->A) (c:¬ a=b->B):ai (a == b) A B w:=⟨λh=>h1 (by simpa using h),λh=>c (by simpa using h)⟩
theorem ai.ne {a b:Int} {A B:Prop} {w:cx (A,B)} (h1:¬ a=b->A) (c:a=b->B):ai (a != b) A B w:=⟨λh=>h1 (by simpa using h),λh=>c (by simpa using h)⟩
section
variable (P:Program) (T:Env) (H:View)
theorem OS (F:SF) (vs:List V) (K:V->View->Prop):wF P F vs H K=(vs.length<=F.n/\wS P F.code (kC vs) H λe a H'=>(e=.ret∨e=.normal)/\Ak a H' F.res [] λl=>Ax (uK l) (λv=>K v H') .mk):=propext Iff.rfl
theorem HI (Q:Exit->Env->View->Prop):wS P .skip T H Q=Q .normal T H:=propext Iff.rfl
theorem CC (q:Bool) (gs:List SG) (Q:Exit->Env->View->Prop):wS P (.region q gs) T H Q=vA P q gs T H (Q .normal):=propext Iff.rfl
theorem zU (a:List (Nat × Nat)) (gs:List SG) (Q:Exit->Env->View->Prop):wS P (.tP a gs) T H Q=vA P false gs T H (λb H'=>wY a b (Q .normal b H')):=propext Iff.rfl
theorem AL (a:Nat × Nat × Nat) (b:List (Nat × Nat)) (gs:List SG) (Q:Exit->Env->View->Prop):wS P (.xK a b gs) T H Q=vA P false gs T H (λc H'=>Fi P a.1 (c a.2.1) (c a.2.2) H/\wY b c (Q .normal c H')):=propext Iff.rfl
theorem G5 (K:Prop):wY [] T K=K:=propext Iff.rfl
theorem FO (a b:Nat) (l:List (Nat × Nat)) (K:Prop):wY ((a,b) :: l) T K=(iH (T a) (T b)/\wY l T K):=propext Iff.rfl
theorem Iv (i j k a b c:Nat):iH (.ptr i j k) (.ptr a b c)=(i≠a):=propext Iff.rfl
theorem Hr (i j k a b c d:Nat):iH (.ptr i j k) (.sl a b c d)=(i≠a):=propext Iff.rfl
theorem Fm (i j k e:Nat):iH (.ptr i j k) (.emp e)=True:=id rfl
theorem D7 (i j k:Nat):iH (.ptr i j k) .dK=True:=id rfl
theorem Ff (i j k:Nat) (es:List (List V)):iH (.ptr i j k) (.aT es)=True:=id rfl
theorem IJ (a b c d e f g h:Nat):iH (.sl a b c d) (.sl e f g h)=(a≠e):=propext Iff.rfl
theorem LP (a b c d e:Nat):iH (.sl a b c d) (.emp e)=True:=id rfl
theorem KF (a b c d:Nat):iH (.sl a b c d) .dK=True:=id rfl
theorem Kv (a b c d:Nat) (es:List (List V)):iH (.sl a b c d) (.aT es)=True:=id rfl
theorem HH (k:Nat) (v:V):iH (.emp k) v=True:=by cases v <;> rfl
theorem Ho (v:V):iH .dK v=True:=by cases v <;> rfl
theorem Ir (es:List (List V)) (v:V):iH (.aT es) v=True:=by cases v <;> rfl
theorem E5 (e:List V) (j:Nat) (v:V):iH (.aG e j) v=True:=by cases v <;> rfl
theorem Mo (x y:SC) (Q:Exit->Env->View->Prop):wS P (.seq x y) T H Q=wS P x T H λe a H'=>yH e (wS P y a H' Q) (Q e a H'):=propext Iff.rfl
theorem HS (c:SX) (x y:SC) (Q:Exit->Env->View->Prop):wS P (.cond c x y) T H Q=dS (c.at T) (λv=>match v with
 | .val (.bool b)=>ai b (wS P x (rV c true T) H Q) (wS P y (rV c false T) H Q) .mk
 | _=>False) .mk:=propext Iff.rfl
theorem FH (id:Nat) (c:SC) (Q:Exit->Env->View->Prop):wS P (.block id c) T H Q=wS P c T H λe=>Q (oW id e):=propext Iff.rfl
theorem G3 (id:Nat) (Q:Exit->Env->View->Prop):wS P (.exit id) T H Q=Q (.exit id) T H:=propext Iff.rfl
theorem LK (Q:Exit->Env->View->Prop):wS P .ret T H Q=Q .ret T H:=propext Iff.rfl
theorem E3 (l:Nat) (c r:SC) (Q:Exit->Env->View->Prop):wS P (.scope l c r) T H Q=QA P l c r T H Q .mk:=propext Iff.rfl
theorem FJ (l:Nat) (Q:Exit->Env->View->Prop):wS P (.label l) T H Q=Q .normal T H:=propext Iff.rfl
theorem Ik (l:Nat) (Q:Exit->Env->View->Prop):wS P (.goto l) T H Q=Q (.goto l) T H:=propext Iff.rfl
theorem AA (l c:Nat) (a b:Prop):x5 l (.goto c) a b=(c=l/\a):=propext Iff.rfl
theorem wX (l:Nat) (a b:Prop):x5 l .normal a b=b:=propext Iff.rfl
theorem An (l i:Nat) (a b:Prop):x5 l (.exit i) a b=b:=propext Iff.rfl
theorem Cx (l:Nat) (a b:Prop):x5 l .ret a b=b:=propext Iff.rfl
theorem Eb (l:Nat) (a b:Prop):yH (.goto l) a b=b:=propext Iff.rfl
theorem zX (i l:Nat):oW i (.goto l)=.goto l:=id rfl
theorem Iq (c:SC) (Q:Exit->Env->View->Prop):wS P (.loop c) T H Q=aY P c T H Q .mk:=propext Iff.rfl
theorem He (q:Bool) (K:Env->View->Prop):vA P q [] T H K=K T H:=propext Iff.rfl
theorem E9 (q:Bool) (g:SG) (r:List SG) (K:Env->View->Prop):vA P q (g :: r) T H K=wG P q g T H λa H'=>vA P q r a H' K:=propext Iff.rfl
theorem HP (q:Bool) (ops:List (Option Nat × SB)) (K:Env->View->Prop):wG P q ⟨none,ops⟩ T H K=xq P q ops T H K:=propext Iff.rfl
theorem HJ (q:Bool) (d:Nat) (ops:List (Option Nat × SB)) (K:Env->View->Prop):wG P q ⟨some (d,true),ops⟩ T H K=dS (T d) (λv=>match v with
 | .val (.bool b)=>ai b (xq P q ops (T.put (some d) (.val (.bool true))) H K) (K (ie ops (T.put (some d) (.val (.bool false)))) H) .mk
 | .aS []=>K (ie ops T) H
 | _=>False) .mk:=propext Iff.rfl
theorem Fb (q:Bool) (d:Nat) (ops:List (Option Nat × SB)) (K:Env->View->Prop):wG P q ⟨some (d,false),ops⟩ T H K=dS (T d) (λv=>match v with
  | .val (.bool b)=>ai b (K (ie ops (T.put (some d) (.val (.bool true)))) H) (xq P q ops (T.put (some d) (.val (.bool false))) H K) .mk
  | .aS []=>K (ie ops T) H
  | _=>False) .mk:=by
 simp only[wG,dS]
 generalize T d=v
 cases v with
 | val x=>cases x <;> simp[ai,and_comm]
 | aS l=>cases l <;> simp
 | _=>simp
theorem yo:ie [] T=T:=id rfl
theorem wN (d:Option Nat) (b:SB) (r:List (Option Nat × SB)):ie ((d,b) :: r) T=ie r (T.put d (.aS [])):=id rfl
theorem Ig (q:Bool) (K:Env->View->Prop):xq P q [] T H K=K T H:=propext Iff.rfl
theorem EL (q:Bool) (d:Option Nat) (b:SB) (r:List (Option Nat × SB)) (K:Env->View->Prop):xq P q ((d,b) :: r) T H K=wB P q b T H λv H'=>Ax v (λv'=>xq P q r (T.put d v') H' K) .mk:=propext Iff.rfl
theorem OT (q:Bool) (s:SI) (K:V->View->Prop):wB P q (.op s) T H K=wI P s T H K:=propext Iff.rfl
theorem Ij (q:Bool) (f:SX) (args:List SX) (K:V->View->Prop):wB P q (.call f args) T H K=dS (f.at T) (λv=>match v with
 | .fn g first cap=>av P q g (first ++ args.map (SX.at T) ++ cap) H K .mk
 | _=>False) .mk:=propext Iff.rfl
theorem EZ (q:Bool) (f:SX) (args:List SX) (K:V->View->Prop):wB P q (.nM f args) T H K=dS (f.at T) (λv=>match v with
 | .fn g first cap=>av P true g (first ++ args.map (SX.at T) ++ cap) H K .mk
 | _=>False) .mk:=propext Iff.rfl
theorem KL (x:SX) (K:V->View->Prop):wI P (.eJ x) T H K=K (x.at T) H:=propext Iff.rfl
theorem GX (c a b:SX) (K:V->View->Prop):wI P (.pick c a b) T H K=dS (c.at T) (λv=>match v with
  | .val (.bool t)=>ai t (K (a.at T) H) (K (b.at T) H) .mk
  | _=>False) .mk:=by
 simp only[wI,dS]
 generalize c.at T=v
 cases v with
 | val x =>
  cases x with
  | bool t=>cases t <;> simp[ai]
  | _=>simp
 | _=>simp
theorem Mx (x:SX) (K:V->View->Prop):wI P (.box x) T H K=dS (x.at T) (λv=>v.cells.all aE=true/\Ax v.cells (λcs=>∀ n,H n=.dead->K (.ptr n 0 0) (H.set n (.arr cs.length [cs]))) .mk) .mk:=propext Iff.rfl
theorem Mg (x:SX) (K:V->View->Prop):wI P (.jd x) T H K=dS (x.at T) (λv=>v.cells.all aE=true/\Ax v.cells (λcs=>K (.aG cs 0) H) .mk) .mk:=propext Iff.rfl
theorem FP (z:List V) (K:V->View->Prop):wI P (.alloc z) T H K=(z.all aE=true/\∀ n,H n=.dead->K (.ptr n 0 0) (H.set n (.arr z.length [z]))):=propext Iff.rfl
theorem Hp (sz:Option Nat) (a:SX) (K:V->View->Prop):wI P (.load sz a) T H K=dS (a.at T) (λv=>match v with
 | .ptr id i j=>FM (H id) (λo=>match o with
  | .arr _ es=>i < es.length/\Ax (es.getD i []) (λe=>ju sz e j λv=>K v H) .mk
  | _=>False) .mk
 | .aG e j=>ju sz e j λv=>K v H
 | _=>False) .mk:=propext Iff.rfl
theorem E2 (sz:Option Nat) (a:SX) (K:V->View->Prop):wI P (.xL sz a) T H K=dS (a.at T) (λv=>match v with
 | .aG e j=>ju sz e j λv=>K v H
 | _=>False) .mk:=propext Iff.rfl
theorem EU (sz:Nat) (a x:SX) (K:V->View->Prop):wI P (.store sz a x) T H K=dS (a.at T) (λv=>match v with
 | .ptr id i j=>FM (H id) (λo=>match o with
  | .arr esz es=>Ax (x.at T).cells (λcs=>(i < es.length/\cs.length=sz/\j+cs.length<=esz/\cs.all aE=true) /\
   Ax (es.set i (fe (es.getD i []) j cs)) (λes'=>K .any (H.set id (.arr esz es'))) .mk) .mk
  | _=>False) .mk
 | _=>False) .mk:=propext Iff.rfl
theorem HE (x:SX) (K:V->View->Prop):wI P (.y9 x) T H K=dS (x.at T) (λv=>match v with
 | .ptr id i j=>K (.ptr id i j) H
 | .aG e j=>K (.aG e j) H
 | .fn f a b=>K (.fn f a b) H
 | _=>False) .mk:=propext Iff.rfl
theorem Io (off:Nat) (x:SX) (K:V->View->Prop):wI P (.addr off x) T H K=dS (x.at T) (λv=>match v with
 | .ptr id i j=>K (.ptr id i (j+off)) H
 | .aG e j=>K (.aG e (j+off)) H
 | _=>False) .mk:=propext Iff.rfl
theorem FK (off:Nat) (sz:Option Nat) (x:SX) (K:V->View->Prop):wI P (.field off sz x) T H K=dS (x.at T) (λv=>match v with
 | .agg cs=>ju sz cs off λv=>K v H
 | _=>False) .mk:=propext Iff.rfl
theorem Lc (sz:Nat) (x i:SX) (K:V->View->Prop):wI P (.idx sz x i) T H K=pH (asNat (i.at T)) (λo=>match o with
  | none=>False
  | some q=>dS (x.at T) (λv=>match v with
   | .sl id off len esz=>(q < len/\esz=sz)/\K (.ptr id (off+q) 0) H
   | .aT es=>pH es[q]? (λo=>match o with
    | some e=>e.length=sz/\K (.aG e 0) H
    | none=>False) .mk
   | _=>False) .mk) .mk:=by
 simp only[wI,pH,dS]
 cases asNat (i.at T) with
 | none=>rfl
 | some q =>
  simp only
  cases x.at T with
  | aT es =>
   simp only
   cases h:es[q]? with
   | none=>simp
   | some e=>simp
  | _=>rfl
theorem It (f:FuncId) (first cap:List SX) (K:V->View->Prop):wI P (.sF f first cap) T H K=K (.fn f (first.map (SX.at T)) (cap.map (SX.at T))) H:=propext Iff.rfl
theorem FB (K:V->View->Prop):wI P .o8 T H K=(∀ n,H n=.dead->K (.mp n) (H.set n (.map [] 0))):=propext Iff.rfl
theorem LV (i:Nat) (x:SX) (K:V->View->Prop):wI P (.ext i x) T H K=dS (x.at T) (λv=>match v with
 | .aS vs=>i < vs.length/\K (vs.getD i .any) H
 | _=>False) .mk:=propext Iff.rfl
theorem KO (x:SX) (K:V->View->Prop):wI P (.len x) T H K=pH (bZ (x.at T)) (λo=>match o with
 | some n=>K (fA n) H
 | none=>False) .mk:=propext Iff.rfl
theorem Hh (x:SX) (K:V->View->Prop):wI P (.oA x) T H K=dS (x.at T) (λv=>match v with
 | .val (.string s)=>K (fA s.size) H
 | _=>False) .mk:=propext Iff.rfl
theorem F4 (op:BinOp) (x y:SX) (K:V->View->Prop):wI P (.arith op x y) T H K=dS (x.at T) (λv=>dS (y.at T) (λv'=>match v,v' with
 | .val (.int k a),.val (.int c b)=>k=c/\pH (gP op k a b) (λo=>match o with | some v=>K (.val v) H | none=>False) .mk
 | _,_=>False) .mk) .mk:=propext Iff.rfl
theorem O6 (l:Bool) (x y:SX) (K:V->View->Prop):wI P (.sh l x y) T H K=dS (x.at T) (λv=>dS (y.at T) (λv'=>match v,v' with
 | .val (.int k a),.val (.int _ b)=>0<=b/\K (.val (.int k (I6 l k a b))) H
 | _,_=>False) .mk) .mk:=propext Iff.rfl
theorem MV (op:BinOp) (x y:SX) (K:V->View->Prop):wI P (.vr op x y) T H K=dS (x.at T) (λv=>dS (y.at T) (λv'=>match v,v' with
 | .val (.string a),.val (.string b)=>(match op with
  | .eql=>K (.val (.bool (iz a b))) H
  | .neq=>K (.val (.bool (!iz a b))) H
  | _=>False)
 | _,_=>False) .mk) .mk:=propext Iff.rfl
theorem IA (x i:SX) (K:V->View->Prop):wI P (.hU x i) T H K=dS (x.at T) (λv=>pH (asNat (i.at T)) (λo=>match v,o with
  | .val (.string s),some q=>pH (fq s)[q]? (λo=>match o with
   | some c=>K (.val (.int .u8 c)) H
   | none=>False) .mk
  | _,_=>False) .mk) .mk:=by
 simp only[wI,pH,dS]
 generalize x.at T=v
 generalize asNat (i.at T)=o
 cases v with
 | val u =>
  cases u with
  | string s =>
   cases o with
   | none=>rfl
   | some q =>
    simp only[fq,Ss]
    cases h:s.data.toList[q]? with
    | none=>simp
    | some e=>simp
  | _=>rfl
 | _=>rfl
theorem Mw (x:SX) (K:V->View->Prop):wI P (.not x) T H K=dS (x.at T) (λv=>match v with
 | .val (.bool t)=>K (.val (.bool (!t))) H
 | _=>False) .mk:=propext Iff.rfl
theorem Ms (eq:Bool) (k:Nat) (x y:SX) (K:V->View->Prop):wI P (.nil eq k x y) T H K=pH (za (eK k (x.at T)) (eK k (y.at T))) (λo=>match o with
 | some b=>K (.val (.bool (if eq=true then b else !b))) H
 | none=>False) .mk:=propext Iff.rfl
theorem HA (x y:SX) (K:V->View->Prop):wI P (.beq true x y) T H K=dS (x.at T) (λv=>dS (y.at T) (λv'=>match v,v' with
 | .val (.bool a),.val (.bool b)=>K (.val (.bool (a == b))) H
 | _,_=>False) .mk) .mk:=propext Iff.rfl
theorem GP (x y:SX) (K:V->View->Prop):wI P (.beq false x y) T H K=dS (x.at T) (λv=>dS (y.at T) (λv'=>match v,v' with
 | .val (.bool a),.val (.bool b)=>K (.val (.bool (a != b))) H
 | _,_=>False) .mk) .mk:=propext Iff.rfl
theorem Mp (x y:SX) (K:V->View->Prop):wI P (.mm true x y) T H K=dS (x.at T) (λv=>dS (y.at T) (λv'=>match v,v' with
 | .val (.int k a),.val (.int _ b)=>K (.val (.int k (if b > a then b else a))) H
 | _,_=>False) .mk) .mk:=propext Iff.rfl
theorem Nb (x y:SX) (K:V->View->Prop):wI P (.mm false x y) T H K=dS (x.at T) (λv=>dS (y.at T) (λv'=>match v,v' with
 | .val (.int k a),.val (.int _ b)=>K (.val (.int k (if b < a then b else a))) H
 | _,_=>False) .mk) .mk:=propext Iff.rfl
theorem IL (k:IntKind) (x:SX) (K:V->View->Prop):wI P (.conv k x) T H K=dS (x.at T) (λv=>match v with
 | .val (.int _ a)=>K (.val (.int k (k.wrap a))) H
 | _=>False) .mk:=propext Iff.rfl
theorem Fs (n k:Nat) (o:dF):View.set H n o k=if k=n then o else H k:=id rfl
theorem F7 (z:List V) (parts:List (Nat × Nat × SX)) (K:V->View->Prop):wI P (.build z parts) T H K=pH (lu z (parts.map λp=>(p.1,p.2.1,p.2.2.at T))) (λo=>match o with
 | some cs=>K (.agg cs) H
 | none=>False) .mk:=propext Iff.rfl
theorem Cf (len sz:Nat) (z:List V) (parts:List (Nat × SX)) (K:V->View->Prop):wI P (.bN len sz z parts) T H K=pH (kG sz (List.replicate len z) (parts.map λp=>(p.1,p.2.at T))) (λo=>match o with
 | some es=>∀ n,H n=.dead->K (.sl n 0 len sz) (H.set n (.arr sz es))
 | none=>False) .mk:=propext Iff.rfl
theorem Es (sz:Nat) (x:SX) (lo hi:Option SX) (K:V->View->Prop):wI P (.slice sz x lo hi) T H K=pH (cz sz (x.at T) (lo.map (SX.at T)) (hi.map (SX.at T))) (λo=>match o with
 | some (v,.none,_)=>K v H
 | _=>False) .mk:=propext Iff.rfl
theorem HZ (sz bytes:Nat) (z:List V) (l c:SX) (K:V->View->Prop):wI P (.make sz bytes z l c) T H K=pH (asNat (l.at T)) (λa=>pH (asNat (c.at T)) (λb=>match a,b with
 | some l,some c=>(l<=c/\c < aC/\bytes * c < aC)/\(c=0->K (.emp 2) H)/\(c≠0->∀ n,H n=.dead->K (.sl n 0 l sz) (H.set n (.arr sz (List.replicate l z))))
 | _,_=>False) .mk) .mk:=propext Iff.rfl
def lJ (sz bytes:Nat) (x:V) (xs:List (List V)) (H:View) (K:V->View->Prop) (_:cx (H,K)):Prop:=if xs.isEmpty=true then (match x with
  | .emp k=>K (.emp k) H
  | .dK=>K .dK H
  | .aT es=>K (.aT es) H
  | .sl a b c d=>K (.sl a b c d) H
  | _=>False)
 else (xs.all λe=>e.length == sz && e.all aE)=true/\(match x with
  | .emp _=>(xs.length * bytes < aC/\xs.length < aC)/\∀ n,H n=.dead->K (.sl n 0 xs.length sz) (H.set n (.arr sz xs))
  | .sl id off len esz=>match H id with
   | .arr _ es=>(off+len<=es.length/\esz=sz/\(len+xs.length) * bytes < aC/\len+xs.length < aC) /\
    ∀ n,H n=.dead->K (.sl n 0 (len+xs.length) esz) ((H.set id .dead).set n (.arr esz ((es.drop off).take len ++ xs)))
   | _=>False
  | _=>False)
theorem My (sz bytes:Nat) (x y:SX) (K:V->View->Prop):wI P (.app sz bytes x y) T H K=pH (bA H (y.at T)) (λo=>match o with
 | some (xs,_)=>lJ sz bytes (x.at T) xs H K .mk
 | none=>False) .mk:=propext Iff.rfl
theorem wb (sz bytes k:Nat) (xs:List (List V)) (K:V->View->Prop) (w:cx (H,K)) (a:xs.isEmpty=false):lJ sz bytes (.emp k) xs H K w=((xs.all λe=>e.length == sz && e.all aE)=true/\(xs.length * bytes < aC/\xs.length < aC)/\∀ n,H n=.dead->K (.sl n 0 xs.length sz) (H.set n (.arr sz xs))):=by
 unfold lJ;rw[Sr (by rw[a];simp)]
theorem ra (sz bytes id off len esz:Nat) (xs:List (List V)) (K:V->View->Prop) (w:cx (H,K)) (a:xs.isEmpty=false):lJ sz bytes (.sl id off len esz) xs H K w=((xs.all λe=>e.length == sz && e.all aE)=true/\FM (H id) (λo=>match o with
  | .arr _ es=>(off+len<=es.length/\esz=sz/\(len+xs.length) * bytes < aC/\len+xs.length < aC) /\
   ∀ n,H n=.dead->K (.sl n 0 (len+xs.length) esz) ((H.set id .dead).set n (.arr esz ((es.drop off).take len ++ xs)))
  | _=>False) .mk):=by
 unfold lJ FM;rw[Sr (by rw[a];simp)]
theorem ni (id off len esz z:Nat) (es:List (List V)) (hH:H id=.arr z es) (a:off+(len+1)<=es.length):bA H (.sl id off (len+1) esz)=some ((es.drop off).take (len+1),[id]):=by
 simp only[bA,hH];rw[St a]
theorem lj (es:List (List V)):bA H (.aT es)=some (es,[]):=id rfl
theorem sT (k:Nat):bA H (.emp k)=some ([],[]):=id rfl
theorem Ix (x:SX) (K:V->View->Prop):wI P (.BP x) T H K=dS (x.at T) (λv=>match v with
 | .aT es=>pH (jY es) (λo=>match o with
  | some l=>K (.val (.string ⟨l.toArray⟩)) H
  | none=>False) .mk
 | _=>False) .mk:=propext Iff.rfl
theorem G1 (x:SX) (K:V->View->Prop):wI P (.fN x) T H K=dS (x.at T) (λv=>match v with
 | .val (.string s)=>K (.aT (gp s)) H
 | _=>False) .mk:=propext Iff.rfl
def iE (P:Program) (op:Op) (ty:TypeId) (T:Env) (H:View) (K:V->View->Prop) (_:cx (T,H,K)):Prop:=wI P (.old op ty) T H K
theorem Lu (op:Op) (ty:TypeId) (K:V->View->Prop):wI P (.old op ty) T H K=iE P op ty T H K .mk:=propext Iff.rfl
theorem M9 (t:Nat):ev T (.tmp t)=T t:=id rfl
theorem Fo (v:Value):ev T (.const v)=fg v:=id rfl
theorem LN (t:Nat):(SX.tmp t).at T=T t:=id rfl
theorem MU (v:V):(SX.val v).at T=v:=id rfl
theorem Hd (d t:Nat) (v:V):(T.put (some d) v) t=if t=d then v else T t:=id rfl
theorem E4 (v:V):T.put none v=T:=id rfl
theorem E8 (vs:List V) (t:Nat):kC vs t=vs.getD t .any:=id rfl
theorem AG (e:List V) (j:Nat) (K:V->Prop):ju none e j K=(j < e.length/\K (e.getD j .any)):=propext Iff.rfl
theorem Ae (n:Nat) (e:List V) (j:Nat) (K:V->Prop):ju (some n) e j K=(j+n<=e.length/\K (.agg ((e.drop j).take n))):=propext Iff.rfl
theorem z6 (a b:Prop):yH .normal a b=a:=propext Iff.rfl
theorem D1 (i:Nat) (a b:Prop):yH (.exit i) a b=b:=propext Iff.rfl
theorem IC (a b:Prop):yH .ret a b=b:=propext Iff.rfl
theorem xA (i:Nat):oW i .normal=.normal:=id rfl
theorem C3 (i:Nat):oW i .ret=.ret:=id rfl
theorem Bg (i j:Nat):oW i (.exit j)=if j=i then .normal else .exit j:=by simp only[oW]
theorem G9 (acc:List V) (K:List V->Prop):Ak T H [] acc K=K acc:=propext Iff.rfl
theorem FR (r:SR) (l:List SR) (acc:List V) (K:List V->Prop):Ak T H (r :: l) acc K=wR T H r λv=>Ak T H l (acc ++ [v]) K:=propext Iff.rfl
theorem Lo (t:Nat) (K:V->Prop):wR T H (.tmp t) K=K (T t):=propext Iff.rfl
theorem Hj (t:Nat) (sz:Option Nat) (K:V->Prop):wR T H (.cell t sz) K=dS (T t) (λv=>match v with
 | .ptr id i j=>FM (H id) (λo=>match o with
  | .arr _ es=>i < es.length/\Ax (es.getD i []) (λe=>ju sz e j K) .mk
  | _=>False) .mk
 | .aG e j=>ju sz e j K
 | _=>False) .mk:=propext Iff.rfl
theorem Dp (t:Nat) (b:Bool):rV (.tmp t) b T=T.put (some t) (.val (.bool b)):=id rfl
theorem CA (v:V) (b:Bool):rV (.val v) b T=T:=id rfl
theorem L6:(Exit.ret=Exit.ret∨Exit.ret=Exit.normal)=True:=by simp
theorem CO:(Exit.normal=Exit.ret∨Exit.normal=Exit.normal)=True:=by simp
end
section
variable {P:Program} {T:Env} {H:View}
theorem aY.intro {c:SC} {Q:Exit->Env->View->Prop} {v:cx (T,H,Q)} (I:Nat->Env->View->Prop) (k:Nat) (d:I k T H)
  (f:∀ k T H,I k T H->wS P c T H λe a H'=>yH e (∃ b,b < k/\I b a H') (Q e a H')):aY P c T H Q v:=by
 simp only[aY,wS]
 exact⟨I,⟨k,d⟩,f⟩
theorem av.pure {q:Bool} {f:FuncId} {vs:List V} {K:V->View->Prop} {v:cx (H,K)} {t:V} (b:ay P f vs t) (hk:K t H) (a:dw P f=true:=by kernel_rfl):av P q f vs H K v:=by
 unfold av
 cases q with
 | true=>exact b.Ki a hk
 | false =>
  refine⟨a,?_⟩
  rintro h rfl
  exact⟨t,h,bE.fO b h,.refl _,hk⟩
theorem av.dW {f:FuncId} {vs:List V} {K:V->View->Prop} {v:cx (H,K)} (a:au P f vs H K):av P false f vs H K v:=a
theorem Cr:az.view []=λ_=>dF.dead:=by funext id;simp[az.view]
theorem ay.of {f:FuncId} {vs:List V} {t:V} (b:∀ v∈vs,Tree v) (h:au P f vs (λ_=>.dead) λr H'=>∀ a:az,a.view=H'->Fr a r t):ay P f vs t:=by
 obtain⟨r,a,c,_,d⟩:=h.2 [] Cr
 exact ay.uo b c (d a rfl)
theorem wrap64 {x:Int} (h1 : -9223372036854775808<=x) (d:x<=9223372036854775807):IntKind.wrap .i64 x=x:=by
 unfold IntKind.wrap
 have a:(2:Int) ^ IntKind.i64.bits=18446744073709551616:=by rfl
 have b:(2:Int) ^ (IntKind.i64.bits - 1)=9223372036854775808:=by rfl
 have c:IntKind.i64.signed=true:=by rfl
 simp only[a,b,c,TC,SN]
 split <;> omega
theorem C5 {k:IntKind} {i:Int} (h:0<=i):asNat (.val (.int k i))=some i.toNat:=by simp[asNat,h]
end
theorem CK (v:Value):V.cells (.val v)=[.val v]:=id rfl
theorem xS (v:Value):aE (.val v)=true:=id rfl
theorem C4 (k:Nat):V.cells (.emp k)=[.emp k]:=id rfl
theorem xR (k:Nat):aE (.emp k)=true:=id rfl
theorem Cz  : V.cells .dK=[.dK]:=id rfl
theorem HM  : aE .dK=true:=id rfl
theorem CI (es:List (List V)):V.cells (.aT es)=[.aT es]:=id rfl
theorem Ih (es:List (List V)):aE (.aT es)=true:=id rfl
theorem Fq (a b c d:Nat):V.cells (.sl a b c d)=[.sl a b c d]:=id rfl
theorem Lx (a b c d:Nat):aE (.sl a b c d)=true:=id rfl
theorem Di (a b c:Nat):V.cells (.ptr a b c)=[.ptr a b c]:=id rfl
theorem HO (a b c:Nat):aE (.ptr a b c)=true:=id rfl
theorem zS (e:List V) (j:Nat):V.cells (.aG e j)=[.aG e j]:=id rfl
theorem D5 (e:List V) (j:Nat):aE (.aG e j)=true:=id rfl
theorem Gb (a:Nat):V.cells (.mp a)=[.mp a]:=id rfl
theorem Nh (a:Nat):aE (.mp a)=true:=id rfl
theorem DV (f:FuncId) (a b:List V):V.cells (.fn f a b)=[.fn f a b]:=id rfl
theorem LQ (f:FuncId) (a b:List V):aE (.fn f a b)=true:=id rfl
theorem Cj (cs:List V):V.cells (.agg cs)=cs:=id rfl
theorem II (k:Nat):bZ (.emp k)=some 0:=id rfl
theorem IK:bZ .dK=some 0:=id rfl
theorem Is (es:List (List V)):bZ (.aT es)=some es.length:=id rfl
theorem KZ (a b c d:Nat):bZ (.sl a b c d)=some c:=id rfl
abbrev Rl {p:Prop} (_:p):Prop:=p
theorem OR (P:Program) (T:Env) (H:View) (a:SC) (Q:Exit->Env->View->Prop):wS P (ae [a]) T H Q=wS P a T H Q:=by rw[ae]
theorem O8 (P:Program) (T:Env) (H:View) (a b:SC) (l:List SC) (Q:Exit->Env->View->Prop):wS P (ae (a :: b :: l)) T H Q=wS P (.seq a (ae (b :: l))) T H Q:=by rw[ae]
abbrev Wr:Prop:=Rl (And.intro @OR <| And.intro @O8 <| And.intro @OS <| And.intro @HI <| And.intro @CC <| And.intro @zU <| And.intro @AL <| And.intro @G5 <| And.intro @FO <| And.intro @Mo <|
 And.intro @HS <| And.intro @FH <| And.intro @G3 <| And.intro @LK <| And.intro @E3 <| And.intro @FJ <| And.intro @Ik <| And.intro @AA <| And.intro @wX <| And.intro @An <| And.intro @Cx <| And.intro @Eb <| And.intro @zX <|
 And.intro @Iq <| And.intro @He <| And.intro @E9 <| And.intro @HP <|
 And.intro @HJ <| And.intro @Fb <| And.intro @yo <| And.intro @wN <|
 And.intro @Ig <| And.intro @EL <| And.intro @OT <| And.intro @Ij <| And.intro @EZ <|
 And.intro @KL <| And.intro @GX <| And.intro @Mx <| And.intro @Mg <|
 And.intro @FP <| And.intro @Hp <| And.intro @E2 <| And.intro @EU <|
 And.intro @HE <| And.intro @Io <| And.intro @FK <| And.intro @Lc <|
 And.intro @It <| And.intro @FB <| And.intro @LV <| And.intro @KO <|
 And.intro @Hh <| And.intro @F4 <| And.intro @O6 <| And.intro @MV <| And.intro @IA <|
 And.intro @Mw <| And.intro @Ms <| And.intro @HA <| And.intro @GP <|
 And.intro @Mp <| And.intro @Nb <| And.intro @IL <| And.intro @Ix <|
 And.intro @G1 <| And.intro @F7 <| And.intro @Cf <| And.intro @Es <|
 And.intro @HZ <| And.intro @My <| And.intro @Lu <| And.intro @M9 <| And.intro @Fo <| And.intro @LN <| And.intro @MU <|
 And.intro @Hd <| And.intro @E4 <| And.intro @E8 <| And.intro @AG <|
 And.intro @Ae <| And.intro @z6 <| And.intro @D1 <| And.intro @IC <|
 And.intro @xA <| And.intro @C3 <| And.intro @Bg <| And.intro @G9 <|
 And.intro @FR <| And.intro @Lo <| And.intro @Hj <| And.intro @Dp @CA)
theorem wr:Wr:=⟨@OR,@O8,@OS,@HI,@CC,@zU,@AL,@G5,@FO,@Mo,@HS,@FH,@G3,@LK,@E3,@FJ,@Ik,@AA,@wX,@An,@Cx,@Eb,@zX,@Iq,@He,@E9,@HP,@HJ,@Fb,@yo,@wN,@Ig,@EL,@OT,@Ij,@EZ,@KL,@GX,@Mx,@Mg,@FP,@Hp,@E2,@EU,@HE,@Io,@FK,@Lc,@It,@FB,@LV,@KO,@Hh,@F4,@O6,@MV,@IA,@Mw,@Ms,@HA,@GP,@Mp,@Nb,@IL,@Ix,@G1,@F7,@Cf,@Es,@HZ,@My,@Lu,@M9,@Fo,@LN,@MU,@Hd,@E4,@E8,@AG,@Ae,@z6,@D1,@IC,@xA,@C3,@Bg,@G9,@FR,@Lo,@Hj,@Dp,@CA⟩
theorem MS:uK []=.aS []:=id rfl
theorem M8 (v:V):uK [v]=v:=id rfl
theorem KS (v w:V) (l:List V):uK (v :: w :: l)=.aS (v :: w :: l):=id rfl
theorem OX (n:Nat):fA n=.val (.int .i64 n):=id rfl
theorem Fa (e:List V) (j:Nat) (cs:List V):fe e j cs=e.take j ++ cs ++ e.drop (j+cs.length):=id rfl
theorem Fc (z:List V):lu z []=some z:=id rfl
theorem D2 (z:List V) (o n:Nat) (x:V) (r:List (Nat × Nat × V)):lu z ((o,n,x) :: r)=if x.cells.length=n/\o+n<=z.length/\x.cells.all aE=true then lu (fe z o x.cells) r else none:=by rw[lu]
theorem Iw (k:Nat) (z:List (List V)):kG k z []=some z:=by rw[kG]
theorem GQ (k:Nat) (z:List (List V)) (i:Nat) (x:V) (r:List (Nat × V)):kG k z ((i,x) :: r)=if x.cells.length=k/\i < z.length/\x.cells.all aE=true then kG k (z.set i x.cells) r else none:=by rw[kG]
theorem Mi (b:Bool):za (some true) (some b)=some b:=id rfl
theorem Lp (b:Bool):za (some b) (some true)=some b:=by cases b <;> rfl
section
variable (k:IntKind) (a b:Int)
theorem Hw:gP .add k a b=some (.int k (k.wrap (a+b))):=id rfl
theorem Hv:gP .sub k a b=some (.int k (k.wrap (a - b))):=id rfl
theorem GY:gP .mul k a b=some (.int k (k.wrap (a * b))):=id rfl
theorem GW:gP .quo k a b=if b=0 then none else some (.int k (k.wrap (a.tdiv b))):=id rfl
theorem Hb:gP .rem k a b=if b=0 then none else some (.int k (a.tmod b)):=id rfl
theorem Hi:gP .eql k a b=some (.bool (a == b)):=id rfl
theorem GV:gP .neq k a b=some (.bool (a != b)):=id rfl
theorem Hm:gP .lss k a b=some (.bool (a < b)):=id rfl
theorem IN:gP .leq k a b=some (.bool (a<=b)):=id rfl
theorem Hn:gP .gtr k a b=some (.bool (a > b)):=id rfl
theorem Ia:gP .geq k a b=some (.bool (a≥b)):=id rfl
theorem LX:gP .or k a b=some (.int k (k.wrap (BitVec.ofInt k.bits a ||| BitVec.ofInt k.bits b).toNat)):=id rfl
theorem Hg:gP .and k a b=some (.int k (k.wrap (BitVec.ofInt k.bits a &&& BitVec.ofInt k.bits b).toNat)):=id rfl
theorem zI:gP .andNot k a b=some (.int k (k.wrap (BitVec.ofInt k.bits a &&& ~~~(BitVec.ofInt k.bits b)).toNat)):=id rfl
end
theorem Mc:eK 0 (.emp 1)=some true:=id rfl
theorem Km:eK 0 (.emp 2)=some false:=id rfl
theorem HT:eK 0 .dK=some false:=id rfl
theorem LH (a b n c:Nat):eK 0 (.sl a b (n+1) c)=some false:=id rfl
theorem Hf (e:List V) (l:List (List V)):eK 0 (.aT (e :: l))=some false:=id rfl
theorem GR (a b c:Nat):eK 1 (.ptr a b c)=some false:=id rfl
theorem F3 (e:List V) (j:Nat):eK 1 (.aG e j)=some false:=id rfl
theorem Mq (a:Nat):eK 2 (.mp a)=some false:=id rfl
theorem L4 (f:FuncId) (a b:List V):eK 3 (.fn f a b)=some false:=id rfl
theorem L0:eK 1 (.val (.pointer none))=some true:=id rfl
theorem Kz:eK 2 (.val (.map none))=some true:=id rfl
theorem Lf:eK 3 (.val .nilFunc)=some true:=id rfl
abbrev Wq:Prop:=Rl (And.intro @MS <| And.intro @M8 <| And.intro @KS <| And.intro @OX <| And.intro @Fa <| And.intro @Fc <| And.intro @D2 <| And.intro @Iw <| And.intro @GQ <| And.intro @Mi <| And.intro @Lp <| And.intro @Hw <| And.intro @Hv <| And.intro @GY <| And.intro @GW <| And.intro @Hb <| And.intro @Hi <| And.intro @GV <| And.intro @Hm <| And.intro @IN <| And.intro @Hn <| And.intro @Ia <| And.intro @LX <| And.intro @Hg <| And.intro @zI <| And.intro @Mc <| And.intro @Km <| And.intro @HT <| And.intro @LH <| And.intro @Hf <| And.intro @GR <| And.intro @F3 <| And.intro @Mq <| And.intro @L4 <| And.intro @L0 <| And.intro @Kz <| And.intro @Lf <| And.intro @eq_self.{1} <| And.intro @ne_eq.{1} <| And.intro @implies_true.{1} <| And.intro @implies_true.{0} <| And.intro @decide_true <| And.intro @decide_false <| And.intro @Iv <| And.intro @Hr <| And.intro @Fm <| And.intro @D7 <| And.intro @Ff <| And.intro @E5 <| And.intro @IJ <| And.intro @LP <| And.intro @KF <| And.intro @Kv <| And.intro @HH <| And.intro @Ho <| And.intro @Ir <| And.intro @CK <| And.intro @xS <| And.intro @C4 <| And.intro @xR <| And.intro @Cz <| And.intro @HM <| And.intro @CI <| And.intro @Ih <| And.intro @Fq <| And.intro @Lx <| And.intro @Di <| And.intro @HO <| And.intro @zS <| And.intro @D5 <| And.intro @Gb <| And.intro @Nh <| And.intro @DV <| And.intro @LQ <| And.intro @Cj <| And.intro @II <| And.intro @IK <| And.intro @Is <| And.intro @KZ <| And.intro @true_or <| And.intro @or_true <| And.intro @or_false <| And.intro @false_or <|
 And.intro @Rj <| And.intro @HK <| And.intro @Iu <| And.intro @G0 <|
 And.intro @Ib <| And.intro @Me <| And.intro @IE <| And.intro @EY <|
 And.intro @M1 <| And.intro @KP <| And.intro @IG <| And.intro @Ic <|
 And.intro @Hk <| And.intro @HN <| And.intro @EW <| And.intro @F2 <|
 And.intro @Dd <| And.intro @Hu <| And.intro @List.getD_cons_zero.{0} <| And.intro @List.getD_cons_succ.{0} <|
 And.intro @List.length_cons.{0} <| And.intro @List.length_nil.{0} <| And.intro @List.length_map.{0,0} <| And.intro @wrap64 <|
 And.intro @true_and <| And.intro @and_true <| And.intro @and_self <| And.intro @SN <|
 And.intro @TJ <| And.intro @List.all_cons.{0} <| And.intro @List.all_nil.{0} <| And.intro @Bool.and_self <|
 And.intro @List.nil_append.{0} <| And.intro @List.cons_append.{0} <| And.intro @Tt <| And.intro @C5 <|
 And.intro @Tf <| And.intro @L6 <| And.intro @CO <| And.intro @bne_iff_ne.{0} <|
 And.intro @beq_iff_eq.{0} <| And.intro @Bool.not_eq_true <| And.intro @Ut <| And.intro @Bool.not_false <|
 And.intro @List.append_nil.{0} <| And.intro @List.map_cons.{0,0} <| And.intro @List.map_nil.{0,0} <| And.intro @Bool.true_eq_false <|
 And.intro @SU <| And.intro @false_implies <| And.intro @true_implies <| And.intro @Bool.not_not <|
 And.intro @List.drop_zero.{0} <| And.intro @Fs <| And.intro @List.set_cons_zero.{0} <| And.intro @List.set_cons_succ.{0} <|
 And.intro @List.drop_nil.{0} <| And.intro @Ui <| And.intro @List.replicate_zero.{0} <| And.intro @List.replicate_succ.{0} <|
 And.intro @lj <| And.intro @sT <| And.intro @wb <| And.intro @ra <|
 And.intro @List.isEmpty_cons.{0} <| And.intro @Option.map_none.{0,0} <| And.intro @Option.map_some.{0,0} <| And.intro @Nat.succ_ne_zero <|
 And.intro @List.take_succ_cons.{0} <| And.intro @List.take_zero.{0} <| And.intro @List.drop_succ_cons.{0} <| And.intro @bne_eq_false_iff_eq.{0} <|
 And.intro @beq_eq_false_iff_ne.{0} <| And.intro @not_true_eq_false <| And.intro @not_false_eq_true @Decidable.not_not)
theorem wq:Wq:=⟨@MS,@M8,@KS,@OX,@Fa,@Fc,@D2,@Iw,@GQ,@Mi,@Lp,@Hw,@Hv,@GY,@GW,@Hb,@Hi,@GV,@Hm,@IN,@Hn,@Ia,@LX,@Hg,@zI,@Mc,@Km,@HT,@LH,@Hf,@GR,@F3,@Mq,@L4,@L0,@Kz,@Lf,@eq_self,@ne_eq,@implies_true,@implies_true,@decide_true,@decide_false,@Iv,@Hr,@Fm,@D7,@Ff,@E5,@IJ,@LP,@KF,@Kv,@HH,@Ho,@Ir,@CK,@xS,@C4,@xR,@Cz,@HM,@CI,@Ih,@Fq,@Lx,@Di,@HO,@zS,@D5,@Gb,@Nh,@DV,@LQ,@Cj,@II,@IK,@Is,@KZ,@true_or,@or_true,@or_false,@false_or,@Rj,@HK,@Iu,@G0,@Ib,@Me,@IE,@EY,@M1,@KP,@IG,@Ic,@Hk,@HN,@EW,@F2,@Dd,@Hu,@TF,@Ug,@SA,@SZ,@Sv,@wrap64,@true_and,@and_true,@and_self,@SN,@TJ,@TU,@List.all_nil,@Bool.and_self,@Ty,@Th,@Tt,@C5,@Tf,@L6,@CO,@bne_iff_ne,@TA,@Bool.not_eq_true,@Ut,@Bool.not_false,@Ue,@S7,@T7,@Bool.true_eq_false,@SU,@false_implies,@true_implies,@Bool.not_not,@TZ,@Fs,@List.set_cons_zero,@List.set_cons_succ,@List.drop_nil,@Ui,@List.replicate_zero,@List.replicate_succ,@lj,@sT,@wb,@ra,@List.isEmpty_cons,@Option.map_none,@SD,@Nat.succ_ne_zero,@List.take_succ_cons,@List.take_zero,@List.drop_succ_cons,@bne_eq_false_iff_eq,@beq_eq_false_iff_ne,@not_true_eq_false,@not_false_eq_true,@Decidable.not_not⟩
inductive uL:V->Prop
 | val (v:Value):uL (.val v)
 | aS (cs:List V):(∀ i,i < cs.length->∃ v,cs.getD i .any=.val v)->uL (.aS cs)
theorem Od {Z d:Nat->Prop} {μ μ':Mu} {hp b:Array Obj} {t:V} {x:Value} (e:uL t) (h:ax Z μ hp t x):ax d μ' b t x:=by
 cases e with
 | val=>cases h with | val _ a=>exact .val _ a
 | aS cs f =>
  cases h with
  | aS _ c h1 g =>
   refine .aS _ _ h1 λi hi=>?_
   have:=g i hi
   obtain⟨v,a⟩:=f i hi
   rw[a] at this ⊢
   generalize c.getD i undef=y at this ⊢
   cases this with | val _ a=>exact .val _ a
theorem bE.borrow {P:Program} {f:FuncId} {d vs:List V} {t:V} {h:az} (q:ay P f d t) (r:uL t) (u:d.length=vs.length)
  (j:∀ i,i < vs.length->Fr h (vs.getD i .any) (d.getD i .any)):bE P f vs h t h:=by
 refine⟨Sy _,λZ μ F w xs c hr k=>?_⟩
 have l:fH (λb=>Z b∨iU μ b) μ w.heap d xs:=⟨by rw[u,c.1],λi hi=>zx hr (j i (by omega)) (c.2 i (by omega))⟩
 have m:∀ b,(Z b∨iU μ b)->b < w.heap.size:=by
  rintro b (a | ⟨id,o,s,a⟩)
  .exact hr.cH b a
  .exact hr.lt _ _ _ _ a
 refine(q _ μ w xs l m).mono ?_
 rintro e w' ⟨x,z,rfl,v,n,A,y,g⟩
 have hm:gz Z Z μ μ w.heap w'.heap:=⟨λ_ h=>h,λb a=>g b (hr.cH b a) (λx=>x),λ_ _ h=>h,g.pN⟩
 exact⟨x,Z,μ,rfl,Od r (v μ),⟨λid=>(hr.obj id).mono hm rfl (λb o s p=>g b (hr.lt _ _ _ _ p) (λx=>x)),hr.inj,λid b o s p=>S8 (hr.lt _ _ _ _ p) n.size,λb a=>S8 (hr.cH b a) n.size,hr.gw⟩,
  ⟨n,hm,λb a _=>g b a (λx=>x),λb a=>.inl a,λ_ _ _ _ h=>.inl h⟩,λ_ _=>rfl⟩
def cg (H:View) (v t:V):Prop:=∀ h:az,h.view=H->Fr h v t
theorem cg.tree {H:View} {v:V} (h:Tree v):cg H v v:=λ_ _=>.tree _ h
theorem cg.sl {H:View} {id off len esz z:Nat} {es:List (List V)} (hH:H id=.arr z es) (hle:off+len<=es.length) (c:∀ e∈es,∀ v∈e,Tree v) :
  cg H (.sl id off len esz) (.aT ((es.drop off).take len)):=by
 rintro h rfl
 have b:∀ i,i < len->((es.drop off).take len).getD i []=es.getD (off+i) []:=λi hi=>by
  simp[Sm,TW,hi]
 refine .sl id off len esz z es _ hH hle (by simp;omega) (λi hi=>by rw[b i hi]) (λi j hi a=>?_)
 rw[b i hi] at a ⊢
 refine .tree _ ?_
 have h1:off+i < es.length:=by omega
 have d:es.getD (off+i) []=es[off+i]:=by simp[Sm,h1]
 rw[d] at a ⊢
 have f:(es[off+i]).getD j .any=(es[off+i])[j]:=by simp[Sm,a]
 rw[f]
 exact c _ (Sx _) _ (Sx _)
theorem av.borrow {P:Program} {q:Bool} {f:FuncId} {H:View} {vs c:List V} {K:V->View->Prop} {v:cx (H,K)} {t:V} (d:ay P f c t) (a:dw P f=true) (g:uL t) (j:c.length=vs.length)
  (b:∀ i,i < vs.length->cg H (vs.getD i .any) (c.getD i .any)) (hk:K t H):av P q f vs H K v:=by
 unfold av
 cases q with
 | true=>exact⟨a,λh e=>⟨t,h,bE.borrow d g j (λi hi=>b i hi h e),λ_ _=>rfl,e ▸ hk⟩⟩
 | false =>
  refine⟨a,?_⟩
  rintro h rfl
  exact⟨t,h,bE.borrow d g j (λi hi=>b i hi h rfl),.refl _,hk⟩
abbrev gi (x:Int):V:=.val (.int .i64 x)
abbrev gb (x:Bool):V:=.val (.bool x)
abbrev gs (x:ByteArray):V:=.val (.string x)
theorem mixed:(Tryz.prog).follows .mixedOrders=true:=by kernel_rfl
def encI (l:List Int):V:=.aT (l.map λx=>[gi x])
def cq (l:List Bool):V:=.aT (l.map λx=>[gb x])
theorem bU (l:List Int):Tree (encI l):=by
 refine .aT _ λi j hi a=>?_
 simp only[Sv] at hi
 simp[Sm,hi] at a ⊢
 subst a
 exact .val _
def aK {α:Type} (l:List α):Prop:=l.length < 4611686018427387904
def mN:SC :=
 ae [ae [ab [aa 11 5,aa 12 0,aP 13 12,aU 14 .lss 11 13],cb 14 (.exit 0)],.block 1 (ae [ab [aa 17 0,aa 18 5,aZ 19 1 17 18,ak 20 19,aa 21 1,aa 22 5,aZ 23 1 21 22,ak 24 23,aU 25 .neq 20 24],bf 25 (ae [ab [bm 4 false],.ret])]),ab [aa 15 5,aF 16 .add 15 1,aa 5 16]]
def pR:SF:=⟨ae [ab [bm 4 false],ae [ab [aa 6 0,aP 7 6,aa 8 1,aP 9 8,aU 10 .neq 7 9],bf 10 (ae [ab [bm 4 false],.ret])],ae [ab [aR 5 0],cd 0 mN],ab [bm 4 true],.ret],
 [.tmp 4],26⟩
theorem tz:aI Tryz.prog 26 []=some pR:=by kernel_rfl
theorem P1 {α:Type} [BEq α] [LawfulBEq α] {a b:List α} (h:a.length≠b.length):(a == b)=false:=by
 simp only[beq_eq_false_iff_ne];intro e;exact h (by rw[e])
theorem PI (a b:List Int) (l:aK a) (H:View):au Tryz.prog 26 [encI a,encI b] H λr H'=>r=gb (a == b)/\H'=H:=by
 refine au.of mixed tz ?_
 unfold aK at l
 simp(disch:=omega)only[↓wr,seval,wq,pR,encI]
 apply ai.ne<;>intro h
 .simp(disch:=omega)only[↓wr,seval,wq]
  rw[P1 (by omega)]
 .simp(disch:=omega)only[↓wr,seval,wq]
  refine aY.intro (λk T H'=>∃ i:Nat,i+k=a.length/\a.take i=b.take i/\T 0=encI a/\T 1=encI b/\T 5=gi i/\H'=H) a.length ?_ ?_
  .exact⟨0,by omega,by simp,rfl,rfl,rfl,rfl⟩
  .rintro k T H' ⟨i,hk,hi,c,h1,d,rfl⟩
   simp(disch:=omega)only[↓wr,seval,wq,mN,c,h1,d,encI]
   apply ai.dec<;>intro m
   .have g:a[i]?=some (a[i]'(by omega)):=Sn (by omega)
    have j:b[i]?=some (b[i]'(by omega)):=Sn (by omega)
    simp(disch:=omega)only[↓wr,seval,wq,c,h1,d,encI,Ss,g,j,SD]
    apply ai.ne<;>intro f
    .simp(disch:=omega)only[↓wr,seval,wq]
     have:(a == b)=false:=by
      simp only[beq_eq_false_iff_ne];rintro rfl;exact f rfl
     rw[this]
    .simp(disch:=omega)only[↓wr,seval,wq,c,h1,d,encI]
     refine⟨k - 1,by omega,i+1,by omega,?_,rfl⟩
     rw[S6,S6,hi,g,j,f]
   .simp(disch:=omega)only[↓wr,seval,wq,c,h1,d,encI]
    have:a=b:=by
     have e:i=a.length:=by omega
     rw[SL (by omega),SL (by omega)] at hi
     exact hi
    rw[this];simp
theorem BQ (a b:List Int) (c:aK a):ay Tryz.prog 26 [encI a,encI b] (gb (a == b)) :=
 ay.of (by simp[bU]) ((PI a b c _).mono λr H' h d _=>by rw[h.1];exact .tree _ (.val _))
theorem jg (l:List Bool):Tree (cq l):=by
 refine .aT _ λi j hi a=>?_
 simp only[Sv] at hi
 simp[Sm,hi] at a ⊢
 subst a
 exact .val _
end Gv
