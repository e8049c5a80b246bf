/-
  Part 5 of the proof: what the machine does and what the functions answer.
  Conditions: those that each lemma names.
-/
import Derived.Test.YtiophifnkakjgaaGreatProg
import Derived.KernelRfl
import Derived.Test.YtiophifnkakjgaaGreatSGzC1D
set_option linter.unusedSimpArgs false
set_option linter.unusedVariables false
set_option maxRecDepth 100000
set_option maxHeartbeats 20000000
namespace Gv
open Go Go.Proofs
section
variable {P:Program} {n:Nat} {all:List Oper}
theorem U4 (h:aE):h.view h.length=.dead:=by simp[aE.view,aaA]
theorem Zl {o:Oper} {T:Env} {h:aE} {s:SI} {K:V->View->Prop} (g:dX n all T o=some true) (i:∀ v eff rd,sI P s T h.view h.length=some (v,eff,rd)->cH P o T h.view h.length=some (v,eff,rd)) (hw:wI P s T h.view K) :
  ∃ v d rd wr,eC P n all o T h v d rd wr false/\j8 h d/\K v d.view/\mj (vG P s) rd wr false h.length d.length:=by
 obtain⟨v,eff,rd,e,hk⟩:=Ze hw (U4 h)
 have f:=i _ _ _ e
 have a:∀ id,id∈eff.wr->h.view id≠.dead:=λid b=>(oA f id b).1
 refine⟨v,eff.apply h,rd,eff.wr,.op g f,?_,?_,?_,?_⟩
 .intro id b c
  rw[mJ a]
  cases eff with
  | none=>exact c
  | new o=>simp only[bE.view,View.set];rw[aaD (by omega)];exact c
  | fU k o =>
   simp only[bE.view,View.set]
   rw[aaD (by rintro rfl;exact a id (by simp[bE.wr]) c)];exact c
  | eJ k o =>
   simp only[bE.view,View.set]
   rw[aaD (by omega)]
   split
   .rfl
   .exact c
 .rw[mJ (λid b=>(oA f id b).1)];exact hk
 .intro j
  obtain⟨rfl,rfl⟩:=(uq e).1 j
  exact⟨rfl,rfl,rfl,rfl⟩
 .intro h1
  rcases aa2 (vG P s) 1 with l | l
  .obtain⟨rfl,rfl⟩:=(uq e).1 (by omega);rfl
  .exact(uq e).2 (by omega)
theorem NO {P:Program} {fr:Bool} {s:SI} {T:Env} {H:View} {n:Nat} {v:V} {eff:bE} {rd:List Nat} (h:sI P (AT P fr s) T H n=some (v,eff,rd)):sI P s T H n=some (v,eff,rd):=by
 unfold AT at h
 split at h
 .split at h
  .exact Vq h
  .exact h
 .split at h
  .rename_i a
   simp only[aaK] at a
   exact WV a.2 h
  .exact h
 .exact h
theorem CR (P:Program) (a:Fz) (o:Oper) :
  (∃ f args b,o.op=.call { callee:=.value f,args:=args,argTypes:=b }/\(nW P a o=.call (SX.of f) (args.toList.map SX.of)∨nW P a o=.vQ (SX.of f) (args.toList.map SX.of))) ∨
  (∃ t x,o.op=.box t x/\nW P a o=.op (.ko (SX.of x)))∨(∃ s d x,o.op=.convert s d x/\xX P s d=true/\nW P a o=.op (.gV (SX.of x)))∨nW P a o=.op (AT P a.fr (comp P o)):=by
 unfold nW
 split
 .rename_i f args b e
  refine .inl ⟨f,args,b,e,?_⟩
  by_cases g:(match o.dst with | some d=>a.l.contains (200000+d) | none=>false)=true
  .exact .inr (aaF g)
  .exact .inl (aaD g)
 .rename_i t x e
  by_cases c:(match o.dst with | some d=>a.l.contains d | none=>false)=true
  .exact .inr (.inl ⟨t,x,e,aaF c⟩)
  .refine .inr (.inr (.inr ?_))
   refine(aaD c).trans ?_
   simp only[comp,e,AT]
 .rename_i s d x e
  by_cases c:((match o.dst with | some d=>a.l.contains d | none=>false) && xX P s d)=true
  .exact .inr (.inr (.inl ⟨s,d,x,e,by simp only[aaK] at c;exact c.2,aaF c⟩))
  .exact .inr (.inr (.inr (aaD c)))
 .exact .inr (.inr (.inr rfl))
theorem eC.len {o:Oper} {T:Env} {h a:aE} {v:V} {rd wr:List Nat} {call:Bool} (st:eC P n all o T h v a rd wr call):h.length<=a.length:=by
 cases st with
 | skip=>exact aaM _
 | op _ _=>rename_i eff _ _ ;cases eff <;> simp[bE.apply]
 | ko _ _ _=>exact aaM _
 | gV _ _ _ _ _ _=>exact aaM _
 | call _ _ _ _ b _ _=>exact b.1
theorem WQ {q:Fz} {o:Oper} {T:Env} {h:aE} {quiet:Bool} {K:V->View->Prop} (l:dX n all T o=some true) (hw:wB P quiet (nW P q o) T h.view K) :
  ∃ v b rd wr call,eC P n all o T h v b rd wr call/\j8 h b/\K v b.view/\mj (jU P quiet (nW P q o)) rd wr call h.length b.length:=by
 rcases CR P q o with ⟨f,args,C,k,j | j⟩ | ⟨t,x,k,j⟩ | ⟨s,d,x,k,u,j⟩ | j
 rotate_left
 .rw[j] at hw ⊢
  simp only[wB] at hw
  split at hw
  .rename_i g first cap m
   rw[Ff] at hw
   rw[SX.dh] at m
   obtain⟨c,i⟩:=hw
   obtain⟨r,b,hr,hold,hk⟩:=i h rfl
   refine⟨r,b,[],[],true,.call l k m c hr (λid a _=>hold id a) (λid a=>by simp at a),λid a w=>(hold id a).trans w,hk,?_,?_⟩
   .intro p;simp[jU] at p
   .intro _;rfl
  .exact hw.elim
 rotate_right
 .rw[j] at hw ⊢
  simp only[wB] at hw
  split at hw
  .rename_i g first cap m
   rw[Ff] at hw
   rw[SX.dh] at m
   split at hw
   .rename_i y
    obtain⟨c,i⟩:=hw
    obtain⟨r,b,hr,hold,hk⟩:=i h rfl
    refine⟨r,b,[],[],true,.call l k m c hr (λid a _=>hold id a) (λid a=>by simp at a),λid a w=>(hold id a).trans w,hk,?_,?_⟩
    .intro p;simp[jU,y] at p
    .intro _;rfl
   .rename_i y
    obtain⟨c,i⟩:=hw
    obtain⟨r,b,hr,z,hk⟩:=i h rfl
    refine⟨r,b,[],List.range h.length,true,.call l k m c hr (λid a D=>?_) (λid a=>by simpa using a),z,hk,Wn (by simp[jU,y])⟩
    exact absurd (by simpa using a) D
  .exact hw.elim
 .rw[j] at hw ⊢
  simp only[wB,wI,SX.dh] at hw
  exact⟨_,h,[],[],false,.ko l k hw.1,.refl _,hw.2,λ_=>⟨rfl,rfl,rfl,rfl⟩,λ_=>rfl⟩
 .rw[j] at hw ⊢
  simp only[wB,wI,SX.dh] at hw
  obtain⟨e,h1,A,B⟩:=C6 u
  split at hw
  .rename_i st E
   exact⟨_,h,[],[],false,.gV l k h1 A B E,.refl _,hw,λ_=>⟨rfl,rfl,rfl,rfl⟩,λ_=>rfl⟩
  .exact hw.elim
 .rw[j] at hw ⊢
  obtain⟨v,b,rd,wr,h1,p,A,B⟩:=Zl (s:=AT P q.fr (comp P o)) l (λv eff rd F=>MD (NO F)) hw
  exact⟨v,b,rd,wr,false,h1,p,A,B⟩
def gP (P:Program) (quiet:Bool) (l:List SO) (recs:List Rec):Prop :=
 l.length=recs.length/\∀ (i:Nat) (s:SO) (r:Rec),l[i]?=some s->recs[i]?=some r->mj (jU P quiet s.b) r.rd r.wr r.call r.lo r.hi
theorem gP.nil {quiet:Bool} : gP P quiet [] []:=⟨rfl,λi s r h=>by simp at h⟩
theorem gP.cons {quiet:Bool} {l:List SO} {a:List Rec} {s:SO} {r:Rec} (h:gP P quiet l a) (hr:mj (jU P quiet s.b) r.rd r.wr r.call r.lo r.hi):gP P quiet (s :: l) (r :: a):=by
 refine⟨by simp[h.1],λi e f d c=>?_⟩
 cases i with
 | zero=>simp at d c;subst d c;exact hr
 | succ i=>exact h.2 i e f (by simpa using d) (by simpa using c)
theorem gP.append {quiet:Bool} {l d:List SO} {b a:List Rec} (h:gP P quiet l b) (e:gP P quiet d a):gP P quiet (l ++ d) (b ++ a):=by
 refine⟨by simp[h.1,e.1],λi s r c hr=>?_⟩
 by_cases hi:i < l.length
 .rw[abb hi] at c
  rw[abb (h.1 ▸ hi)] at hr
  exact h.2 i s r c hr
 .rw[abu (by omega)] at c
  rw[abu (by have:=h.1;omega)] at hr
  exact e.2 (i - l.length) s r c (by rw[h.1];exact hr)
theorem vW {a:Fz} {o:Oper} {s:SO} (h:Jc P n all a o=some s):tP n o=true/\s.dst=o.dst/\s.b=nW P a o/\xI n all o=some s.guard:=by
 unfold Jc at h
 split at h
 .rename_i c
  simp only[aaO] at h
  obtain⟨g,d,rfl⟩:=h
  exact⟨c,rfl,rfl,d⟩
 .simp at h
theorem EL {o:Oper} {T:Env} (h:xI n all o=some none):dX n all T o=some true:=by
 unfold xI at h
 unfold dX
 split at h
 .rename_i a;rw[a]
 .split at h
  .split at h
   .simp at h
   .simp at h
  .simp at h
theorem mD {o:Oper} {T:Env} {d:Nat} {want:Bool} (h:xI n all o=some (some (d,want))) :
  (∀ b,T d=.val (.bool b)->dX n all T o=some (b == want))/\(T d=.bf []->dX n all T o=some false):=by
 unfold xI at h
 unfold dX
 split at h
 .simp at h
 .rename_i j w e
  rw[e]
  split at h
  .rename_i g f
   split at h
   .rename_i a
    simp at h
    obtain⟨rfl,rfl⟩:=h
    simp only[f,a,if_true]
    exact⟨λb c=>by rw[c],λc=>by rw[c]⟩
   .simp at h
  .simp at h
theorem mL {a:Fz} {os:List Oper} (h:eh P n all a os=some []):os=[]:=by
 cases os with
 | nil=>rfl
 | cons o r =>
  simp only[eh] at h
  split at h <;> simp at h
theorem nK {a:Fz} {os:List Oper} {s:SO} {l:List SO} (h:eh P n all a os=some (s :: l)):∃ o r,os=o :: r/\Jc P n all a o=some s/\eh P n all a r=some l:=by
 cases os with
 | nil=>simp[eh] at h
 | cons o r =>
  simp only[eh] at h
  split at h
  .rename_i c d h1 b
   simp at h
   obtain⟨rfl,rfl⟩:=h
   exact⟨o,r,rfl,h1,b⟩
  .simp at h
theorem tq {d:Fz} : ∀ {l c:List SO} {os:List Oper},eh P n all d os=some (l ++ c)->∃ a b,os=a ++ b/\eh P n all d a=some l/\eh P n all d b=some c
 | [],c,os,h=>⟨[],os,rfl,rfl,h⟩
 | s :: l,c,os,h=>by
  obtain⟨o,r,rfl,h1,e⟩:=nK h
  obtain⟨a,b,rfl,f,g⟩:=tq e
  exact⟨o :: a,b,rfl,by simp[eh,h1,f],g⟩
theorem Tr.append {a b:List Oper} {T c d:Env} {h h1 e:aE} {f g:List Rec} (x:Tr P n all a T h f c h1) (y:Tr P n all b c h1 g d e):Tr P n all (a ++ b) T h (f ++ g) d e:=by
 induction x with
 | nil=>exact y
 | cons st i _ j=>exact .cons st i (j y)
theorem Dg {T:Env} {d:Nat} {v:V} (h:T d=v):T.put (some d) v=T:=by
 funext t
 simp only[Env.put]
 split
 .rename_i e;subst e;exact h.symm
 .rfl
theorem Ko {E:Fz} {quiet:Bool} {K:Env->View->Prop} (g:Option (Nat × Bool)):∀ (l:List (Option Nat × SB)) (os:List Oper) (T:Env) (h:aE),
  eh P n all E os=some (l.map λ(d,b)=>⟨d,g,b⟩)->(∀ d w,g=some (d,w)->T d=.val (.bool w)/\(l.all λx=>x.1 != some d)=true)->AX P quiet l T h.view K ->
  ∃ a m j,Tr P n all os T h a m j/\(j8 h j/\h.length<=j.length)/\K m j.view/\gP P quiet (l.map λ(d,b)=>⟨d,g,b⟩) a
 | [],os,T,h,q,s,hw=>by
  have:=mL q;subst this
  exact⟨[],T,h,.nil,⟨.refl _,aaM _⟩,hw,.nil⟩
 | (d,b) :: l,os,T,h,q,s,hw=>by
  obtain⟨o,r,rfl,h1,F⟩:=nK q
  obtain⟨G,k,f,i⟩:=vW h1
  simp only at k f i
  have u:dX n all T o=some true:=by
   cases g with
   | none=>exact EL i
   | some p =>
    obtain⟨y,w⟩:=p
    have:=(mD (T:=T) i).1 w (s y w rfl).1
    rw[this];simp
  simp only[AX] at hw
  rw[f] at hw
  obtain⟨v,j,rd,wr,call,st,z,hk,H⟩:=WQ u hw
  obtain⟨a,m,A,D,c,B,C⟩:=Ko g l r (T.put d v) j F (λy w e=>by
   have:=s y w e
   simp only[abQ,aaK,acM,ne_eq] at this
   refine⟨?_,this.2.2⟩
   rw[<-this.1]
   cases d with
   | none=>rfl
   | some t=>simp only[Env.put];rw[aaD];intro e;subst e;exact this.2.1 rfl) hk
  rw[k] at D
  have hlen:=st.len
  exact⟨_,m,A,.cons st G D,⟨z.trans c.1 hlen,abx hlen c.2⟩,B,C.cons (by rw[f];exact H)⟩
theorem F4 {v:Fz} {quiet:Bool} (d:Nat) (w:Bool) (h:aE):∀ (l:List (Option Nat × SB)) (os:List Oper) (T:Env),
  eh P n all v os=some (l.map λ(c,b)=>⟨c,some (d,w),b⟩)->(T d=.val (.bool !w)∨T d=.bf [])->(l.all λx=>x.1 != some d)=true ->
  ∃ a,Tr P n all os T h a (jz l T) h/\gP P quiet (l.map λ(c,b)=>⟨c,some (d,w),b⟩) a
 | [],os,T,k,f,j=>by
  have:=mL k;subst this
  exact⟨[],.nil,.nil⟩
 | (c,b) :: l,os,T,k,f,j=>by
  obtain⟨o,r,rfl,h1,y⟩:=nK k
  obtain⟨m,g,p,i⟩:=vW h1
  simp only at g p i
  have q:dX n all T o=some false:=by
   rcases f with f | f
   .rw[(mD (T:=T) i).1 _ f];cases w <;> rfl
   .exact(mD (T:=T) i).2 f
  simp only[abQ,aaK,acM,ne_eq] at j
  obtain⟨a,u,s⟩:=F4 d w h l r (T.put c (.bf [])) y (by
   have:(T.put c (.bf [])) d=T d:=by
    cases c with
    | none=>rfl
    | some t=>simp only[Env.put];rw[aaD];intro e;subst e;exact j.1 rfl
   rw[this];exact f) j.2
  rw[g] at u
  refine⟨_,?_,s.cons (r:=⟨[],[],false,h.length,h.length⟩) ⟨λ_=>⟨rfl,rfl,rfl,rfl⟩,λ_=>rfl⟩⟩
  have:=Tr.cons (.skip q) m u
  rw[jz,g]
  exact this
theorem YZ {p:Fz} {quiet:Bool} {K:Env->View->Prop} {g:SG} {os:List Oper} {T:Env} {h:aE} (f:eh P n all p os=some g.flat) (c:vV g=true) (hw:wG P quiet g T h.view K) :
  ∃ a o k,Tr P n all os T h a o k/\(j8 h k/\h.length<=k.length)/\K o k.view/\gP P quiet g.flat a:=by
 unfold wG at hw
 unfold SG.flat at f ⊢
 unfold vV at c
 split at hw
 .rename_i l
  rw[l] at f ⊢
  exact Ko none g.ops os T h f (λd w e=>by simp at e) hw
 .rename_i d want l
  rw[l] at f c ⊢
  simp only at c
  split at hw
  .rename_i b j
   by_cases e:b=want
   .subst e
    have:=hw.1 rfl
    rw[Dg j] at this
    exact Ko (some (d,b)) g.ops os T h f (λq w e=>by simp at e;obtain⟨rfl,rfl⟩:=e;exact⟨j,c⟩) this
   .have e':b = !want:=by cases b <;> cases want <;> simp_all
    have:=hw.2 e'
    subst e'
    rw[Dg j] at this
    obtain⟨a,m,i⟩:=F4 (quiet:=quiet) d want h g.ops os T f (.inl j) c
    exact⟨a,_,h,m,⟨.refl _,aaM _⟩,this,i⟩
  .rename_i j
   obtain⟨a,m,i⟩:=F4 (quiet:=quiet) d want h g.ops os T f (.inr j) c
   exact⟨a,_,h,m,⟨.refl _,aaM _⟩,hw,i⟩
  .exact hw.elim
theorem A5 {s:Fz} {quiet:Bool} {K:Env->View->Prop} : ∀ (gs:List SG) (os:List Oper) (T:Env) (h:aE),eh P n all s os=some (lL gs)->gs.all vV=true->Av P quiet gs T h.view K ->
  ∃ c r e,Tr P n all os T h c r e/\(j8 h e/\h.length<=e.length)/\K r e.view/\gP P quiet (lL gs) c
 | [],os,T,h,f,_,hw=>by
  have:=mL f;subst this
  exact⟨[],T,h,.nil,⟨.refl _,aaM _⟩,hw,.nil⟩
 | g :: gs,os,T,h,f,d,hw=>by
  simp only[lL,aa9,List.flatten_cons] at f ⊢
  simp only[abQ,aaK] at d
  obtain⟨a,b,rfl,h1,t⟩:=tq f
  obtain⟨w,u,i,j,st1,k,l⟩:=YZ h1 d.1 hw
  obtain⟨x,v,m,o,st2,p,q⟩:=A5 gs b u i t d.2 k
  exact⟨_,v,m,j.append o,⟨st1.1.trans st2.1 st1.2,abx st1.2 st2.2⟩,p,l.append q⟩
theorem Tr.at_ {os:List Oper} {T g:Env} {h j:aE} {b:List Rec} (k:Tr P n all os T h b g j):∀ (i:Nat) (o:Oper),os[i]?=some o ->
  ∃ c h1 v e rd wr call a,b[i]?=some ⟨rd,wr,call,h1.length,e.length⟩/\eC P n all o c h1 v e rd wr call/\h.length<=h1.length/\Tr P n all (os.drop (i+1)) (c.put o.dst v) e a g j/\(∀ m,a[m]?=b[i+1+m]?) /\
   (∀ t,(∀ l∈os.take i,l.dst≠some t)->c t=T t):=by
 induction k with
 | nil=>intro i o hi;simp at hi
 | @cons o0 rest T g h h1 j v rd wr call b st D k s =>
  intro i o hi
  cases i with
  | zero =>
   simp at hi;subst hi
   exact⟨T,h,v,h1,rd,wr,call,b,rfl,st,aaM _,by simpa using k,λm=>by rw[show 0+1+m=m+1 by omega,abr],λt _=>rfl⟩
  | succ i =>
   simp at hi
   obtain⟨c,e,v2,u,p,Yi,call2,a,w,x,y,z,A,B⟩:=s i o hi
   have hlen:h.length<=h1.length:=by
    cases st with
    | skip=>exact aaM _
    | op _ _=>rename_i eff _ _;cases eff <;> simp[bE.apply]
    | ko _ _ _=>exact aaM _
    | gV _ _ _ _ _ _=>exact aaM _
    | call _ _ _ _ C _ _=>exact C.1
   refine⟨c,e,v2,u,p,Yi,call2,a,by simpa using w,x,abx hlen y,by simpa using z,λm=>?_,λt q=>?_⟩
   .rw[A,show i+1+1+m=(i+1+m)+1 by omega,abr]
   .simp only[List.take_succ_cons,aaT] at q
    rw[B t λl r=>q l (.inr r)]
    have:=q o0 (.inl rfl)
    cases f:o0.dst with
    | none=>rfl
    | some d=>simp only[Env.put];rw[aaD];rintro rfl;exact this f
theorem Qj {o:Oper} {T:Env} {h g:aE} {v:V} {rd wr:List Nat} {call:Bool} (st:eC P n all o T h v g rd wr call) (b:DL o=true) (i:o.guard=none):v=.ptr h.length 0 0:=by
 unfold DL at b
 have d:dX n all T o=some true:=by unfold dX;rw[i]
 cases st with
 | skip f=>rw[d] at f;simp at f
 | op _ a =>
  split at b
  .rename_i e c
   simp only[cH,c] at a
   split at a
   .unfold nC at a
    split at a
    .simp at a;exact a.1.symm
    .simp at a
   .simp at a
  .simp at b
 | ko _ c _=>rw[c] at b;simp at b
 | gV _ c _ _ _ _=>rw[c] at b;simp at b
 | call _ c _ _ _ _ _=>rw[c] at b;simp at b
theorem O0 {o:Oper} {T:Env} {h g:aE} {v:V} {rd wr:List Nat} {call:Bool} {t id i j:Nat} (st:eC P n all o T h v g rd wr call) (c:lS o=some t) (k:T t=.ptr id i j):wr=[id]/\call=false:=by
 unfold lS at c
 split at c
 .rename_i ty l x d m
  simp at c;subst c
  have e:dX n all T o=some true:=by unfold dX;rw[m]
  cases st with
  | skip f=>rw[e] at f;simp at f
  | op _ b =>
   have p:ev T (.tmp l)=.ptr id i j:=k
   simp only[cH,d,p,sU] at b
   split at b
   .split at b
    .simp only[aaC,aaG] at b
     obtain⟨_,he,_⟩:=b
     rw[<-he];exact⟨rfl,rfl⟩
    .simp at b
   .simp at b
  | ko _ a _=>rw[d] at a;simp at a
  | gV _ a _ _ _ _=>rw[d] at a;simp at a
  | call _ a _ _ _ _ _=>rw[d] at a;simp at a
 .simp at c
theorem Ty {o:Oper} {T:Env} {h g:aE} {v:V} {rd wr:List Nat} {call:Bool} (st:eC P n all o T h v g rd wr call) (d:Gu o=true):wr=[]/\call=false/\∀ id,id∈rd->id < h.length:=by
 unfold Gu at d
 cases st with
 | skip _=>exact⟨rfl,rfl,λid c=>by simp at c⟩
 | op _ b =>
  split at d
  .rename_i e a f
   simp only[cH,f,nX] at b
   split at b
   .rename_i id i j l
    split at b
    .rename_i z es hH
     split at b
     .simp only[aaO] at b
      obtain⟨_,_,b⟩:=b
      simp at b
      obtain⟨_,rfl,rfl⟩:=b
      refine⟨rfl,rfl,λk c=>?_⟩
      simp at c;subst c
      exact jh (by rw[hH];simp)
     .simp at b
    .simp at b
   .simp only[aaO] at b
    obtain⟨_,_,b⟩:=b
    simp at b
    obtain⟨_,rfl,rfl⟩:=b
    exact⟨rfl,rfl,λid c=>by simp at c⟩
   .simp at b
  .simp at d
 | ko _ f _=>rw[f] at d;simp at d
 | gV _ f _ _ _ _=>rw[f] at d;simp at d
 | call _ f _ _ _ _ _=>rw[f] at d;simp at d
theorem zX {T G:Env} {h H:aE} {e:List Rec} (I:Tr P n all all T h e G H) {i k:Nat} {a b:Rec} (hp:Cs all i k=true) (g:e[i]?=some a) (J:e[k]?=some b):pV a b:=by
 unfold Cs at hp
 split at hp
 .rename_i K L l m
  rw[aaK] at hp
  obtain⟨M,hp⟩:=hp
  split at hp
  .rename_i t o
   rw[acG] at hp
   obtain⟨j,N,hp⟩:=hp
   rw[abA] at N
   rw[aaK,aaP] at hp
   obtain⟨O,c⟩:=hp
   unfold X0 at c
   split at c
   .rename_i Q p
    simp only[aaK,abB,aaZ,acM,ne_eq,Option.isNone_iff_eq_none] at c
    obtain⟨⟨⟨R,S⟩,U⟩,V⟩:=c
    obtain⟨T1,h1,v1,W,X,Zq,c1,q,D,E,e3,Y,Z,_⟩:=I.at_ i K l
    obtain⟨Tj,r,vj,an,aq,ar,cj,s,f1,f2,f3,f4,f5,_⟩:=Y.at_ (j - (i+1)) Q (by rw[acw,show i+1+(j - (i+1))=j by omega];exact p)
    have u:(all.drop (i+1)).drop (j - (i+1)+1)=all.drop (j+1):=by rw[List.drop_drop];congr 1;omega
    rw[u] at f4
    obtain⟨Tk,v,vk,w,x,y,ck,z,g1,g2,g3,_,_,g6⟩:=f4.at_ (k - (j+1)) L (by rw[acw,show j+1+(k - (j+1))=k by omega];exact m)
    rw[g] at D
    have A:=(acI D)
    have f:e[k]?=some ⟨x,y,ck,v.length,w.length⟩:=by
     rw[<-g1,f5,Z];congr 1;omega
    rw[J] at f
    have f:=acI f
    have hv:=Qj f2 U S
    have B:Tk t=.ptr r.length 0 0:=by
     rw[g6 t λo' C=>V o' C,R,hv]
     simp[Env.put]
    obtain⟨s1,s2⟩:=O0 g2 o B
    obtain⟨F,l2,l3⟩:=Ty E M
    rw[A,f]
    have hlen:h1.length<=W.length:=by
     cases E with
     | skip=>exact aaM _
     | op _ _=>rename_i eff _ _;cases eff <;> simp[bE.apply]
     | ko _ _ _=>exact aaM _
     | gV _ _ _ _ _ _=>exact aaM _
     | call _ _ _ _ g _ _=>exact g.1
    refine⟨λid d=>by simp[F] at d,λid d=>?_,λhc=>by simp[l2] at hc,λ_=>F,λid d=>?_⟩
    .simp only[s1,abL] at d
     subst d
     intro hr
     have:=l3 _ hr
     omega
    .simp only[s1,abL] at d
     subst d
     simp only
     omega
   .simp at c
  .simp at hp
 .simp at hp
theorem Vv {ls:List Nat} {d:List Rec} {T t:Env} {hp g:aE} (u:Tr P n all all T hp d t g) (h:Je all ls=true) (y:ls.length=d.length) (hr:∀ (i x:Nat) (r:Rec),ls[i]?=some x->d[i]?=some r->mj x r.rd r.wr r.call r.lo r.hi):wZ all d:=by
 intro i k a b j l m v
 have hi:i < d.length:=(aaR.1 l).1
 have hk:k < d.length:=(aaR.1 m).1
 unfold Je at h
 simp only[aaZ] at h
 have h1:=h (ls[i]'(by omega),i) (by rw[abI];simp[aaB (show i < ls.length by omega)])
  (ls[k]'(by omega),k) (by rw[abI];simp[aaB (show k < ls.length by omega)])
 have q:=hr i _ a (aaB (by omega)) l
 have s:=hr k _ b (aaB (by omega)) m
 simp only[j,decide_true,acF,v,acJ,abC,abB,aaK,aaP] at h1
 rcases h1 with ((h1 | h1) | h1) | h1
 .obtain⟨f,e,o,w⟩:=q.1 h1
  exact⟨λid c=>by simp[e] at c,λid _=>by simp[f],λp=>by simp[o] at p,λ_=>e,λid _ z=>by omega⟩
 .obtain⟨f,e,o,w⟩:=s.1 h1
  exact⟨λid _=>by simp[f],λid c=>by simp[e] at c,λ_=>e,λp=>by simp[o] at p,λid c=>by simp[e] at c⟩
 .have f:=q.2 h1.1
  have e:=s.2 h1.2
  exact⟨λid c=>by simp[f] at c,λid c=>by simp[e] at c,λ_=>e,λ_=>f,λid c=>by simp[e] at c⟩
 .exact zX u h1 l m
theorem Tr.keep {os:List Oper} {T c:Env} {h e:aE} {a:List Rec} (f:Tr P n all os T h a c e) {t:Nat} (g:∀ o∈os,o.dst≠some t):c t=T t:=by
 induction f with
 | nil=>rfl
 | @cons o0 rest T c h h1 e v rd wr call a st k f i =>
  rw[i λo j=>g o (by simp[j])]
  have:=g o0 (by simp)
  cases b:o0.dst with
  | none=>rfl
  | some d=>simp only[Env.put];rw[aaD];rintro rfl;exact this b
theorem zo {o:Oper} {T:Env} {h g:aE} {v:V} {rd wr:List Nat} {call:Bool} {t:Nat} (st:eC P n all o T h v g rd wr call) (d:uj o=some t):wr=[]/\call=false/\g.length=h.length/\∀ id,id∈rd->∃ i j,T t=.ptr id i j:=by
 unfold uj at d
 split at d
 .rename_i e m f
  simp at d;subst d
  cases st with
  | skip _=>exact⟨rfl,rfl,rfl,λid c=>by simp at c⟩
  | op _ a =>
   simp only[cH,f,nX] at a
   split at a
   .rename_i id i j k
    split at a
    .split at a
     .simp only[aaO] at a
      obtain⟨_,_,a⟩:=a
      simp at a
      obtain⟨_,rfl,rfl⟩:=a
      refine⟨rfl,rfl,rfl,λl c=>?_⟩
      simp at c;subst c
      exact⟨i,j,k⟩
     .simp at a
    .simp at a
   .simp only[aaO] at a
    obtain⟨_,_,a⟩:=a
    simp at a
    obtain⟨_,rfl,rfl⟩:=a
    exact⟨rfl,rfl,rfl,λid c=>by simp at c⟩
   .simp at a
  | ko _ b _=>rw[f] at b;simp at b
  | gV _ b _ _ _ _=>rw[f] at b;simp at b
  | call _ b _ _ _ _ _=>rw[f] at b;simp at b
 .simp at d
theorem za {i t:Nat} (h:stays all i t=true):∀ o∈all.drop i,o.dst≠some t:=by
 intro o a
 have:=aaZ.1 h o a
 simpa using this
theorem Dp {a:List (Nat × Nat)} {T:Env} {K:Prop} (b:Bi a T K):∀ p∈a,iY (T p.1) (T p.2):=by
 induction a with
 | nil=>intro p hp;simp at hp
 | cons q l c =>
  intro p hp
  rcases aaT.1 hp with rfl | hp
  .exact b.1
  .exact c b.2 p hp
theorem Bi.rest {a:List (Nat × Nat)} {T:Env} {K:Prop} (b:Bi a T K):K:=by
 induction a with
 | nil=>exact b
 | cons q l c=>exact c b.2
theorem sA {T l:Env} {h m:aE} {a:List Rec} (p:Tr P n all all T h a l m) {i t:Nat} {o:Oper} (j:all[i]?=some o) (q:stays all i t=true) {r:Rec} (hr:a[i]?=some r) :
  ∃ e h1 v f,eC P n all o e h1 v f r.rd r.wr r.call/\r.lo=h1.length/\r.hi=f.length/\e t=l t:=by
 obtain⟨e,h1,v,f,rd,wr,call,k,g,s,x,u,y,z⟩:=p.at_ i o j
 rw[hr] at g
 have g:=acI g
 subst g
 refine⟨e,h1,v,f,s,rfl,rfl,?_⟩
 have hk:=za q
 have hi:i < all.length:=(aaR.1 j).1
 have b:all[i]=o:=(aaR.1 j).2
 rw[abo hi,b] at hk
 rw[u.keep λw b=>hk w (by simp[b])]
 have:=hk o (by simp)
 cases c:o.dst with
 | none=>rfl
 | some d=>simp only[Env.put];rw[aaD];rintro rfl;exact this c
theorem Cc {i a b j c d:Nat} (h:iY (.ptr i a b) (.ptr j c d)):i≠j:=h
theorem FP {i a b j c d e:Nat} (h:iY (.ptr i a b) (.sl j c d e)):i≠j:=h
theorem tU {o:Oper} {T:Env} {h q:aE} {v:V} {rd wr:List Nat} {call:Bool} {t:Nat} (st:eC P n all o T h v q rd wr call) (g:rV o=some t) :
  call=false/\∀ id,id∈wr->(∃ i j,T t=.ptr id i j)∨∃ a b c,T t=.sl id a b c:=by
 unfold rV at g
 split at g
 .rename_i w m
  simp at g;subst g
  unfold lS at m
  split at m
  .rename_i ty t2 x k r
   simp at m;subst m
   cases st with
   | skip _=>exact⟨rfl,λid f=>by simp at f⟩
   | op _ d =>
    simp only[cH,k,sU] at d
    split at d
    .rename_i id i j p
     split at d
     .split at d
      .simp only[aaC,aaG] at d
       obtain⟨_,he,_⟩:=d
       rw[<-he]
       refine⟨rfl,λl f=>?_⟩
       simp[bE.wr] at f;subst f
       exact .inl ⟨i,j,p⟩
      .simp at d
     .simp at d
    .simp at d
   | ko _ e _=>rw[k] at e;simp at e
   | gV _ e _ _ _ _=>rw[k] at e;simp at e
   | call _ e _ _ _ _ _=>rw[k] at e;simp at e
  .simp at m
 .unfold Ru at g
  split at g
  .rename_i args s k r
   split at g
   .rename_i t2 y u
    simp at g;subst g
    cases st with
    | skip _=>exact⟨rfl,λid f=>by simp at f⟩
    | op _ d =>
     simp only[cH,k,u] at d
     split at d
     .unfold pz at d
      split at d
      .split at d
       .simp at d
       .split at d
        .split at d <;> first | (simp only[aaC,aaG] at d;obtain⟨_,he,_⟩:=d;rw[<-he];exact⟨rfl,λl f=>by simp[bE.wr] at f⟩) | simp at d
        .split at d
         .simp at d
         .split at d
          .split at d
           .simp only[aaC,aaG] at d
            obtain⟨_,he,_⟩:=d
            rw[<-he];exact⟨rfl,λl f=>by simp[bE.wr] at f⟩
           .simp at d
          .rename_i id off len esz p
           split at d
           .split at d
            .simp only[aaC,aaG] at d
             obtain⟨_,he,_⟩:=d
             rw[<-he]
             refine⟨rfl,λl f=>?_⟩
             simp[bE.wr] at f;subst f
             exact .inr ⟨off,len,esz,p⟩
            .simp at d
           .simp at d
          .simp at d
      .simp at d
     .split at d
      .unfold tL at d
       repeat' (split at d)
       all_goals first | (simp only[aaC,aaG] at d;obtain⟨_,he,_⟩:=d;rw[<-he];exact⟨rfl,λl f=>by simp[bE.wr] at f⟩) | simp at d
      .simp at d
    | ko _ e _=>rw[k] at e;simp at e
    | gV _ e _ _ _ _=>rw[k] at e;simp at e
    | call _ e _ _ _ _ _=>rw[k] at e;simp at e
   .simp at g
  .simp at g
theorem UO {o:Oper} {T:Env} {h g:aE} {v:V} {rd wr:List Nat} {call:Bool} (st:eC P n all o T h v g rd wr call) (b:K8 o=true):rd=[]/\wr=[]/\call=false:=by
 unfold K8 at b
 cases st with
 | skip _=>exact⟨rfl,rfl,rfl⟩
 | op _ a =>
  split at b
  .rename_i ty len parts c
   simp only[cH,c,iW] at a
   have key:∀ {x:Option (V × bE × List Nat)} {e:bE},x=some (v,e,rd)->(∀ y,x=some y->y.2.1.wr=[]/\y.2.2=[])->rd=[]/\e.wr=[]:=λf d=>⟨(d _ f).2,(d _ f).1⟩
   obtain⟨i,k2⟩:=key a (by
    intro y d
    repeat' (first | (split at d)|(simp only[aaC] at d;subst d;exact⟨rfl,rfl⟩)|(simp at d;done)))
   exact⟨i,k2,rfl⟩
  .rename_i e c
   simp only[cH,c] at a
   split at a
   .unfold nC at a
    split at a
    .simp only[aaC,aaG] at a
     obtain⟨_,he,hr⟩:=a
     rw[<-he,<-hr];exact⟨rfl,rfl,rfl⟩
    .simp at a
   .simp at a
  .simp at b
 | ko _ c _=>rw[c] at b;simp at b
 | gV _ c _ _ _ _=>rw[c] at b;simp at b
 | call _ c _ _ _ _ _=>rw[c] at b;simp at b
theorem xS {o:Oper} {t:Nat} (h:lS o=some t):rV o=some t:=by unfold rV;rw[h]
theorem QP {T w:Env} {h Q:aE} {l:List Rec} (u:Tr P n all all T h l w Q) {i k:Nat} {a b:Rec} {p:Nat × Nat} (hp:FM all i k=some p) (j:iY (w p.1) (w p.2)) (N:l[i]?=some a) (O:l[k]?=some b):pV a b:=by
 unfold FM at hp
 split at hp
 .rename_i Z ob q r
  split at hp
  .rename_i s t x y
   split at hp
   .rename_i g
    simp only[aaK] at g
    simp at hp;subst hp
    obtain⟨z,A,R,B,C,D,E,F⟩:=sA u q g.1 N
    obtain⟨Tb,G,S,H,I,_,_,J⟩:=sA u r g.2 O
    obtain⟨o,K,U,L⟩:=zo C x
    have j:iY (z s) (Tb t):=by rw[F,J];exact j
    refine⟨λid f=>by simp[o] at f,λid f hr=>?_,λv=>by simp[K] at v,λ_=>o,λid _ hx=>by omega⟩
    obtain⟨V,W,M⟩:=L id hr
    rw[M] at j
    rcases (tU I (xS y)).2 id f with ⟨c,d,m⟩ | ⟨c,d,e,m⟩
    .rw[m] at j;exact Cc j rfl
    .rw[m] at j;exact FP j rfl
   .simp at hp
  .split at hp
   .rename_i t s y x
    split at hp
    .rename_i g
     simp only[aaK] at g
     simp at hp;subst hp
     obtain⟨z,A,R,B,C,D,E,F⟩:=sA u q g.1 N
     obtain⟨Tb,G,S,H,I,X,Y,J⟩:=sA u r g.2 O
     obtain⟨o,K,U,L⟩:=zo I x
     have j:iY (Tb s) (z t):=by rw[F,J];exact j
     refine⟨λid f hr=>?_,λid f=>by simp[o] at f,λv=>o,λv=>by simp[K] at v,λid f=>by simp[o] at f⟩
     obtain⟨V,W,M⟩:=L id hr
     rw[M] at j
     rcases (tU C (xS y)).2 id f with ⟨c,d,m⟩ | ⟨c,d,e,m⟩
     .rw[m] at j;exact Cc j rfl
     .rw[m] at j;exact FP j rfl
    .simp at hp
   .simp at hp
 .simp at hp
theorem OH {T w:Env} {h Q:aE} {l:List Rec} (u:Tr P n all all T h l w Q) {i k:Nat} {a b:Rec} {p:Nat × Nat} (hp:F7 all i k=some p) (j:iY (w p.1) (w p.2)) (N:l[i]?=some a) (O:l[k]?=some b):pV a b:=by
 unfold F7 at hp
 split at hp
 .rename_i Z ob q r
  split at hp
  .rename_i s t x y
   split at hp
   .rename_i g
    simp only[aaK] at g
    simp at hp;subst hp
    obtain⟨z,A,R,B,C,D,E,F⟩:=sA u q g.1 N
    obtain⟨Tb,G,S,H,I,_,_,J⟩:=sA u r g.2 O
    obtain⟨o,K,U,L⟩:=zo C x
    have j:iY (z s) (Tb t):=by rw[F,J];exact j
    refine⟨λid f=>by simp[o] at f,λid f hr=>?_,λv=>by simp[K] at v,λ_=>o,λid _ hx=>by omega⟩
    obtain⟨V,W,M⟩:=L id hr
    rw[M] at j
    rcases (tU I y).2 id f with ⟨c,d,m⟩ | ⟨c,d,e,m⟩
    .rw[m] at j;exact Cc j rfl
    .rw[m] at j;exact FP j rfl
   .simp at hp
  .split at hp
   .rename_i t s y x
    split at hp
    .rename_i g
     simp only[aaK] at g
     simp at hp;subst hp
     obtain⟨z,A,R,B,C,D,E,F⟩:=sA u q g.1 N
     obtain⟨Tb,G,S,H,I,X,Y,J⟩:=sA u r g.2 O
     obtain⟨o,K,U,L⟩:=zo I x
     have j:iY (Tb s) (z t):=by rw[F,J];exact j
     refine⟨λid f hr=>?_,λid f=>by simp[o] at f,λv=>o,λv=>by simp[K] at v,λid f=>by simp[o] at f⟩
     obtain⟨V,W,M⟩:=L id hr
     rw[M] at j
     rcases (tU C y).2 id f with ⟨c,d,m⟩ | ⟨c,d,e,m⟩
     .rw[m] at j;exact Cc j rfl
     .rw[m] at j;exact FP j rfl
    .simp at hp
   .simp at hp
 .simp at hp
theorem T7 {l:List (Nat × Nat)} {a:List (Nat × Nat)} (h:FD all l=some a):∀ q∈l,∃ p∈a,FM all q.1 q.2=some p:=by
 induction l generalizing a with
 | nil=>intro q b;simp at b
 | cons x r d =>
  obtain⟨i,k⟩:=x
  simp only[FD] at h
  split at h
  .rename_i p j h1 f
   simp at h;subst h
   intro q b
   rcases aaT.1 b with rfl | b
   .exact⟨p,by simp,h1⟩
   .obtain⟨g,c,e⟩:=d f q b
    exact⟨g,by simp[c],e⟩
  .simp at h
theorem PF {l:List (Nat × Nat)} {a:List (Nat × Nat)} (h:yc all l=some a):∀ q∈l,∃ f,(∀ p∈f,p∈a)/\Ct all q.1 q.2=some f:=by
 induction l generalizing a with
 | nil=>intro q b;simp at b
 | cons x r g =>
  obtain⟨i,k⟩:=x
  simp only[yc] at h
  split at h
  .rename_i p n h1 j
   simp at h;subst h
   intro q b
   rcases aaT.1 b with rfl | b
   .exact⟨p,λx c=>by simp[c],h1⟩
   .obtain⟨m,d,e⟩:=g j q b
    exact⟨m,λx c=>by simp[d x c],e⟩
  .simp at h
theorem QZ {H:View} {x:V} {xs:List (List V)} {rd:List Nat} (h:bR H x=some (xs,rd)):∀ id,id∈rd->∃ a b c,x=.sl id a b c:=by
 unfold bR at h
 split at h
 .simp at h;obtain⟨_,rfl⟩:=h;intro id d;simp at d
 .simp at h;obtain⟨_,rfl⟩:=h;intro id d;simp at d
 .simp at h;obtain⟨_,rfl⟩:=h;intro id d;simp at d
 .simp at h;obtain⟨_,rfl⟩:=h;intro id d;simp at d
 .split at h
  .split at h
   .simp at h
    obtain⟨_,rfl⟩:=h
    intro id d
    simp at d;subst d
    exact⟨_,_,_,rfl⟩
   .simp at h
  .simp at h
 .simp at h;obtain⟨_,rfl⟩:=h;intro id d;simp at d
 .simp at h
theorem LM {o:Oper} {T:Env} {h s:aE} {v:V} {rd wr:List Nat} {call:Bool} {t y d:Nat} (st:eC P n all o T h v s rd wr call) (l:Cp o=some (t,y,d)) :
  call=false/\(∀ id,id∈wr->∃ a b c,T t=.sl id a b c)/\(∀ id,id∈rd->(∃ a b c,T t=.sl id a b c)∨∃ a b c,T y=.sl id a b c)/\(h.length < s.length->∃ a b c,v=.sl h.length a b c)/\s.length<=h.length+1/\o.dst=some d:=by
 unfold Cp at l
 split at l
 .rename_i args z A r D m
  split at l
  .rename_i t2 B C
   simp at l
   obtain⟨rfl,rfl,rfl⟩:=l
   cases st with
   | skip _=>exact⟨rfl,λid g=>by simp at g,λid g=>by simp at g,λh=>by omega,by omega,m⟩
   | op _ f =>
    simp only[cH,r,C] at f
    have w:∀ {v':V} {i:bE} {k:List Nat},some (v',bE.none,([]:List Nat))=some (v,i,k)->false=false/\(∀ id,id∈i.wr->∃ a b c,T t2=.sl id a b c)/\(∀ id,id∈k->(∃ a b c,T t2=.sl id a b c)∨∃ a b c,T B=.sl id a b c)/\(h.length < (i.apply h).length->∃ a b c,v=.sl h.length a b c)/\(i.apply h).length<=h.length+1/\o.dst=some A:=by
     intro v' i k e
     simp only[aaC,aaG] at e
     obtain⟨_,rfl,rfl⟩:=e
     exact⟨rfl,λid g=>by simp[bE.wr] at g,λid g=>by simp at g,λh=>by simp[bE.apply] at h,by simp[bE.apply],m⟩
    split at f
    .unfold pz at f
     split at f
     .rename_i e xs k _ u
      have p:=QZ u
      split at f
      .simp at f
      .split at f
       .split at f <;> first | exact w f | simp at f
       .split at f
        .simp at f
        .split at f
         .split at f
          .simp only[aaC,aaG] at f
           obtain⟨rfl,rfl,rfl⟩:=f
           exact⟨rfl,λid g=>by simp[bE.wr] at g,λid g=>.inr (p id g),λ_=>⟨_,_,_,rfl⟩,by simp[bE.apply],m⟩
          .simp at f
         .rename_i id off len esz x
          split at f
          .split at f
           .simp only[aaC,aaG] at f
            obtain⟨rfl,rfl,rfl⟩:=f
            refine⟨rfl,λq g=>?_,λq g=>?_,λ_=>⟨_,_,_,rfl⟩,by simp[bE.apply],m⟩
            .simp[bE.wr] at g;subst g
             exact⟨off,len,esz,x⟩
            .rcases aaT.1 g with rfl | g
             .exact .inl ⟨off,len,esz,x⟩
             .exact .inr (p q g)
           .simp at f
          .simp at f
         .simp at f
     .simp at f
    .split at f
     .unfold tL at f
      split at f
      .split at f
       .split at f
        .exact w f
        .split at f
         .simp only[aaC,aaG] at f
          obtain⟨rfl,rfl,rfl⟩:=f
          exact⟨rfl,λid g=>by simp[bE.wr] at g,λid g=>by simp at g,λ_=>⟨_,_,_,rfl⟩,by simp[bE.apply],m⟩
         .simp at f
       .simp at f
      .simp at f
     .simp at f
   | ko _ j _=>rw[r] at j;simp at j
   | gV _ j _ _ _ _=>rw[r] at j;simp at j
   | call _ j _ _ _ _ _=>rw[r] at j;simp at j
  .simp at l
 .simp at l
theorem S6 {T j:Env} {h q:aE} {a:List Rec} (s:Tr P n all all T h a j q) {i:Nat} {o:Oper} (k:all[i]?=some o) {r:Rec} (hr:a[i]?=some r) :
  ∃ e h1 v f,eC P n all o e h1 v f r.rd r.wr r.call/\r.lo=h1.length/\r.hi=f.length/\(∀ t,stays all i t=true->e t=j t)/\∀ d,o.dst=some d->stays all (i+1) d=true->j d=v:=by
 obtain⟨e,h1,v,f,rd,wr,call,l,g,u,y,p,z,A⟩:=s.at_ i o k
 rw[hr] at g
 have g:=acI g
 subst g
 refine⟨e,h1,v,f,u,rfl,rfl,λt m=>?_,λd w m=>?_⟩
 .have hk:=za m
  have hi:i < all.length:=(aaR.1 k).1
  have b:all[i]=o:=(aaR.1 k).2
  rw[abo hi,b] at hk
  rw[p.keep λx b=>hk x (by simp[b])]
  have:=hk o (by simp)
  cases c:o.dst with
  | none=>rfl
  | some d=>simp only[Env.put];rw[aaD];rintro rfl;exact this c
 .rw[p.keep (za m),w]
  simp[Env.put]
theorem Bm {i a b c j d e f:Nat} (h:iY (.sl i a b c) (.sl j d e f)):i≠j:=h
theorem PM {T r:Env} {h E:aE} {c:List Rec} (A:Tr P n all all T h c r E) {i k:Nat} {a b:Rec} {B:List (Nat × Nat)} (hp:GO all i k=some B) (o:∀ p∈B,iY (r p.1) (r p.2)) (F:c[i]?=some a) (G:c[k]?=some b):pV a b:=by
 unfold GO at hp
 split at hp
 .rename_i oa ob s u
  split at hp
  .rename_i t y d g C d' h1 H
   split at hp
   .rename_i l
    simp only[aaK] at l
    obtain⟨⟨⟨⟨s1,s2⟩,I⟩,v⟩,J⟩:=l
    simp at hp;subst hp
    have j:=o (t,g) (by simp)
    have a2:=o (t,C) (by simp)
    have a3:=o (g,y) (by simp)
    have a4:=o (d,g) (by simp)
    simp only at j a2 a3 a4
    obtain⟨Ta,w,va,K,L,M,N,x,z⟩:=S6 A s F
    obtain⟨Tb,O,vb,Q,R,_,_,q,_⟩:=S6 A u G
    obtain⟨S,U,V,W,p5,X⟩:=LM L h1
    obtain⟨Y,D,Z,_⟩:=LM R H
    have z:=z d X I
    rw[<-x t s1,<-q g v] at j
    rw[<-x t s1,<-q C J] at a2
    rw[<-q g v,<-x y s2] at a3
    rw[z,<-q g v] at a4
    refine⟨λid f hr=>?_,λid f hr=>?_,λm=>by rw[S] at m;simp at m,λm=>by rw[Y] at m;simp at m,λid f hx=>?_⟩
    .obtain⟨_,_,_,e⟩:=U id f
     rcases Z id hr with ⟨_,_,_,e'⟩ | ⟨_,_,_,e'⟩
     .rw[e,e'] at j;exact Bm j rfl
     .rw[e,e'] at a2;exact Bm a2 rfl
    .obtain⟨_,_,_,e⟩:=D id f
     rcases V id hr with ⟨_,_,_,e'⟩ | ⟨_,_,_,e'⟩
     .rw[e',e] at j;exact Bm j rfl
     .rw[e,e'] at a3;exact Bm a3 rfl
    .obtain⟨_,_,_,e⟩:=D id f
     obtain⟨_,_,_,e'⟩:=W (by omega)
     have:id=w.length:=by omega
     subst this
     rw[e,e'] at a4;exact Bm a4 rfl
   .simp at hp
  .simp at hp
 .simp at hp
theorem Pv {T d:Env} {h m:aE} {c:List Rec} (e:Tr P n all all T h c d m) {i k:Nat} {a b:Rec} {f:List (Nat × Nat)} (hp:Ct all i k=some f) (g:∀ p∈f,iY (d p.1) (d p.2)) (j:c[i]?=some a) (l:c[k]?=some b):pV a b:=by
 unfold Ct at hp
 split at hp
 .rename_i p h1
  simp at hp;subst hp
  exact OH e h1 (g p (by simp)) j l
 .exact PM e hp g j l
theorem V2 {ls:List Nat} {d:List Rec} {T o:Env} {hp q:aE} {j:List (Nat × Nat)} (v:Tr P n all all T hp d o q) (h:FD all (lT all ls)=some j) (z:∀ p∈j,iY (o p.1) (o p.2)) (D:ls.length=d.length)
  (hr:∀ (i x:Nat) (r:Rec),ls[i]?=some x->d[i]?=some r->mj x r.rd r.wr r.call r.lo r.hi):wZ all d:=by
 intro i k a b s l m A
 have hi:i < d.length:=(aaR.1 l).1
 have hk:k < d.length:=(aaR.1 m).1
 have w:=hr i _ a (aaB (by omega)) l
 have y:=hr k _ b (aaB (by omega)) m
 have B:(ls[i]'(by omega),i)∈ls.zipIdx:=by rw[abI];simp[aaB (show i < ls.length by omega)]
 have mk:(ls[k]'(by omega),k)∈ls.zipIdx:=by rw[abI];simp[aaB (show k < ls.length by omega)]
 by_cases h1:AL all (ls[i]'(by omega)) i (ls[k]'(by omega)) k=true
 .unfold AL at h1
  simp only[s,decide_true,acF,A,acJ,abC,abB,aaK,aaP] at h1
  rcases h1 with ((h1 | h1) | h1) | h1
  .obtain⟨g,f,t,C⟩:=w.1 h1
   exact⟨λid c=>by simp[f] at c,λid _=>by simp[g],λu=>by simp[t] at u,λ_=>f,λid _ E=>by omega⟩
  .obtain⟨g,f,t,C⟩:=y.1 h1
   exact⟨λid _=>by simp[g],λid c=>by simp[f] at c,λ_=>f,λu=>by simp[t] at u,λid c=>by simp[f] at c⟩
  .have g:=w.2 h1.1
   have f:=y.2 h1.2
   exact⟨λid c=>by simp[g] at c,λid c=>by simp[f] at c,λ_=>f,λ_=>g,λid c=>by simp[f] at c⟩
  .exact zX v h1 l m
 .have hm:(i,k)∈lT all ls:=by
   unfold lT
   rw[List.mem_flatMap]
   refine⟨_,B,?_⟩
   rw[abY]
   exact⟨_,mk,by simp only;rw[aaD h1]⟩
  obtain⟨p,hp,e⟩:=T7 h (i,k) hm
  exact QP v e (z p hp) l m
theorem It {P:Program} {t:TypeId} {id:Nat} {q:V} {ok:Bool} {H1 a:View} (h:H1 id=a id):fS P t (.mp id) q ok H1=fS P t (.mp id) q ok a:=by
 unfold fS
 simp only[h]
theorem Qb {P:Program} {t:TypeId} {id:Nat} {q:V} {H1 a:View} (h:H1 id=a id):eY P t (.mp id) q H1=eY P t (.mp id) q a:=by
 cases hm:fc P t with
 | none=>simp only[eY,hm]
 | some x=>simp only[eY,hm,h]
theorem VP {P:Program} {t:TypeId} {id:Nat} {q:V} {H:View} {v:V} {eff:bE} {rd:List Nat} (h:fS P t (.mp id) q false H=some (v,eff,rd)):eff=.none/\rd=[id]:=by
 simp only[fS,aba,if_false] at h
 repeat' (first | (simp only[aaC,aaG] at h;exact⟨h.2.1.symm,h.2.2.symm⟩)|(split at h)|(simp at h;done))
theorem Rx {P:Program} {t:TypeId} {id:Nat} {q:V} {H:View} {v:V} {eff:bE} {rd:List Nat} (h:eY P t (.mp id) q H=some (v,eff,rd)):∃ obj,eff=.fU id obj:=by
 cases hm:fc P t with
 | none=>simp[eY,hm] at h
 | some x =>
  simp only[eY,hm] at h
  repeat' (first | (simp only[aaC,aaG] at h;exact⟨_,h.2.1.symm⟩)|(split at h)|(simp at h;done))
theorem LZ {o:Oper} {T:Env} {h f:aE} {v:V} {rd wr:List Nat} {call:Bool} (st:eC P n all o T h v f rd wr call) (i:dX n all T o=some true) (j:∀ e x,o.op≠.box e x) (k:∀ s d x,o.op≠.convert s d x) (l:∀ c,o.op≠.call c) :
  ∃ eff,cH P o T h.view h.length=some (v,eff,rd)/\f=eff.apply h/\wr=eff.wr/\call=false:=by
 cases st with
 | skip g=>rw[i] at g;simp at g
 | op _ b=>exact⟨_,b,rfl,rfl,rfl⟩
 | ko _ a _=>exact absurd a (j _ _)
 | gV _ a _ _ _ _=>exact absurd a (k _ _ _)
 | call _ a _ _ _ _ _=>exact absurd a (l _)
theorem WS {a:List Rec} {f:Nat->Env} {b:Nat->aE} {vs:Nat->V} (d:DA P n all a f b vs) (i:a.length=all.length) {k:Nat} (hk:k<=all.length) (hw:∀ j r,j < k->a[j]?=some r->r.wr=[]) :
  ∀ j,j<=k->(b 0).length<=(b j).length/\∀ id,id < (b 0).length->(b j).view id=(b 0).view id:=by
 intro j
 induction j with
 | zero=>intro _;exact⟨aaM _,λ_ _=>rfl⟩
 | succ j g =>
  intro l
  obtain⟨e,h⟩:=g (by omega)
  obtain⟨st,_,_,_,_⟩:=d j all[j] (a[j]'(by omega)) (aaB (by omega)) (aaB (by omega))
  refine⟨abx e (vP st),λid c=>?_⟩
  rw[tS st (abd c e) (by rw[hw j _ (by omega) (aaB (by omega))];simp)]
  exact h id c
theorem r6 {a:List Rec} {b:Nat->Env} {e:Nat->aE} {vs:Nat->V} (c:DA P n all a b e vs) (m:a.length=all.length) {i t:Nat} (h:stays all i t=true):∀ j,i<=j->j<=all.length->b j t=b i t:=by
 intro j d f
 refine CA (vs:=vs) (N:=all.length) (λk o hk=>?_) rfl i j d f λk o h1 p g=>za h o (by
  rw[List.mem_iff_getElem?]
  exact⟨k - i,by rw[acw,show i+(k - i)=k by omega];exact g⟩)
 have l:k < all.length:=(aaR.1 hk).1
 exact(c k o (a[k]'(by omega)) hk (aaB (by omega))).2.2.1
theorem KK {ls:List Nat} {d:List Rec} {T I:Env} {hp bd:aE} {W:List (Nat × Nat)} {tp:Option (Nat × Nat)} (tr:Tr P n all all T hp d I bd) (h:yc all (I9 all ls tp)=some W) (hA:∀ p∈W,iY (I p.1) (I p.2)) (hl:ls.length=d.length)
  (hr:∀ (i x:Nat) (r:Rec),ls[i]?=some x->d[i]?=some r->mj x r.rd r.wr r.call r.lo r.hi) (X:∀ p,tp=some p->∃ D,Ja all ls p.1 p.2=some D/\Jx P D.1 (I D.2.1) (I D.2.2) hp.view):Ph P n all d T I hp:=by
 have main:∀ i k a b,i < k->d[i]?=some a->d[k]?=some b->ordered (gu all []) i k=false->tp≠some (i,k)->pV a b:=by
  intro i k a b K V S ho bl
  have hi:i < d.length:=(aaR.1 V).1
  have hk:k < d.length:=(aaR.1 S).1
  have la:=hr i _ a (aaB (by omega)) V
  have lb:=hr k _ b (aaB (by omega)) S
  have mi:(ls[i]'(by omega),i)∈ls.zipIdx:=by rw[abI];simp[aaB (show i < ls.length by omega)]
  have mk:(ls[k]'(by omega),k)∈ls.zipIdx:=by rw[abI];simp[aaB (show k < ls.length by omega)]
  by_cases h1:AL all (ls[i]'(by omega)) i (ls[k]'(by omega)) k=true
  .unfold AL at h1
   simp only[K,decide_true,acF,ho,acJ,abC,abB,aaK,aaP] at h1
   rcases h1 with ((h1 | h1) | h1) | h1
   .obtain⟨y,s,Y,e4⟩:=la.1 h1
    exact⟨λid c=>by simp[s] at c,λid _=>by simp[y],λZ=>by simp[Y] at Z,λ_=>s,λid _ hx=>by omega⟩
   .obtain⟨y,s,Y,e4⟩:=lb.1 h1
    exact⟨λid _=>by simp[y],λid c=>by simp[s] at c,λ_=>s,λZ=>by simp[Y] at Z,λid c=>by simp[s] at c⟩
   .have y:=la.2 h1.1
    have s:=lb.2 h1.2
    exact⟨λid c=>by simp[y] at c,λid c=>by simp[s] at c,λ_=>s,λ_=>y,λid c=>by simp[s] at c⟩
   .exact zX tr h1 V S
  .have hm:(i,k)∈lT all ls:=by
    unfold lT
    rw[List.mem_flatMap]
    refine⟨_,mi,?_⟩
    rw[abY]
    exact⟨_,mk,by simp only;rw[aaD h1]⟩
   by_cases hn:newAt all k=true
   .unfold newAt at hn
    split at hn
    .rename_i ob L
     obtain⟨T1,cr,v,J,rd,wr,call,bn,y,s,_⟩:=tr.at_ k ob L
     rw[S] at y
     have y:=acI y
     subst y
     obtain⟨n1,n2,n3⟩:=UO s hn
     exact⟨λid _=>by simp[n1],λid c=>by simp[n2] at c,λ_=>n2,λZ=>by simp[n3] at Z,λid c=>by simp[n2] at c⟩
    .simp at hn
   .obtain⟨p,hp,e⟩:=PF h (i,k) (by
     unfold I9
     rw[abt]
     refine⟨hm,?_⟩
     simp only[aaK,acD,acM,ne_eq]
     exact⟨by simpa using hn,bl⟩)
    exact Pv tr e (λq hq=>hA q (hp q hq)) V S
 cases tp with
 | none=>exact wZ.Zr λi k a b h1 J h3 h4=>main i k a b h1 J h3 h4 (by simp)
 | some p =>
  obtain⟨i0,C⟩:=p
  obtain⟨D,f,u⟩:=X _ rfl
  intro M hs vs cu N an E w i
  by_cases hi:i=i0
  .subst hi
   refine⟨some C,λk a b h1 J h3 h4 h5=>main i k a b h1 J h3 h4 (λe=>h5 (by simp at e;rw[e])),λk a b o hk V S ho=>?_⟩
   simp at hk;subst hk
   unfold Ja at f
   simp only at f
   split at f
   .rename_i oa ob O L
    rw[ho] at O
    have O:=acI O
    subst O
    split at f
    .rename_i t m q t' m' q' l z br bs
     split at f
     .rename_i F
      simp only[aaK,abB,aaP,aaZ,abA] at F
      obtain⟨⟨⟨⟨⟨⟨⟨⟨rfl,rfl⟩,rfl⟩,s1⟩,s2⟩,s3⟩,s4⟩,K⟩,U⟩:=F
      simp only[aaC] at f
      subst f
      simp only at u
      have bx:C < all.length:=(aaR.1 L).1
      have b0:∀ j r,j < C->d[j]?=some r->r.wr=[]:=λj r hj b1=>by
       have h1:=U j hj
       have aq:j < ls.length:=by omega
       rw[aaA,aaB aq] at h1
       exact(hr j _ r (aaB aq) b1).2 h1
      have G:=WS w E (Nat.le_of_lt bx) b0
      have em:∀ j,i<=j->j<=all.length->M j m=I m:=λj h1 J=>by
       rw[<-an,r6 w E s1 j h1 J,r6 w E s1 all.length (by omega) (aaM _)]
      have eq:∀ j,i<=j->j<=all.length->M j q=I q:=λj h1 J=>by
       rw[<-an,r6 w E s2 j h1 J,r6 w E s2 all.length (by omega) (aaM _)]
      obtain⟨b2,_,_,b3,b4⟩:=w i o a ho V
      obtain⟨b5,_,_,_,_⟩:=w C ob b L S
      have gi:dX n all (M i) o=some true:=by unfold dX;rw[br]
      have gk:dX n all (M C) ob=some true:=by unfold dX;rw[bs]
      unfold Jx at u
      split at u
      .rename_i id c
       obtain⟨⟨cv,c0,H⟩,u⟩:=u
       have Q:id < hp.length:=jh (by rw[H];simp)
       have ar:(hs C).view id=hp.view id:=by rw[(G C (aaM _)).2 id (by rw[N];exact Q),N]
       have a1:(hs i).view id=hp.view id:=by rw[(G i (Nat.le_of_lt K)).2 id (by rw[N];exact Q),N]
       obtain⟨cj,A,b7,b8,b9⟩:=LZ b2 gi (by rw[l];simp) (by rw[l];simp) (by rw[l];simp)
       obtain⟨ck,B,ca,cc,cA⟩:=LZ b5 gk (by rw[z];simp) (by rw[z];simp) (by rw[z];simp)
       simp only[cH,l] at A
       simp only[cH,z] at B
       have y:ev (M i) (.tmp m)=.mp id:=(em i (aaM _) (by omega)).trans c
       have s:ev (M i) (.tmp q)=I q:=eq i (aaM _) (by omega)
       have Y:ev (M C) (.tmp m)=.mp id:=(em C (by omega) (by omega)).trans c
       have e4:ev (M C) (.tmp q)=I q:=eq C (by omega) (by omega)
       rw[y,s] at A
       rw[Y,e4,Qb ar] at B
       obtain⟨l1,l2⟩:=VP A
       obtain⟨obj,l3⟩:=Rx B
       subst l1 l3
       have cf:(hs (C+1)).view id=obj:=by
        rw[ca,mJ (λcC R=>by
         simp only[bE.wr,abL] at R
         subst R
         rw[ar,H];simp)]
        simp[bE.view,View.set]
       refine⟨K,b8,b9,by rw[b3,b4,b7];rfl,λg hg cg=>?_⟩
       have a6:id < (hs i).length:=jh (by rw[a1,H];simp)
       have a7:g.view id=(hp.view.set id obj) id:=by
        rw[cg id a6,cc,aaF (by simp[bE.wr]),cf]
        simp[View.set]
       have ch:=u _ _ _ B
       have a8:cH P o (M i) g.view g.length=some (vs i,.none,a.rd):=by
        simp only[cH,l]
        rw[y,s,It a7,ch,<-It a1]
        exact A
       exact .op gi a8
      .exact u.elim
     .simp at f
    .simp at f
   .simp at f
  .exact⟨none,λk a b h1 J h3 h4 _=>main i k a b h1 J h3 h4 (λe=>hi (by simp at e;exact e.1.symm)),λk a b o h1=>by simp at h1⟩
theorem UD (hm:P.follows .mixedOrders=true) {p:Fz} {id:Nat} {ops:Array Oper} {q:SC} {T:Env} {h:aE} {Q:Exit->Env->View->Prop} (a:FH P n p ops.toList=some q) (hw:wS P q T h.view Q) :
  ∃ e g d,dE P n (.region id ops true) T h e g d/\(j8 h d/\h.length<=d.length)/\Q e g d.view:=by
 unfold FH at a
 split at a
 .simp at a
 .rename_i l v
  split at a
  .simp at a
  .rename_i b
   have b:(group l).all vV=true:=by simpa using b
   have j:eh P n ops.toList p ops.toList=some (lL (group l)):=by rw[ia];exact v
   split at a
   .rename_i w
    simp only[aaO] at a
    obtain⟨y,k,rfl⟩:=a
    obtain⟨f,g,d,t,m,hk,c⟩:=A5 (group l) ops.toList T h j b hw
    rw[ia] at c
    refine⟨.normal,g,d,?_,m,hk.rest⟩
    have o:wZ ops.toList f:=V2 t k (Dp hk) (by simpa using c.1) (λi x r u hr=>by
     simp only[aaE,aaO] at u
     obtain⟨s,z,rfl⟩:=u
     exact c.2 i s r z hr)
    simpa using BF hm (id:=id) t w o
   .simp at a
theorem UP (hm:P.follows .mixedOrders=true) {A:Fz} {id:Nat} {ops:Array Oper} {B:SC} {T:Env} {h:aE} {Q:Exit->Env->View->Prop} (b:D9 P n A ops.toList=some B) (hw:wS P B T h.view Q) :
  ∃ e k d,dE P n (.region id ops true) T h e k d/\(j8 h d/\h.length<=d.length)/\Q e k d.view:=by
 unfold D9 at b
 split at b
 .simp at b
 .rename_i l D
  split at b
  .simp at b
  .rename_i c
   have c:(group l).all vV=true:=by simpa using c
   have m:eh P n ops.toList A ops.toList=some (lL (group l)):=by rw[ia];exact D
   split at b
   .rename_i C
    split at b
    .simp only[aaO] at b
     obtain⟨v,f,rfl⟩:=b
     obtain⟨o,k,d,q,g,hk,a⟩:=A5 (group l) ops.toList T h m c hw
     rw[ia] at a
     refine⟨.normal,k,d,?_,g,hk.rest⟩
     have j:=KK q f (Dp hk) (by simpa using a.1) (λi x r t hr=>by
      simp only[aaE,aaO] at t
      obtain⟨s,w,rfl⟩:=t
      exact a.2 i s r w hr) (λp hp=>by simp at hp)
     simpa using zC hm (id:=id) q C j
    .rename_i p hp
     split at b
     .rename_i y z
      simp only[aaO] at b
      obtain⟨v,f,rfl⟩:=b
      obtain⟨o,k,d,q,g,hk,a⟩:=A5 (group l) ops.toList T h m c hw
      rw[ia] at a
      refine⟨.normal,k,d,?_,g,hk.2.rest⟩
      have j:=KK q f (Dp hk.2) (by simpa using a.1) (λi x r t hr=>by
       simp only[aaE,aaO] at t
       obtain⟨s,w,rfl⟩:=t
       exact a.2 i s r w hr) (λE u=>by
        simp only[aaC] at u
        subst u
        exact⟨y,z,hk.1⟩)
      simpa using zC hm (id:=id) q C j
     .simp at b
   .simp at b
theorem uG (hm:P.follows .mixedOrders=true) {u:Fz} {id:Nat} {ops:Array Oper} {draw quiet:Bool} {v:SC} {T:Env} {h:aE} {Q:Exit->Env->View->Prop} (a:tW P n u ops.toList draw quiet=some v) (hw:wS P v T h.view Q) :
  ∃ e d c,dE P n (.region id ops draw) T h e d c/\(j8 h c/\h.length<=c.length)/\Q e d c.view:=by
 unfold tW at a
 split at a
 .simp at a
 .rename_i l y
  split at a
  .simp at a
  .rename_i f
   have f:(group l).all vV=true:=by simpa using f
   have m:eh P n ops.toList u ops.toList=some (lL (group l)):=by rw[ia];exact y
   have key:Av P quiet (group l) T h.view (Q .normal)->(draw=true->nJ ops.toList=true/\Je ops.toList (l.map λs=>jU P quiet s.b)=true) ->
     ∃ e d c,dE P n (.region id ops draw) T h e d c/\(j8 h c/\h.length<=c.length)/\Q e d c.view:=by
    intro hw o
    obtain⟨j,d,c,p,q,hk,g⟩:=A5 (group l) ops.toList T h m f hw
    rw[ia] at g
    refine⟨.normal,d,c,?_,q,hk⟩
    cases k:draw with
    | false=>simpa using Kz (id:=id) p
    | true =>
     obtain⟨h1,z⟩:=o k
     have t:wZ ops.toList j:=Vv p z (by simpa using g.1) (λi x r w hr=>by
      simp only[aaE,aaO] at w
      obtain⟨s,A,rfl⟩:=w
      exact g.2 i s r A hr)
     simpa using BF hm (id:=id) p h1 t
   split at a
   .rename_i k
    split at a
    .rename_i B
     simp at a;subst a
     exact key hw (λ_=>by simpa using B)
    .simp at a
   .rename_i k
    simp at a;subst a
    exact key hw (λe=>absurd e k)
theorem fY {a b:Option SC} {c:SC} (h:orElse' a b=some c):a=some c∨b=some c:=by
 cases a with
 | none=>exact .inr h
 | some x=>exact .inl h
theorem T9 (hm:P.follows .mixedOrders=true) {k:List Nat} {id:Nat} {ops:Array Oper} {draw:Bool} {i:SC} {T:Env} {h:aE} {Q:Exit->Env->View->Prop} (c:F0 P n k ops.toList draw=some i) (hw:wS P i T h.view Q) :
  ∃ e j b,dE P n (.region id ops draw) T h e j b/\(j8 h b/\h.length<=b.length)/\Q e j b.view:=by
 unfold F0 at c
 rcases fY c with h1 | h1
 .exact uG hm h1 hw
 .clear c
  split at h1
  .rename_i l
   subst l
   rcases fY h1 with a | h1
   .split at a
    .exact UP hm a hw
    .simp at a
   rcases fY h1 with a | h1
   .split at a
    .exact uG hm a hw
    .simp at a
   rcases fY h1 with d | d
   .exact UD hm d hw
   .rcases fY d with f | f
    .exact uG hm f hw
    .rcases fY f with g | g
     .exact uG hm g hw
     .exact uG hm g hw
  .simp at h1
theorem Hw {e:Exit} {a b:Prop} (h:C5 e a b):(e=.normal/\a)∨(e≠.normal/\b):=by
 cases e with
 | normal=>exact .inl ⟨rfl,h⟩
 | _=>exact .inr ⟨by simp,h⟩
def tY (P:Program) (n:Nat) (fz:List Nat) (c:Code):Prop:=∀ sc:SC,dP P n fz c=some sc->∀ (T:Env) (h:aE) (Q:Exit->Env->View->Prop),wS P sc T h.view Q ->
 ∃ e T' h',dE P n c T h e T' h'/\(j8 h h'/\h.length<=h'.length)/\Q e T' h'.view
theorem Ii {b:List Nat} : tY P n b .skip:=by
 intro c a T h Q hw;simp[dP] at a;subst a;exact⟨_,T,h,.skip,⟨.refl _,aaM _⟩,hw⟩
theorem K3 {g:List Nat} {x y:Code} (i:tY P n g x) (j:tY P n g y):tY P n g (.seq x y):=by
 intro u c T h Q hw
 simp only[dP] at c
 split at c
 .rename_i a b h1 q
  simp at c;subst c
  simp only[wS] at hw
  obtain⟨e,o,d,p,st1,f⟩:=i a h1 T h _ hw
  rcases Hw f with ⟨rfl,f⟩ | ⟨k,f⟩
  .obtain⟨r,s,l,t,st2,m⟩:=j b q o d _ f
   exact⟨r,s,l,p.seq t,⟨st1.1.trans st2.1 st1.2,abx st1.2 st2.2⟩,m⟩
  .exact⟨e,o,d,p.NS k,st1,f⟩
 .simp at c
theorem qi {b:Fz} {ops:List Oper} {draw quiet:Bool} {a:SC} (h:tW P n b ops draw quiet=some a) (l:Nat):qv a l=none:=by
 unfold tW at h
 repeat' (first | (simp only[aaC] at h;subst h;rfl)|(split at h)|(simp at h;done))
theorem Qq {b:Fz} {ops:List Oper} {a:SC} (h:FH P n b ops=some a) (l:Nat):qv a l=none:=by
 unfold FH at h
 repeat' (first | (simp only[aaO] at h;obtain⟨_,_,rfl⟩:=h;rfl)|(split at h)|(simp at h;done))
theorem Qm {b:Fz} {ops:List Oper} {a:SC} (h:D9 P n b ops=some a) (l:Nat):qv a l=none:=by
 unfold D9 at h
 repeat' (first | (simp only[aaO] at h;obtain⟨_,_,rfl⟩:=h;rfl)|(split at h)|(simp at h;done))
theorem PZ {f:List Nat} {ops:List Oper} {draw:Bool} {e:SC} (h:F0 P n f ops draw=some e) (l:Nat):qv e l=none:=by
 unfold F0 at h
 rcases fY h with h1 | h1
 .exact qi h1 l
 .split at h1
  .rcases fY h1 with a | h1
   .split at a
    .exact Qm a l
    .simp at a
   rcases fY h1 with a | h1
   .split at a
    .exact qi a l
    .simp at a
   rcases fY h1 with b | b
   .exact Qq b l
   .rcases fY b with c | c
    .exact qi c l
    .rcases fY c with d | d
     .exact qi d l
     .exact qi d l
  .simp at h1
theorem S3 {j:List Nat} : ∀ (c:Code) (f:SC),dP P n j c=some f->∀ l,match findLabel c l with
  | some rest=>∃ r,qv f l=some r/\dP P n j rest=some r
  | none=>qv f l=none:=by
 intro c
 induction c with
 | seq x y h i =>
  intro f d l
  simp only[dP] at d
  split at d
  .rename_i a b h1 k
   simp at d;subst d
   have g:=h a h1 l
   have p:=i b k l
   simp only[findLabel,qv]
   cases m:findLabel x l with
   | some rx =>
    rw[m] at g
    obtain⟨r,q,s⟩:=g
    exact⟨.seq r b,by rw[q],by simp only[dP,s,k]⟩
   | none =>
    rw[m] at g
    simp only at g ⊢
    rw[g]
    exact p
  .simp at d
 | label o =>
  intro f d l
  simp[dP] at d;subst d
  simp only[findLabel,qv]
  by_cases e:(o == l)=true
  .rw[aaF e];exact⟨.skip,by rw[aaF e],by simp[dP]⟩
  .rw[aaD e];simp only;rw[aaD e]
 | region id ops draw=>intro f d l;simp only[dP] at d;simp only[findLabel];exact PZ d l
 | cond x y z _ _ =>
  intro f d l
  simp only[dP] at d
  split at d
  .simp at d;subst d;rfl
  .simp at d
 | block id c _=>intro f d l;simp only[dP,aaO] at d;obtain⟨_,_,rfl⟩:=d;rfl
 | loop c _=>intro f d l;simp only[dP,aaO] at d;obtain⟨_,_,rfl⟩:=d;rfl
 | scope c _ =>
  intro f d l
  simp only[dP] at d
  split at d
  .split at d
   .simp only[aaO] at d;obtain⟨_,_,rfl⟩:=d;rfl
   .simp at d
  .simp at d
 | skip=>intro f d l;simp[dP] at d;subst d;rfl
 | exit id=>intro f d l;simp[dP] at d;subst d;rfl
 | ret=>intro f d l;simp[dP] at d;subst d;rfl
 | goto o=>intro f d l;simp[dP] at d;subst d;rfl
 | _=>intro f d;simp[dP] at d
theorem Qd {v:List Nat} {c:Code} (F:tY P n v c) (hr:∀ l rest,findLabel c l=some rest->tY P n v rest):tY P n v (.scope c):=by
 intro J d T h Q hw
 simp only[dP] at d
 split at d
 .rename_i a h1
  split at d
  .rename_i l L
   simp only[aaO] at d
   obtain⟨r,w,rfl⟩:=d
   have j:=S3 c a h1 l
   cases m:findLabel c l with
   | none=>rw[m] at j;simp only at j;rw[j] at w;simp at w
   | some rest =>
    rw[m] at j
    obtain⟨M,t,o⟩:=j
    rw[w] at t
    have t:=acI t
    subst t
    simp only[wS] at hw
    obtain⟨I,K,x,y⟩:=hw
    have go:∀ k T (h:aE),I k T h.view->∃ e E u,uh P n c rest T h e E u/\(j8 h u/\h.length<=u.length)/\Q e E u.view:=by
     intro k
     induction k using Nat.strongRecOn with
     | ind k z =>
      intro T h G
      obtain⟨e,p,b,q,st1,s⟩:=hr l rest m r o T h _ (y k T h.view G)
      cases e with
      | goto H =>
       obtain⟨rfl,A,B,f⟩:=s
       obtain⟨o,C,g,D,st2,i⟩:=z A B p b f
       exact⟨o,C,g,uh.jump q m D,⟨st1.1.trans st2.1 st1.2,abx st1.2 st2.2⟩,i⟩
      | _=>exact⟨_,p,b,.out q rfl,st1,s⟩
    obtain⟨e,p,b,q,st1,s⟩:=F a h1 T h _ x
    cases e with
    | goto H =>
     obtain⟨rfl,A,_,f⟩:=s
     obtain⟨o,C,g,D,st2,i⟩:=go A p b f
     exact⟨o,C,g,.scope (uh.jump q m D),⟨st1.1.trans st2.1 st1.2,abx st1.2 st2.2⟩,i⟩
    | _=>exact⟨_,p,b,.scope (.out q rfl),st1,s⟩
  .simp at d
 .simp at d
theorem U0 (hm:P.follows .mixedOrders=true) {E:List Nat} : ∀ c:Code,tY P n E c/\∀ l rest,findLabel c l=some rest->tY P n E rest:=by
 intro c
 induction c with
 | skip=>exact⟨Ii,λl rest h=>by simp[findLabel] at h⟩
 | region id ops draw=>exact⟨λp d T h Q hw=>T9 hm d hw,λl rest h=>by simp[findLabel] at h⟩
 | seq x y o g =>
  refine⟨K3 o.1 g.1,λl rest h=>?_⟩
  simp only[findLabel] at h
  split at h
  .rename_i r hr
   simp only[aaC] at h;subst h
   exact K3 (o.2 _ _ hr) g.1
  .exact g.2 _ _ h
 | cond c x y o g =>
  refine⟨?_,λl rest h=>by simp[findLabel] at h⟩
  intro p d T h Q hw
  simp only[dP] at d
  split at d
  .rename_i a b h1 H
   simp at d;subst d
   simp only[wS] at hw
   split at hw
   .rename_i t u
    have F:wC (SX.of c) t T=T:=by
     unfold wC
     split
     .rename_i k hk
      rw[hk] at u
      exact Dg u
     .rfl
    rw[SX.dh] at u
    cases t with
    | true =>
     have:=hw.1 rfl
     rw[F] at this
     obtain⟨e,j,f,m,st,i⟩:=o.1 a h1 T h Q this
     exact⟨e,j,f,.cond u m,st,i⟩
    | false =>
     have:=hw.2 rfl
     rw[F] at this
     obtain⟨e,j,f,m,st,i⟩:=g.1 b H T h Q this
     exact⟨e,j,f,.cond u m,st,i⟩
   .exact hw.elim
  .simp at d
 | block id c s =>
  refine⟨?_,λl rest h=>by simp[findLabel] at h⟩
  intro p d T h Q hw
  simp only[dP,aaO] at d
  obtain⟨a,h1,rfl⟩:=d
  simp only[wS] at hw
  obtain⟨e,j,f,m,st,i⟩:=s.1 a h1 T h _ hw
  exact⟨_,j,f,m.block,st,i⟩
 | loop c s =>
  refine⟨?_,λl rest h=>by simp[findLabel] at h⟩
  intro p d T h Q hw
  simp only[dP,aaO] at d
  obtain⟨a,h1,rfl⟩:=d
  simp only[wS] at hw
  obtain⟨I,⟨k,hk⟩,q⟩:=hw
  have go:∀ k T (h:aE),I k T h.view->∃ e j f,sg P n c T h e j f/\(j8 h f/\h.length<=f.length)/\Q e j f.view:=by
   intro k
   induction k using Nat.strongRecOn with
   | ind k w =>
    intro T h J
    obtain⟨e,G,v,m,st1,i⟩:=s.1 a h1 T h _ (q k T h.view J)
    rcases Hw i with ⟨rfl,K,z,A⟩ | ⟨B,i⟩
    .obtain⟨L,M,C,N,st2,D⟩:=w K z G v A
     exact⟨L,M,C,.step m N,⟨st1.1.trans st2.1 st1.2,abx st1.2 st2.2⟩,D⟩
    .exact⟨e,G,v,.out m B,st1,i⟩
  obtain⟨e,j,f,m,st,i⟩:=go k T h hk
  exact⟨e,j,f,.loop m,st,i⟩
 | exit id=>exact⟨λp d T h Q hw=>by simp[dP] at d;subst d;exact⟨_,T,h,.exit,⟨.refl _,aaM _⟩,hw⟩,λl rest h=>by simp[findLabel] at h⟩
 | ret=>exact⟨λp d T h Q hw=>by simp[dP] at d;subst d;exact⟨_,T,h,.ret,⟨.refl _,aaM _⟩,hw⟩,λl rest h=>by simp[findLabel] at h⟩
 | label O=>exact⟨λp d T h Q hw=>by simp[dP] at d;subst d;exact⟨_,T,h,.label,⟨.refl _,aaM _⟩,hw⟩,λl rest h=>by
   simp only[findLabel] at h
   split at h
   .simp only[aaC] at h;subst h;exact Ii
   .simp at h⟩
 | goto O=>exact⟨λp d T h Q hw=>by simp[dP] at d;subst d;exact⟨_,T,h,.goto,⟨.refl _,aaM _⟩,hw⟩,λl rest h=>by simp[findLabel] at h⟩
 | scope c s=>exact⟨Qd s.1 s.2,λl rest h=>by simp[findLabel] at h⟩
 | _=>exact⟨λp d=>by simp[dP] at d,λl rest h=>by simp[findLabel] at h⟩
theorem Y0 (hm:P.follows .mixedOrders=true) {f:List Nat} (c:Code) (b:SC) (g:dP P n f c=some b) (T:Env) (h:aE) (Q:Exit->Env->View->Prop) (hw:wS P b T h.view Q) :
 ∃ e d a,dE P n c T h e d a/\(j8 h a/\h.length<=a.length)/\Q e d a.view:=(U0 hm c).1 b g T h Q hw
theorem YV {T:Env} {h:aE} {r:ResultVar} {l:List SR} {rest:List ResultVar} (b:gz P (r :: rest)=some l):∃ s c,l=s :: c/\gz P rest=some c/\∀ K:V->Prop,wR T h.view s K->∃ v,vy P T h r=some v/\K v:=by
 cases r with
 | tmp t =>
  simp only[gz,aaO] at b
  obtain⟨c,h1,rfl⟩:=b
  exact⟨.tmp t,c,rfl,h1,λK hk=>⟨_,rfl,hk⟩⟩
 | cell a t =>
  simp only[gz] at b
  split at b
  .rename_i k c h1 m
   simp at b;subst b
   refine⟨.cell a k,c,rfl,m,λK hk=>?_⟩
   simp only[wR] at hk
   simp only[vy,nX,zU h1]
   split at hk
   .rename_i id i j d
    split at hk
    .rename_i es hH
     obtain⟨f,hk⟩:=hk
     obtain⟨v,g,hk⟩:=rQ hk
     exact⟨v,by rw[d];simp only[hH];rw[aaF f,g];rfl,hk⟩
    .exact hk.elim
   .rename_i e j d
    obtain⟨v,g,hk⟩:=rQ hk
    exact⟨v,by rw[d];simp only;rw[g];rfl,hk⟩
   .exact hk.elim
  .simp at b
theorem Um {T:Env} {h:aE} {K:List V->Prop} : ∀ (rs:List ResultVar) (l:List SR) (acc:List V),gz P rs=some l->EX T h.view l acc K->∃ vs,nP P T h rs=some vs/\K (acc ++ vs)
 | [],l,acc,a,hw=>by simp[gz] at a;subst a;exact⟨[],rfl,by simpa [EX] using hw⟩
 | r :: rest,l,acc,a,hw=>by
  obtain⟨s,c,rfl,h1,d⟩:=YV (T:=T) (h:=h) a
  simp only[EX] at hw
  obtain⟨v,e,hk⟩:=d _ hw
  obtain⟨vs,b,hk⟩:=Um rest c (acc ++ [v]) h1 hk
  exact⟨v :: vs,by simp[nP,e,b],by simpa using hk⟩
def wF (P:Program) (F:SF) (vs:List V) (H:View) (K:V->View->Prop):Prop :=
 vs.length<=F.n/\wS P F.code (mM vs) H λe T' H'=>(e=.ret∨e=.normal)/\EX T' H' F.res [] λl=>K (zO l) H'
theorem aw.of (hm:P.follows .mixedOrders=true) {f:FuncId} {j:List Nat} {F:SF} (b:aP P f j=some F) {vs:List V} {H:View} {K:V->View->Prop} (hw:wF P F vs H K):aw P f vs H K:=by
 unfold aP at b
 split at b
 .rename_i fn g
  split at b
  .rename_i c k
   split at b
   .rename_i m rs h1 n o
    simp at b;subst b
    refine⟨o,?_⟩
    rintro h rfl
    obtain⟨e,r,p,q,st,he,hr⟩:=Y0 hm c m h1 _ h _ hw.2
    obtain⟨d,i,hk⟩:=Um _ _ [] n hr
    refine⟨zO d,p,bU.N3 g k hw.1 q he ?_,st.1,by simpa using hk⟩
    unfold O7
    rw[i]
    cases d with
    | nil=>rfl
    | cons a l=>cases l <;> rfl
   .simp at b
  .simp at b
 .simp at b
theorem aw.mono {f:FuncId} {vs:List V} {H:View} {K c:V->View->Prop} (h:aw P f vs H K) (hk:∀ r H',K r H'->c r H'):aw P f vs H c :=
 ⟨h.1,λd e=>let ⟨r,g,a,s,b⟩:=h.2 d e; ⟨r,g,a,s,hk _ _ b⟩⟩
theorem az.OV {f:FuncId} {vs:List V} {H:View} {t:V} {K:V->View->Prop} (h:az P f vs t) (a:ed P f=true) (hk:K t H):Ez P f vs H K :=
 ⟨a,λb e=>⟨t,b,bU.gU h b,λ_ _=>rfl,e ▸ hk⟩⟩
theorem aw.OV {f:FuncId} {vs:List V} {H:View} {K:V->View->Prop} (h:aw P f vs H λr H'=>(∀ id,H id≠.dead->H' id=H id)/\K r H'):Ez P f vs H K :=
 ⟨h.1,λc e=>by
  obtain⟨r,g,i,st,d,hk⟩:=h.2 c e
  refine⟨r,g,i,λid a=>?_,hk⟩
  by_cases b:c.view id=.dead
  .rw[b];exact st id a b
  .rw[<-e] at d;exact d id b⟩
end
inductive cX {α:Type} (x:α):Type where
 | mk
def gp (s:ByteArray):List Int:=s.data.toList.map λb=>(b.toNat:Int)
theorem fF (s:ByteArray):s.size=(gp s).length:=by rw[gp,aaJ,bsize]
def ba (P:Program) (c:SC) (T:Env) (H:View) (Q:Exit->Env->View->Prop) (_:cX (T,H,Q)):Prop:=wS P (.loop c) T H Q
def Yw (P:Program) (l:Nat) (c r:SC) (T:Env) (H:View) (Q:Exit->Env->View->Prop) (_:cX (T,H,Q)):Prop:=wS P (.scope l c r) T H Q
def ax (P:Program) (quiet:Bool) (f:FuncId) (vs:List V) (H:View) (K:V->View->Prop) (_:cX (H,K)):Prop :=
 if quiet then Ez P f vs H K else aw P f vs H K
def EA {α:Type} (v:α) (F:α->Prop) (_:cX F):Prop:=F v
def eP (v:V) (F:V->Prop) (_:cX F):Prop:=F v
def KM (o:dG) (F:dG->Prop) (_:cX F):Prop:=F o
def sr {α:Type} (o:Option α) (F:Option α->Prop) (_:cX F):Prop:=F o
def aj (b:Bool) (A B:Prop) (_:cX (A,B)):Prop:=(b=true->A)/\(b=false->B)
theorem Zn {α:Type} (v:α) (F:α->Prop) (w:cX F):EA v F w=F v:=propext Iff.rfl
section
variable (F:V->Prop) (w:cX F)
theorem M9 (v:Value):eP (.val v) F w=F (.val v):=propext Iff.rfl
theorem NI (k:Nat):eP (.emp k) F w=F (.emp k):=propext Iff.rfl
theorem Nf:eP .eD F w=F .eD:=propext Iff.rfl
theorem N7 (es:List (List V)):eP (.aU es) F w=F (.aU es):=propext Iff.rfl
theorem TQ (a b c d:Nat):eP (.sl a b c d) F w=F (.sl a b c d):=propext Iff.rfl
theorem NY (a b c:Nat):eP (.ptr a b c) F w=F (.ptr a b c):=propext Iff.rfl
theorem Ki (e:List V) (j:Nat):eP (.aL e j) F w=F (.aL e j):=propext Iff.rfl
theorem QL (a:Nat):eP (.mp a) F w=F (.mp a):=propext Iff.rfl
theorem Tm (f:FuncId) (a b:List V):eP (.fn f a b) F w=F (.fn f a b):=propext Iff.rfl
theorem Ov (cs:List V):eP (.agg cs) F w=F (.agg cs):=propext Iff.rfl
theorem Np (cs:List V):eP (.bf cs) F w=F (.bf cs):=propext Iff.rfl
end
theorem MU (F:dG->Prop) (w:cX F) (k:Nat) (es:List (List V)):KM (.arr k es) F w=F (.arr k es):=propext Iff.rfl
theorem MJ (F:dG->Prop) (w:cX F) (es:List (V × V × Nat)) (k:Nat):KM (.map es k) F w=F (.map es k):=propext Iff.rfl
theorem LC {α:Type} (F:Option α->Prop) (w:cX F) (x:α):sr (some x) F w=F (some x):=propext Iff.rfl
theorem Kr (A B:Prop) (w:cX (A,B)):aj true A B w=A:=by simp[aj]
theorem Iu (A B:Prop) (w:cX (A,B)):aj false A B w=B:=by simp[aj]
theorem Ow (b:Bool) (A B:Prop) (w:cX (A,B)):aj (!b) A B w=aj b B A .mk:=by cases b <;> simp[aj]
theorem aj.split {b:Bool} {A B:Prop} {w:cX (A,B)} (h1:b=true->A) (a:b=false->B):aj b A B w:=⟨h1,a⟩
theorem aj.dec {p:Prop} [Decidable p] {A B:Prop} {w:cX (A,B)} (h1:p->A) (a:¬ p->B):aj (decide p) A B w:=⟨λh=>h1 (by simpa using h),λh=>a (by simpa using h)⟩
theorem aj.eq {a b:Int} {A B:Prop} {w:cX (A,B)} (h1:a=b->A) (c:¬ a=b->B):aj (a == b) A B w:=⟨λh=>h1 (by simpa using h),λh=>c (by simpa using h)⟩
theorem aj.ne {a b:Int} {A B:Prop} {w:cX (A,B)} (h1:¬ a=b->A) (c:a=b->B):aj (a != b) A B w:=⟨λh=>h1 (by simpa using h),λh=>c (by simpa using h)⟩
section
variable (P:Program) (T:Env) (H:View)
theorem WD (F:SF) (vs:List V) (K:V->View->Prop):wF P F vs H K=(vs.length<=F.n/\wS P F.code (mM vs) H λe a H'=>(e=.ret∨e=.normal)/\EX a H' F.res [] λl=>EA (zO l) (λv=>K v H') .mk):=propext Iff.rfl
theorem M8 (Q:Exit->Env->View->Prop):wS P .skip T H Q=Q .normal T H:=propext Iff.rfl
theorem IM (q:Bool) (gs:List SG) (Q:Exit->Env->View->Prop):wS P (.region q gs) T H Q=Av P q gs T H (Q .normal):=propext Iff.rfl
theorem EK (a:List (Nat × Nat)) (gs:List SG) (Q:Exit->Env->View->Prop):wS P (.rL a gs) T H Q=Av P false gs T H (λb H'=>Bi a b (Q .normal b H')):=propext Iff.rfl
theorem Ei (a:Nat × Nat × Nat) (b:List (Nat × Nat)) (gs:List SG) (Q:Exit->Env->View->Prop):wS P (.Cn a b gs) T H Q=Av P false gs T H (λc H'=>Jx P a.1 (c a.2.1) (c a.2.2) H/\Bi b c (Q .normal c H')):=propext Iff.rfl
theorem No (K:Prop):Bi [] T K=K:=propext Iff.rfl
theorem KS (a b:Nat) (l:List (Nat × Nat)) (K:Prop):Bi ((a,b) :: l) T K=(iY (T a) (T b)/\Bi l T K):=propext Iff.rfl
theorem Ol (i j k a b c:Nat):iY (.ptr i j k) (.ptr a b c)=(i≠a):=propext Iff.rfl
theorem MT (i j k a b c d:Nat):iY (.ptr i j k) (.sl a b c d)=(i≠a):=propext Iff.rfl
theorem KH (i j k e:Nat):iY (.ptr i j k) (.emp e)=True:=id rfl
theorem Ju (i j k:Nat):iY (.ptr i j k) .eD=True:=id rfl
theorem Lw (i j k:Nat) (es:List (List V)):iY (.ptr i j k) (.aU es)=True:=id rfl
theorem NX (a b c d e f g h:Nat):iY (.sl a b c d) (.sl e f g h)=(a≠e):=propext Iff.rfl
theorem TY (a b c d e:Nat):iY (.sl a b c d) (.emp e)=True:=id rfl
theorem Sq (a b c d:Nat):iY (.sl a b c d) .eD=True:=id rfl
theorem RP (a b c d:Nat) (es:List (List V)):iY (.sl a b c d) (.aU es)=True:=id rfl
theorem MV (k:Nat) (v:V):iY (.emp k) v=True:=by cases v <;> rfl
theorem Om (v:V):iY .eD v=True:=by cases v <;> rfl
theorem MF (es:List (List V)) (v:V):iY (.aU es) v=True:=by cases v <;> rfl
theorem LD (e:List V) (j:Nat) (v:V):iY (.aL e j) v=True:=by cases v <;> rfl
theorem QI (x y:SC) (Q:Exit->Env->View->Prop):wS P (.seq x y) T H Q=wS P x T H λe a H'=>C5 e (wS P y a H' Q) (Q e a H'):=propext Iff.rfl
theorem Ox (c:SX) (x y:SC) (Q:Exit->Env->View->Prop):wS P (.cond c x y) T H Q=eP (c.at T) (λv=>match v with
 | .val (.bool b)=>aj b (wS P x (wC c true T) H Q) (wS P y (wC c false T) H Q) .mk
 | _=>False) .mk:=propext Iff.rfl
theorem Lt (id:Nat) (c:SC) (Q:Exit->Env->View->Prop):wS P (.block id c) T H Q=wS P c T H λe=>Q (sj id e):=propext Iff.rfl
theorem Oh (id:Nat) (Q:Exit->Env->View->Prop):wS P (.exit id) T H Q=Q (.exit id) T H:=propext Iff.rfl
theorem SY (Q:Exit->Env->View->Prop):wS P .ret T H Q=Q .ret T H:=propext Iff.rfl
theorem KU (l:Nat) (c r:SC) (Q:Exit->Env->View->Prop):wS P (.scope l c r) T H Q=Yw P l c r T H Q .mk:=propext Iff.rfl
theorem Lk (l:Nat) (Q:Exit->Env->View->Prop):wS P (.label l) T H Q=Q .normal T H:=propext Iff.rfl
theorem Oz (l:Nat) (Q:Exit->Env->View->Prop):wS P (.goto l) T H Q=Q (.goto l) T H:=propext Iff.rfl
theorem D4 (l c:Nat) (a b:Prop):Cy l (.goto c) a b=(c=l/\a):=propext Iff.rfl
theorem Bh (l:Nat) (a b:Prop):Cy l .normal a b=b:=propext Iff.rfl
theorem EE (l i:Nat) (a b:Prop):Cy l (.exit i) a b=b:=propext Iff.rfl
theorem Hd (l:Nat) (a b:Prop):Cy l .ret a b=b:=propext Iff.rfl
theorem Lx (l:Nat) (a b:Prop):C5 (.goto l) a b=b:=propext Iff.rfl
theorem FU (i l:Nat):sj i (.goto l)=.goto l:=id rfl
theorem MH (c:SC) (Q:Exit->Env->View->Prop):wS P (.loop c) T H Q=ba P c T H Q .mk:=propext Iff.rfl
theorem M3 (q:Bool) (K:Env->View->Prop):Av P q [] T H K=K T H:=propext Iff.rfl
theorem LJ (q:Bool) (g:SG) (r:List SG) (K:Env->View->Prop):Av P q (g :: r) T H K=wG P q g T H λa H'=>Av P q r a H' K:=propext Iff.rfl
theorem Oi (q:Bool) (ops:List (Option Nat × SB)) (K:Env->View->Prop):wG P q ⟨none,ops⟩ T H K=AX P q ops T H K:=propext Iff.rfl
theorem Nl (q:Bool) (d:Nat) (ops:List (Option Nat × SB)) (K:Env->View->Prop):wG P q ⟨some (d,true),ops⟩ T H K=eP (T d) (λv=>match v with
 | .val (.bool b)=>aj b (AX P q ops (T.put (some d) (.val (.bool true))) H K) (K (jz ops (T.put (some d) (.val (.bool false)))) H) .mk
 | .bf []=>K (jz ops T) H
 | _=>False) .mk:=propext Iff.rfl
theorem JJ (q:Bool) (d:Nat) (ops:List (Option Nat × SB)) (K:Env->View->Prop):wG P q ⟨some (d,false),ops⟩ T H K=eP (T d) (λv=>match v with
  | .val (.bool b)=>aj b (K (jz ops (T.put (some d) (.val (.bool true)))) H) (AX P q ops (T.put (some d) (.val (.bool false))) H K) .mk
  | .bf []=>K (jz ops T) H
  | _=>False) .mk:=by
 simp only[wG,eP]
 generalize T d=v
 cases v with
 | val x=>cases x <;> simp[aj,and_comm]
 | bf l=>cases l <;> simp
 | _=>simp
theorem CH:jz [] T=T:=id rfl
theorem AI (d:Option Nat) (b:SB) (r:List (Option Nat × SB)):jz ((d,b) :: r) T=jz r (T.put d (.bf [])):=id rfl
theorem MS (q:Bool) (K:Env->View->Prop):AX P q [] T H K=K T H:=propext Iff.rfl
theorem KO (q:Bool) (d:Option Nat) (b:SB) (r:List (Option Nat × SB)) (K:Env->View->Prop):AX P q ((d,b) :: r) T H K=wB P q b T H λv H'=>EA v (λv'=>AX P q r (T.put d v') H' K) .mk:=propext Iff.rfl
theorem Wx (q:Bool) (s:SI) (K:V->View->Prop):wB P q (.op s) T H K=wI P s T H K:=propext Iff.rfl
theorem Ny (q:Bool) (f:SX) (args:List SX) (K:V->View->Prop):wB P q (.call f args) T H K=eP (f.at T) (λv=>match v with
 | .fn g first cap=>ax P q g (first ++ args.map (SX.at T) ++ cap) H K .mk
 | _=>False) .mk:=propext Iff.rfl
theorem K7 (q:Bool) (f:SX) (args:List SX) (K:V->View->Prop):wB P q (.vQ f args) T H K=eP (f.at T) (λv=>match v with
 | .fn g first cap=>ax P true g (first ++ args.map (SX.at T) ++ cap) H K .mk
 | _=>False) .mk:=propext Iff.rfl
theorem QD (x:SX) (K:V->View->Prop):wI P (.eJ x) T H K=K (x.at T) H:=propext Iff.rfl
theorem Nx (c a b:SX) (K:V->View->Prop):wI P (.pick c a b) T H K=eP (c.at T) (λv=>match v with
  | .val (.bool t)=>aj t (K (a.at T) H) (K (b.at T) H) .mk
  | _=>False) .mk:=by
 simp only[wI,eP]
 generalize c.at T=v
 cases v with
 | val x =>
  cases x with
  | bool t=>cases t <;> simp[aj]
  | _=>simp
 | _=>simp
theorem Sx (x:SX) (K:V->View->Prop):wI P (.box x) T H K=eP (x.at T) (λv=>v.cells.all aI=true/\EA v.cells (λcs=>∀ n,H n=.dead->K (.ptr n 0 0) (H.set n (.arr cs.length [cs]))) .mk) .mk:=propext Iff.rfl
theorem Rn (x:SX) (K:V->View->Prop):wI P (.ko x) T H K=eP (x.at T) (λv=>v.cells.all aI=true/\EA v.cells (λcs=>K (.aL cs 0) H) .mk) .mk:=propext Iff.rfl
theorem Lh (z:List V) (K:V->View->Prop):wI P (.alloc z) T H K=(z.all aI=true/\∀ n,H n=.dead->K (.ptr n 0 0) (H.set n (.arr z.length [z]))):=propext Iff.rfl
theorem Nb (sz:Option Nat) (a:SX) (K:V->View->Prop):wI P (.load sz a) T H K=eP (a.at T) (λv=>match v with
 | .ptr id i j=>KM (H id) (λo=>match o with
  | .arr _ es=>i < es.length/\EA (es.getD i []) (λe=>kS sz e j λv=>K v H) .mk
  | _=>False) .mk
 | .aL e j=>kS sz e j λv=>K v H
 | _=>False) .mk:=propext Iff.rfl
theorem Jm (sz:Option Nat) (a:SX) (K:V->View->Prop):wI P (.Cl sz a) T H K=eP (a.at T) (λv=>match v with
 | .aL e j=>kS sz e j λv=>K v H
 | _=>False) .mk:=propext Iff.rfl
theorem Le (sz:Nat) (a x:SX) (K:V->View->Prop):wI P (.store sz a x) T H K=eP (a.at T) (λv=>match v with
 | .ptr id i j=>KM (H id) (λo=>match o with
  | .arr esz es=>EA (x.at T).cells (λcs=>(i < es.length/\cs.length=sz/\j+cs.length<=esz/\cs.all aI=true) /\
   EA (es.set i (gg (es.getD i []) j cs)) (λes'=>K .any (H.set id (.arr esz es'))) .mk) .mk
  | _=>False) .mk
 | _=>False) .mk:=propext Iff.rfl
theorem NM (x:SX) (K:V->View->Prop):wI P (.Dn x) T H K=eP (x.at T) (λv=>match v with
 | .ptr id i j=>K (.ptr id i j) H
 | .aL e j=>K (.aL e j) H
 | .fn f a b=>K (.fn f a b) H
 | _=>False) .mk:=propext Iff.rfl
theorem MK (off:Nat) (x:SX) (K:V->View->Prop):wI P (.addr off x) T H K=eP (x.at T) (λv=>match v with
 | .ptr id i j=>K (.ptr id i (j+off)) H
 | .aL e j=>K (.aL e (j+off)) H
 | _=>False) .mk:=propext Iff.rfl
theorem JF (off:Nat) (sz:Option Nat) (x:SX) (K:V->View->Prop):wI P (.field off sz x) T H K=eP (x.at T) (λv=>match v with
 | .agg cs=>kS sz cs off λv=>K v H
 | _=>False) .mk:=propext Iff.rfl
theorem SL (sz:Nat) (x i:SX) (K:V->View->Prop):wI P (.idx sz x i) T H K=sr (asNat (i.at T)) (λo=>match o with
  | none=>False
  | some q=>eP (x.at T) (λv=>match v with
   | .sl id off len esz=>(q < len/\esz=sz)/\K (.ptr id (off+q) 0) H
   | .aU es=>sr es[q]? (λo=>match o with
    | some e=>e.length=sz/\K (.aL e 0) H
    | none=>False) .mk
   | _=>False) .mk) .mk:=by
 simp only[wI,sr,eP]
 cases asNat (i.at T) with
 | none=>rfl
 | some q =>
  simp only
  cases x.at T with
  | aU es =>
   simp only
   cases h:es[q]? with
   | none=>simp
   | some e=>simp
  | _=>rfl
theorem Nt (f:FuncId) (first cap:List SX) (K:V->View->Prop):wI P (.xl f first cap) T H K=K (.fn f (first.map (SX.at T)) (cap.map (SX.at T))) H:=propext Iff.rfl
theorem Lp (K:V->View->Prop):wI P .rY T H K=(∀ n,H n=.dead->K (.mp n) (H.set n (.map [] 0))):=propext Iff.rfl
theorem RA (i:Nat) (x:SX) (K:V->View->Prop):wI P (.ext i x) T H K=eP (x.at T) (λv=>match v with
 | .bf vs=>i < vs.length/\K (vs.getD i .any) H
 | _=>False) .mk:=propext Iff.rfl
theorem SZ (x:SX) (K:V->View->Prop):wI P (.len x) T H K=sr (cT (x.at T)) (λo=>match o with
 | some n=>K (gG n) H
 | none=>False) .mk:=propext Iff.rfl
theorem OB (x:SX) (K:V->View->Prop):wI P (.rN x) T H K=eP (x.at T) (λv=>match v with
 | .val (.string s)=>K (gG s.size) H
 | _=>False) .mk:=propext Iff.rfl
theorem LF (op:BinOp) (x y:SX) (K:V->View->Prop):wI P (.arith op x y) T H K=eP (x.at T) (λv=>eP (y.at T) (λv'=>match v,v' with
 | .val (.int k a),.val (.int c b)=>k=c/\sr (iL op k a b) (λo=>match o with | some v=>K (.val v) H | none=>False) .mk
 | _,_=>False) .mk) .mk:=propext Iff.rfl
theorem We (l:Bool) (x y:SX) (K:V->View->Prop):wI P (.sh l x y) T H K=eP (x.at T) (λv=>eP (y.at T) (λv'=>match v,v' with
 | .val (.int k a),.val (.int _ b)=>0<=b/\K (.val (.int k (PI l k a b))) H
 | _,_=>False) .mk) .mk:=propext Iff.rfl
theorem Td (op:BinOp) (x y:SX) (K:V->View->Prop):wI P (.Ae op x y) T H K=eP (x.at T) (λv=>eP (y.at T) (λv'=>match v,v' with
 | .val (.string a),.val (.string b)=>(match op with
  | .eql=>K (.val (.bool (jT a b))) H
  | .neq=>K (.val (.bool (!jT a b))) H
  | _=>False)
 | _,_=>False) .mk) .mk:=propext Iff.rfl
theorem MQ (x i:SX) (K:V->View->Prop):wI P (.jm x i) T H K=eP (x.at T) (λv=>sr (asNat (i.at T)) (λo=>match v,o with
  | .val (.string s),some q=>sr (gp s)[q]? (λo=>match o with
   | some c=>K (.val (.int .u8 c)) H
   | none=>False) .mk
  | _,_=>False) .mk) .mk:=by
 simp only[wI,sr,eP]
 generalize x.at T=v
 generalize asNat (i.at T)=o
 cases v with
 | val u =>
  cases u with
  | string s =>
   cases o with
   | none=>rfl
   | some q =>
    simp only[gp,aaE]
    cases h:s.data.toList[q]? with
    | none=>simp
    | some e=>simp
  | _=>rfl
 | _=>rfl
theorem RU (x:SX) (K:V->View->Prop):wI P (.not x) T H K=eP (x.at T) (λv=>match v with
 | .val (.bool t)=>K (.val (.bool (!t))) H
 | _=>False) .mk:=propext Iff.rfl
theorem RF (eq:Bool) (k:Nat) (x y:SX) (K:V->View->Prop):wI P (.nil eq k x y) T H K=sr (Dt (fQ k (x.at T)) (fQ k (y.at T))) (λo=>match o with
 | some b=>K (.val (.bool (if eq=true then b else !b))) H
 | none=>False) .mk:=propext Iff.rfl
theorem ME (x y:SX) (K:V->View->Prop):wI P (.beq true x y) T H K=eP (x.at T) (λv=>eP (y.at T) (λv'=>match v,v' with
 | .val (.bool a),.val (.bool b)=>K (.val (.bool (a == b))) H
 | _,_=>False) .mk) .mk:=propext Iff.rfl
theorem Nn (x y:SX) (K:V->View->Prop):wI P (.beq false x y) T H K=eP (x.at T) (λv=>eP (y.at T) (λv'=>match v,v' with
 | .val (.bool a),.val (.bool b)=>K (.val (.bool (a != b))) H
 | _,_=>False) .mk) .mk:=propext Iff.rfl
theorem St (x y:SX) (K:V->View->Prop):wI P (.mm true x y) T H K=eP (x.at T) (λv=>eP (y.at T) (λv'=>match v,v' with
 | .val (.int k a),.val (.int _ b)=>K (.val (.int k (if b > a then b else a))) H
 | _,_=>False) .mk) .mk:=propext Iff.rfl
theorem QH (x y:SX) (K:V->View->Prop):wI P (.mm false x y) T H K=eP (x.at T) (λv=>eP (y.at T) (λv'=>match v,v' with
 | .val (.int k a),.val (.int _ b)=>K (.val (.int k (if b < a then b else a))) H
 | _,_=>False) .mk) .mk:=propext Iff.rfl
theorem MR (k:IntKind) (x:SX) (K:V->View->Prop):wI P (.conv k x) T H K=eP (x.at T) (λv=>match v with
 | .val (.int _ a)=>K (.val (.int k (k.wrap a))) H
 | _=>False) .mk:=propext Iff.rfl
theorem JC (n k:Nat) (o:dG):View.set H n o k=if k=n then o else H k:=id rfl
theorem KX (z:List V) (parts:List (Nat × Nat × SX)) (K:V->View->Prop):wI P (.build z parts) T H K=sr (nL z (parts.map λp=>(p.1,p.2.1,p.2.2.at T))) (λo=>match o with
 | some cs=>K (.agg cs) H
 | none=>False) .mk:=propext Iff.rfl
theorem IB (len sz:Nat) (z:List V) (parts:List (Nat × SX)) (K:V->View->Prop):wI P (.bJ len sz z parts) T H K=sr (mH sz (List.replicate len z) (parts.map λp=>(p.1,p.2.at T))) (λo=>match o with
 | some es=>∀ n,H n=.dead->K (.sl n 0 len sz) (H.set n (.arr sz es))
 | none=>False) .mk:=propext Iff.rfl
theorem Jk (sz:Nat) (x:SX) (lo hi:Option SX) (K:V->View->Prop):wI P (.slice sz x lo hi) T H K=sr (dA sz (x.at T) (lo.map (SX.at T)) (hi.map (SX.at T))) (λo=>match o with
 | some (v,.none,_)=>K v H
 | _=>False) .mk:=propext Iff.rfl
theorem MG (sz bytes:Nat) (z:List V) (l c:SX) (K:V->View->Prop):wI P (.make sz bytes z l c) T H K=sr (asNat (l.at T)) (λa=>sr (asNat (c.at T)) (λb=>match a,b with
 | some l,some c=>(l<=c/\c < aC/\bytes * c < aC)/\(c=0->K (.emp 2) H)/\(c≠0->∀ n,H n=.dead->K (.sl n 0 l sz) (H.set n (.arr sz (List.replicate l z))))
 | _,_=>False) .mk) .mk:=propext Iff.rfl
def lK (sz bytes:Nat) (x:V) (xs:List (List V)) (H:View) (K:V->View->Prop) (_:cX (H,K)):Prop:=if xs.isEmpty=true then (match x with
  | .emp k=>K (.emp k) H
  | .eD=>K .eD H
  | .aU es=>K (.aU es) H
  | .sl a b c d=>K (.sl a b c d) H
  | _=>False)
 else (xs.all λe=>e.length == sz && e.all aI)=true/\(match x with
  | .emp _=>(xs.length * bytes < aC/\xs.length < aC)/\∀ n,H n=.dead->K (.sl n 0 xs.length sz) (H.set n (.arr sz xs))
  | .sl id off len esz=>match H id with
   | .arr _ es=>(off+len<=es.length/\esz=sz/\(len+xs.length) * bytes < aC/\len+xs.length < aC) /\
    ∀ n,H n=.dead->K (.sl n 0 (len+xs.length) esz) ((H.set id .dead).set n (.arr esz ((es.drop off).take len ++ xs)))
   | _=>False
  | _=>False)
theorem RI (sz bytes:Nat) (x y:SX) (K:V->View->Prop):wI P (.app sz bytes x y) T H K=sr (bR H (y.at T)) (λo=>match o with
 | some (xs,_)=>lK sz bytes (x.at T) xs H K .mk
 | none=>False) .mk:=propext Iff.rfl
theorem AG (sz bytes k:Nat) (xs:List (List V)) (K:V->View->Prop) (w:cX (H,K)) (a:xs.isEmpty=false):lK sz bytes (.emp k) xs H K w=((xs.all λe=>e.length == sz && e.all aI)=true/\(xs.length * bytes < aC/\xs.length < aC)/\∀ n,H n=.dead->K (.sl n 0 xs.length sz) (H.set n (.arr sz xs))):=by
 unfold lK;rw[aaD (by rw[a];simp)]
theorem rB (sz bytes id off len esz:Nat) (xs:List (List V)) (K:V->View->Prop) (w:cX (H,K)) (a:xs.isEmpty=false):lK sz bytes (.sl id off len esz) xs H K w=((xs.all λe=>e.length == sz && e.all aI)=true/\KM (H id) (λo=>match o with
  | .arr _ es=>(off+len<=es.length/\esz=sz/\(len+xs.length) * bytes < aC/\len+xs.length < aC) /\
   ∀ n,H n=.dead->K (.sl n 0 (len+xs.length) esz) ((H.set id .dead).set n (.arr esz ((es.drop off).take len ++ xs)))
  | _=>False) .mk):=by
 unfold lK KM;rw[aaD (by rw[a];simp)]
theorem p0 (id off len esz z:Nat) (es:List (List V)) (hH:H id=.arr z es) (a:off+(len+1)<=es.length):bR H (.sl id off (len+1) esz)=some ((es.drop off).take (len+1),[id]):=by
 simp only[bR,hH];rw[aaF a]
theorem xm (es:List (List V)):bR H (.aU es)=some (es,[]):=id rfl
theorem xk (k:Nat):bR H (.emp k)=some ([],[]):=id rfl
theorem NV (x:SX) (K:V->View->Prop):wI P (.GM x) T H K=eP (x.at T) (λv=>match v with
 | .aU es=>sr (l8 es) (λo=>match o with
  | some l=>K (.val (.string ⟨l.toArray⟩)) H
  | none=>False) .mk
 | _=>False) .mk:=propext Iff.rfl
theorem MP (x:SX) (K:V->View->Prop):wI P (.gV x) T H K=eP (x.at T) (λv=>match v with
 | .val (.string s)=>K (.aU (iu s)) H
 | _=>False) .mk:=propext Iff.rfl
def jI (P:Program) (op:Op) (ty:TypeId) (T:Env) (H:View) (K:V->View->Prop) (_:cX (T,H,K)):Prop:=wI P (.old op ty) T H K
theorem TB (op:Op) (ty:TypeId) (K:V->View->Prop):wI P (.old op ty) T H K=jI P op ty T H K .mk:=propext Iff.rfl
theorem Qv (t:Nat):ev T (.tmp t)=T t:=id rfl
theorem Jn (v:Value):ev T (.const v)=gj v:=id rfl
theorem TJ (t:Nat):(SX.tmp t).at T=T t:=id rfl
theorem Te (v:V):(SX.val v).at T=v:=id rfl
theorem ML (d t:Nat) (v:V):(T.put (some d) v) t=if t=d then v else T t:=id rfl
theorem L0 (v:V):T.put none v=T:=id rfl
theorem LA (vs:List V) (t:Nat):mM vs t=vs.getD t .any:=id rfl
theorem E3 (e:List V) (j:Nat) (K:V->Prop):kS none e j K=(j < e.length/\K (e.getD j .any)):=propext Iff.rfl
theorem Fu (n:Nat) (e:List V) (j:Nat) (K:V->Prop):kS (some n) e j K=(j+n<=e.length/\K (.agg ((e.drop j).take n))):=propext Iff.rfl
theorem E6 (a b:Prop):C5 .normal a b=a:=propext Iff.rfl
theorem Kl (i:Nat) (a b:Prop):C5 (.exit i) a b=b:=propext Iff.rfl
theorem N1 (a b:Prop):C5 .ret a b=b:=propext Iff.rfl
theorem BK (i:Nat):sj i .normal=.normal:=id rfl
theorem ID (i:Nat):sj i .ret=.ret:=id rfl
theorem Ex (i j:Nat):sj i (.exit j)=if j=i then .normal else .exit j:=by simp only[sj]
theorem NK (acc:List V) (K:List V->Prop):EX T H [] acc K=K acc:=propext Iff.rfl
theorem J8 (r:SR) (l:List SR) (acc:List V) (K:List V->Prop):EX T H (r :: l) acc K=wR T H r λv=>EX T H l (acc ++ [v]) K:=propext Iff.rfl
theorem TA (t:Nat) (K:V->Prop):wR T H (.tmp t) K=K (T t):=propext Iff.rfl
theorem M1 (t:Nat) (sz:Option Nat) (K:V->Prop):wR T H (.cell t sz) K=eP (T t) (λv=>match v with
 | .ptr id i j=>KM (H id) (λo=>match o with
  | .arr _ es=>i < es.length/\EA (es.getD i []) (λe=>kS sz e j K) .mk
  | _=>False) .mk
 | .aL e j=>kS sz e j K
 | _=>False) .mk:=propext Iff.rfl
theorem IH (t:Nat) (b:Bool):wC (.tmp t) b T=T.put (some t) (.val (.bool b)):=id rfl
theorem Hz (v:V) (b:Bool):wC (.val v) b T=T:=id rfl
theorem Qz:(Exit.ret=Exit.ret∨Exit.ret=Exit.normal)=True:=by simp
theorem Hi:(Exit.normal=Exit.ret∨Exit.normal=Exit.normal)=True:=by simp
end
section
variable {P:Program} {T:Env} {H:View}
theorem ba.intro {c:SC} {Q:Exit->Env->View->Prop} {v:cX (T,H,Q)} (I:Nat->Env->View->Prop) (k:Nat) (d:I k T H)
  (f:∀ k T H,I k T H->wS P c T H λe a H'=>C5 e (∃ b,b < k/\I b a H') (Q e a H')):ba P c T H Q v:=by
 simp only[ba,wS]
 exact⟨I,⟨k,d⟩,f⟩
theorem ax.pure {q:Bool} {f:FuncId} {vs:List V} {K:V->View->Prop} {v:cX (H,K)} {t:V} (b:az P f vs t) (hk:K t H) (a:ed P f=true:=by kernel_rfl):ax P q f vs H K v:=by
 unfold ax
 cases q with
 | true=>exact b.OV a hk
 | false =>
  refine⟨a,?_⟩
  rintro h rfl
  exact⟨t,h,bU.gU b h,.refl _,hk⟩
theorem ax.eM {f:FuncId} {vs:List V} {K:V->View->Prop} {v:cX (H,K)} (a:aw P f vs H K):ax P false f vs H K v:=a
theorem He:aE.view []=λ_=>dG.dead:=by funext id;simp[aE.view]
theorem az.of {f:FuncId} {vs:List V} {t:V} (b:∀ v∈vs,Tree v) (h:aw P f vs (λ_=>.dead) λr H'=>∀ a:aE,a.view=H'->Fr a r t):az P f vs t:=by
 obtain⟨r,a,c,_,d⟩:=h.2 [] He
 exact az.zw b c (d a rfl)
theorem wrap64 {x:Int} (h1 : -9223372036854775808<=x) (d:x<=9223372036854775807):IntKind.wrap .i64 x=x:=by
 unfold IntKind.wrap
 have a:(2:Int) ^ IntKind.i64.bits=18446744073709551616:=by rfl
 have b:(2:Int) ^ (IntKind.i64.bits - 1)=9223372036854775808:=by rfl
 have c:IntKind.i64.signed=true:=by rfl
 simp only[a,b,c,abM,aaP]
 split <;> omega
theorem G6 {k:IntKind} {i:Int} (h:0<=i):asNat (.val (.int k i))=some i.toNat:=by simp[asNat,h]
end
theorem Ie (v:Value):V.cells (.val v)=[.val v]:=id rfl
theorem Cg (v:Value):aI (.val v)=true:=id rfl
theorem Ht (k:Nat):V.cells (.emp k)=[.emp k]:=id rfl
theorem Cm (k:Nat):aI (.emp k)=true:=id rfl
theorem Hh  : V.cells .eD=[.eD]:=id rfl
theorem On  : aI .eD=true:=id rfl
theorem HY (es:List (List V)):V.cells (.aU es)=[.aU es]:=id rfl
theorem Oa (es:List (List V)):aI (.aU es)=true:=id rfl
theorem Jw (a b c d:Nat):V.cells (.sl a b c d)=[.sl a b c d]:=id rfl
theorem Ti (a b c d:Nat):aI (.sl a b c d)=true:=id rfl
theorem Hk (a b c:Nat):V.cells (.ptr a b c)=[.ptr a b c]:=id rfl
theorem N9 (a b c:Nat):aI (.ptr a b c)=true:=id rfl
theorem Fl (e:List V) (j:Nat):V.cells (.aL e j)=[.aL e j]:=id rfl
theorem LP (e:List V) (j:Nat):aI (.aL e j)=true:=id rfl
theorem Ky (a:Nat):V.cells (.mp a)=[.mp a]:=id rfl
theorem RC (a:Nat):aI (.mp a)=true:=id rfl
theorem Jo (f:FuncId) (a b:List V):V.cells (.fn f a b)=[.fn f a b]:=id rfl
theorem RS (f:FuncId) (a b:List V):aI (.fn f a b)=true:=id rfl
theorem Ix (cs:List V):V.cells (.agg cs)=cs:=id rfl
theorem NN (k:Nat):cT (.emp k)=some 0:=id rfl
theorem Nj:cT .eD=some 0:=id rfl
theorem NU (es:List (List V)):cT (.aU es)=some es.length:=id rfl
theorem TT (a b c d:Nat):cT (.sl a b c d)=some c:=id rfl
abbrev Zm {p:Prop} (_:p):Prop:=p
theorem Wp (P:Program) (T:Env) (H:View) (a:SC) (Q:Exit->Env->View->Prop):wS P (ae [a]) T H Q=wS P a T H Q:=by rw[ae]
theorem Wo (P:Program) (T:Env) (H:View) (a b:SC) (l:List SC) (Q:Exit->Env->View->Prop):wS P (ae (a :: b :: l)) T H Q=wS P (.seq a (ae (b :: l))) T H Q:=by rw[ae]
abbrev Wr:Prop:=Zm (And.intro @Wp <| And.intro @Wo <| And.intro @WD <| And.intro @M8 <| And.intro @IM <| And.intro @EK <| And.intro @Ei <| And.intro @No <| And.intro @KS <| And.intro @QI <|
 And.intro @Ox <| And.intro @Lt <| And.intro @Oh <| And.intro @SY <| And.intro @KU <| And.intro @Lk <| And.intro @Oz <| And.intro @D4 <| And.intro @Bh <| And.intro @EE <| And.intro @Hd <| And.intro @Lx <| And.intro @FU <|
 And.intro @MH <| And.intro @M3 <| And.intro @LJ <| And.intro @Oi <|
 And.intro @Nl <| And.intro @JJ <| And.intro @CH <| And.intro @AI <|
 And.intro @MS <| And.intro @KO <| And.intro @Wx <| And.intro @Ny <| And.intro @K7 <|
 And.intro @QD <| And.intro @Nx <| And.intro @Sx <| And.intro @Rn <|
 And.intro @Lh <| And.intro @Nb <| And.intro @Jm <| And.intro @Le <|
 And.intro @NM <| And.intro @MK <| And.intro @JF <| And.intro @SL <|
 And.intro @Nt <| And.intro @Lp <| And.intro @RA <| And.intro @SZ <|
 And.intro @OB <| And.intro @LF <| And.intro @We <| And.intro @Td <| And.intro @MQ <|
 And.intro @RU <| And.intro @RF <| And.intro @ME <| And.intro @Nn <|
 And.intro @St <| And.intro @QH <| And.intro @MR <| And.intro @NV <|
 And.intro @MP <| And.intro @KX <| And.intro @IB <| And.intro @Jk <|
 And.intro @MG <| And.intro @RI <| And.intro @TB <| And.intro @Qv <| And.intro @Jn <| And.intro @TJ <| And.intro @Te <|
 And.intro @ML <| And.intro @L0 <| And.intro @LA <| And.intro @E3 <|
 And.intro @Fu <| And.intro @E6 <| And.intro @Kl <| And.intro @N1 <|
 And.intro @BK <| And.intro @ID <| And.intro @Ex <| And.intro @NK <|
 And.intro @J8 <| And.intro @TA <| And.intro @M1 <| And.intro @IH @Hz)
theorem wr:Wr:=⟨@Wp,@Wo,@WD,@M8,@IM,@EK,@Ei,@No,@KS,@QI,@Ox,@Lt,@Oh,@SY,@KU,@Lk,@Oz,@D4,@Bh,@EE,@Hd,@Lx,@FU,@MH,@M3,@LJ,@Oi,@Nl,@JJ,@CH,@AI,@MS,@KO,@Wx,@Ny,@K7,@QD,@Nx,@Sx,@Rn,@Lh,@Nb,@Jm,@Le,@NM,@MK,@JF,@SL,@Nt,@Lp,@RA,@SZ,@OB,@LF,@We,@Td,@MQ,@RU,@RF,@ME,@Nn,@St,@QH,@MR,@NV,@MP,@KX,@IB,@Jk,@MG,@RI,@TB,@Qv,@Jn,@TJ,@Te,@ML,@L0,@LA,@E3,@Fu,@E6,@Kl,@N1,@BK,@ID,@Ex,@NK,@J8,@TA,@M1,@IH,@Hz⟩
theorem Q5:zO []=.bf []:=id rfl
theorem QK (v:V):zO [v]=v:=id rfl
theorem Tc (v w:V) (l:List V):zO (v :: w :: l)=.bf (v :: w :: l):=id rfl
theorem Wu (n:Nat):gG n=.val (.int .i64 n):=id rfl
theorem LO (e:List V) (j:Nat) (cs:List V):gg e j cs=e.take j ++ cs ++ e.drop (j+cs.length):=id rfl
theorem LR (z:List V):nL z []=some z:=id rfl
theorem Lu (z:List V) (o n:Nat) (x:V) (r:List (Nat × Nat × V)):nL z ((o,n,x) :: r)=if x.cells.length=n/\o+n<=z.length/\x.cells.all aI=true then nL (gg z o x.cells) r else none:=by rw[nL]
theorem M4 (k:Nat) (z:List (List V)):mH k z []=some z:=by rw[mH]
theorem Oo (k:Nat) (z:List (List V)) (i:Nat) (x:V) (r:List (Nat × V)):mH k z ((i,x) :: r)=if x.cells.length=k/\i < z.length/\x.cells.all aI=true then mH k (z.set i x.cells) r else none:=by rw[mH]
theorem Sn (b:Bool):Dt (some true) (some b)=some b:=id rfl
theorem TC (b:Bool):Dt (some b) (some true)=some b:=by cases b <;> rfl
section
variable (k:IntKind) (a b:Int)
theorem MN:iL .add k a b=some (.int k (k.wrap (a+b))):=id rfl
theorem OA:iL .sub k a b=some (.int k (k.wrap (a - b))):=id rfl
theorem Nk:iL .mul k a b=some (.int k (k.wrap (a * b))):=id rfl
theorem Nc:iL .quo k a b=if b=0 then none else some (.int k (k.wrap (a.tdiv b))):=id rfl
theorem MW:iL .rem k a b=if b=0 then none else some (.int k (a.tmod b)):=id rfl
theorem NB:iL .eql k a b=some (.bool (a == b)):=id rfl
theorem Ng:iL .neq k a b=some (.bool (a != b)):=id rfl
theorem MI:iL .lss k a b=some (.bool (a < b)):=id rfl
theorem NQ:iL .leq k a b=some (.bool (a<=b)):=id rfl
theorem Nq:iL .gtr k a b=some (.bool (a > b)):=id rfl
theorem N0:iL .geq k a b=some (.bool (a≥b)):=id rfl
theorem TW:iL .or k a b=some (.int k (k.wrap (BitVec.ofInt k.bits a ||| BitVec.ofInt k.bits b).toNat)):=id rfl
theorem Ou:iL .and k a b=some (.int k (k.wrap (BitVec.ofInt k.bits a &&& BitVec.ofInt k.bits b).toNat)):=id rfl
theorem FZ:iL .andNot k a b=some (.int k (k.wrap (BitVec.ofInt k.bits a &&& ~~~(BitVec.ofInt k.bits b)).toNat)):=id rfl
end
theorem Rv:fQ 0 (.emp 1)=some true:=id rfl
theorem Th:fQ 0 (.emp 2)=some false:=id rfl
theorem N8:fQ 0 .eD=some false:=id rfl
theorem Qu (a b n c:Nat):fQ 0 (.sl a b (n+1) c)=some false:=id rfl
theorem NC (e:List V) (l:List (List V)):fQ 0 (.aU (e :: l))=some false:=id rfl
theorem Nw (a b c:Nat):fQ 1 (.ptr a b c)=some false:=id rfl
theorem J9 (e:List V) (j:Nat):fQ 1 (.aL e j)=some false:=id rfl
theorem QT (a:Nat):fQ 2 (.mp a)=some false:=id rfl
theorem Q3 (f:FuncId) (a b:List V):fQ 3 (.fn f a b)=some false:=id rfl
theorem R4:fQ 1 (.val (.pointer none))=some true:=id rfl
theorem Uc:fQ 2 (.val (.map none))=some true:=id rfl
theorem To:fQ 3 (.val .nilFunc)=some true:=id rfl
abbrev Wq:Prop:=Zm (And.intro @Q5 <| And.intro @QK <| And.intro @Tc <| And.intro @Wu <| And.intro @LO <| And.intro @LR <| And.intro @Lu <| And.intro @M4 <| And.intro @Oo <| And.intro @Sn <| And.intro @TC <| And.intro @MN <| And.intro @OA <| And.intro @Nk <| And.intro @Nc <| And.intro @MW <| And.intro @NB <| And.intro @Ng <| And.intro @MI <| And.intro @NQ <| And.intro @Nq <| And.intro @N0 <| And.intro @TW <| And.intro @Ou <| And.intro @FZ <| And.intro @Rv <| And.intro @Th <| And.intro @N8 <| And.intro @Qu <| And.intro @NC <| And.intro @Nw <| And.intro @J9 <| And.intro @QT <| And.intro @Q3 <| And.intro @R4 <| And.intro @Uc <| And.intro @To <| And.intro @eq_self.{1} <| And.intro @ne_eq.{1} <| And.intro @implies_true.{1} <| And.intro @implies_true.{0} <| And.intro @decide_true <| And.intro @decide_false <| And.intro @Ol <| And.intro @MT <| And.intro @KH <| And.intro @Ju <| And.intro @Lw <| And.intro @LD <| And.intro @NX <| And.intro @TY <| And.intro @Sq <| And.intro @RP <| And.intro @MV <| And.intro @Om <| And.intro @MF <| And.intro @Ie <| And.intro @Cg <| And.intro @Ht <| And.intro @Cm <| And.intro @Hh <| And.intro @On <| And.intro @HY <| And.intro @Oa <| And.intro @Jw <| And.intro @Ti <| And.intro @Hk <| And.intro @N9 <| And.intro @Fl <| And.intro @LP <| And.intro @Ky <| And.intro @RC <| And.intro @Jo <| And.intro @RS <| And.intro @Ix <| And.intro @NN <| And.intro @Nj <| And.intro @NU <| And.intro @TT <| And.intro @true_or <| And.intro @or_true <| And.intro @or_false <| And.intro @false_or <|
 And.intro @Zn <| And.intro @M9 <| And.intro @NI <| And.intro @Nf <|
 And.intro @N7 <| And.intro @TQ <| And.intro @NY <| And.intro @Ki <|
 And.intro @QL <| And.intro @Tm <| And.intro @Ov <| And.intro @Np <|
 And.intro @MU <| And.intro @MJ <| And.intro @LC <| And.intro @Kr <|
 And.intro @Iu <| And.intro @Ow <| And.intro @List.getD_cons_zero.{0} <| And.intro @List.getD_cons_succ.{0} <|
 And.intro @List.length_cons.{0} <| And.intro @List.length_nil.{0} <| And.intro @List.length_map.{0,0} <| And.intro @wrap64 <|
 And.intro @true_and <| And.intro @and_true <| And.intro @and_self <| And.intro @aaP <|
 And.intro @abT <| And.intro @List.all_cons.{0} <| And.intro @List.all_nil.{0} <| And.intro @Bool.and_self <|
 And.intro @List.nil_append.{0} <| And.intro @List.cons_append.{0} <| And.intro @abq <| And.intro @G6 <|
 And.intro @aa0 <| And.intro @Qz <| And.intro @Hi <| And.intro @bne_iff_ne.{0} <|
 And.intro @beq_iff_eq.{0} <| And.intro @Bool.not_eq_true <| And.intro @acF <| And.intro @Bool.not_false <|
 And.intro @List.append_nil.{0} <| And.intro @List.map_cons.{0,0} <| And.intro @List.map_nil.{0,0} <| And.intro @Bool.true_eq_false <|
 And.intro @aba <| And.intro @false_implies <| And.intro @true_implies <| And.intro @Bool.not_not <|
 And.intro @List.drop_zero.{0} <| And.intro @JC <| And.intro @List.set_cons_zero.{0} <| And.intro @List.set_cons_succ.{0} <|
 And.intro @List.drop_nil.{0} <| And.intro @acr <| And.intro @List.replicate_zero.{0} <| And.intro @List.replicate_succ.{0} <|
 And.intro @xm <| And.intro @xk <| And.intro @AG <| And.intro @rB <|
 And.intro @List.isEmpty_cons.{0} <| And.intro @Option.map_none.{0,0} <| And.intro @Option.map_some.{0,0} <| And.intro @Nat.succ_ne_zero <|
 And.intro @List.take_succ_cons.{0} <| And.intro @List.take_zero.{0} <| And.intro @List.drop_succ_cons.{0} <| And.intro @bne_eq_false_iff_eq.{0} <|
 And.intro @beq_eq_false_iff_ne.{0} <| And.intro @not_true_eq_false <| And.intro @not_false_eq_true @acK)
theorem wq:Wq:=⟨@Q5,@QK,@Tc,@Wu,@LO,@LR,@Lu,@M4,@Oo,@Sn,@TC,@MN,@OA,@Nk,@Nc,@MW,@NB,@Ng,@MI,@NQ,@Nq,@N0,@TW,@Ou,@FZ,@Rv,@Th,@N8,@Qu,@NC,@Nw,@J9,@QT,@Q3,@R4,@Uc,@To,@eq_self,@ne_eq,@implies_true,@implies_true,@decide_true,@decide_false,@Ol,@MT,@KH,@Ju,@Lw,@LD,@NX,@TY,@Sq,@RP,@MV,@Om,@MF,@Ie,@Cg,@Ht,@Cm,@Hh,@On,@HY,@Oa,@Jw,@Ti,@Hk,@N9,@Fl,@LP,@Ky,@RC,@Jo,@RS,@Ix,@NN,@Nj,@NU,@TT,@true_or,@or_true,@or_false,@false_or,@Zn,@M9,@NI,@Nf,@N7,@TQ,@NY,@Ki,@QL,@Tm,@Ov,@Np,@MU,@MJ,@LC,@Kr,@Iu,@Ow,@abE,@acp,@aaN,@aa8,@aaJ,@wrap64,@true_and,@and_true,@and_self,@aaP,@abT,@abQ,@List.all_nil,@Bool.and_self,@abG,@abk,@abq,@G6,@aa0,@Qz,@Hi,@acM,@abB,@Bool.not_eq_true,@acF,@Bool.not_false,@abS,@aa9,@acb,@Bool.true_eq_false,@aba,@false_implies,@true_implies,@Bool.not_not,@abP,@JC,@List.set_cons_zero,@List.set_cons_succ,@List.drop_nil,@acr,@List.replicate_zero,@List.replicate_succ,@xm,@xk,@AG,@rB,@List.isEmpty_cons,@Option.map_none,@aaH,@Nat.succ_ne_zero,@List.take_succ_cons,@List.take_zero,@List.drop_succ_cons,@bne_eq_false_iff_eq,@beq_eq_false_iff_ne,@not_true_eq_false,@not_false_eq_true,@acK⟩
inductive Bq:V->Prop
 | val (v:Value):Bq (.val v)
 | bf (cs:List V):(∀ i,i < cs.length->∃ v,cs.getD i .any=.val v)->Bq (.bf cs)
theorem Vm {Z d:Nat->Prop} {μ μ':Mu} {hp b:Array Obj} {t:V} {x:Value} (e:Bq t) (h:aB Z μ hp t x):aB d μ' b t x:=by
 cases e with
 | val=>cases h with | val _ a=>exact .val _ a
 | bf cs f =>
  cases h with
  | bf _ c h1 g =>
   refine .bf _ _ h1 λi hi=>?_
   have:=g i hi
   obtain⟨v,a⟩:=f i hi
   rw[a] at this ⊢
   generalize c.getD i undef=y at this ⊢
   cases this with | val _ a=>exact .val _ a
theorem bU.borrow {P:Program} {f:FuncId} {d vs:List V} {t:V} {h:aE} (q:az P f d t) (r:Bq t) (u:d.length=vs.length)
  (j:∀ i,i < vs.length->Fr h (vs.getD i .any) (d.getD i .any)):bU P f vs h t h:=by
 refine⟨aaM _,λZ μ F w xs c hr k=>?_⟩
 have l:gL (λb=>Z b∨kd μ b) μ w.heap d xs:=⟨by rw[u,c.1],λi hi=>Fh hr (j i (by omega)) (c.2 i (by omega))⟩
 have m:∀ b,(Z b∨kd μ b)->b < w.heap.size:=by
  rintro b (a | ⟨id,o,s,a⟩)
  .exact hr.di b a
  .exact hr.lt _ _ _ _ a
 refine(q _ μ w xs l m).mono ?_
 rintro e w' ⟨x,z,rfl,v,n,A,y,g⟩
 have hm:iB Z Z μ μ w.heap w'.heap:=⟨λ_ h=>h,λb a=>g b (hr.di b a) (λx=>x),λ_ _ h=>h,g.sT⟩
 exact⟨x,Z,μ,rfl,Vm r (v μ),⟨λid=>(hr.obj id).mono hm rfl (λb o s p=>g b (hr.lt _ _ _ _ p) (λx=>x)),hr.inj,λid b o s p=>abd (hr.lt _ _ _ _ p) n.size,λb a=>abd (hr.di b a) n.size,hr.ix⟩,
  ⟨n,hm,λb a _=>g b a (λx=>x),λb a=>.inl a,λ_ _ _ _ h=>.inl h⟩,λ_ _=>rfl⟩
def cR (H:View) (v t:V):Prop:=∀ h:aE,h.view=H->Fr h v t
theorem cR.tree {H:View} {v:V} (h:Tree v):cR H v v:=λ_ _=>.tree _ h
theorem cR.sl {H:View} {id off len esz z:Nat} {es:List (List V)} (hH:H id=.arr z es) (hle:off+len<=es.length) (c:∀ e∈es,∀ v∈e,Tree v) :
  cR H (.sl id off len esz) (.aU ((es.drop off).take len)):=by
 rintro h rfl
 have b:∀ i,i < len->((es.drop off).take len).getD i []=es.getD (off+i) []:=λi hi=>by
  simp[aaA,abX,hi]
 refine .sl id off len esz z es _ hH hle (by simp;omega) (λi hi=>by rw[b i hi]) (λi j hi a=>?_)
 rw[b i hi] at a ⊢
 refine .tree _ ?_
 have h1:off+i < es.length:=by omega
 have d:es.getD (off+i) []=es[off+i]:=by simp[aaA,h1]
 rw[d] at a ⊢
 have f:(es[off+i]).getD j .any=(es[off+i])[j]:=by simp[aaA,a]
 rw[f]
 exact c _ (aaL _) _ (aaL _)
theorem ax.borrow {P:Program} {q:Bool} {f:FuncId} {H:View} {vs c:List V} {K:V->View->Prop} {v:cX (H,K)} {t:V} (d:az P f c t) (a:ed P f=true) (g:Bq t) (j:c.length=vs.length)
  (b:∀ i,i < vs.length->cR H (vs.getD i .any) (c.getD i .any)) (hk:K t H):ax P q f vs H K v:=by
 unfold ax
 cases q with
 | true=>exact⟨a,λh e=>⟨t,h,bU.borrow d g j (λi hi=>b i hi h e),λ_ _=>rfl,e ▸ hk⟩⟩
 | false =>
  refine⟨a,?_⟩
  rintro h rfl
  exact⟨t,h,bU.borrow d g j (λi hi=>b i hi h rfl),.refl _,hk⟩
abbrev gi (x:Int):V:=.val (.int .i64 x)
abbrev gb (x:Bool):V:=.val (.bool x)
abbrev gs (x:ByteArray):V:=.val (.string x)
theorem mixed:(Tryz.prog).follows .mixedOrders=true:=by kernel_rfl
def encI (l:List Int):V:=.aU (l.map λx=>[gi x])
def cI (l:List Bool):V:=.aU (l.map λx=>[gb x])
theorem cx (l:List Int):Tree (encI l):=by
 refine .aU _ λi j hi a=>?_
 simp only[aaJ] at hi
 simp[aaA,hi] at a ⊢
 subst a
 exact .val _
def aK {α:Type} (l:List α):Prop:=l.length < 4611686018427387904
def pF:SC :=
 ae [ae [ab [aa 11 5,aa 12 0,aN 13 12,aQ 14 .lss 11 13],bX 14 (.exit 0)],.block 1 (ae [ab [aa 17 0,aa 18 5,aO 19 1 17 18,ak 20 19,aa 21 1,aa 22 5,aO 23 1 21 22,ak 24 23,aQ 25 .neq 20 24],bb 25 (ae [ab [bB 4 false],.ret])]),ab [aa 15 5,aF 16 .add 15 1,aa 5 16]]
def s8:SF:=⟨ae [ab [bB 4 false],ae [ab [aa 6 0,aN 7 6,aa 8 1,aN 9 8,aQ 10 .neq 7 9],bb 10 (ae [ab [bB 4 false],.ret])],ae [ab [aR 5 0],bZ 0 pF],ab [bB 4 true],.ret],
 [.tmp 4],26⟩
theorem yB:aP Tryz.prog 26 []=some s8:=by kernel_rfl
theorem WU {α:Type} [BEq α] [LawfulBEq α] {a b:List α} (h:a.length≠b.length):(a == b)=false:=by
 simp only[beq_eq_false_iff_ne];intro e;exact h (by rw[e])
theorem XP (a b:List Int) (l:aK a) (H:View):aw Tryz.prog 26 [encI a,encI b] H λr H'=>r=gb (a == b)/\H'=H:=by
 refine aw.of mixed yB ?_
 unfold aK at l
 simp(disch:=omega)only[↓wr,seval,wq,s8,encI]
 apply aj.ne<;>intro h
 .simp(disch:=omega)only[↓wr,seval,wq]
  rw[WU (by omega)]
 .simp(disch:=omega)only[↓wr,seval,wq]
  refine ba.intro (λk T H'=>∃ i:Nat,i+k=a.length/\a.take i=b.take i/\T 0=encI a/\T 1=encI b/\T 5=gi i/\H'=H) a.length ?_ ?_
  .exact⟨0,by omega,by simp,rfl,rfl,rfl,rfl⟩
  .rintro k T H' ⟨i,hk,hi,c,h1,d,rfl⟩
   simp(disch:=omega)only[↓wr,seval,wq,pF,c,h1,d,encI]
   apply aj.dec<;>intro m
   .have g:a[i]?=some (a[i]'(by omega)):=aaB (by omega)
    have j:b[i]?=some (b[i]'(by omega)):=aaB (by omega)
    simp(disch:=omega)only[↓wr,seval,wq,c,h1,d,encI,aaE,g,j,aaH]
    apply aj.ne<;>intro f
    .simp(disch:=omega)only[↓wr,seval,wq]
     have:(a == b)=false:=by
      simp only[beq_eq_false_iff_ne];rintro rfl;exact f rfl
     rw[this]
    .simp(disch:=omega)only[↓wr,seval,wq,c,h1,d,encI]
     refine⟨k - 1,by omega,i+1,by omega,?_,rfl⟩
     rw[aa3,aa3,hi,g,j,f]
   .simp(disch:=omega)only[↓wr,seval,wq,c,h1,d,encI]
    have:a=b:=by
     have e:i=a.length:=by omega
     rw[aaS (by omega),aaS (by omega)] at hi
     exact hi
    rw[this];simp
theorem Xd (a b:List Int) (c:aK a):az Tryz.prog 26 [encI a,encI b] (gb (a == b)) :=
 az.of (by simp[cx]) ((XP a b c _).mono λr H' h d _=>by rw[h.1];exact .tree _ (.val _))
theorem im (l:List Bool):Tree (cI l):=by
 refine .aU _ λi j hi a=>?_
 simp only[aaJ] at hi
 simp[aaA,hi] at a ⊢
 subst a
 exact .val _
end Gv
