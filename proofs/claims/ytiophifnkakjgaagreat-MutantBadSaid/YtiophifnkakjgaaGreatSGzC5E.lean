/-
  Part 5 of the proof: what the machine does and what the functions answer.
  Conditions: those that each lemma names.
-/
import Derived.Test.YtiophifnkakjgaaGreatProg
import Derived.KernelRfl
import Derived.Test.YtiophifnkakjgaaGreatSGzC5D
set_option linter.unusedSimpArgs false
set_option linter.unusedVariables false
set_option maxRecDepth 100000
set_option maxHeartbeats 20000000
namespace Gv
open Go Go.Proofs
noncomputable abbrev aa:Program:=Tryz.prog
section
variable {P:Program} {n:Nat} {all:List Oper}
theorem UR (h:Heap):h.view h.length=.dead:=by simp[Heap.view]
theorem Zg {o:Oper} {T:Env} {h:Heap} {s:SI} {K:V->View->Prop} (g:dW n all T o=some true) (i:∀v eff rd,sI P s T h.view h.length=some (v,eff,rd)->cL P o T h.view h.length=some (v,eff,rd)) (hw:wI P s T h.view K):
  ∃v d rd wr,eC P n all o T h v d rd wr false/\ki h d/\K v d.view/\me (wP P s) rd wr false h.length d.length:=by
 obtain⟨v,eff,rd,e,hk⟩:=YZ hw (UR h)
 have f:=i _ _ _ e
 have a:∀id,id∈eff.wr->h.view id≠.dead:=λid b=>(oO f id b).1
 refine⟨v,eff.apply h,rd,eff.wr,.op g f,?_,?_,?_,?_⟩
 .intro id b c
  rw[k9 a]
  cases eff with
  | none=>exact c
  | new o=>simp only[bo.view,View.set];rw[aaI (by omega)];exact c
  | fJ k o =>
   simp only[bo.view,View.set]
   rw[aaI (by rintro rfl;exact a id (by simp[bo.wr]) c)];exact c
  | eR k o =>
   simp only[bo.view,View.set]
   rw[aaI (by omega)]
   split
   .rfl
   .exact c
 .rw[k9 (λid b=>(oO f id b).1)];exact hk
 .intro j
  obtain⟨rfl,rfl⟩:=(uS e).1 j
  exact⟨rfl,rfl,rfl,rfl⟩
 .intro h1
  rcases abg (wP P s) 1 with l | l
  .obtain⟨rfl,rfl⟩:=(uS e).1 (by omega);rfl
  .exact(uS e).2 (by omega)
theorem Of {P:Program} {fr:Bool} {s:SI} {T:Env} {H:View} {n:Nat} {v:V} {eff:bo} {rd:List Nat} (h:sI P (BC P fr s) T H n=some (v,eff,rd)):sI P s T H n=some (v,eff,rd):=by
 unfold BC at h
 split at h
 .split at h
  .exact U9 h
  .exact h
 .split at h
  .rename_i a
   simp only[aaR] at a
   exact Xd a.2 h
  .exact h
 .exact h
theorem Dx (P:Program) (a:Fz) (o:Oper):
  (∃f args b,o.op=.call { callee:=.value f,args:=args,argTypes:=b }/\(oJ P a o=.call (SX.of f) (args.toList.map SX.of)∨oJ P a o=.qj (SX.of f) (args.toList.map SX.of))) ∨
  (∃t x,o.op=.box t x/\oJ P a o=.op (.kO (SX.of x)))∨(∃s d x,o.op=.convert s d x/\yY P s d=true/\oJ P a o=.op (.hX (SX.of x)))∨oJ P a o=.op (BC P a.fr (comp P o)):=by
 unfold oJ
 split
 .rename_i f args b e
  refine .inl ⟨f,args,b,e,?_⟩
  by_cases g:(match o.dst with | some d=>a.l.contains (200000+d) | none=>false)=true
  .exact .inr (aaL g)
  .exact .inl (aaI g)
 .rename_i t x e
  by_cases c:(match o.dst with | some d=>a.l.contains d | none=>false)=true
  .exact .inr (.inl ⟨t,x,e,aaL c⟩)
  .refine .inr (.inr (.inr ?_))
   refine(aaI c).trans ?_
   simp only[comp,e,BC]
 .rename_i s d x e
  by_cases c:((match o.dst with | some d=>a.l.contains d | none=>false)&&yY P s d)=true
  .exact .inr (.inr (.inl ⟨s,d,x,e,by simp only[aaR] at c;exact c.2,aaL c⟩))
  .exact .inr (.inr (.inr (aaI c)))
 .exact .inr (.inr (.inr rfl))
theorem eC.len {o:Oper} {T:Env} {h a:Heap} {v:V} {rd wr:List Nat} {call:Bool} (st:eC P n all o T h v a rd wr call):h.length<=a.length:=by
 cases st with
 | skip=>exact aaQ _
 | op _ _=>rename_i eff _ _ ;cases eff<;>simp[bo.apply]
 | kO _ _ _=>exact aaQ _
 | hX _ _ _ _ _ _=>exact aaQ _
 | call _ _ _ _ b _ _=>exact b.1
theorem XJ {q:Fz} {o:Oper} {T:Env} {h:Heap} {quiet:Bool} {K:V->View->Prop} (l:dW n all T o=some true) (hw:wB P quiet (oJ P q o) T h.view K):
  ∃v b rd wr call,eC P n all o T h v b rd wr call/\ki h b/\K v b.view/\me (jU P quiet (oJ P q o)) rd wr call h.length b.length:=by
 rcases Dx P q o with ⟨f,args,C,k,j | j⟩ | ⟨t,x,k,j⟩ | ⟨s,d,x,k,u,j⟩ | j
 rotate_left
 .rw[j] at hw ⊢
  simp only[wB] at hw
  split at hw
  .rename_i g first cap m
   rw[Ex] at hw
   rw[SX.dh] at m
   obtain⟨c,i⟩:=hw
   obtain⟨r,b,hr,hold,hk⟩:=i h rfl
   refine⟨r,b,[],[],true,.call l k m c hr (λid a _=>hold id a) (λid a=>by simp at a),λid a w=>(hold id a).trans w,hk,?_,?_⟩
   .intro p;simp[jU] at p
   .intro _;rfl
  .exact hw.elim
 rotate_right
 .rw[j] at hw ⊢
  simp only[wB] at hw
  split at hw
  .rename_i g first cap m
   rw[Ex] at hw
   rw[SX.dh] at m
   split at hw
   .rename_i y
    obtain⟨c,i⟩:=hw
    obtain⟨r,b,hr,hold,hk⟩:=i h rfl
    refine⟨r,b,[],[],true,.call l k m c hr (λid a _=>hold id a) (λid a=>by simp at a),λid a w=>(hold id a).trans w,hk,?_,?_⟩
    .intro p;simp[jU,y] at p
    .intro _;rfl
   .rename_i y
    obtain⟨c,i⟩:=hw
    obtain⟨r,b,hr,z,hk⟩:=i h rfl
    refine⟨r,b,[],List.range h.length,true,.call l k m c hr (λid a D=>?_) (λid a=>by simpa using a),z,hk,WG (by simp[jU,y])⟩
    exact absurd (by simpa using a) D
  .exact hw.elim
 .rw[j] at hw ⊢
  simp only[wB,wI,SX.dh] at hw
  exact⟨_,h,[],[],false,.kO l k hw.1,.refl _,hw.2,λ_=>⟨rfl,rfl,rfl,rfl⟩,λ_=>rfl⟩
 .rw[j] at hw ⊢
  simp only[wB,wI,SX.dh] at hw
  obtain⟨e,h1,A,B⟩:=C4 u
  split at hw
  .rename_i st E
   exact⟨_,h,[],[],false,.hX l k h1 A B E,.refl _,hw,λ_=>⟨rfl,rfl,rfl,rfl⟩,λ_=>rfl⟩
  .exact hw.elim
 .rw[j] at hw ⊢
  obtain⟨v,b,rd,wr,h1,p,A,B⟩:=Zg (s:=BC P q.fr (comp P o)) l (λv eff rd F=>OA (Of F)) hw
  exact⟨v,b,rd,wr,false,h1,p,A,B⟩
def gX (P:Program) (quiet:Bool) (l:List SO) (recs:List Rec):Prop:=
 l.length=recs.length/\∀(i:Nat) (s:SO) (r:Rec),l[i]?=some s->recs[i]?=some r->me (jU P quiet s.b) r.rd r.wr r.call r.lo r.hi
theorem gX.nil {quiet:Bool} : gX P quiet [] []:=⟨rfl,λi s r h=>by simp at h⟩
theorem gX.cons {quiet:Bool} {l:List SO} {a:List Rec} {s:SO} {r:Rec} (h:gX P quiet l a) (hr:me (jU P quiet s.b) r.rd r.wr r.call r.lo r.hi):gX P quiet (s::l) (r::a):=by
 refine⟨by simp[h.1],λi e f d c=>?_⟩
 cases i with
 | zero=>simp at d c;subst d c;exact hr
 | succ i=>exact h.2 i e f (by simpa using d) (by simpa using c)
theorem gX.append {quiet:Bool} {l l':List SO} {b a:List Rec} (h:gX P quiet l b) (d:gX P quiet l' a):gX P quiet (l++l') (b++a):=by
 refine⟨by simp[h.1,d.1],λi s r c hr=>?_⟩
 by_cases hi:i<l.length
 .rw[abf hi] at c
  rw[abf (h.1▸hi)] at hr
  exact h.2 i s r c hr
 .rw[abN (by omega)] at c
  rw[abN (by have:=h.1;omega)] at hr
  exact d.2 (i-l.length) s r c (by rw[h.1];exact hr)
theorem wa {a:Fz} {o:Oper} {s:SO} (h:JH P n all a o=some s):uF n o=true/\s.dst=o.dst/\s.b=oJ P a o/\yW n all o=some s.guard:=by
 unfold JH at h
 split at h
 .rename_i c
  simp only[aaT] at h
  obtain⟨g,d,rfl⟩:=h
  exact⟨c,rfl,rfl,d⟩
 .simp at h
theorem ED {o:Oper} {T:Env} (h:yW n all o=some none):dW n all T o=some true:=by
 unfold yW at h
 unfold dW
 split at h
 .rename_i a;rw[a]
 .split at h
  .split at h
   .simp at h
   .simp at h
  .simp at h
theorem mW {o:Oper} {T:Env} {d:Nat} {want:Bool} (h:yW n all o=some (some (d,want))):
  (∀b,T d=.val (.bool b)->dW n all T o=some (b==want))/\(T d=.bb []->dW n all T o=some false):=by
 unfold yW at h
 unfold dW
 split at h
 .simp at h
 .rename_i j w e
  rw[e]
  split at h
  .rename_i g f
   split at h
   .rename_i a
    simp at h
    obtain⟨rfl,rfl⟩:=h
    simp only[f,a,if_true]
    exact⟨λb c=>by rw[c],λc=>by rw[c]⟩
   .simp at h
  .simp at h
theorem mR {a:Fz} {os:List Oper} (h:eh P n all a os=some []):os=[]:=by
 cases os with
 | nil=>rfl
 | cons o r =>
  simp only[eh] at h
  split at h<;>simp at h
theorem nZ {a:Fz} {os:List Oper} {s:SO} {l:List SO} (h:eh P n all a os=some (s::l)):∃o r,os=o::r/\JH P n all a o=some s/\eh P n all a r=some l:=by
 cases os with
 | nil=>simp[eh] at h
 | cons o r =>
  simp only[eh] at h
  split at h
  .rename_i c l' h1 b
   simp at h
   obtain⟨rfl,rfl⟩:=h
   exact⟨o,r,rfl,h1,b⟩
  .simp at h
theorem tV {c:Fz}:∀ {l l':List SO} {os:List Oper},eh P n all c os=some (l++l')->∃a b,os=a++b/\eh P n all c a=some l/\eh P n all c b=some l'
 | [],l',os,h=>⟨[],os,rfl,rfl,h⟩
 | s::l,l',os,h=>by
  obtain⟨o,r,rfl,h1,d⟩:=nZ h
  obtain⟨a,b,rfl,e,f⟩:=tV d
  exact⟨o::a,b,rfl,by simp[eh,h1,e],f⟩
theorem Tr.append {a b:List Oper} {T c d:Env} {h h1 e:Heap} {f g:List Rec} (x:Tr P n all a T h f c h1) (y:Tr P n all b c h1 g d e):Tr P n all (a++b) T h (f++g) d e:=by
 induction x with
 | nil=>exact y
 | cons st i _ j=>exact .cons st i (j y)
theorem Ek {T:Env} {d:Nat} {v:V} (h:T d=v):T.put (some d) v=T:=by
 funext t
 simp only[Env.put]
 split
 .rename_i e;subst e;exact h.symm
 .rfl
theorem KB {E:Fz} {quiet:Bool} {K:Env->View->Prop} (g:Option (Nat × Bool)):∀(l:List (Option Nat × SB)) (os:List Oper) (T:Env) (h:Heap),
  eh P n all E os=some (l.map λ(d,b)=>⟨d,g,b⟩)->(∀d w,g=some (d,w)->T d=.val (.bool w)/\(l.all λx=>x.1 != some d)=true)->Cl P quiet l T h.view K ->
  ∃a m j,Tr P n all os T h a m j/\(ki h j/\h.length<=j.length)/\K m j.view/\gX P quiet (l.map λ(d,b)=>⟨d,g,b⟩) a
 | [],os,T,h,q,s,hw=>by
  have:=mR q;subst this
  exact⟨[],T,h,.nil,⟨.refl _,aaQ _⟩,hw,.nil⟩
 | (d,b)::l,os,T,h,q,s,hw=>by
  obtain⟨o,r,rfl,h1,F⟩:=nZ q
  obtain⟨G,k,f,i⟩:=wa h1
  simp only at k f i
  have u:dW n all T o=some true:=by
   cases g with
   | none=>exact ED i
   | some p =>
    obtain⟨y,w⟩:=p
    have:=(mW (T:=T) i).1 w (s y w rfl).1
    rw[this];simp
  simp only[Cl] at hw
  rw[f] at hw
  obtain⟨v,j,rd,wr,call,st,z,hk,H⟩:=XJ u hw
  obtain⟨a,m,A,D,c,B,C⟩:=KB g l r (T.put d v) j F (λy w e=>by
   have:=s y w e
   simp only[abT,aaR,bne_iff_ne,ne_eq] at this
   refine⟨?_,this.2.2⟩
   rw[<-this.1]
   cases d with
   | none=>rfl
   | some t=>simp only[Env.put];rw[aaI];intro e;subst e;exact this.2.1 rfl) hk
  rw[k] at D
  have hlen:=st.len
  exact⟨_,m,A,.cons st G D,⟨z.trans c.1 hlen,abz hlen c.2⟩,B,C.cons (by rw[f];exact H)⟩
theorem Hc {v:Fz} {quiet:Bool} (d:Nat) (w:Bool) (h:Heap):∀(l:List (Option Nat × SB)) (os:List Oper) (T:Env),
  eh P n all v os=some (l.map λ(c,b)=>⟨c,some (d,w),b⟩)->(T d=.val (.bool !w)∨T d=.bb [])->(l.all λx=>x.1 != some d)=true ->
  ∃a,Tr P n all os T h a (jK l T) h/\gX P quiet (l.map λ(c,b)=>⟨c,some (d,w),b⟩) a
 | [],os,T,k,f,j=>by
  have:=mR k;subst this
  exact⟨[],.nil,.nil⟩
 | (c,b)::l,os,T,k,f,j=>by
  obtain⟨o,r,rfl,h1,y⟩:=nZ k
  obtain⟨m,g,p,i⟩:=wa h1
  simp only at g p i
  have q:dW n all T o=some false:=by
   rcases f with f | f
   .rw[(mW (T:=T) i).1 _ f];cases w<;>rfl
   .exact(mW (T:=T) i).2 f
  simp only[abT,aaR,bne_iff_ne,ne_eq] at j
  obtain⟨a,u,s⟩:=Hc d w h l r (T.put c (.bb [])) y (by
   have:(T.put c (.bb [])) d=T d:=by
    cases c with
    | none=>rfl
    | some t=>simp only[Env.put];rw[aaI];intro e;subst e;exact j.1 rfl
   rw[this];exact f) j.2
  rw[g] at u
  refine⟨_,?_,s.cons (r:=⟨[],[],false,h.length,h.length⟩) ⟨λ_=>⟨rfl,rfl,rfl,rfl⟩,λ_=>rfl⟩⟩
  have:=Tr.cons (.skip q) m u
  rw[jK,g]
  exact this
theorem Zj {p:Fz} {quiet:Bool} {K:Env->View->Prop} {g:SG} {os:List Oper} {T:Env} {h:Heap} (f:eh P n all p os=some g.flat) (c:wm g=true) (hw:wG P quiet g T h.view K):
  ∃a o k,Tr P n all os T h a o k/\(ki h k/\h.length<=k.length)/\K o k.view/\gX P quiet g.flat a:=by
 unfold wG at hw
 unfold SG.flat at f ⊢
 unfold wm at c
 split at hw
 .rename_i l
  rw[l] at f ⊢
  exact KB none g.ops os T h f (λd w e=>by simp at e) hw
 .rename_i d want l
  rw[l] at f c ⊢
  simp only at c
  split at hw
  .rename_i b j
   by_cases e:b=want
   .subst e
    have:=hw.1 rfl
    rw[Ek j] at this
    exact KB (some (d,b)) g.ops os T h f (λq w e=>by simp at e;obtain⟨rfl,rfl⟩:=e;exact⟨j,c⟩) this
   .have e':b = !want:=by cases b<;>cases want<;>simp_all
    have:=hw.2 e'
    subst e'
    rw[Ek j] at this
    obtain⟨a,m,i⟩:=Hc (quiet:=quiet) d want h g.ops os T f (.inl j) c
    exact⟨a,_,h,m,⟨.refl _,aaQ _⟩,this,i⟩
  .rename_i j
   obtain⟨a,m,i⟩:=Hc (quiet:=quiet) d want h g.ops os T f (.inr j) c
   exact⟨a,_,h,m,⟨.refl _,aaQ _⟩,hw,i⟩
  .exact hw.elim
theorem BI {s:Fz} {quiet:Bool} {K:Env->View->Prop}:∀(gs:List SG) (os:List Oper) (T:Env) (h:Heap),eh P n all s os=some (mV gs)->gs.all wm=true->AI P quiet gs T h.view K ->
  ∃c r e,Tr P n all os T h c r e/\(ki h e/\h.length<=e.length)/\K r e.view/\gX P quiet (mV gs) c
 | [],os,T,h,f,_,hw=>by
  have:=mR f;subst this
  exact⟨[],T,h,.nil,⟨.refl _,aaQ _⟩,hw,.nil⟩
 | g::gs,os,T,h,f,d,hw=>by
  simp only[mV,aba,List.flatten_cons] at f ⊢
  simp only[abT,aaR] at d
  obtain⟨a,b,rfl,h1,t⟩:=tV f
  obtain⟨w,u,i,j,st1,k,l⟩:=Zj h1 d.1 hw
  obtain⟨x,v,m,o,st2,p,q⟩:=BI gs b u i t d.2 k
  exact⟨_,v,m,j.append o,⟨st1.1.trans st2.1 st1.2,abz st1.2 st2.2⟩,p,l.append q⟩
theorem Tr.at_ {os:List Oper} {T g:Env} {h j:Heap} {b:List Rec} (k:Tr P n all os T h b g j):∀(i:Nat) (o:Oper),os[i]?=some o ->
  ∃c h1 v e rd wr call a,b[i]?=some ⟨rd,wr,call,h1.length,e.length⟩/\eC P n all o c h1 v e rd wr call/\h.length<=h1.length/\Tr P n all (os.drop (i+1)) (c.put o.dst v) e a g j/\(∀m,a[m]?=b[i+1+m]?) /\
   (∀t,(∀l∈os.take i,l.dst≠some t)->c t=T t):=by
 induction k with
 | nil=>intro i o hi;simp at hi
 | @cons o0 rest T g h h1 j v rd wr call b st D k s =>
  intro i o hi
  cases i with
  | zero =>
   simp at hi;subst hi
   exact⟨T,h,v,h1,rd,wr,call,b,rfl,st,aaQ _,by simpa using k,λm=>by rw[show 0+1+m=m+1 by omega,abv],λt _=>rfl⟩
  | succ i =>
   simp at hi
   obtain⟨c,e,v2,u,p,YL,call2,a,w,x,y,z,A,B⟩:=s i o hi
   have hlen:h.length<=h1.length:=by
    cases st with
    | skip=>exact aaQ _
    | op _ _=>rename_i eff _ _;cases eff<;>simp[bo.apply]
    | kO _ _ _=>exact aaQ _
    | hX _ _ _ _ _ _=>exact aaQ _
    | call _ _ _ _ C _ _=>exact C.1
   refine⟨c,e,v2,u,p,YL,call2,a,by simpa using w,x,abz hlen y,by simpa using z,λm=>?_,λt q=>?_⟩
   .rw[A,show i+1+1+m=(i+1+m)+1 by omega,abv]
   .simp only[acP,aa1] at q
    rw[B t λl r=>q l (.inr r)]
    have:=q o0 (.inl rfl)
    cases f:o0.dst with
    | none=>rfl
    | some d=>simp only[Env.put];rw[aaI];rintro rfl;exact this f
theorem Qp {o:Oper} {T:Env} {h g:Heap} {v:V} {rd wr:List Nat} {call:Bool} (st:eC P n all o T h v g rd wr call) (b:DT o=true) (i:o.guard=none):v=.ptr h.length 0 0:=by
 unfold DT at b
 have d:dW n all T o=some true:=by unfold dW;rw[i]
 cases st with
 | skip f=>rw[d] at f;simp at f
 | op _ a =>
  split at b
  .rename_i e c
   simp only[cL,c] at a
   split at a
   .unfold nP at a
    split at a
    .simp at a;exact a.1.symm
    .simp at a
   .simp at a
  .simp at b
 | kO _ c _=>rw[c] at b;simp at b
 | hX _ c _ _ _ _=>rw[c] at b;simp at b
 | call _ c _ _ _ _ _=>rw[c] at b;simp at b
theorem Px {o:Oper} {T:Env} {h g:Heap} {v:V} {rd wr:List Nat} {call:Bool} {t id i j:Nat} (st:eC P n all o T h v g rd wr call) (c:mJ o=some t) (k:T t=.ptr id i j):wr=[id]/\call=false:=by
 unfold mJ at c
 split at c
 .rename_i ty l x d m
  simp at c;subst c
  have e:dW n all T o=some true:=by unfold dW;rw[m]
  cases st with
  | skip f=>rw[e] at f;simp at f
  | op _ b =>
   have p:ev T (.tmp l)=.ptr id i j:=k
   simp only[cL,d,p,s8] at b
   split at b
   .split at b
    .simp only[aaK,aaN] at b
     obtain⟨_,he,_⟩:=b
     rw[<-he];exact⟨rfl,rfl⟩
    .simp at b
   .simp at b
  | kO _ a _=>rw[d] at a;simp at a
  | hX _ a _ _ _ _=>rw[d] at a;simp at a
  | call _ a _ _ _ _ _=>rw[d] at a;simp at a
 .simp at c
theorem QW {o:Oper} {T:Env} {h g:Heap} {v:V} {rd wr:List Nat} {call:Bool} (st:eC P n all o T h v g rd wr call) (d:GR o=true):wr=[]/\call=false/\∀id,id∈rd->id<h.length:=by
 unfold GR at d
 cases st with
 | skip _=>exact⟨rfl,rfl,λid c=>by simp at c⟩
 | op _ b =>
  split at d
  .rename_i e a f
   simp only[cL,f,oG] at b
   split at b
   .rename_i id i j l
    split at b
    .rename_i z es hH
     split at b
     .simp only[aaT] at b
      obtain⟨_,_,b⟩:=b
      simp at b
      obtain⟨_,rfl,rfl⟩:=b
      refine⟨rfl,rfl,λk c=>?_⟩
      simp at c;subst c
      exact fa (by rw[hH];simp)
     .simp at b
    .simp at b
   .simp only[aaT] at b
    obtain⟨_,_,b⟩:=b
    simp at b
    obtain⟨_,rfl,rfl⟩:=b
    exact⟨rfl,rfl,λid c=>by simp at c⟩
   .simp at b
  .simp at d
 | kO _ f _=>rw[f] at d;simp at d
 | hX _ f _ _ _ _=>rw[f] at d;simp at d
 | call _ f _ _ _ _ _=>rw[f] at d;simp at d
theorem zd {T G:Env} {h H:Heap} {e:List Rec} (I:Tr P n all all T h e G H) {i k:Nat} {a b:Rec} (hp:CN all i k=true) (g:e[i]?=some a) (J:e[k]?=some b):qo a b:=by
 unfold CN at hp
 split at hp
 .rename_i K L l m
  rw[aaR] at hp
  obtain⟨M,hp⟩:=hp
  split at hp
  .rename_i t o
   rw[abU] at hp
   obtain⟨j,N,hp⟩:=hp
   rw[abH] at N
   rw[aaR,aaX] at hp
   obtain⟨O,c⟩:=hp
   unfold Yd at c
   split at c
   .rename_i Q p
    simp only[aaR,abJ,abc,bne_iff_ne,ne_eq,Option.isNone_iff_eq_none] at c
    obtain⟨⟨⟨R,S⟩,U⟩,V⟩:=c
    obtain⟨T1,h1,v1,W,X,Zt,c1,q,D,E,e3,Y,Z,_⟩:=I.at_ i K l
    obtain⟨Tj,r,vj,ab,ae,al,cj,s,f1,f2,f3,f4,f5,_⟩:=Y.at_ (j-(i+1)) Q (by rw[ab5,show i+1+(j-(i+1))=j by omega];exact p)
    have u:(all.drop (i+1)).drop (j-(i+1)+1)=all.drop (j+1):=by rw[List.drop_drop];congr 1;omega
    rw[u] at f4
    obtain⟨Tk,v,vk,w,x,y,ck,z,g1,g2,g3,_,_,g6⟩:=f4.at_ (k-(j+1)) L (by rw[ab5,show j+1+(k-(j+1))=k by omega];exact m)
    rw[g] at D
    have A:=(acT D)
    have f:e[k]?=some ⟨x,y,ck,v.length,w.length⟩:=by
     rw[<-g1,f5,Z];congr 1;omega
    rw[J] at f
    have f:=acT f
    have hv:=Qp f2 U S
    have B:Tk t=.ptr r.length 0 0:=by
     rw[g6 t λo' C=>V o' C,R,hv]
     simp[Env.put]
    obtain⟨s1,s2⟩:=Px g2 o B
    obtain⟨F,l2,l3⟩:=QW E M
    rw[A,f]
    have hlen:h1.length<=W.length:=by
     cases E with
     | skip=>exact aaQ _
     | op _ _=>rename_i eff _ _;cases eff<;>simp[bo.apply]
     | kO _ _ _=>exact aaQ _
     | hX _ _ _ _ _ _=>exact aaQ _
     | call _ _ _ _ g _ _=>exact g.1
    refine⟨λid d=>by simp[F] at d,λid d=>?_,λhc=>by simp[l2] at hc,λ_=>F,λid d=>?_⟩
    .simp only[s1,abF] at d
     subst d
     intro hr
     have:=l3 _ hr
     omega
    .simp only[s1,abF] at d
     subst d
     simp only
     omega
   .simp at c
  .simp at hp
 .simp at hp
theorem VK {ls:List Nat} {d:List Rec} {T t:Env} {hp g:Heap} (u:Tr P n all all T hp d t g) (h:JI all ls=true) (y:ls.length=d.length) (hr:∀(i x:Nat) (r:Rec),ls[i]?=some x->d[i]?=some r->me x r.rd r.wr r.call r.lo r.hi):xx all d:=by
 intro i k a b j l m v
 have hi:i<d.length:=(aaO.1 l).1
 have hk:k<d.length:=(aaO.1 m).1
 unfold JI at h
 simp only[abc] at h
 have h1:=h (ls[i]'(by omega),i) (by rw[abG];simp[aaH (show i<ls.length by omega)])
  (ls[k]'(by omega),k) (by rw[abG];simp[aaH (show k<ls.length by omega)])
 have q:=hr i _ a (aaH (by omega)) l
 have s:=hr k _ b (aaH (by omega)) m
 simp only[j,decide_true,acN,v,acM,acv,abJ,aaR,aaX] at h1
 rcases h1 with ((h1 | h1) | h1) | h1
 .obtain⟨f,e,o,w⟩:=q.1 h1
  exact⟨λid c=>by simp[e] at c,λid _=>by simp[f],λp=>by simp[o] at p,λ_=>e,λid _ z=>by omega⟩
 .obtain⟨f,e,o,w⟩:=s.1 h1
  exact⟨λid _=>by simp[f],λid c=>by simp[e] at c,λ_=>e,λp=>by simp[o] at p,λid c=>by simp[e] at c⟩
 .have f:=q.2 h1.1
  have e:=s.2 h1.2
  exact⟨λid c=>by simp[f] at c,λid c=>by simp[e] at c,λ_=>e,λ_=>f,λid c=>by simp[e] at c⟩
 .exact zd u h1 l m
theorem Tr.keep {os:List Oper} {T c:Env} {h e:Heap} {a:List Rec} (f:Tr P n all os T h a c e) {t:Nat} (g:∀o∈os,o.dst≠some t):c t=T t:=by
 induction f with
 | nil=>rfl
 | @cons o0 rest T c h h1 e v rd wr call a st k f i =>
  rw[i λo j=>g o (by simp[j])]
  have:=g o0 (by simp)
  cases b:o0.dst with
  | none=>rfl
  | some d=>simp only[Env.put];rw[aaI];rintro rfl;exact this b
theorem zR {o:Oper} {T:Env} {h g:Heap} {v:V} {rd wr:List Nat} {call:Bool} {t:Nat} (st:eC P n all o T h v g rd wr call) (d:uZ o=some t):wr=[]/\call=false/\g.length=h.length/\∀id,id∈rd->∃i j,T t=.ptr id i j:=by
 unfold uZ at d
 split at d
 .rename_i e m f
  simp at d;subst d
  cases st with
  | skip _=>exact⟨rfl,rfl,rfl,λid c=>by simp at c⟩
  | op _ a =>
   simp only[cL,f,oG] at a
   split at a
   .rename_i id i j k
    split at a
    .split at a
     .simp only[aaT] at a
      obtain⟨_,_,a⟩:=a
      simp at a
      obtain⟨_,rfl,rfl⟩:=a
      refine⟨rfl,rfl,rfl,λl c=>?_⟩
      simp at c;subst c
      exact⟨i,j,k⟩
     .simp at a
    .simp at a
   .simp only[aaT] at a
    obtain⟨_,_,a⟩:=a
    simp at a
    obtain⟨_,rfl,rfl⟩:=a
    exact⟨rfl,rfl,rfl,λid c=>by simp at c⟩
   .simp at a
  | kO _ b _=>rw[f] at b;simp at b
  | hX _ b _ _ _ _=>rw[f] at b;simp at b
  | call _ b _ _ _ _ _=>rw[f] at b;simp at b
 .simp at d
theorem zx {i t:Nat} (h:stays all i t=true):∀o∈all.drop i,o.dst≠some t:=by
 intro o a
 have:=abc.1 h o a
 simpa using this
theorem DQ {a:List (Nat × Nat)} {T:Env} {K:Prop} (b:AW a T K):∀p∈a,jE (T p.1) (T p.2):=by
 induction a with
 | nil=>intro p hp;simp at hp
 | cons q l c =>
  intro p hp
  rcases aa1.1 hp with rfl | hp
  .exact b.1
  .exact c b.2 p hp
theorem AW.rest {a:List (Nat × Nat)} {T:Env} {K:Prop} (b:AW a T K):K:=by
 induction a with
 | nil=>exact b
 | cons q l c=>exact c b.2
theorem tf {T l:Env} {h m:Heap} {a:List Rec} (p:Tr P n all all T h a l m) {i t:Nat} {o:Oper} (j:all[i]?=some o) (q:stays all i t=true) {r:Rec} (hr:a[i]?=some r):
  ∃e h1 v f,eC P n all o e h1 v f r.rd r.wr r.call/\r.lo=h1.length/\r.hi=f.length/\e t=l t:=by
 obtain⟨e,h1,v,f,rd,wr,call,k,g,s,x,u,y,z⟩:=p.at_ i o j
 rw[hr] at g
 have g:=acT g
 subst g
 refine⟨e,h1,v,f,s,rfl,rfl,?_⟩
 have hk:=zx q
 have hi:i<all.length:=(aaO.1 j).1
 have b:all[i]=o:=(aaO.1 j).2
 rw[abt hi,b] at hk
 rw[u.keep λw b=>hk w (by simp[b])]
 have:=hk o (by simp)
 cases c:o.dst with
 | none=>rfl
 | some d=>simp only[Env.put];rw[aaI];rintro rfl;exact this c
theorem CG {i a b j c d:Nat} (h:jE (.ptr i a b) (.ptr j c d)):i≠j:=h
theorem Ga {i a b j c d e:Nat} (h:jE (.ptr i a b) (.sl j c d e)):i≠j:=h
theorem uu {o:Oper} {T:Env} {h q:Heap} {v:V} {rd wr:List Nat} {call:Bool} {t:Nat} (st:eC P n all o T h v q rd wr call) (g:sj o=some t):
  call=false/\∀id,id∈wr->(∃i j,T t=.ptr id i j)∨∃a b c,T t=.sl id a b c:=by
 unfold sj at g
 split at g
 .rename_i w m
  simp at g;subst g
  unfold mJ at m
  split at m
  .rename_i ty t2 x k r
   simp at m;subst m
   cases st with
   | skip _=>exact⟨rfl,λid f=>by simp at f⟩
   | op _ d =>
    simp only[cL,k,s8] at d
    split at d
    .rename_i id i j p
     split at d
     .split at d
      .simp only[aaK,aaN] at d
       obtain⟨_,he,_⟩:=d
       rw[<-he]
       refine⟨rfl,λl f=>?_⟩
       simp[bo.wr] at f;subst f
       exact .inl ⟨i,j,p⟩
      .simp at d
     .simp at d
    .simp at d
   | kO _ e _=>rw[k] at e;simp at e
   | hX _ e _ _ _ _=>rw[k] at e;simp at e
   | call _ e _ _ _ _ _=>rw[k] at e;simp at e
  .simp at m
 .unfold SA at g
  split at g
  .rename_i args s k r
   split at g
   .rename_i t2 y u
    simp at g;subst g
    cases st with
    | skip _=>exact⟨rfl,λid f=>by simp at f⟩
    | op _ d =>
     simp only[cL,k,u] at d
     split at d
     .unfold pC at d
      split at d
      .split at d
       .simp at d
       .split at d
        .split at d<;>first | (simp only[aaK,aaN] at d;obtain⟨_,he,_⟩:=d;rw[<-he];exact⟨rfl,λl f=>by simp[bo.wr] at f⟩) | simp at d
        .split at d
         .simp at d
         .split at d
          .split at d
           .simp only[aaK,aaN] at d
            obtain⟨_,he,_⟩:=d
            rw[<-he];exact⟨rfl,λl f=>by simp[bo.wr] at f⟩
           .simp at d
          .rename_i id off len esz p
           split at d
           .split at d
            .simp only[aaK,aaN] at d
             obtain⟨_,he,_⟩:=d
             rw[<-he]
             refine⟨rfl,λl f=>?_⟩
             simp[bo.wr] at f;subst f
             exact .inr ⟨off,len,esz,p⟩
            .simp at d
           .simp at d
          .simp at d
      .simp at d
     .split at d
      .unfold uD at d
       repeat' (split at d)
       all_goals first | (simp only[aaK,aaN] at d;obtain⟨_,he,_⟩:=d;rw[<-he];exact⟨rfl,λl f=>by simp[bo.wr] at f⟩) | simp at d
      .simp at d
    | kO _ e _=>rw[k] at e;simp at e
    | hX _ e _ _ _ _=>rw[k] at e;simp at e
    | call _ e _ _ _ _ _=>rw[k] at e;simp at e
   .simp at g
  .simp at g
theorem UH {o:Oper} {T:Env} {h g:Heap} {v:V} {rd wr:List Nat} {call:Bool} (st:eC P n all o T h v g rd wr call) (b:K4 o=true):rd=[]/\wr=[]/\call=false:=by
 unfold K4 at b
 cases st with
 | skip _=>exact⟨rfl,rfl,rfl⟩
 | op _ a =>
  split at b
  .rename_i ty len parts c
   simp only[cL,c,jh] at a
   have key:∀ {x:Option (V × bo × List Nat)} {e:bo},x=some (v,e,rd)->(∀y,x=some y->y.2.1.wr=[]/\y.2.2=[])->rd=[]/\e.wr=[]:=λf d=>⟨(d _ f).2,(d _ f).1⟩
   obtain⟨i,k2⟩:=key a (by
    intro y d
    repeat' (first | (split at d)|(simp only[aaK] at d;subst d;exact⟨rfl,rfl⟩)|(simp at d;done)))
   exact⟨i,k2,rfl⟩
  .rename_i e c
   simp only[cL,c] at a
   split at a
   .unfold nP at a
    split at a
    .simp only[aaK,aaN] at a
     obtain⟨_,he,hr⟩:=a
     rw[<-he,<-hr];exact⟨rfl,rfl,rfl⟩
    .simp at a
   .simp at a
  .simp at b
 | kO _ c _=>rw[c] at b;simp at b
 | hX _ c _ _ _ _=>rw[c] at b;simp at b
 | call _ c _ _ _ _ _=>rw[c] at b;simp at b
theorem yx {o:Oper} {t:Nat} (h:mJ o=some t):sj o=some t:=by unfold sj;rw[h]
theorem Sv {T w:Env} {h Q:Heap} {l:List Rec} (u:Tr P n all all T h l w Q) {i k:Nat} {a b:Rec} {p:Nat × Nat} (hp:E2 all i k=some p) (j:jE (w p.1) (w p.2)) (N:l[i]?=some a) (O:l[k]?=some b):qo a b:=by
 unfold E2 at hp
 split at hp
 .rename_i Z ob q r
  split at hp
  .rename_i s t x y
   split at hp
   .rename_i g
    simp only[aaR] at g
    simp at hp;subst hp
    obtain⟨z,A,R,B,C,D,E,F⟩:=tf u q g.1 N
    obtain⟨Tb,G,S,H,I,_,_,J⟩:=tf u r g.2 O
    obtain⟨o,K,U,L⟩:=zR C x
    have j:jE (z s) (Tb t):=by rw[F,J];exact j
    refine⟨λid f=>by simp[o] at f,λid f hr=>?_,λv=>by simp[K] at v,λ_=>o,λid _ hx=>by omega⟩
    obtain⟨V,W,M⟩:=L id hr
    rw[M] at j
    rcases (uu I (yx y)).2 id f with ⟨c,d,m⟩ | ⟨c,d,e,m⟩
    .rw[m] at j;exact CG j rfl
    .rw[m] at j;exact Ga j rfl
   .simp at hp
  .split at hp
   .rename_i t s y x
    split at hp
    .rename_i g
     simp only[aaR] at g
     simp at hp;subst hp
     obtain⟨z,A,R,B,C,D,E,F⟩:=tf u q g.1 N
     obtain⟨Tb,G,S,H,I,X,Y,J⟩:=tf u r g.2 O
     obtain⟨o,K,U,L⟩:=zR I x
     have j:jE (Tb s) (z t):=by rw[F,J];exact j
     refine⟨λid f hr=>?_,λid f=>by simp[o] at f,λv=>o,λv=>by simp[K] at v,λid f=>by simp[o] at f⟩
     obtain⟨V,W,M⟩:=L id hr
     rw[M] at j
     rcases (uu C (yx y)).2 id f with ⟨c,d,m⟩ | ⟨c,d,e,m⟩
     .rw[m] at j;exact CG j rfl
     .rw[m] at j;exact Ga j rfl
    .simp at hp
   .simp at hp
 .simp at hp
theorem QG {T w:Env} {h Q:Heap} {l:List Rec} (u:Tr P n all all T h l w Q) {i k:Nat} {a b:Rec} {p:Nat × Nat} (hp:Hv all i k=some p) (j:jE (w p.1) (w p.2)) (N:l[i]?=some a) (O:l[k]?=some b):qo a b:=by
 unfold Hv at hp
 split at hp
 .rename_i Z ob q r
  split at hp
  .rename_i s t x y
   split at hp
   .rename_i g
    simp only[aaR] at g
    simp at hp;subst hp
    obtain⟨z,A,R,B,C,D,E,F⟩:=tf u q g.1 N
    obtain⟨Tb,G,S,H,I,_,_,J⟩:=tf u r g.2 O
    obtain⟨o,K,U,L⟩:=zR C x
    have j:jE (z s) (Tb t):=by rw[F,J];exact j
    refine⟨λid f=>by simp[o] at f,λid f hr=>?_,λv=>by simp[K] at v,λ_=>o,λid _ hx=>by omega⟩
    obtain⟨V,W,M⟩:=L id hr
    rw[M] at j
    rcases (uu I y).2 id f with ⟨c,d,m⟩ | ⟨c,d,e,m⟩
    .rw[m] at j;exact CG j rfl
    .rw[m] at j;exact Ga j rfl
   .simp at hp
  .split at hp
   .rename_i t s y x
    split at hp
    .rename_i g
     simp only[aaR] at g
     simp at hp;subst hp
     obtain⟨z,A,R,B,C,D,E,F⟩:=tf u q g.1 N
     obtain⟨Tb,G,S,H,I,X,Y,J⟩:=tf u r g.2 O
     obtain⟨o,K,U,L⟩:=zR I x
     have j:jE (Tb s) (z t):=by rw[F,J];exact j
     refine⟨λid f hr=>?_,λid f=>by simp[o] at f,λv=>o,λv=>by simp[K] at v,λid f=>by simp[o] at f⟩
     obtain⟨V,W,M⟩:=L id hr
     rw[M] at j
     rcases (uu C y).2 id f with ⟨c,d,m⟩ | ⟨c,d,e,m⟩
     .rw[m] at j;exact CG j rfl
     .rw[m] at j;exact Ga j rfl
    .simp at hp
   .simp at hp
 .simp at hp
theorem S6 {l:List (Nat × Nat)} {a:List (Nat × Nat)} (h:EL all l=some a):∀q∈l,∃p∈a,E2 all q.1 q.2=some p:=by
 induction l generalizing a with
 | nil=>intro q b;simp at b
 | cons x r d =>
  obtain⟨i,k⟩:=x
  simp only[EL] at h
  split at h
  .rename_i p l' h1 f
   simp at h;subst h
   intro q b
   rcases aa1.1 b with rfl | b
   .exact⟨p,by simp,h1⟩
   .obtain⟨g,c,e⟩:=d f q b
    exact⟨g,by simp[c],e⟩
  .simp at h
theorem Qu {l:List (Nat × Nat)} {a:List (Nat × Nat)} (h:yP all l=some a):∀q∈l,∃f,(∀p∈f,p∈a)/\CU all q.1 q.2=some f:=by
 induction l generalizing a with
 | nil=>intro q b;simp at b
 | cons x r g =>
  obtain⟨i,k⟩:=x
  simp only[yP] at h
  split at h
  .rename_i p l' h1 j
   simp at h;subst h
   intro q b
   rcases aa1.1 b with rfl | b
   .exact⟨p,λx c=>by simp[c],h1⟩
   .obtain⟨m,d,e⟩:=g j q b
    exact⟨m,λx c=>by simp[d x c],e⟩
  .simp at h
theorem RE {H:View} {x:V} {xs:List (List V)} {rd:List Nat} (h:bM H x=some (xs,rd)):∀id,id∈rd->∃a b c,x=.sl id a b c:=by
 unfold bM at h
 split at h
 .simp at h;obtain⟨_,rfl⟩:=h;intro id d;simp at d
 .simp at h;obtain⟨_,rfl⟩:=h;intro id d;simp at d
 .simp at h;obtain⟨_,rfl⟩:=h;intro id d;simp at d
 .simp at h;obtain⟨_,rfl⟩:=h;intro id d;simp at d
 .split at h
  .split at h
   .simp at h
    obtain⟨_,rfl⟩:=h
    intro id d
    simp at d;subst d
    exact⟨_,_,_,rfl⟩
   .simp at h
  .simp at h
 .simp at h;obtain⟨_,rfl⟩:=h;intro id d;simp at d
 .simp at h
theorem L4 {o:Oper} {T:Env} {h s:Heap} {v:V} {rd wr:List Nat} {call:Bool} {t y d:Nat} (st:eC P n all o T h v s rd wr call) (l:CI o=some (t,y,d)):
  call=false/\(∀id,id∈wr->∃a b c,T t=.sl id a b c)/\(∀id,id∈rd->(∃a b c,T t=.sl id a b c)∨∃a b c,T y=.sl id a b c)/\(h.length<s.length->∃a b c,v=.sl h.length a b c)/\s.length<=h.length+1/\o.dst=some d:=by
 unfold CI at l
 split at l
 .rename_i args z A r D m
  split at l
  .rename_i t2 B C
   simp at l
   obtain⟨rfl,rfl,rfl⟩:=l
   cases st with
   | skip _=>exact⟨rfl,λid g=>by simp at g,λid g=>by simp at g,λh=>by omega,by omega,m⟩
   | op _ f =>
    simp only[cL,r,C] at f
    have w:∀ {v':V} {i:bo} {k:List Nat},some (v',bo.none,([]:List Nat))=some (v,i,k)->false=false/\(∀id,id∈i.wr->∃a b c,T t2=.sl id a b c)/\(∀id,id∈k->(∃a b c,T t2=.sl id a b c)∨∃a b c,T B=.sl id a b c)/\(h.length<(i.apply h).length->∃a b c,v=.sl h.length a b c)/\(i.apply h).length<=h.length+1/\o.dst=some A:=by
     intro v' i k e
     simp only[aaK,aaN] at e
     obtain⟨_,rfl,rfl⟩:=e
     exact⟨rfl,λid g=>by simp[bo.wr] at g,λid g=>by simp at g,λh=>by simp[bo.apply] at h,by simp[bo.apply],m⟩
    split at f
    .unfold pC at f
     split at f
     .rename_i e xs k _ u
      have p:=RE u
      split at f
      .simp at f
      .split at f
       .split at f<;>first | exact w f | simp at f
       .split at f
        .simp at f
        .split at f
         .split at f
          .simp only[aaK,aaN] at f
           obtain⟨rfl,rfl,rfl⟩:=f
           exact⟨rfl,λid g=>by simp[bo.wr] at g,λid g=>.inr (p id g),λ_=>⟨_,_,_,rfl⟩,by simp[bo.apply],m⟩
          .simp at f
         .rename_i id off len esz x
          split at f
          .split at f
           .simp only[aaK,aaN] at f
            obtain⟨rfl,rfl,rfl⟩:=f
            refine⟨rfl,λq g=>?_,λq g=>?_,λ_=>⟨_,_,_,rfl⟩,by simp[bo.apply],m⟩
            .simp[bo.wr] at g;subst g
             exact⟨off,len,esz,x⟩
            .rcases aa1.1 g with rfl | g
             .exact .inl ⟨off,len,esz,x⟩
             .exact .inr (p q g)
           .simp at f
          .simp at f
         .simp at f
     .simp at f
    .split at f
     .unfold uD at f
      split at f
      .split at f
       .split at f
        .exact w f
        .split at f
         .simp only[aaK,aaN] at f
          obtain⟨rfl,rfl,rfl⟩:=f
          exact⟨rfl,λid g=>by simp[bo.wr] at g,λid g=>by simp at g,λ_=>⟨_,_,_,rfl⟩,by simp[bo.apply],m⟩
         .simp at f
       .simp at f
      .simp at f
     .simp at f
   | kO _ j _=>rw[r] at j;simp at j
   | hX _ j _ _ _ _=>rw[r] at j;simp at j
   | call _ j _ _ _ _ _=>rw[r] at j;simp at j
  .simp at l
 .simp at l
theorem Rz {T j:Env} {h q:Heap} {a:List Rec} (s:Tr P n all all T h a j q) {i:Nat} {o:Oper} (k:all[i]?=some o) {r:Rec} (hr:a[i]?=some r):
  ∃e h1 v f,eC P n all o e h1 v f r.rd r.wr r.call/\r.lo=h1.length/\r.hi=f.length/\(∀t,stays all i t=true->e t=j t)/\∀d,o.dst=some d->stays all (i+1) d=true->j d=v:=by
 obtain⟨e,h1,v,f,rd,wr,call,l,g,u,y,p,z,A⟩:=s.at_ i o k
 rw[hr] at g
 have g:=acT g
 subst g
 refine⟨e,h1,v,f,u,rfl,rfl,λt m=>?_,λd w m=>?_⟩
 .have hk:=zx m
  have hi:i<all.length:=(aaO.1 k).1
  have b:all[i]=o:=(aaO.1 k).2
  rw[abt hi,b] at hk
  rw[p.keep λx b=>hk x (by simp[b])]
  have:=hk o (by simp)
  cases c:o.dst with
  | none=>rfl
  | some d=>simp only[Env.put];rw[aaI];rintro rfl;exact this c
 .rw[p.keep (zx m),w]
  simp[Env.put]
theorem Be {i a b c j d e f:Nat} (h:jE (.sl i a b c) (.sl j d e f)):i≠j:=h
theorem QB {T r:Env} {h E:Heap} {c:List Rec} (A:Tr P n all all T h c r E) {i k:Nat} {a b:Rec} {B:List (Nat × Nat)} (hp:GX all i k=some B) (o:∀p∈B,jE (r p.1) (r p.2)) (F:c[i]?=some a) (G:c[k]?=some b):qo a b:=by
 unfold GX at hp
 split at hp
 .rename_i oa ob s u
  split at hp
  .rename_i t y d g C d' h1 H
   split at hp
   .rename_i l
    simp only[aaR] at l
    obtain⟨⟨⟨⟨s1,s2⟩,I⟩,v⟩,J⟩:=l
    simp at hp;subst hp
    have j:=o (t,g) (by simp)
    have a2:=o (t,C) (by simp)
    have a3:=o (g,y) (by simp)
    have a4:=o (d,g) (by simp)
    simp only at j a2 a3 a4
    obtain⟨Ta,w,va,K,L,M,N,x,z⟩:=Rz A s F
    obtain⟨Tb,O,vb,Q,R,_,_,q,_⟩:=Rz A u G
    obtain⟨S,U,V,W,p5,X⟩:=L4 L h1
    obtain⟨Y,D,Z,_⟩:=L4 R H
    have z:=z d X I
    rw[<-x t s1,<-q g v] at j
    rw[<-x t s1,<-q C J] at a2
    rw[<-q g v,<-x y s2] at a3
    rw[z,<-q g v] at a4
    refine⟨λid f hr=>?_,λid f hr=>?_,λm=>by rw[S] at m;simp at m,λm=>by rw[Y] at m;simp at m,λid f hx=>?_⟩
    .obtain⟨_,_,_,e⟩:=U id f
     rcases Z id hr with ⟨_,_,_,e'⟩ | ⟨_,_,_,e'⟩
     .rw[e,e'] at j;exact Be j rfl
     .rw[e,e'] at a2;exact Be a2 rfl
    .obtain⟨_,_,_,e⟩:=D id f
     rcases V id hr with ⟨_,_,_,e'⟩ | ⟨_,_,_,e'⟩
     .rw[e',e] at j;exact Be j rfl
     .rw[e,e'] at a3;exact Be a3 rfl
    .obtain⟨_,_,_,e⟩:=D id f
     obtain⟨_,_,_,e'⟩:=W (by omega)
     have:id=w.length:=by omega
     subst this
     rw[e,e'] at a4;exact Be a4 rfl
   .simp at hp
  .simp at hp
 .simp at hp
theorem PS {T d:Env} {h m:Heap} {c:List Rec} (e:Tr P n all all T h c d m) {i k:Nat} {a b:Rec} {f:List (Nat × Nat)} (hp:CU all i k=some f) (g:∀p∈f,jE (d p.1) (d p.2)) (j:c[i]?=some a) (l:c[k]?=some b):qo a b:=by
 unfold CU at hp
 split at hp
 .rename_i p h1
  simp at hp;subst hp
  exact QG e h1 (g p (by simp)) j l
 .exact QB e hp g j l
theorem Uv {ls:List Nat} {d:List Rec} {T o:Env} {hp q:Heap} {j:List (Nat × Nat)} (v:Tr P n all all T hp d o q) (h:EL all (mL all ls)=some j) (z:∀p∈j,jE (o p.1) (o p.2)) (D:ls.length=d.length)
  (hr:∀(i x:Nat) (r:Rec),ls[i]?=some x->d[i]?=some r->me x r.rd r.wr r.call r.lo r.hi):xx all d:=by
 intro i k a b s l m A
 have hi:i<d.length:=(aaO.1 l).1
 have hk:k<d.length:=(aaO.1 m).1
 have w:=hr i _ a (aaH (by omega)) l
 have y:=hr k _ b (aaH (by omega)) m
 have B:(ls[i]'(by omega),i)∈ls.zipIdx:=by rw[abG];simp[aaH (show i<ls.length by omega)]
 have mk:(ls[k]'(by omega),k)∈ls.zipIdx:=by rw[abG];simp[aaH (show k<ls.length by omega)]
 by_cases h1:BQ all (ls[i]'(by omega)) i (ls[k]'(by omega)) k=true
 .unfold BQ at h1
  simp only[s,decide_true,acN,A,acM,acv,abJ,aaR,aaX] at h1
  rcases h1 with ((h1 | h1) | h1) | h1
  .obtain⟨g,f,t,C⟩:=w.1 h1
   exact⟨λid c=>by simp[f] at c,λid _=>by simp[g],λu=>by simp[t] at u,λ_=>f,λid _ E=>by omega⟩
  .obtain⟨g,f,t,C⟩:=y.1 h1
   exact⟨λid _=>by simp[g],λid c=>by simp[f] at c,λ_=>f,λu=>by simp[t] at u,λid c=>by simp[f] at c⟩
  .have g:=w.2 h1.1
   have f:=y.2 h1.2
   exact⟨λid c=>by simp[g] at c,λid c=>by simp[f] at c,λ_=>f,λ_=>g,λid c=>by simp[f] at c⟩
  .exact zd v h1 l m
 .have hm:(i,k)∈mL all ls:=by
   unfold mL
   rw[acB]
   refine⟨_,B,?_⟩
   rw[ab6]
   exact⟨_,mk,by simp only;rw[aaI h1]⟩
  obtain⟨p,hp,e⟩:=S6 h (i,k) hm
  exact Sv v e (z p hp) l m
theorem IH {P:Program} {t:TypeId} {id:Nat} {q:V} {ok:Bool} {H1 a:View} (h:H1 id=a id):fU P t (.mp id) q ok H1=fU P t (.mp id) q ok a:=by
 unfold fU
 simp only[h]
theorem PX {P:Program} {t:TypeId} {id:Nat} {q:V} {H1 a:View} (h:H1 id=a id):fe P t (.mp id) q H1=fe P t (.mp id) q a:=by
 cases hm:eN P t with
 | none=>simp only[fe,hm]
 | some x=>simp only[fe,hm,h]
theorem U1 {P:Program} {t:TypeId} {id:Nat} {q:V} {H:View} {v:V} {eff:bo} {rd:List Nat} (h:fU P t (.mp id) q false H=some (v,eff,rd)):eff=.none/\rd=[id]:=by
 simp only[fU,aa9,if_false] at h
 repeat' (first | (simp only[aaK,aaN] at h;exact⟨h.2.1.symm,h.2.2.symm⟩)|(split at h)|(simp at h;done))
theorem TQ {P:Program} {t:TypeId} {id:Nat} {q:V} {H:View} {v:V} {eff:bo} {rd:List Nat} (h:fe P t (.mp id) q H=some (v,eff,rd)):∃obj,eff=.fJ id obj:=by
 cases hm:eN P t with
 | none=>simp[fe,hm] at h
 | some x =>
  simp only[fe,hm] at h
  repeat' (first | (simp only[aaK,aaN] at h;exact⟨_,h.2.1.symm⟩)|(split at h)|(simp at h;done))
theorem KM {o:Oper} {T:Env} {h f:Heap} {v:V} {rd wr:List Nat} {call:Bool} (st:eC P n all o T h v f rd wr call) (i:dW n all T o=some true) (j:∀e x,o.op≠.box e x) (k:∀s d x,o.op≠.convert s d x) (l:∀c,o.op≠.call c):
  ∃eff,cL P o T h.view h.length=some (v,eff,rd)/\f=eff.apply h/\wr=eff.wr/\call=false:=by
 cases st with
 | skip g=>rw[i] at g;simp at g
 | op _ b=>exact⟨_,b,rfl,rfl,rfl⟩
 | kO _ a _=>exact absurd a (j _ _)
 | hX _ a _ _ _ _=>exact absurd a (k _ _ _)
 | call _ a _ _ _ _ _=>exact absurd a (l _)
theorem Xq {a:List Rec} {f:Nat->Env} {b:Nat->Heap} {vs:Nat->V} (d:DP P n all a f b vs) (i:a.length=all.length) {k:Nat} (hk:k<=all.length) (hw:∀j r,j<k->a[j]?=some r->r.wr=[]):
  ∀j,j<=k->(b 0).length<=(b j).length/\∀id,id<(b 0).length->(b j).view id=(b 0).view id:=by
 intro j
 induction j with
 | zero=>intro _;exact⟨aaQ _,λ_ _=>rfl⟩
 | succ j g =>
  intro l
  obtain⟨e,h⟩:=g (by omega)
  obtain⟨st,_,_,_,_⟩:=d j all[j] (a[j]'(by omega)) (aaH (by omega)) (aaH (by omega))
  refine⟨abz e (wj st),λid c=>?_⟩
  rw[uH st (abh c e) (by rw[hw j _ (by omega) (aaH (by omega))];simp)]
  exact h id c
theorem sD {a:List Rec} {b:Nat->Env} {e:Nat->Heap} {vs:Nat->V} (c:DP P n all a b e vs) (m:a.length=all.length) {i t:Nat} (h:stays all i t=true):∀j,i<=j->j<=all.length->b j t=b i t:=by
 intro j d f
 refine CH (vs:=vs) (N:=all.length) (λk o hk=>?_) rfl i j d f λk o h1 p g=>zx h o (by
  rw[List.mem_iff_getElem?]
  exact⟨k-i,by rw[ab5,show i+(k-i)=k by omega];exact g⟩)
 have l:k<all.length:=(aaO.1 hk).1
 exact(c k o (a[k]'(by omega)) hk (aaH (by omega))).2.2.1
theorem KX {ls:List Nat} {d:List Rec} {T I:Env} {hp a6:Heap} {W:List (Nat × Nat)} {tp:Option (Nat × Nat)} (tr:Tr P n all all T hp d I a6) (h:yP all (JE all ls tp)=some W) (hA:∀p∈W,jE (I p.1) (I p.2)) (hl:ls.length=d.length)
  (hr:∀(i x:Nat) (r:Rec),ls[i]?=some x->d[i]?=some r->me x r.rd r.wr r.call r.lo r.hi) (X:∀p,tp=some p->∃D,JG all ls p.1 p.2=some D/\KA P D.1 (I D.2.1) (I D.2.2) hp.view):Pu P n all d T I hp:=by
 have main:∀i k a b,i<k->d[i]?=some a->d[k]?=some b->ordered (gK all []) i k=false->tp≠some (i,k)->qo a b:=by
  intro i k a b K V S ho a7
  have hi:i<d.length:=(aaO.1 V).1
  have hk:k<d.length:=(aaO.1 S).1
  have la:=hr i _ a (aaH (by omega)) V
  have lb:=hr k _ b (aaH (by omega)) S
  have mi:(ls[i]'(by omega),i)∈ls.zipIdx:=by rw[abG];simp[aaH (show i<ls.length by omega)]
  have mk:(ls[k]'(by omega),k)∈ls.zipIdx:=by rw[abG];simp[aaH (show k<ls.length by omega)]
  by_cases h1:BQ all (ls[i]'(by omega)) i (ls[k]'(by omega)) k=true
  .unfold BQ at h1
   simp only[K,decide_true,acN,ho,acM,acv,abJ,aaR,aaX] at h1
   rcases h1 with ((h1 | h1) | h1) | h1
   .obtain⟨y,s,Y,e4⟩:=la.1 h1
    exact⟨λid c=>by simp[s] at c,λid _=>by simp[y],λZ=>by simp[Y] at Z,λ_=>s,λid _ hx=>by omega⟩
   .obtain⟨y,s,Y,e4⟩:=lb.1 h1
    exact⟨λid _=>by simp[y],λid c=>by simp[s] at c,λ_=>s,λZ=>by simp[Y] at Z,λid c=>by simp[s] at c⟩
   .have y:=la.2 h1.1
    have s:=lb.2 h1.2
    exact⟨λid c=>by simp[y] at c,λid c=>by simp[s] at c,λ_=>s,λ_=>y,λid c=>by simp[s] at c⟩
   .exact zd tr h1 V S
  .have hm:(i,k)∈mL all ls:=by
    unfold mL
    rw[acB]
    refine⟨_,mi,?_⟩
    rw[ab6]
    exact⟨_,mk,by simp only;rw[aaI h1]⟩
   by_cases hn:newAt all k=true
   .unfold newAt at hn
    split at hn
    .rename_i ob L
     obtain⟨T1,ch,v,J,rd,wr,call,a8,y,s,_⟩:=tr.at_ k ob L
     rw[S] at y
     have y:=acT y
     subst y
     obtain⟨n1,n2,n3⟩:=UH s hn
     exact⟨λid _=>by simp[n1],λid c=>by simp[n2] at c,λ_=>n2,λZ=>by simp[n3] at Z,λid c=>by simp[n2] at c⟩
    .simp at hn
   .obtain⟨p,hp,e⟩:=Qu h (i,k) (by
     unfold JE
     rw[abR]
     refine⟨hm,?_⟩
     simp only[aaR,acW,bne_iff_ne,ne_eq]
     exact⟨by simpa using hn,a7⟩)
    exact PS tr e (λq hq=>hA q (hp q hq)) V S
 cases tp with
 | none=>exact xx.Zu λi k a b h1 J h3 h4=>main i k a b h1 J h3 h4 (by simp)
 | some p =>
  obtain⟨i0,C⟩:=p
  obtain⟨D,f,u⟩:=X _ rfl
  intro M hs vs cj N ab E w i
  by_cases hi:i=i0
  .subst hi
   refine⟨some C,λk a b h1 J h3 h4 h5=>main i k a b h1 J h3 h4 (λe=>h5 (by simp at e;rw[e])),λk a b o hk V S ho=>?_⟩
   simp at hk;subst hk
   unfold JG at f
   simp only at f
   split at f
   .rename_i oa ob O L
    rw[ho] at O
    have O:=acT O
    subst O
    split at f
    .rename_i t m q t' m' q' l z bd bl
     split at f
     .rename_i F
      simp only[aaR,abJ,aaX,abc,abH] at F
      obtain⟨⟨⟨⟨⟨⟨⟨⟨rfl,rfl⟩,rfl⟩,s1⟩,s2⟩,s3⟩,s4⟩,K⟩,U⟩:=F
      simp only[aaK] at f
      subst f
      simp only at u
      have bn:C<all.length:=(aaO.1 L).1
      have br:∀j r,j<C->d[j]?=some r->r.wr=[]:=λj r hj bs=>by
       have h1:=U j hj
       have ae:j<ls.length:=by omega
       rw[aaG,aaH ae] at h1
       exact(hr j _ r (aaH ae) bs).2 h1
      have G:=Xq w E (Nat.le_of_lt bn) br
      have em:∀j,i<=j->j<=all.length->M j m=I m:=λj h1 J=>by
       rw[<-ab,sD w E s1 j h1 J,sD w E s1 all.length (by omega) (aaQ _)]
      have eq:∀j,i<=j->j<=all.length->M j q=I q:=λj h1 J=>by
       rw[<-ab,sD w E s2 j h1 J,sD w E s2 all.length (by omega) (aaQ _)]
      obtain⟨bx,_,_,b0,b1⟩:=w i o a ho V
      obtain⟨b2,_,_,_,_⟩:=w C ob b L S
      have gi:dW n all (M i) o=some true:=by unfold dW;rw[bd]
      have gk:dW n all (M C) ob=some true:=by unfold dW;rw[bl]
      unfold KA at u
      split at u
      .rename_i id c
       obtain⟨⟨ck,c0,H⟩,u⟩:=u
       have Q:id<hp.length:=fa (by rw[H];simp)
       have al:(hs C).view id=hp.view id:=by rw[(G C (aaQ _)).2 id (by rw[N];exact Q),N]
       have an:(hs i).view id=hp.view id:=by rw[(G i (Nat.le_of_lt K)).2 id (by rw[N];exact Q),N]
       obtain⟨cc,A,b3,b4,b5⟩:=KM bx gi (by rw[l];simp) (by rw[l];simp) (by rw[l];simp)
       obtain⟨cf,B,b7,b8,cu⟩:=KM b2 gk (by rw[z];simp) (by rw[z];simp) (by rw[z];simp)
       simp only[cL,l] at A
       simp only[cL,z] at B
       have y:ev (M i) (.tmp m)=.mp id:=(em i (aaQ _) (by omega)).trans c
       have s:ev (M i) (.tmp q)=I q:=eq i (aaQ _) (by omega)
       have Y:ev (M C) (.tmp m)=.mp id:=(em C (by omega) (by omega)).trans c
       have e4:ev (M C) (.tmp q)=I q:=eq C (by omega) (by omega)
       rw[y,s] at A
       rw[Y,e4,PX al] at B
       obtain⟨l1,l2⟩:=U1 A
       obtain⟨obj,l3⟩:=TQ B
       subst l1 l3
       have b9:(hs (C+1)).view id=obj:=by
        rw[b7,k9 (λcv R=>by
         simp only[bo.wr,abF] at R
         subst R
         rw[al,H];simp)]
        simp[bo.view,View.set]
       refine⟨K,b4,b5,by rw[b0,b1,b3];rfl,λg hg ca=>?_⟩
       have aq:id<(hs i).length:=fa (by rw[an,H];simp)
       have ar:g.view id=(hp.view.set id obj) id:=by
        rw[ca id aq,b8,aaL (by simp[bo.wr]),b9]
        simp[View.set]
       have cb:=u _ _ _ B
       have a1:cL P o (M i) g.view g.length=some (vs i,.none,a.rd):=by
        simp only[cL,l]
        rw[y,s,IH ar,cb,<-IH an]
        exact A
       exact .op gi a1
      .exact u.elim
     .simp at f
    .simp at f
   .simp at f
  .exact⟨none,λk a b h1 J h3 h4 _=>main i k a b h1 J h3 h4 (λe=>hi (by simp at e;exact e.1.symm)),λk a b o h1=>by simp at h1⟩
theorem V3 (hm:P.follows .mixedOrders=true) {p:Fz} {id:Nat} {ops:Array Oper} {q:SC} {T:Env} {h:Heap} {Q:Exit->Env->View->Prop} (a:F9 P n p ops.toList=some q) (hw:wS P q T h.view Q):
  ∃e g d,dB P n (.region id ops true) T h e g d/\(ki h d/\h.length<=d.length)/\Q e g d.view:=by
 unfold F9 at a
 split at a
 .simp at a
 .rename_i l v
  split at a
  .simp at a
  .rename_i b
   have b:(group l).all wm=true:=by simpa using b
   have j:eh P n ops.toList p ops.toList=some (mV (group l)):=by rw[iq];exact v
   split at a
   .rename_i w
    simp only[aaT] at a
    obtain⟨y,k,rfl⟩:=a
    obtain⟨f,g,d,t,m,hk,c⟩:=BI (group l) ops.toList T h j b hw
    rw[iq] at c
    refine⟨.normal,g,d,?_,m,hk.rest⟩
    have o:xx ops.toList f:=Uv t k (DQ hk) (by simpa using c.1) (λi x r u hr=>by
     simp only[aaJ,aaT] at u
     obtain⟨s,z,rfl⟩:=u
     exact c.2 i s r z hr)
    simpa using AR hm (id:=id) t w o
   .simp at a
theorem UF (hm:P.follows .mixedOrders=true) {A:Fz} {id:Nat} {ops:Array Oper} {B:SC} {T:Env} {h:Heap} {Q:Exit->Env->View->Prop} (b:Fa P n A ops.toList=some B) (hw:wS P B T h.view Q):
  ∃e k d,dB P n (.region id ops true) T h e k d/\(ki h d/\h.length<=d.length)/\Q e k d.view:=by
 unfold Fa at b
 split at b
 .simp at b
 .rename_i l D
  split at b
  .simp at b
  .rename_i c
   have c:(group l).all wm=true:=by simpa using c
   have m:eh P n ops.toList A ops.toList=some (mV (group l)):=by rw[iq];exact D
   split at b
   .rename_i C
    split at b
    .simp only[aaT] at b
     obtain⟨v,f,rfl⟩:=b
     obtain⟨o,k,d,q,g,hk,a⟩:=BI (group l) ops.toList T h m c hw
     rw[iq] at a
     refine⟨.normal,k,d,?_,g,hk.rest⟩
     have j:=KX q f (DQ hk) (by simpa using a.1) (λi x r t hr=>by
      simp only[aaJ,aaT] at t
      obtain⟨s,w,rfl⟩:=t
      exact a.2 i s r w hr) (λp hp=>by simp at hp)
     simpa using zT hm (id:=id) q C j
    .rename_i p hp
     split at b
     .rename_i y z
      simp only[aaT] at b
      obtain⟨v,f,rfl⟩:=b
      obtain⟨o,k,d,q,g,hk,a⟩:=BI (group l) ops.toList T h m c hw
      rw[iq] at a
      refine⟨.normal,k,d,?_,g,hk.2.rest⟩
      have j:=KX q f (DQ hk.2) (by simpa using a.1) (λi x r t hr=>by
       simp only[aaJ,aaT] at t
       obtain⟨s,w,rfl⟩:=t
       exact a.2 i s r w hr) (λE u=>by
        simp only[aaK] at u
        subst u
        exact⟨y,z,hk.1⟩)
      simpa using zT hm (id:=id) q C j
     .simp at b
   .simp at b
theorem vy (hm:P.follows .mixedOrders=true) {u:Fz} {id:Nat} {ops:Array Oper} {draw quiet:Bool} {v:SC} {T:Env} {h:Heap} {Q:Exit->Env->View->Prop} (a:uJ P n u ops.toList draw quiet=some v) (hw:wS P v T h.view Q):
  ∃e d c,dB P n (.region id ops draw) T h e d c/\(ki h c/\h.length<=c.length)/\Q e d c.view:=by
 unfold uJ at a
 split at a
 .simp at a
 .rename_i l y
  split at a
  .simp at a
  .rename_i f
   have f:(group l).all wm=true:=by simpa using f
   have m:eh P n ops.toList u ops.toList=some (mV (group l)):=by rw[iq];exact y
   have key:AI P quiet (group l) T h.view (Q .normal)->(draw=true->oe ops.toList=true/\JI ops.toList (l.map λs=>jU P quiet s.b)=true) ->
     ∃e d c,dB P n (.region id ops draw) T h e d c/\(ki h c/\h.length<=c.length)/\Q e d c.view:=by
    intro hw o
    obtain⟨j,d,c,p,q,hk,g⟩:=BI (group l) ops.toList T h m f hw
    rw[iq] at g
    refine⟨.normal,d,c,?_,q,hk⟩
    cases k:draw with
    | false=>simpa using Lg (id:=id) p
    | true =>
     obtain⟨h1,z⟩:=o k
     have t:xx ops.toList j:=VK p z (by simpa using g.1) (λi x r w hr=>by
      simp only[aaJ,aaT] at w
      obtain⟨s,A,rfl⟩:=w
      exact g.2 i s r A hr)
     simpa using AR hm (id:=id) p h1 t
   split at a
   .rename_i k
    split at a
    .rename_i B
     simp at a;subst a
     exact key hw (λ_=>by simpa using B)
    .simp at a
   .rename_i k
    simp at a;subst a
    exact key hw (λe=>absurd e k)
theorem fY {a b:Option SC} {c:SC} (h:orElse' a b=some c):a=some c∨b=some c:=by
 cases a with
 | none=>exact .inr h
 | some x=>exact .inl h
theorem Ri (hm:P.follows .mixedOrders=true) {k:List Nat} {id:Nat} {ops:Array Oper} {draw:Bool} {i:SC} {T:Env} {h:Heap} {Q:Exit->Env->View->Prop} (c:Fo P n k ops.toList draw=some i) (hw:wS P i T h.view Q):
  ∃e j b,dB P n (.region id ops draw) T h e j b/\(ki h b/\h.length<=b.length)/\Q e j b.view:=by
 unfold Fo at c
 rcases fY c with h1 | h1
 .exact vy hm h1 hw
 .clear c
  split at h1
  .rename_i l
   subst l
   rcases fY h1 with a | h1
   .split at a
    .exact UF hm a hw
    .simp at a
   rcases fY h1 with a | h1
   .split at a
    .exact vy hm a hw
    .simp at a
   rcases fY h1 with d | d
   .exact V3 hm d hw
   .rcases fY d with f | f
    .exact vy hm f hw
    .rcases fY f with g | g
     .exact vy hm g hw
     .exact vy hm g hw
  .simp at h1
theorem HY {e:Exit} {a b:Prop} (h:Dz e a b):(e=.normal/\a)∨(e≠.normal/\b):=by
 cases e with
 | normal=>exact .inl ⟨rfl,h⟩
 | _=>exact .inr ⟨by simp,h⟩
def uB (P:Program) (n:Nat) (fz:List Nat) (c:Code):Prop:=∀sc:SC,dK P n fz c=some sc->∀(T:Env) (h:Heap) (Q:Exit->Env->View->Prop),wS P sc T h.view Q ->
 ∃e T' h',dB P n c T h e T' h'/\(ki h h'/\h.length<=h'.length)/\Q e T' h'.view
theorem Il {b:List Nat} : uB P n b .skip:=by
 intro c a T h Q hw;simp[dK] at a;subst a;exact⟨_,T,h,.skip,⟨.refl _,aaQ _⟩,hw⟩
theorem JR {g:List Nat} {x y:Code} (i:uB P n g x) (j:uB P n g y):uB P n g (.seq x y):=by
 intro u c T h Q hw
 simp only[dK] at c
 split at c
 .rename_i a b h1 q
  simp at c;subst c
  simp only[wS] at hw
  obtain⟨e,o,d,p,st1,f⟩:=i a h1 T h _ hw
  rcases HY f with ⟨rfl,f⟩ | ⟨k,f⟩
  .obtain⟨r,s,l,t,st2,m⟩:=j b q o d _ f
   exact⟨r,s,l,p.seq t,⟨st1.1.trans st2.1 st1.2,abz st1.2 st2.2⟩,m⟩
  .exact⟨e,o,d,p.OC k,st1,f⟩
 .simp at c
theorem qg {b:Fz} {ops:List Oper} {draw quiet:Bool} {a:SC} (h:uJ P n b ops draw quiet=some a) (l:Nat):qP a l=none:=by
 unfold uJ at h
 repeat' (first | (simp only[aaK] at h;subst h;rfl)|(split at h)|(simp at h;done))
theorem PG {b:Fz} {ops:List Oper} {a:SC} (h:F9 P n b ops=some a) (l:Nat):qP a l=none:=by
 unfold F9 at h
 repeat' (first | (simp only[aaT] at h;obtain⟨_,_,rfl⟩:=h;rfl)|(split at h)|(simp at h;done))
theorem Qy {b:Fz} {ops:List Oper} {a:SC} (h:Fa P n b ops=some a) (l:Nat):qP a l=none:=by
 unfold Fa at h
 repeat' (first | (simp only[aaT] at h;obtain⟨_,_,rfl⟩:=h;rfl)|(split at h)|(simp at h;done))
theorem Qq {f:List Nat} {ops:List Oper} {draw:Bool} {e:SC} (h:Fo P n f ops draw=some e) (l:Nat):qP e l=none:=by
 unfold Fo at h
 rcases fY h with h1 | h1
 .exact qg h1 l
 .split at h1
  .rcases fY h1 with a | h1
   .split at a
    .exact Qy a l
    .simp at a
   rcases fY h1 with a | h1
   .split at a
    .exact qg a l
    .simp at a
   rcases fY h1 with b | b
   .exact PG b l
   .rcases fY b with c | c
    .exact qg c l
    .rcases fY c with d | d
     .exact qg d l
     .exact qg d l
  .simp at h1
theorem RB {j:List Nat}:∀(c:Code) (f:SC),dK P n j c=some f->∀l,match findLabel c l with
  | some rest=>∃r,qP f l=some r/\dK P n j rest=some r
  | none=>qP f l=none:=by
 intro c
 induction c with
 | seq x y h i =>
  intro f d l
  simp only[dK] at d
  split at d
  .rename_i a b h1 k
   simp at d;subst d
   have g:=h a h1 l
   have o:=i b k l
   simp only[findLabel,qP]
   cases m:findLabel x l with
   | some rx =>
    rw[m] at g
    obtain⟨r,p,q⟩:=g
    exact⟨.seq r b,by rw[p],by simp only[dK,q,k]⟩
   | none =>
    rw[m] at g
    simp only at g ⊢
    rw[g]
    exact o
  .simp at d
 | label l' =>
  intro f d l
  simp[dK] at d;subst d
  simp only[findLabel,qP]
  by_cases e:(l'==l)=true
  .rw[aaL e];exact⟨.skip,by rw[aaL e],by simp[dK]⟩
  .rw[aaI e];simp only;rw[aaI e]
 | region id ops draw=>intro f d l;simp only[dK] at d;simp only[findLabel];exact Qq d l
 | cond x y z _ _ =>
  intro f d l
  simp only[dK] at d
  split at d
  .simp at d;subst d;rfl
  .simp at d
 | block id c _=>intro f d l;simp only[dK,aaT] at d;obtain⟨_,_,rfl⟩:=d;rfl
 | loop c _=>intro f d l;simp only[dK,aaT] at d;obtain⟨_,_,rfl⟩:=d;rfl
 | scope c _ =>
  intro f d l
  simp only[dK] at d
  split at d
  .split at d
   .simp only[aaT] at d;obtain⟨_,_,rfl⟩:=d;rfl
   .simp at d
  .simp at d
 | skip=>intro f d l;simp[dK] at d;subst d;rfl
 | exit id=>intro f d l;simp[dK] at d;subst d;rfl
 | ret=>intro f d l;simp[dK] at d;subst d;rfl
 | goto l'=>intro f d l;simp[dK] at d;subst d;rfl
 | _=>intro f d;simp[dK] at d
theorem Qa {v:List Nat} {c:Code} (F:uB P n v c) (hr:∀l rest,findLabel c l=some rest->uB P n v rest):uB P n v (.scope c):=by
 intro H d T h Q hw
 simp only[dK] at d
 split at d
 .rename_i a h1
  split at d
  .rename_i l J
   simp only[aaT] at d
   obtain⟨r,w,rfl⟩:=d
   have j:=RB c a h1 l
   cases m:findLabel c l with
   | none=>rw[m] at j;simp only at j;rw[j] at w;simp at w
   | some rest =>
    rw[m] at j
    obtain⟨L,t,o⟩:=j
    rw[w] at t
    have t:=acT t
    subst t
    simp only[wS] at hw
    obtain⟨I,K,x,y⟩:=hw
    have go:∀k T (h:Heap),I k T h.view->∃e E u,uM P n c rest T h e E u/\(ki h u/\h.length<=u.length)/\Q e E u.view:=by
     intro k
     induction k using Nat.strongRecOn with
     | ind k z =>
      intro T h G
      obtain⟨e,p,b,q,st1,s⟩:=hr l rest m r o T h _ (y k T h.view G)
      cases e with
      | goto l' =>
       obtain⟨rfl,A,B,f⟩:=s
       obtain⟨o,C,g,D,st2,i⟩:=z A B p b f
       exact⟨o,C,g,uM.jump q m D,⟨st1.1.trans st2.1 st1.2,abz st1.2 st2.2⟩,i⟩
      | _=>exact⟨_,p,b,.out q rfl,st1,s⟩
    obtain⟨e,p,b,q,st1,s⟩:=F a h1 T h _ x
    cases e with
    | goto l' =>
     obtain⟨rfl,A,_,f⟩:=s
     obtain⟨o,C,g,D,st2,i⟩:=go A p b f
     exact⟨o,C,g,.scope (uM.jump q m D),⟨st1.1.trans st2.1 st1.2,abz st1.2 st2.2⟩,i⟩
    | _=>exact⟨_,p,b,.scope (.out q rfl),st1,s⟩
  .simp at d
 .simp at d
theorem V8 (hm:P.follows .mixedOrders=true) {E:List Nat}:∀c:Code,uB P n E c/\∀l rest,findLabel c l=some rest->uB P n E rest:=by
 intro c
 induction c with
 | skip=>exact⟨Il,λl rest h=>by simp[findLabel] at h⟩
 | region id ops draw=>exact⟨λp d T h Q hw=>Ri hm d hw,λl rest h=>by simp[findLabel] at h⟩
 | seq x y o g =>
  refine⟨JR o.1 g.1,λl rest h=>?_⟩
  simp only[findLabel] at h
  split at h
  .rename_i r hr
   simp only[aaK] at h;subst h
   exact JR (o.2 _ _ hr) g.1
  .exact g.2 _ _ h
 | cond c x y o g =>
  refine⟨?_,λl rest h=>by simp[findLabel] at h⟩
  intro p d T h Q hw
  simp only[dK] at d
  split at d
  .rename_i a b h1 H
   simp at d;subst d
   simp only[wS] at hw
   split at hw
   .rename_i t u
    have F:wz (SX.of c) t T=T:=by
     unfold wz
     split
     .rename_i k hk
      rw[hk] at u
      exact Ek u
     .rfl
    rw[SX.dh] at u
    cases t with
    | true =>
     have:=hw.1 rfl
     rw[F] at this
     obtain⟨e,j,f,m,st,i⟩:=o.1 a h1 T h Q this
     exact⟨e,j,f,.cond u m,st,i⟩
    | false =>
     have:=hw.2 rfl
     rw[F] at this
     obtain⟨e,j,f,m,st,i⟩:=g.1 b H T h Q this
     exact⟨e,j,f,.cond u m,st,i⟩
   .exact hw.elim
  .simp at d
 | block id c s =>
  refine⟨?_,λl rest h=>by simp[findLabel] at h⟩
  intro p d T h Q hw
  simp only[dK,aaT] at d
  obtain⟨a,h1,rfl⟩:=d
  simp only[wS] at hw
  obtain⟨e,j,f,m,st,i⟩:=s.1 a h1 T h _ hw
  exact⟨_,j,f,m.block,st,i⟩
 | loop c s =>
  refine⟨?_,λl rest h=>by simp[findLabel] at h⟩
  intro p d T h Q hw
  simp only[dK,aaT] at d
  obtain⟨a,h1,rfl⟩:=d
  simp only[wS] at hw
  obtain⟨I,⟨k,hk⟩,q⟩:=hw
  have go:∀k T (h:Heap),I k T h.view->∃e j f,sE P n c T h e j f/\(ki h f/\h.length<=f.length)/\Q e j f.view:=by
   intro k
   induction k using Nat.strongRecOn with
   | ind k w =>
    intro T h J
    obtain⟨e,G,v,m,st1,i⟩:=s.1 a h1 T h _ (q k T h.view J)
    rcases HY i with ⟨rfl,K,z,A⟩ | ⟨B,i⟩
    .obtain⟨L,M,C,N,st2,D⟩:=w K z G v A
     exact⟨L,M,C,.step m N,⟨st1.1.trans st2.1 st1.2,abz st1.2 st2.2⟩,D⟩
    .exact⟨e,G,v,.out m B,st1,i⟩
  obtain⟨e,j,f,m,st,i⟩:=go k T h hk
  exact⟨e,j,f,.loop m,st,i⟩
 | exit id=>exact⟨λp d T h Q hw=>by simp[dK] at d;subst d;exact⟨_,T,h,.exit,⟨.refl _,aaQ _⟩,hw⟩,λl rest h=>by simp[findLabel] at h⟩
 | ret=>exact⟨λp d T h Q hw=>by simp[dK] at d;subst d;exact⟨_,T,h,.ret,⟨.refl _,aaQ _⟩,hw⟩,λl rest h=>by simp[findLabel] at h⟩
 | label l'=>exact⟨λp d T h Q hw=>by simp[dK] at d;subst d;exact⟨_,T,h,.label,⟨.refl _,aaQ _⟩,hw⟩,λl rest h=>by
   simp only[findLabel] at h
   split at h
   .simp only[aaK] at h;subst h;exact Il
   .simp at h⟩
 | goto l'=>exact⟨λp d T h Q hw=>by simp[dK] at d;subst d;exact⟨_,T,h,.goto,⟨.refl _,aaQ _⟩,hw⟩,λl rest h=>by simp[findLabel] at h⟩
 | scope c s=>exact⟨Qa s.1 s.2,λl rest h=>by simp[findLabel] at h⟩
 | _=>exact⟨λp d=>by simp[dK] at d,λl rest h=>by simp[findLabel] at h⟩
theorem Ze (hm:P.follows .mixedOrders=true) {f:List Nat} (c:Code) (b:SC) (g:dK P n f c=some b) (T:Env) (h:Heap) (Q:Exit->Env->View->Prop) (hw:wS P b T h.view Q):
 ∃e d a,dB P n c T h e d a/\(ki h a/\h.length<=a.length)/\Q e d a.view:=(V8 hm c).1 b g T h Q hw
theorem Zd {T:Env} {h:Heap} {r:ResultVar} {l:List SR} {rest:List ResultVar} (b:gL P (r::rest)=some l):∃s l',l=s::l'/\gL P rest=some l'/\∀K:V->Prop,wR T h.view s K->∃v,vB P T h r=some v/\K v:=by
 cases r with
 | tmp t =>
  simp only[gL,aaT] at b
  obtain⟨l',h1,rfl⟩:=b
  exact⟨.tmp t,l',rfl,h1,λK hk=>⟨_,rfl,hk⟩⟩
 | cell a t =>
  simp only[gL] at b
  split at b
  .rename_i k l' h1 g
   simp at b;subst b
   refine⟨.cell a k,l',rfl,g,λK hk=>?_⟩
   simp only[wR] at hk
   simp only[vB,oG,zg h1]
   split at hk
   .rename_i id i j c
    split at hk
    .rename_i es hH
     obtain⟨d,hk⟩:=hk
     obtain⟨v,f,hk⟩:=sk hk
     exact⟨v,by rw[c];simp only[hH];rw[aaL d,f];rfl,hk⟩
    .exact hk.elim
   .rename_i e j c
    obtain⟨v,f,hk⟩:=sk hk
    exact⟨v,by rw[c];simp only;rw[f];rfl,hk⟩
   .exact hk.elim
  .simp at b
theorem TH {T:Env} {h:Heap} {K:List V->Prop}:∀(rs:List ResultVar) (l:List SR) (acc:List V),gL P rs=some l->Gw T h.view l acc K->∃vs,ox P T h rs=some vs/\K (acc++vs)
 | [],l,acc,a,hw=>by simp[gL] at a;subst a;exact⟨[],rfl,by simpa [Gw] using hw⟩
 | r::rest,l,acc,a,hw=>by
  obtain⟨s,l',rfl,h1,c⟩:=Zd (T:=T) (h:=h) a
  simp only[Gw] at hw
  obtain⟨v,d,hk⟩:=c _ hw
  obtain⟨vs,b,hk⟩:=TH rest l' (acc++[v]) h1 hk
  exact⟨v::vs,by simp[ox,d,b],by simpa using hk⟩
def wF (P:Program) (F:SF) (vs:List V) (H:View) (K:V->View->Prop):Prop:=
 vs.length<=F.n/\wS P F.code (nA vs) H λe T' H'=>(e=.ret∨e=.normal)/\Gw T' H' F.res [] λl=>K (zF l) H'
theorem az.of (hm:P.follows .mixedOrders=true) {f:FuncId} {j:List Nat} {F:SF} (b:aJ P f j=some F) {vs:List V} {H:View} {K:V->View->Prop} (hw:wF P F vs H K):az P f vs H K:=by
 unfold aJ at b
 split at b
 .rename_i fn g
  split at b
  .rename_i c k
   split at b
   .rename_i m rs h1 n o
    simp at b;subst b
    refine⟨o,?_⟩
    rintro h rfl
    obtain⟨e,r,p,q,st,he,hr⟩:=Ze hm c m h1 _ h _ hw.2
    obtain⟨d,i,hk⟩:=TH _ _ [] n hr
    refine⟨zF d,p,bZ.OM g k hw.1 q he ?_,st.1,by simpa using hk⟩
    unfold PK
    rw[i]
    cases d with
    | nil=>rfl
    | cons a l=>cases l<;>rfl
   .simp at b
  .simp at b
 .simp at b
theorem az.mono {f:FuncId} {vs:List V} {H:View} {K c:V->View->Prop} (h:az P f vs H K) (hk:∀r H',K r H'->c r H'):az P f vs H c:=
 ⟨h.1,λd e=>let ⟨r,g,a,s,b⟩:=h.2 d e; ⟨r,g,a,s,hk _ _ b⟩⟩
theorem aC.Pz {f:FuncId} {vs:List V} {H:View} {t:V} {K:V->View->Prop} (h:aC P f vs t) (a:dZ P f=true) (hk:K t H):EJ P f vs H K:=
 ⟨a,λb e=>⟨t,b,bZ.hZ h b,λ_ _=>rfl,e▸hk⟩⟩
theorem az.Pz {f:FuncId} {vs:List V} {H:View} {K:V->View->Prop} (h:az P f vs H λr H'=>(∀id,H id≠.dead->H' id=H id)/\K r H'):EJ P f vs H K:=
 ⟨h.1,λc e=>by
  obtain⟨r,g,i,st,d,hk⟩:=h.2 c e
  refine⟨r,g,i,λid a=>?_,hk⟩
  by_cases b:c.view id=.dead
  .rw[b];exact st id a b
  .rw[<-e] at d;exact d id b⟩
end
inductive c9 {α:Type} (x:α):Type where
 | mk
def gD (s:ByteArray):List Int:=s.data.toList.map λb=>(b.toNat:Int)
theorem fM (s:ByteArray):s.size=(gD s).length:=by grind [gD,bsize]
def aW (P:Program) (c:SC) (T:Env) (H:View) (Q:Exit->Env->View->Prop) (_:c9 (T,H,Q)):Prop:=wS P (.loop c) T H Q
def YO (P:Program) (l:Nat) (c r:SC) (T:Env) (H:View) (Q:Exit->Env->View->Prop) (_:c9 (T,H,Q)):Prop:=wS P (.scope l c r) T H Q
def ay (P:Program) (quiet:Bool) (f:FuncId) (vs:List V) (H:View) (K:V->View->Prop) (_:c9 (H,K)):Prop:=
 if quiet then EJ P f vs H K else az P f vs H K
def FN {α:Type} (v:α) (F:α->Prop) (_:c9 F):Prop:=F v
def eS (v:V) (F:V->Prop) (_:c9 F):Prop:=F v
def KD (o:cr) (F:cr->Prop) (_:c9 F):Prop:=F o
def tC {α:Type} (o:Option α) (F:Option α->Prop) (_:c9 F):Prop:=F o
def ao (b:Bool) (A B:Prop) (_:c9 (A,B)):Prop:=(b=true->A)/\(b=false->B)
theorem Zp {α:Type} (v:α) (F:α->Prop) (w:c9 F):FN v F w=F v:=propext Iff.rfl
section
variable (F:V->Prop) (w:c9 F)
theorem Nr (v:Value):eS (.val v) F w=F (.val v):=propext Iff.rfl
theorem NV (k:Nat):eS (.emp k) F w=F (.emp k):=propext Iff.rfl
theorem OJ:eS .ez F w=F .ez:=propext Iff.rfl
theorem Od (es:List (List V)):eS (.aZ es) F w=F (.aZ es):=propext Iff.rfl
theorem RV (a b c d:Nat):eS (.sl a b c d) F w=F (.sl a b c d):=propext Iff.rfl
theorem NR (a b c:Nat):eS (.ptr a b c) F w=F (.ptr a b c):=propext Iff.rfl
theorem JW (e:List V) (j:Nat):eS (.aP e j) F w=F (.aP e j):=propext Iff.rfl
theorem Rr (a:Nat):eS (.mp a) F w=F (.mp a):=propext Iff.rfl
theorem R8 (f:FuncId) (a b:List V):eS (.fn f a b) F w=F (.fn f a b):=propext Iff.rfl
theorem OU (cs:List V):eS (.agg cs) F w=F (.agg cs):=propext Iff.rfl
theorem N8 (cs:List V):eS (.bb cs) F w=F (.bb cs):=propext Iff.rfl
end
theorem Oo (F:cr->Prop) (w:c9 F) (k:Nat) (es:List (List V)):KD (.arr k es) F w=F (.arr k es):=propext Iff.rfl
theorem M8 (F:cr->Prop) (w:c9 F) (es:List (V × V × Nat)) (k:Nat):KD (.map es k) F w=F (.map es k):=propext Iff.rfl
theorem L8 {α:Type} (F:Option α->Prop) (w:c9 F) (x:α):tC (some x) F w=F (some x):=propext Iff.rfl
theorem Kq (A B:Prop) (w:c9 (A,B)):ao true A B w=A:=by simp[ao]
theorem I8 (A B:Prop) (w:c9 (A,B)):ao false A B w=B:=by simp[ao]
theorem Ol (b:Bool) (A B:Prop) (w:c9 (A,B)):ao (!b) A B w=ao b B A .mk:=by grind [ao]
theorem ao.split {b:Bool} {A B:Prop} {w:c9 (A,B)} (h1:b=true->A) (a:b=false->B):ao b A B w:=⟨h1,a⟩
theorem ao.dec {p:Prop} [Decidable p] {A B:Prop} {w:c9 (A,B)} (h1:p->A) (a:¬ p->B):ao (decide p) A B w:=⟨λh=>h1 (by simpa using h),λh=>a (by simpa using h)⟩
theorem ao.eq {a b:Int} {A B:Prop} {w:c9 (A,B)} (h1:a=b->A) (c:¬ a=b->B):ao (a==b) A B w:=⟨λh=>h1 (by simpa using h),λh=>c (by simpa using h)⟩
theorem ao.ne {a b:Int} {A B:Prop} {w:c9 (A,B)} (h1:¬ a=b->A) (c:a=b->B):ao (a != b) A B w:=⟨λh=>h1 (by simpa using h),λh=>c (by simpa using h)⟩
section
variable (P:Program) (T:Env) (H:View)
theorem Wo (F:SF) (vs:List V) (K:V->View->Prop):wF P F vs H K=(vs.length<=F.n/\wS P F.code (nA vs) H λe a H'=>(e=.ret∨e=.normal)/\Gw a H' F.res [] λl=>FN (zF l) (λv=>K v H') .mk):=propext Iff.rfl
theorem NQ (Q:Exit->Env->View->Prop):wS P .skip T H Q=Q .normal T H:=propext Iff.rfl
theorem Jd (q:Bool) (gs:List SG) (Q:Exit->Env->View->Prop):wS P (.region q gs) T H Q=AI P q gs T H (Q .normal):=propext Iff.rfl
theorem FY (a:List (Nat × Nat)) (gs:List SG) (Q:Exit->Env->View->Prop):wS P (.uQ a gs) T H Q=AI P false gs T H (λb H'=>AW a b (Q .normal b H')):=propext Iff.rfl
theorem EG (a:Nat × Nat × Nat) (b:List (Nat × Nat)) (gs:List SG) (Q:Exit->Env->View->Prop):wS P (.yQ a b gs) T H Q=AI P false gs T H (λc H'=>KA P a.1 (c a.2.1) (c a.2.2) H/\AW b c (Q .normal c H')):=propext Iff.rfl
theorem NN (K:Prop):AW [] T K=K:=propext Iff.rfl
theorem JN (a b:Nat) (l:List (Nat × Nat)) (K:Prop):AW ((a,b)::l) T K=(jE (T a) (T b)/\AW l T K):=propext Iff.rfl
theorem OL (i j k a b c:Nat):jE (.ptr i j k) (.ptr a b c)=(i≠a):=propext Iff.rfl
theorem N5 (i j k a b c d:Nat):jE (.ptr i j k) (.sl a b c d)=(i≠a):=propext Iff.rfl
theorem Ml (i j k e:Nat):jE (.ptr i j k) (.emp e)=True:=id rfl
theorem Mb (i j k:Nat):jE (.ptr i j k) .ez=True:=id rfl
theorem Lw (i j k:Nat) (es:List (List V)):jE (.ptr i j k) (.aZ es)=True:=id rfl
theorem Og (a b c d e f g h:Nat):jE (.sl a b c d) (.sl e f g h)=(a≠e):=propext Iff.rfl
theorem Q7 (a b c d e:Nat):jE (.sl a b c d) (.emp e)=True:=id rfl
theorem Sa (a b c d:Nat):jE (.sl a b c d) .ez=True:=id rfl
theorem Td (a b c d:Nat) (es:List (List V)):jE (.sl a b c d) (.aZ es)=True:=id rfl
theorem NL (k:Nat) (v:V):jE (.emp k) v=True:=by cases v<;>rfl
theorem M3 (v:V):jE .ez v=True:=by cases v<;>rfl
theorem Nf (es:List (List V)) (v:V):jE (.aZ es) v=True:=by cases v<;>rfl
theorem Lq (e:List V) (j:Nat) (v:V):jE (.aP e j) v=True:=by cases v<;>rfl
theorem Sl (x y:SC) (Q:Exit->Env->View->Prop):wS P (.seq x y) T H Q=wS P x T H λe a H'=>Dz e (wS P y a H' Q) (Q e a H'):=propext Iff.rfl
theorem NI (c:SX) (x y:SC) (Q:Exit->Env->View->Prop):wS P (.cond c x y) T H Q=eS (c.at T) (λv=>match v with
 | .val (.bool b)=>ao b (wS P x (wz c true T) H Q) (wS P y (wz c false T) H Q) .mk
 | _=>False) .mk:=propext Iff.rfl
theorem LK (id:Nat) (c:SC) (Q:Exit->Env->View->Prop):wS P (.block id c) T H Q=wS P c T H λe=>Q (so id e):=propext Iff.rfl
theorem M5 (id:Nat) (Q:Exit->Env->View->Prop):wS P (.exit id) T H Q=Q (.exit id) T H:=propext Iff.rfl
theorem R5 (Q:Exit->Env->View->Prop):wS P .ret T H Q=Q .ret T H:=propext Iff.rfl
theorem Kc (l:Nat) (c r:SC) (Q:Exit->Env->View->Prop):wS P (.scope l c r) T H Q=YO P l c r T H Q .mk:=propext Iff.rfl
theorem KY (l:Nat) (Q:Exit->Env->View->Prop):wS P (.label l) T H Q=Q .normal T H:=propext Iff.rfl
theorem N2 (l:Nat) (Q:Exit->Env->View->Prop):wS P (.goto l) T H Q=Q (.goto l) T H:=propext Iff.rfl
theorem Gq (l l':Nat) (a b:Prop):Cy l (.goto l') a b=(l'=l/\a):=propext Iff.rfl
theorem By (l:Nat) (a b:Prop):Cy l .normal a b=b:=propext Iff.rfl
theorem FD (l i:Nat) (a b:Prop):Cy l (.exit i) a b=b:=propext Iff.rfl
theorem HR (l:Nat) (a b:Prop):Cy l .ret a b=b:=propext Iff.rfl
theorem Kf (l:Nat) (a b:Prop):Dz (.goto l) a b=b:=propext Iff.rfl
theorem FF (i l:Nat):so i (.goto l)=.goto l:=id rfl
theorem Ou (c:SC) (Q:Exit->Env->View->Prop):wS P (.loop c) T H Q=aW P c T H Q .mk:=propext Iff.rfl
theorem NU (q:Bool) (K:Env->View->Prop):AI P q [] T H K=K T H:=propext Iff.rfl
theorem Lb (q:Bool) (g:SG) (r:List SG) (K:Env->View->Prop):AI P q (g::r) T H K=wG P q g T H λa H'=>AI P q r a H' K:=propext Iff.rfl
theorem OF (q:Bool) (ops:List (Option Nat × SB)) (K:Env->View->Prop):wG P q ⟨none,ops⟩ T H K=Cl P q ops T H K:=propext Iff.rfl
theorem OW (q:Bool) (d:Nat) (ops:List (Option Nat × SB)) (K:Env->View->Prop):wG P q ⟨some (d,true),ops⟩ T H K=eS (T d) (λv=>match v with
 | .val (.bool b)=>ao b (Cl P q ops (T.put (some d) (.val (.bool true))) H K) (K (jK ops (T.put (some d) (.val (.bool false)))) H) .mk
 | .bb []=>K (jK ops T) H
 | _=>False) .mk:=propext Iff.rfl
theorem KP (q:Bool) (d:Nat) (ops:List (Option Nat × SB)) (K:Env->View->Prop):wG P q ⟨some (d,false),ops⟩ T H K=eS (T d) (λv=>match v with
  | .val (.bool b)=>ao b (K (jK ops (T.put (some d) (.val (.bool true)))) H) (Cl P q ops (T.put (some d) (.val (.bool false))) H K) .mk
  | .bb []=>K (jK ops T) H
  | _=>False) .mk:=by
 simp only[wG,eS]
 generalize T d=v
 cases v with
 | val x=>grind [ao]
 | bb l=>grind
 | _=>simp
theorem De:jK [] T=T:=id rfl
theorem BX (d:Option Nat) (b:SB) (r:List (Option Nat × SB)):jK ((d,b)::r) T=jK r (T.put d (.bb [])):=id rfl
theorem NJ (q:Bool) (K:Env->View->Prop):Cl P q [] T H K=K T H:=propext Iff.rfl
theorem Kh (q:Bool) (d:Option Nat) (b:SB) (r:List (Option Nat × SB)) (K:Env->View->Prop):Cl P q ((d,b)::r) T H K=wB P q b T H λv H'=>FN v (λv'=>Cl P q r (T.put d v') H' K) .mk:=propext Iff.rfl
theorem Wm (q:Bool) (s:SI) (K:V->View->Prop):wB P q (.op s) T H K=wI P s T H K:=propext Iff.rfl
theorem NT (q:Bool) (f:SX) (args:List SX) (K:V->View->Prop):wB P q (.call f args) T H K=eS (f.at T) (λv=>match v with
 | .fn g first cap=>ay P q g (first++args.map (SX.at T)++cap) H K .mk
 | _=>False) .mk:=propext Iff.rfl
theorem KK (q:Bool) (f:SX) (args:List SX) (K:V->View->Prop):wB P q (.qj f args) T H K=eS (f.at T) (λv=>match v with
 | .fn g first cap=>ay P true g (first++args.map (SX.at T)++cap) H K .mk
 | _=>False) .mk:=propext Iff.rfl
theorem TN (x:SX) (K:V->View->Prop):wI P (.eR x) T H K=K (x.at T) H:=propext Iff.rfl
theorem Nx (c a b:SX) (K:V->View->Prop):wI P (.pick c a b) T H K=eS (c.at T) (λv=>match v with
  | .val (.bool t)=>ao t (K (a.at T) H) (K (b.at T) H) .mk
  | _=>False) .mk:=by
 simp only[wI,eS]
 generalize c.at T=v
 cases v with
 | val x =>
  grind [ao]
 | _=>simp
theorem Sw (x:SX) (K:V->View->Prop):wI P (.box x) T H K=eS (x.at T) (λv=>v.cells.all aL=true/\FN v.cells (λcs=>∀n,H n=.dead->K (.ptr n 0 0) (H.set n (.arr cs.length [cs]))) .mk) .mk:=propext Iff.rfl
theorem QJ (x:SX) (K:V->View->Prop):wI P (.kO x) T H K=eS (x.at T) (λv=>v.cells.all aL=true/\FN v.cells (λcs=>K (.aP cs 0) H) .mk) .mk:=propext Iff.rfl
theorem K5 (z:List V) (K:V->View->Prop):wI P (.alloc z) T H K=(z.all aL=true/\∀n,H n=.dead->K (.ptr n 0 0) (H.set n (.arr z.length [z]))):=propext Iff.rfl
theorem ND (sz:Option Nat) (a:SX) (K:V->View->Prop):wI P (.load sz a) T H K=eS (a.at T) (λv=>match v with
 | .ptr id i j=>KD (H id) (λo=>match o with
  | .arr _ es=>i<es.length/\FN (es.getD i []) (λe=>lq sz e j λv=>K v H) .mk
  | _=>False) .mk
 | .aP e j=>lq sz e j λv=>K v H
 | _=>False) .mk:=propext Iff.rfl
theorem Mj (sz:Option Nat) (a:SX) (K:V->View->Prop):wI P (.CA sz a) T H K=eS (a.at T) (λv=>match v with
 | .aP e j=>lq sz e j λv=>K v H
 | _=>False) .mk:=propext Iff.rfl
theorem L9 (sz:Nat) (a x:SX) (K:V->View->Prop):wI P (.store sz a x) T H K=eS (a.at T) (λv=>match v with
 | .ptr id i j=>KD (H id) (λo=>match o with
  | .arr esz es=>FN (x.at T).cells (λcs=>(i<es.length/\cs.length=sz/\j+cs.length<=esz/\cs.all aL=true) /\
   FN (es.set i (gm (es.getD i []) j cs)) (λes'=>K .any (H.set id (.arr esz es'))) .mk) .mk
  | _=>False) .mk
 | _=>False) .mk:=propext Iff.rfl
theorem Nv (x:SX) (K:V->View->Prop):wI P (.Et x) T H K=eS (x.at T) (λv=>match v with
 | .ptr id i j=>K (.ptr id i j) H
 | .aP e j=>K (.aP e j) H
 | .fn f a b=>K (.fn f a b) H
 | _=>False) .mk:=propext Iff.rfl
theorem Oh (off:Nat) (x:SX) (K:V->View->Prop):wI P (.addr off x) T H K=eS (x.at T) (λv=>match v with
 | .ptr id i j=>K (.ptr id i (j+off)) H
 | .aP e j=>K (.aP e (j+off)) H
 | _=>False) .mk:=propext Iff.rfl
theorem Lj (off:Nat) (sz:Option Nat) (x:SX) (K:V->View->Prop):wI P (.field off sz x) T H K=eS (x.at T) (λv=>match v with
 | .agg cs=>lq sz cs off λv=>K v H
 | _=>False) .mk:=propext Iff.rfl
theorem Tx (sz:Nat) (x i:SX) (K:V->View->Prop):wI P (.idx sz x i) T H K=tC (asNat (i.at T)) (λo=>match o with
  | none=>False
  | some q=>eS (x.at T) (λv=>match v with
   | .sl id off len esz=>(q<len/\esz=sz)/\K (.ptr id (off+q) 0) H
   | .aZ es=>tC es[q]? (λo=>match o with
    | some e=>e.length=sz/\K (.aP e 0) H
    | none=>False) .mk
   | _=>False) .mk) .mk:=by
 simp only[wI,tC,eS]
 cases asNat (i.at T) with
 | none=>rfl
 | some q =>
  grind
theorem Ov (f:FuncId) (first cap:List SX) (K:V->View->Prop):wI P (.tQ f first cap) T H K=K (.fn f (first.map (SX.at T)) (cap.map (SX.at T))) H:=propext Iff.rfl
theorem Mh (K:V->View->Prop):wI P .qW T H K=(∀n,H n=.dead->K (.mp n) (H.set n (.map [] 0))):=propext Iff.rfl
theorem T8 (i:Nat) (x:SX) (K:V->View->Prop):wI P (.ext i x) T H K=eS (x.at T) (λv=>match v with
 | .bb vs=>i<vs.length/\K (vs.getD i .any) H
 | _=>False) .mk:=propext Iff.rfl
theorem T7 (x:SX) (K:V->View->Prop):wI P (.len x) T H K=tC (cE (x.at T)) (λo=>match o with
 | some n=>K (cM n) H
 | none=>False) .mk:=propext Iff.rfl
theorem Oa (x:SX) (K:V->View->Prop):wI P (.rN x) T H K=eS (x.at T) (λv=>match v with
 | .val (.string s)=>K (cM s.size) H
 | _=>False) .mk:=propext Iff.rfl
theorem Ku (op:BinOp) (x y:SX) (K:V->View->Prop):wI P (.arith op x y) T H K=eS (x.at T) (λv=>eS (y.at T) (λv'=>match v,v' with
 | .val (.int k a),.val (.int c b)=>k=c/\tC (ja op k a b) (λo=>match o with | some v=>K (.val v) H | none=>False) .mk
 | _,_=>False) .mk) .mk:=propext Iff.rfl
theorem Wn (l:Bool) (x y:SX) (K:V->View->Prop):wI P (.sh l x y) T H K=eS (x.at T) (λv=>eS (y.at T) (λv'=>match v,v' with
 | .val (.int k a),.val (.int _ b)=>0<=b/\K (.val (.int k (PO l k a b))) H
 | _,_=>False) .mk) .mk:=propext Iff.rfl
theorem QL (op:BinOp) (x y:SX) (K:V->View->Prop):wI P (.AH op x y) T H K=eS (x.at T) (λv=>eS (y.at T) (λv'=>match v,v' with
 | .val (.string a),.val (.string b)=>(match op with
  | .eql=>K (.val (.bool (kd a b))) H
  | .neq=>K (.val (.bool (!kd a b))) H
  | _=>False)
 | _,_=>False) .mk) .mk:=propext Iff.rfl
theorem M1 (x i:SX) (K:V->View->Prop):wI P (.jv x i) T H K=eS (x.at T) (λv=>tC (asNat (i.at T)) (λo=>match v,o with
  | .val (.string s),some q=>tC (gD s)[q]? (λo=>match o with
   | some c=>K (.val (.int .u8 c)) H
   | none=>False) .mk
  | _,_=>False) .mk) .mk:=by
 simp only[wI,tC,eS]
 generalize x.at T=v
 generalize asNat (i.at T)=o
 cases v with
 | val u =>
  grind [gD]
 | _=>rfl
theorem Rj (x:SX) (K:V->View->Prop):wI P (.not x) T H K=eS (x.at T) (λv=>match v with
 | .val (.bool t)=>K (.val (.bool (!t))) H
 | _=>False) .mk:=propext Iff.rfl
theorem SY (eq:Bool) (k:Nat) (x y:SX) (K:V->View->Prop):wI P (.nil eq k x y) T H K=tC (DR (fN k (x.at T)) (fN k (y.at T))) (λo=>match o with
 | some b=>K (.val (.bool (if eq=true then b else !b))) H
 | none=>False) .mk:=propext Iff.rfl
theorem Nt (x y:SX) (K:V->View->Prop):wI P (.beq true x y) T H K=eS (x.at T) (λv=>eS (y.at T) (λv'=>match v,v' with
 | .val (.bool a),.val (.bool b)=>K (.val (.bool (a==b))) H
 | _,_=>False) .mk) .mk:=propext Iff.rfl
theorem OX (x y:SX) (K:V->View->Prop):wI P (.beq false x y) T H K=eS (x.at T) (λv=>eS (y.at T) (λv'=>match v,v' with
 | .val (.bool a),.val (.bool b)=>K (.val (.bool (a != b))) H
 | _,_=>False) .mk) .mk:=propext Iff.rfl
theorem Sj (x y:SX) (K:V->View->Prop):wI P (.mm true x y) T H K=eS (x.at T) (λv=>eS (y.at T) (λv'=>match v,v' with
 | .val (.int k a),.val (.int _ b)=>K (.val (.int k (if b>a then b else a))) H
 | _,_=>False) .mk) .mk:=propext Iff.rfl
theorem S7 (x y:SX) (K:V->View->Prop):wI P (.mm false x y) T H K=eS (x.at T) (λv=>eS (y.at T) (λv'=>match v,v' with
 | .val (.int k a),.val (.int _ b)=>K (.val (.int k (if b<a then b else a))) H
 | _,_=>False) .mk) .mk:=propext Iff.rfl
theorem N9 (k:IntKind) (x:SX) (K:V->View->Prop):wI P (.conv k x) T H K=eS (x.at T) (λv=>match v with
 | .val (.int _ a)=>K (.val (.int k (k.wrap a))) H
 | _=>False) .mk:=propext Iff.rfl
theorem LV (n k:Nat) (o:cr):View.set H n o k=if k=n then o else H k:=id rfl
theorem Lt (z:List V) (parts:List (Nat × Nat × SX)) (K:V->View->Prop):wI P (.build z parts) T H K=tC (ou z (parts.map λp=>(p.1,p.2.1,p.2.2.at T))) (λo=>match o with
 | some cs=>K (.agg cs) H
 | none=>False) .mk:=propext Iff.rfl
theorem Iq (len sz:Nat) (z:List V) (parts:List (Nat × SX)) (K:V->View->Prop):wI P (.bO len sz z parts) T H K=tC (mZ sz (List.replicate len z) (parts.map λp=>(p.1,p.2.at T))) (λo=>match o with
 | some es=>∀n,H n=.dead->K (.sl n 0 len sz) (H.set n (.arr sz es))
 | none=>False) .mk:=propext Iff.rfl
theorem LW (sz:Nat) (x:SX) (lo hi:Option SX) (K:V->View->Prop):wI P (.slice sz x lo hi) T H K=tC (c8 sz (x.at T) (lo.map (SX.at T)) (hi.map (SX.at T))) (λo=>match o with
 | some (v,.none,_)=>K v H
 | _=>False) .mk:=propext Iff.rfl
theorem OE (sz bytes:Nat) (z:List V) (l c:SX) (K:V->View->Prop):wI P (.make sz bytes z l c) T H K=tC (asNat (l.at T)) (λa=>tC (asNat (c.at T)) (λb=>match a,b with
 | some l,some c=>(l<=c/\c<aF/\bytes*c<aF)/\(c=0->K (.emp 2) H)/\(c≠0->∀n,H n=.dead->K (.sl n 0 l sz) (H.set n (.arr sz (List.replicate l z))))
 | _,_=>False) .mk) .mk:=propext Iff.rfl
def mO (sz bytes:Nat) (x:V) (xs:List (List V)) (H:View) (K:V->View->Prop) (_:c9 (H,K)):Prop:=if xs.isEmpty=true then (match x with
  | .emp k=>K (.emp k) H
  | .ez=>K .ez H
  | .aZ es=>K (.aZ es) H
  | .sl a b c d=>K (.sl a b c d) H
  | _=>False)
 else (xs.all λe=>e.length==sz&&e.all aL)=true/\(match x with
  | .emp _=>(xs.length*bytes<aF/\xs.length<aF)/\∀n,H n=.dead->K (.sl n 0 xs.length sz) (H.set n (.arr sz xs))
  | .sl id off len esz=>match H id with
   | .arr _ es=>(off+len<=es.length/\esz=sz/\(len+xs.length)*bytes<aF/\len+xs.length<aF) /\
    ∀n,H n=.dead->K (.sl n 0 (len+xs.length) esz) ((H.set id .dead).set n (.arr esz ((es.drop off).take len++xs)))
   | _=>False
  | _=>False)
theorem SQ (sz bytes:Nat) (x y:SX) (K:V->View->Prop):wI P (.app sz bytes x y) T H K=tC (bM H (y.at T)) (λo=>match o with
 | some (xs,_)=>mO sz bytes (x.at T) xs H K .mk
 | none=>False) .mk:=propext Iff.rfl
theorem wy (sz bytes k:Nat) (xs:List (List V)) (K:V->View->Prop) (w:c9 (H,K)) (a:xs.isEmpty=false):mO sz bytes (.emp k) xs H K w=((xs.all λe=>e.length==sz&&e.all aL)=true/\(xs.length*bytes<aF/\xs.length<aF)/\∀n,H n=.dead->K (.sl n 0 xs.length sz) (H.set n (.arr sz xs))):=by
 grind [mO]
theorem vS (sz bytes id off len esz:Nat) (xs:List (List V)) (K:V->View->Prop) (w:c9 (H,K)) (a:xs.isEmpty=false):mO sz bytes (.sl id off len esz) xs H K w=((xs.all λe=>e.length==sz&&e.all aL)=true/\KD (H id) (λo=>match o with
  | .arr _ es=>(off+len<=es.length/\esz=sz/\(len+xs.length)*bytes<aF/\len+xs.length<aF) /\
   ∀n,H n=.dead->K (.sl n 0 (len+xs.length) esz) ((H.set id .dead).set n (.arr esz ((es.drop off).take len++xs)))
  | _=>False) .mk):=by
 unfold mO KD;rw[aaI (by rw[a];simp)]
theorem j7 (id off len esz z:Nat) (es:List (List V)) (hH:H id=.arr z es) (a:off+(len+1)<=es.length):bM H (.sl id off (len+1) esz)=some ((es.drop off).take (len+1),[id]):=by
 grind [bM]
theorem oh (es:List (List V)):bM H (.aZ es)=some (es,[]):=id rfl
theorem xL (k:Nat):bM H (.emp k)=some ([],[]):=id rfl
theorem M4 (x:SX) (K:V->View->Prop):wI P (.GH x) T H K=eS (x.at T) (λv=>match v with
 | .aZ es=>tC (mC es) (λo=>match o with
  | some l=>K (.val (.string ⟨l.toArray⟩)) H
  | none=>False) .mk
 | _=>False) .mk:=propext Iff.rfl
theorem Ni (x:SX) (K:V->View->Prop):wI P (.hX x) T H K=eS (x.at T) (λv=>match v with
 | .val (.string s)=>K (.aZ (iy s)) H
 | _=>False) .mk:=propext Iff.rfl
def jM (P:Program) (op:Op) (ty:TypeId) (T:Env) (H:View) (K:V->View->Prop) (_:c9 (T,H,K)):Prop:=wI P (.old op ty) T H K
theorem TO (op:Op) (ty:TypeId) (K:V->View->Prop):wI P (.old op ty) T H K=jM P op ty T H K .mk:=propext Iff.rfl
theorem Uh (t:Nat):ev T (.tmp t)=T t:=id rfl
theorem J7 (v:Value):ev T (.const v)=gv v:=id rfl
theorem R7 (t:Nat):(SX.tmp t).at T=T t:=id rfl
theorem QO (v:V):(SX.val v).at T=v:=id rfl
theorem N1 (d t:Nat) (v:V):(T.put (some d) v) t=if t=d then v else T t:=id rfl
theorem Ln (v:V):T.put none v=T:=id rfl
theorem KT (vs:List V) (t:Nat):nA vs t=vs.getD t .any:=id rfl
theorem Ff (e:List V) (j:Nat) (K:V->Prop):lq none e j K=(j<e.length/\K (e.getD j .any)):=propext Iff.rfl
theorem Fk (n:Nat) (e:List V) (j:Nat) (K:V->Prop):lq (some n) e j K=(j+n<=e.length/\K (.agg ((e.drop j).take n))):=propext Iff.rfl
theorem EE (a b:Prop):Dz .normal a b=a:=propext Iff.rfl
theorem Md (i:Nat) (a b:Prop):Dz (.exit i) a b=b:=propext Iff.rfl
theorem NX (a b:Prop):Dz .ret a b=b:=propext Iff.rfl
theorem Cd (i:Nat):so i .normal=.normal:=id rfl
theorem IG (i:Nat):so i .ret=.ret:=id rfl
theorem F4 (i j:Nat):so i (.exit j)=if j=i then .normal else .exit j:=by simp only[so]
theorem Na (acc:List V) (K:List V->Prop):Gw T H [] acc K=K acc:=propext Iff.rfl
theorem J0 (r:SR) (l:List SR) (acc:List V) (K:List V->Prop):Gw T H (r::l) acc K=wR T H r λv=>Gw T H l (acc++[v]) K:=propext Iff.rfl
theorem TL (t:Nat) (K:V->Prop):wR T H (.tmp t) K=K (T t):=propext Iff.rfl
theorem Nc (t:Nat) (sz:Option Nat) (K:V->Prop):wR T H (.cell t sz) K=eS (T t) (λv=>match v with
 | .ptr id i j=>KD (H id) (λo=>match o with
  | .arr _ es=>i<es.length/\FN (es.getD i []) (λe=>lq sz e j K) .mk
  | _=>False) .mk
 | .aP e j=>lq sz e j K
 | _=>False) .mk:=propext Iff.rfl
theorem IW (t:Nat) (b:Bool):wz (.tmp t) b T=T.put (some t) (.val (.bool b)):=id rfl
theorem IT (v:V) (b:Bool):wz (.val v) b T=T:=id rfl
theorem QV:(Exit.ret=Exit.ret∨Exit.ret=Exit.normal)=True:=by simp
theorem HJ:(Exit.normal=Exit.ret∨Exit.normal=Exit.normal)=True:=by simp
end
section
variable {P:Program} {T:Env} {H:View}
theorem aW.intro {c:SC} {Q:Exit->Env->View->Prop} {v:c9 (T,H,Q)} (I:Nat->Env->View->Prop) (k:Nat) (d:I k T H)
  (f:∀k T H,I k T H->wS P c T H λe a H'=>Dz e (∃b,b<k/\I b a H') (Q e a H')):aW P c T H Q v:=by
 simp only[aW,wS]
 exact⟨I,⟨k,d⟩,f⟩
theorem ay.pure {q:Bool} {f:FuncId} {vs:List V} {K:V->View->Prop} {v:c9 (H,K)} {t:V} (b:aC P f vs t) (hk:K t H) (a:dZ P f=true:=by kernel_rfl):ay P q f vs H K v:=by
 cases q with
 | true=>exact b.Pz a hk
 | false =>
  refine⟨a,?_⟩
  rintro h rfl
  exact⟨t,h,bZ.hZ b h,.refl _,hk⟩
theorem ay.cw {f:FuncId} {vs:List V} {K:V->View->Prop} {v:c9 (H,K)} (a:az P f vs H K):ay P false f vs H K v:=a
theorem Ir:Heap.view []=λ_=>cr.dead:=by grind [Heap.view]
theorem aC.of {f:FuncId} {vs:List V} {t:V} (b:∀v∈vs,Tree v) (h:az P f vs (λ_=>.dead) λr H'=>∀a:Heap,a.view=H'->Fr a r t):aC P f vs t:=by
 obtain⟨r,a,c,_,d⟩:=h.2 [] Ir
 grind [aC.zl]
theorem wrap64 {x:Int} (h1 : -9223372036854775808<=x) (a:x<=9223372036854775807):IntKind.wrap .i64 x=x:=by
 unfold IntKind.wrap
 have b:(2:Int) ^ IntKind.i64.bits=18446744073709551616:=by rfl
 have c:(2:Int) ^ (IntKind.i64.bits-1)=9223372036854775808:=by rfl
 have d:IntKind.i64.signed=true:=by rfl
 grind
theorem HP {k:IntKind} {i:Int} (h:0<=i):asNat (.val (.int k i))=some i.toNat:=by simp[asNat,h]
end
theorem HU (v:Value):V.cells (.val v)=[.val v]:=id rfl
theorem Cx (v:Value):aL (.val v)=true:=id rfl
theorem IU (k:Nat):V.cells (.emp k)=[.emp k]:=id rfl
theorem CM (k:Nat):aL (.emp k)=true:=id rfl
theorem Iv  : V.cells .ez=[.ez]:=id rfl
theorem OO  : aL .ez=true:=id rfl
theorem IP (es:List (List V)):V.cells (.aZ es)=[.aZ es]:=id rfl
theorem NW (es:List (List V)):aL (.aZ es)=true:=id rfl
theorem LS (a b c d:Nat):V.cells (.sl a b c d)=[.sl a b c d]:=id rfl
theorem TG (a b c d:Nat):aL (.sl a b c d)=true:=id rfl
theorem HV (a b c:Nat):V.cells (.ptr a b c)=[.ptr a b c]:=id rfl
theorem Nk (a b c:Nat):aL (.ptr a b c)=true:=id rfl
theorem Fe (e:List V) (j:Nat):V.cells (.aP e j)=[.aP e j]:=id rfl
theorem JS (e:List V) (j:Nat):aL (.aP e j)=true:=id rfl
theorem KF (a:Nat):V.cells (.mp a)=[.mp a]:=id rfl
theorem S3 (a:Nat):aL (.mp a)=true:=id rfl
theorem Ls (f:FuncId) (a b:List V):V.cells (.fn f a b)=[.fn f a b]:=id rfl
theorem S9 (f:FuncId) (a b:List V):aL (.fn f a b)=true:=id rfl
theorem IL (cs:List V):V.cells (.agg cs)=cs:=id rfl
theorem Np (k:Nat):cE (.emp k)=some 0:=id rfl
theorem Ob:cE .ez=some 0:=id rfl
theorem OS (es:List (List V)):cE (.aZ es)=some es.length:=id rfl
theorem Ss (a b c d:Nat):cE (.sl a b c d)=some c:=id rfl
abbrev Zq {p:Prop} (_:p):Prop:=p
theorem WM (P:Program) (T:Env) (H:View) (a:SC) (Q:Exit->Env->View->Prop):wS P (ai [a]) T H Q=wS P a T H Q:=by rw[ai]
theorem WE (P:Program) (T:Env) (H:View) (a b:SC) (l:List SC) (Q:Exit->Env->View->Prop):wS P (ai (a::b::l)) T H Q=wS P (.seq a (ai (b::l))) T H Q:=by rw[ai]
abbrev Wr:Prop:=Zq (And.intro @WM<|And.intro @WE<|And.intro @Wo<|And.intro @NQ<|And.intro @Jd<|And.intro @FY<|And.intro @EG<|And.intro @NN<|And.intro @JN<|And.intro @Sl <|
 And.intro @NI<|And.intro @LK<|And.intro @M5<|And.intro @R5<|And.intro @Kc<|And.intro @KY<|And.intro @N2<|And.intro @Gq<|And.intro @By<|And.intro @FD<|And.intro @HR<|And.intro @Kf<|And.intro @FF <|
 And.intro @Ou<|And.intro @NU<|And.intro @Lb<|And.intro @OF <|
 And.intro @OW<|And.intro @KP<|And.intro @De<|And.intro @BX <|
 And.intro @NJ<|And.intro @Kh<|And.intro @Wm<|And.intro @NT<|And.intro @KK <|
 And.intro @TN<|And.intro @Nx<|And.intro @Sw<|And.intro @QJ <|
 And.intro @K5<|And.intro @ND<|And.intro @Mj<|And.intro @L9 <|
 And.intro @Nv<|And.intro @Oh<|And.intro @Lj<|And.intro @Tx <|
 And.intro @Ov<|And.intro @Mh<|And.intro @T8<|And.intro @T7 <|
 And.intro @Oa<|And.intro @Ku<|And.intro @Wn<|And.intro @QL<|And.intro @M1 <|
 And.intro @Rj<|And.intro @SY<|And.intro @Nt<|And.intro @OX <|
 And.intro @Sj<|And.intro @S7<|And.intro @N9<|And.intro @M4 <|
 And.intro @Ni<|And.intro @Lt<|And.intro @Iq<|And.intro @LW <|
 And.intro @OE<|And.intro @SQ<|And.intro @TO<|And.intro @Uh<|And.intro @J7<|And.intro @R7<|And.intro @QO <|
 And.intro @N1<|And.intro @Ln<|And.intro @KT<|And.intro @Ff <|
 And.intro @Fk<|And.intro @EE<|And.intro @Md<|And.intro @NX <|
 And.intro @Cd<|And.intro @IG<|And.intro @F4<|And.intro @Na <|
 And.intro @J0<|And.intro @TL<|And.intro @Nc<|And.intro @IW @IT)
theorem wr:Wr:=⟨@WM,@WE,@Wo,@NQ,@Jd,@FY,@EG,@NN,@JN,@Sl,@NI,@LK,@M5,@R5,@Kc,@KY,@N2,@Gq,@By,@FD,@HR,@Kf,@FF,@Ou,@NU,@Lb,@OF,@OW,@KP,@De,@BX,@NJ,@Kh,@Wm,@NT,@KK,@TN,@Nx,@Sw,@QJ,@K5,@ND,@Mj,@L9,@Nv,@Oh,@Lj,@Tx,@Ov,@Mh,@T8,@T7,@Oa,@Ku,@Wn,@QL,@M1,@Rj,@SY,@Nt,@OX,@Sj,@S7,@N9,@M4,@Ni,@Lt,@Iq,@LW,@OE,@SQ,@TO,@Uh,@J7,@R7,@QO,@N1,@Ln,@KT,@Ff,@Fk,@EE,@Md,@NX,@Cd,@IG,@F4,@Na,@J0,@TL,@Nc,@IW,@IT⟩
theorem Sx:zF []=.bb []:=id rfl
theorem QM (v:V):zF [v]=v:=id rfl
theorem Ud (v w:V) (l:List V):zF (v::w::l)=.bb (v::w::l):=id rfl
theorem WO (n:Nat):cM n=.val (.int .i64 n):=id rfl
theorem LZ (e:List V) (j:Nat) (cs:List V):gm e j cs=e.take j++cs++e.drop (j+cs.length):=id rfl
theorem K2 (z:List V):ou z []=some z:=id rfl
theorem KJ (z:List V) (o n:Nat) (x:V) (r:List (Nat × Nat × V)):ou z ((o,n,x)::r)=if x.cells.length=n/\o+n<=z.length/\x.cells.all aL=true then ou (gm z o x.cells) r else none:=by rw[ou]
theorem N3 (k:Nat) (z:List (List V)):mZ k z []=some z:=by rw[mZ]
theorem N0 (k:Nat) (z:List (List V)) (i:Nat) (x:V) (r:List (Nat × V)):mZ k z ((i,x)::r)=if x.cells.length=k/\i<z.length/\x.cells.all aL=true then mZ k (z.set i x.cells) r else none:=by rw[mZ]
theorem Q4 (b:Bool):DR (some true) (some b)=some b:=id rfl
theorem Te (b:Bool):DR (some b) (some true)=some b:=by cases b<;>rfl
section
variable (k:IntKind) (a b:Int)
theorem Oe:ja .add k a b=some (.int k (k.wrap (a+b))):=id rfl
theorem NC:ja .sub k a b=some (.int k (k.wrap (a-b))):=id rfl
theorem No:ja .mul k a b=some (.int k (k.wrap (a*b))):=id rfl
theorem Ns:ja .quo k a b=if b=0 then none else some (.int k (k.wrap (a.tdiv b))):=id rfl
theorem Nu:ja .rem k a b=if b=0 then none else some (.int k (a.tmod b)):=id rfl
theorem NF:ja .eql k a b=some (.bool (a==b)):=id rfl
theorem NY:ja .neq k a b=some (.bool (a != b)):=id rfl
theorem OR:ja .lss k a b=some (.bool (a<b)):=id rfl
theorem NH:ja .leq k a b=some (.bool (a<=b)):=id rfl
theorem NG:ja .gtr k a b=some (.bool (a>b)):=id rfl
theorem OB:ja .geq k a b=some (.bool (a≥b)):=id rfl
theorem Sy:ja .or k a b=some (.int k (k.wrap (BitVec.ofInt k.bits a ||| BitVec.ofInt k.bits b).toNat)):=id rfl
theorem Oq:ja .and k a b=some (.int k (k.wrap (BitVec.ofInt k.bits a &&& BitVec.ofInt k.bits b).toNat)):=id rfl
theorem Gh:ja .andNot k a b=some (.int k (k.wrap (BitVec.ofInt k.bits a &&& ~~~(BitVec.ofInt k.bits b)).toNat)):=id rfl
end
theorem T6:fN 0 (.emp 1)=some true:=id rfl
theorem Un:fN 0 (.emp 2)=some false:=id rfl
theorem Nj:fN 0 .ez=some false:=id rfl
theorem SD (a b n c:Nat):fN 0 (.sl a b (n+1) c)=some false:=id rfl
theorem O1 (e:List V) (l:List (List V)):fN 0 (.aZ (e::l))=some false:=id rfl
theorem Oy (a b c:Nat):fN 1 (.ptr a b c)=some false:=id rfl
theorem Ka (e:List V) (j:Nat):fN 1 (.aP e j)=some false:=id rfl
theorem TT (a:Nat):fN 2 (.mp a)=some false:=id rfl
theorem SE (f:FuncId) (a b:List V):fN 3 (.fn f a b)=some false:=id rfl
theorem Q5:fN 1 (.val (.pointer none))=some true:=id rfl
theorem Up:fN 2 (.val (.map none))=some true:=id rfl
theorem RT:fN 3 (.val .nilFunc)=some true:=id rfl
abbrev Wq:Prop:=Zq (And.intro @Sx<|And.intro @QM<|And.intro @Ud<|And.intro @WO<|And.intro @LZ<|And.intro @K2<|And.intro @KJ<|And.intro @N3<|And.intro @N0<|And.intro @Q4<|And.intro @Te<|And.intro @Oe<|And.intro @NC<|And.intro @No<|And.intro @Ns<|And.intro @Nu<|And.intro @NF<|And.intro @NY<|And.intro @OR<|And.intro @NH<|And.intro @NG<|And.intro @OB<|And.intro @Sy<|And.intro @Oq<|And.intro @Gh<|And.intro @T6<|And.intro @Un<|And.intro @Nj<|And.intro @SD<|And.intro @O1<|And.intro @Oy<|And.intro @Ka<|And.intro @TT<|And.intro @SE<|And.intro @Q5<|And.intro @Up<|And.intro @RT<|And.intro @eq_self.{1}<|And.intro @ne_eq.{1}<|And.intro @implies_true.{1}<|And.intro @implies_true.{0}<|And.intro @decide_true<|And.intro @decide_false<|And.intro @OL<|And.intro @N5<|And.intro @Ml<|And.intro @Mb<|And.intro @Lw<|And.intro @Lq<|And.intro @Og<|And.intro @Q7<|And.intro @Sa<|And.intro @Td<|And.intro @NL<|And.intro @M3<|And.intro @Nf<|And.intro @HU<|And.intro @Cx<|And.intro @IU<|And.intro @CM<|And.intro @Iv<|And.intro @OO<|And.intro @IP<|And.intro @NW<|And.intro @LS<|And.intro @TG<|And.intro @HV<|And.intro @Nk<|And.intro @Fe<|And.intro @JS<|And.intro @KF<|And.intro @S3<|And.intro @Ls<|And.intro @S9<|And.intro @IL<|And.intro @Np<|And.intro @Ob<|And.intro @OS<|And.intro @Ss<|And.intro @true_or<|And.intro @or_true<|And.intro @or_false<|And.intro @false_or <|
 And.intro @Zp<|And.intro @Nr<|And.intro @NV<|And.intro @OJ <|
 And.intro @Od<|And.intro @RV<|And.intro @NR<|And.intro @JW <|
 And.intro @Rr<|And.intro @R8<|And.intro @OU<|And.intro @N8 <|
 And.intro @Oo<|And.intro @M8<|And.intro @L8<|And.intro @Kq <|
 And.intro @I8<|And.intro @Ol<|And.intro @List.getD_cons_zero.{0}<|And.intro @List.getD_cons_succ.{0} <|
 And.intro @List.length_cons.{0}<|And.intro @List.length_nil.{0}<|And.intro @List.length_map.{0,0}<|And.intro @wrap64 <|
 And.intro @true_and<|And.intro @and_true<|And.intro @and_self<|And.intro @aaX <|
 And.intro @ab4<|And.intro @List.all_cons.{0}<|And.intro @List.all_nil.{0}<|And.intro @Bool.and_self <|
 And.intro @List.nil_append.{0}<|And.intro @List.cons_append.{0}<|And.intro @abx<|And.intro @HP <|
 And.intro @abk<|And.intro @QV<|And.intro @HJ<|And.intro @bne_iff_ne.{0} <|
 And.intro @beq_iff_eq.{0}<|And.intro @Bool.not_eq_true<|And.intro @acN<|And.intro @Bool.not_false <|
 And.intro @List.append_nil.{0}<|And.intro @List.map_cons.{0,0}<|And.intro @List.map_nil.{0,0}<|And.intro @Bool.true_eq_false <|
 And.intro @aa9<|And.intro @false_implies<|And.intro @true_implies<|And.intro @Bool.not_not <|
 And.intro @List.drop_zero.{0}<|And.intro @LV<|And.intro @List.set_cons_zero.{0}<|And.intro @List.set_cons_succ.{0} <|
 And.intro @List.drop_nil.{0}<|And.intro @acf<|And.intro @List.replicate_zero.{0}<|And.intro @List.replicate_succ.{0} <|
 And.intro @oh<|And.intro @xL<|And.intro @wy<|And.intro @vS <|
 And.intro @List.isEmpty_cons.{0}<|And.intro @Option.map_none.{0,0}<|And.intro @Option.map_some.{0,0}<|And.intro @Nat.succ_ne_zero <|
 And.intro @List.take_succ_cons.{0}<|And.intro @List.take_zero.{0}<|And.intro @List.drop_succ_cons.{0}<|And.intro @bne_eq_false_iff_eq.{0} <|
 And.intro @beq_eq_false_iff_ne.{0}<|And.intro @not_true_eq_false<|And.intro @not_false_eq_true @acs)
theorem wq:Wq:=⟨@Sx,@QM,@Ud,@WO,@LZ,@K2,@KJ,@N3,@N0,@Q4,@Te,@Oe,@NC,@No,@Ns,@Nu,@NF,@NY,@OR,@NH,@NG,@OB,@Sy,@Oq,@Gh,@T6,@Un,@Nj,@SD,@O1,@Oy,@Ka,@TT,@SE,@Q5,@Up,@RT,@eq_self,@ne_eq,@implies_true,@implies_true,@decide_true,@decide_false,@OL,@N5,@Ml,@Mb,@Lw,@Lq,@Og,@Q7,@Sa,@Td,@NL,@M3,@Nf,@HU,@Cx,@IU,@CM,@Iv,@OO,@IP,@NW,@LS,@TG,@HV,@Nk,@Fe,@JS,@KF,@S3,@Ls,@S9,@IL,@Np,@Ob,@OS,@Ss,@true_or,@or_true,@or_false,@false_or,@Zp,@Nr,@NV,@OJ,@Od,@RV,@NR,@JW,@Rr,@R8,@OU,@N8,@Oo,@M8,@L8,@Kq,@I8,@Ol,@abO,@acy,@aaS,@abe,@aaM,@wrap64,@true_and,@and_true,@and_self,@aaX,@ab4,@abT,@List.all_nil,@Bool.and_self,@abD,@abl,@abx,@HP,@abk,@QV,@HJ,@bne_iff_ne,@abJ,@Bool.not_eq_true,@acN,@Bool.not_false,@abo,@aba,@acg,@Bool.true_eq_false,@aa9,@false_implies,@true_implies,@Bool.not_not,@abI,@LV,@List.set_cons_zero,@List.set_cons_succ,@List.drop_nil,@acf,@List.replicate_zero,@List.replicate_succ,@oh,@xL,@wy,@vS,@List.isEmpty_cons,@Option.map_none,@aaU,@Nat.succ_ne_zero,@acP,@List.take_zero,@acQ,@bne_eq_false_iff_eq,@beq_eq_false_iff_ne,@not_true_eq_false,@not_false_eq_true,@acs⟩
inductive zK:V->Prop
 | val (v:Value):zK (.val v)
 | bb (cs:List V):(∀i,i<cs.length->∃v,cs.getD i .any=.val v)->zK (.bb cs)
theorem Vh {Z d:Nat->Prop} {μ μ':Mu} {hp b:Array Obj} {t:V} {x:Value} (e:zK t) (h:aD Z μ hp t x):aD d μ' b t x:=by
 cases e with
 | val=>cases h with | val _ a=>exact .val _ a
 | bb cs f =>
  cases h with
  | bb _ c h1 g =>
   refine .bb _ _ h1 λi hi=>?_
   have:=g i hi
   obtain⟨v,a⟩:=f i hi
   rw[a] at this ⊢
   generalize c.getD i undef=y at this ⊢
   cases this with | val _ a=>exact .val _ a
theorem bZ.borrow {P:Program} {f:FuncId} {d vs:List V} {t:V} {h:Heap} (q:aC P f d t) (r:zK t) (u:d.length=vs.length)
  (j:∀i,i<vs.length->Fr h (vs.getD i .any) (d.getD i .any)):bZ P f vs h t h:=by
 refine⟨aaQ _,λZ μ F w xs c hr k=>?_⟩
 have l:gG (λb=>Z b∨kC μ b) μ w.heap d xs:=⟨by rw[u,c.1],λi hi=>EP hr (j i (by omega)) (c.2 i (by omega))⟩
 have m:∀b,(Z b∨kC μ b)->b<w.heap.size:=by
  rintro b (a | ⟨id,o,s,a⟩)
  .exact hr.df b a
  .exact hr.lt _ _ _ _ a
 refine(q _ μ w xs l m).mono ?_
 rintro e w' ⟨x,z,rfl,v,n,A,y,g⟩
 have hm:iP Z Z μ μ w.heap w'.heap:=⟨λ_ h=>h,λb a=>g b (hr.df b a) (λx=>x),λ_ _ h=>h,g.mn⟩
 exact⟨x,Z,μ,rfl,Vh r (v μ),⟨λid=>(hr.obj id).mono hm rfl (λb o s p=>g b (hr.lt _ _ _ _ p) (λx=>x)),hr.inj,λid b o s p=>abh (hr.lt _ _ _ _ p) n.size,λb a=>abh (hr.df b a) n.size,hr.ix⟩,
  ⟨n,hm,λb a _=>g b a (λx=>x),λb a=>.inl a,λ_ _ _ _ h=>.inl h⟩,λ_ _=>rfl⟩
def cq (H:View) (v t:V):Prop:=∀h:Heap,h.view=H->Fr h v t
theorem cq.tree {H:View} {v:V} (h:Tree v):cq H v v:=λ_ _=>.tree _ h
theorem cq.sl {H:View} {id off len esz z:Nat} {es:List (List V)} (hH:H id=.arr z es) (hle:off+len<=es.length) (c:∀e∈es,∀v∈e,Tree v):
  cq H (.sl id off len esz) (.aZ ((es.drop off).take len)):=by
 rintro h rfl
 have b:∀i,i<len->((es.drop off).take len).getD i []=es.getD (off+i) []:=λi hi=>by
  simp[hi]
 refine .sl id off len esz z es _ hH hle (by simp;omega) (λi hi=>by rw[b i hi]) (λi j hi a=>?_)
 rw[b i hi] at a ⊢
 refine .tree _ ?_
 have h1:off+i<es.length:=by omega
 have d:es.getD (off+i) []=es[off+i]:=by simp[h1]
 rw[d] at a ⊢
 have f:(es[off+i]).getD j .any=(es[off+i])[j]:=by simp[a]
 rw[f]
 exact c _ (aaP _) _ (aaP _)
theorem ay.borrow {P:Program} {q:Bool} {f:FuncId} {H:View} {vs c:List V} {K:V->View->Prop} {v:c9 (H,K)} {t:V} (d:aC P f c t) (a:dZ P f=true) (g:zK t) (j:c.length=vs.length)
  (b:∀i,i<vs.length->cq H (vs.getD i .any) (c.getD i .any)) (hk:K t H):ay P q f vs H K v:=by
 unfold ay
 cases q with
 | true=>exact⟨a,λh e=>⟨t,h,bZ.borrow d g j (λi hi=>b i hi h e),λ_ _=>rfl,e▸hk⟩⟩
 | false =>
  refine⟨a,?_⟩
  rintro h rfl
  exact⟨t,h,bZ.borrow d g j (λi hi=>b i hi h rfl),.refl _,hk⟩
abbrev gi (x:Int):V:=.val (.int .i64 x)
abbrev gb (x:Bool):V:=.val (.bool x)
abbrev gs (x:ByteArray):V:=.val (.string x)
theorem mixed:(aa).follows .mixedOrders=true:=by kernel_rfl
def encI (l:List Int):V:=.aZ (l.map λx=>[gi x])
def bX (l:List Bool):V:=.aZ (l.map λx=>[gb x])
theorem bC (l:List Int):Tree (encI l):=by
 refine .aZ _ λi j hi a=>?_
 simp only[aaM] at hi
 simp[hi] at a ⊢
 subst a
 exact .val _
def aI {α:Type} (l:List α):Prop:=l.length<4611686018427387904
def qJ:SC:=
 ai [ai [ag [af 11 5,af 12 0,aM 13 12,aS 14 .lss 11 13],bQ 14 (.exit 0)],.block 1 (ai [ag [af 17 0,af 18 5,aK 19 1 17 18,au 20 19,af 21 1,af 22 5,aK 23 1 21 22,au 24 23,aS 25 .neq 20 24],aX 25 (ai [ag [bh 4 false],.ret])]),ag [af 15 5,aH 16 .add 15 1,af 5 16]]
def sS:SF:=⟨ai [ag [bh 4 false],ai [ag [af 6 0,aM 7 6,af 8 1,aM 9 8,aS 10 .neq 7 9],aX 10 (ai [ag [bh 4 false],.ret])],ai [ag [aT 5 0],bS 0 qJ],ag [bh 4 true],.ret],
 [.tmp 4],26⟩
theorem yT:aJ aa 26 []=some sS:=by kernel_rfl
theorem Xm {α:Type} [BEq α] [LawfulBEq α] {a b:List α} (h:a.length≠b.length):(a==b)=false:=by
 simp only[beq_eq_false_iff_ne];intro e;exact h (by rw[e])
theorem Xl (a b:List Int) (l:aI a) (H:View):az aa 26 [encI a,encI b] H λr H'=>r=gb (a==b)/\H'=H:=by
 refine az.of mixed yT ?_
 unfold aI at l
 simp(disch:=omega)only[↓wr,seval,wq,sS,encI]
 apply ao.ne<;>intro h
 .simp(disch:=omega)only[↓wr,seval,wq]
  rw[Xm (by omega)]
 .simp(disch:=omega)only[↓wr,seval,wq]
  refine aW.intro (λk T H'=>∃i:Nat,i+k=a.length/\a.take i=b.take i/\T 0=encI a/\T 1=encI b/\T 5=gi i/\H'=H) a.length ?_ ?_
  .exact⟨0,by omega,by simp,rfl,rfl,rfl,rfl⟩
  .rintro k T H' ⟨i,hk,hi,c,h1,d,rfl⟩
   simp(disch:=omega)only[↓wr,seval,wq,qJ,c,d,encI]
   apply ao.dec<;>intro m
   .have g:a[i]?=some (a[i]'(by omega)):=aaH (by omega)
    have j:b[i]?=some (b[i]'(by omega)):=aaH (by omega)
    simp(disch:=omega)only[↓wr,seval,wq,c,h1,d,encI,aaJ,g,j]
    apply ao.ne<;>intro f
    .simp(disch:=omega)only[↓wr,seval,wq]
     have:(a==b)=false:=by
      simp only[beq_eq_false_iff_ne];rintro rfl;exact f rfl
     rw[this]
    .simp(disch:=omega)only[↓wr,seval,wq,c,h1,d,encI]
     refine⟨k-1,by omega,i+1,by omega,?_,rfl⟩
     rw[aa2,aa2,hi,g,j,f]
   .simp(disch:=omega)only[↓wr,seval,wq]
    have:a=b:=by
     have e:i=a.length:=by omega
     rw[aaY (by omega),aaY (by omega)] at hi
     exact hi
    rw[this];simp
theorem Xa (a b:List Int) (c:aI a):aC aa 26 [encI a,encI b] (gb (a==b)):=
 aC.of (by simp[bC]) ((Xl a b c _).mono λr H' h d _=>by rw[h.1];exact .tree _ (.val _))
theorem jR (l:List Bool):Tree (bX l):=by
 refine .aZ _ λi j hi a=>?_
 simp only[aaM] at hi
 simp[hi] at a ⊢
 subst a
 exact .val _
end Gv
