/-
  Part 5 of the proof: what the machine does and what the functions answer.
  Conditions: those that each lemma names.
-/
import Derived.Test.YtiophifnkakjgaaGreatProg
import Derived.KernelRfl
import Derived.Test.YtiophifnkakjgaaGreatSGzC6D
set_option linter.unusedSimpArgs false
set_option linter.unusedVariables false
set_option maxRecDepth 100000
set_option maxHeartbeats 20000000
namespace Gv
open Go Go.Proofs
noncomputable abbrev aa:Program:=Tryz.prog
section
variable {P:Program} {n:Nat} {all:List Oper}
theorem Wp (h:Heap):h.view h.length=.dead:=by simp[Heap.view,aaP]
theorem Zm {o:Oper} {T:Env} {h:Heap} {s:SI} {K:V->View->Prop} (g:dT n all T o=some true) (i:∀v eff rd,sI P s T h.view h.length=some (v,eff,rd)->cK P o T h.view h.length=some (v,eff,rd)) (hw:wI P s T h.view K):
  ∃v d rd wr,eC P n all o T h v d rd wr false/\kh h d/\K v d.view/\mL (xn P s) rd wr false h.length d.length:=by
 obtain⟨v,eff,rd,e,hk⟩:=Y8 hw (Wp h)
 have f:=i _ _ _ e
 have a:∀id,id∈eff.wr->h.view id≠.dead:=λid b=>(pb f id b).1
 refine⟨v,eff.apply h,rd,eff.wr,.op g f,?_,?_,?_,?_⟩
 .intro id b c
  rw[k8 a]
  cases eff with
  | none=>exact c
  | new o=>simp only[bp.view,View.set];rw[aaR (by omega)];exact c
  | fR k o =>
   simp only[bp.view,View.set]
   rw[aaR (by rintro rfl;exact a id (by simp[bp.wr]) c)];exact c
  | eT k o =>
   simp only[bp.view,View.set]
   rw[aaR (by omega)]
   split
   .rfl
   .exact c
 .rw[k8 (λid b=>(pb f id b).1)];exact hk
 .intro j
  obtain⟨rfl,rfl⟩:=(uT e).1 j
  exact⟨rfl,rfl,rfl,rfl⟩
 .intro h1
  rcases abo (xn P s) 1 with l | l
  .obtain⟨rfl,rfl⟩:=(uT e).1 (by omega);rfl
  .exact(uT e).2 (by omega)
theorem NW {P:Program} {fr:Bool} {s:SI} {T:Env} {H:View} {n:Nat} {v:V} {eff:bp} {rd:List Nat} (h:sI P (B4 P fr s) T H n=some (v,eff,rd)):sI P s T H n=some (v,eff,rd):=by
 unfold B4 at h
 split at h
 .split at h
  .exact Ws h
  .exact h
 .split at h
  .rename_i a
   simp only[aaZ] at a
   exact XC a.2 h
  .exact h
 .exact h
theorem Dn (P:Program) (a:Fz) (o:Oper):
  (∃f args b,o.op=.call { callee:=.value f,args:=args,argTypes:=b }/\(oL P a o=.call (SX.of f) (args.toList.map SX.of)∨oL P a o=.oQ (SX.of f) (args.toList.map SX.of))) ∨
  (∃t x,o.op=.box t x/\oL P a o=.op (.kO (SX.of x)))∨(∃s d x,o.op=.convert s d x/\yG P s d=true/\oL P a o=.op (.ic (SX.of x)))∨oL P a o=.op (B4 P a.fr (comp P o)):=by
 unfold oL
 split
 .rename_i f args b e
  refine .inl ⟨f,args,b,e,?_⟩
  by_cases g:(match o.dst with | some d=>a.l.contains (200000+d) | none=>false)=true
  .exact .inr (aaT g)
  .exact .inl (aaR g)
 .rename_i t x e
  by_cases c:(match o.dst with | some d=>a.l.contains d | none=>false)=true
  .exact .inr (.inl ⟨t,x,e,aaT c⟩)
  .refine .inr (.inr (.inr ?_))
   refine(aaR c).trans ?_
   simp only[comp,e,B4]
 .rename_i s d x e
  by_cases c:((match o.dst with | some d=>a.l.contains d | none=>false)&&yG P s d)=true
  .exact .inr (.inr (.inl ⟨s,d,x,e,by simp only[aaZ] at c;exact c.2,aaT c⟩))
  .exact .inr (.inr (.inr (aaR c)))
 .exact .inr (.inr (.inr rfl))
theorem eC.len {o:Oper} {T:Env} {h a:Heap} {v:V} {rd wr:List Nat} {call:Bool} (st:eC P n all o T h v a rd wr call):h.length<=a.length:=by
 cases st with
 | skip=>exact aaY _
 | op _ _=>rename_i eff _ _ ;cases eff<;>simp[bp.apply]
 | kO _ _ _=>exact aaY _
 | ic _ _ _ _ _ _=>exact aaY _
 | call _ _ _ _ b _ _=>exact b.1
theorem XI {q:Fz} {o:Oper} {T:Env} {h:Heap} {quiet:Bool} {K:V->View->Prop} (l:dT n all T o=some true) (hw:wB P quiet (oL P q o) T h.view K):
  ∃v b rd wr call,eC P n all o T h v b rd wr call/\kh h b/\K v b.view/\mL (jY P quiet (oL P q o)) rd wr call h.length b.length:=by
 rcases Dn P q o with ⟨f,args,C,k,j | j⟩ | ⟨t,x,k,j⟩ | ⟨s,d,x,k,u,j⟩ | j
 rotate_left
 .rw[j] at hw ⊢
  simp only[wB] at hw
  split at hw
  .rename_i g first cap m
   rw[FP] at hw
   rw[SX.di] at m
   obtain⟨c,i⟩:=hw
   obtain⟨r,b,hr,hold,hk⟩:=i h rfl
   refine⟨r,b,[],[],true,.call l k m c hr (λid a _=>hold id a) (λid a=>by simp at a),λid a w=>(hold id a).trans w,hk,?_,?_⟩
   .intro p;simp[jY] at p
   .intro _;rfl
  .exact hw.elim
 rotate_right
 .rw[j] at hw ⊢
  simp only[wB] at hw
  split at hw
  .rename_i g first cap m
   rw[FP] at hw
   rw[SX.di] at m
   split at hw
   .rename_i y
    obtain⟨c,i⟩:=hw
    obtain⟨r,b,hr,hold,hk⟩:=i h rfl
    refine⟨r,b,[],[],true,.call l k m c hr (λid a _=>hold id a) (λid a=>by simp at a),λid a w=>(hold id a).trans w,hk,?_,?_⟩
    .intro p;simp[jY,y] at p
    .intro _;rfl
   .rename_i y
    obtain⟨c,i⟩:=hw
    obtain⟨r,b,hr,z,hk⟩:=i h rfl
    refine⟨r,b,[],List.range h.length,true,.call l k m c hr (λid a D=>?_) (λid a=>by simpa using a),z,hk,WY (by simp[jY,y])⟩
    exact absurd (by simpa using a) D
  .exact hw.elim
 .rw[j] at hw ⊢
  simp only[wB,wI,SX.di] at hw
  exact⟨_,h,[],[],false,.kO l k hw.1,.refl _,hw.2,λ_=>⟨rfl,rfl,rfl,rfl⟩,λ_=>rfl⟩
 .rw[j] at hw ⊢
  simp only[wB,wI,SX.di] at hw
  obtain⟨e,h1,A,B⟩:=DL u
  split at hw
  .rename_i st E
   exact⟨_,h,[],[],false,.ic l k h1 A B E,.refl _,hw,λ_=>⟨rfl,rfl,rfl,rfl⟩,λ_=>rfl⟩
  .exact hw.elim
 .rw[j] at hw ⊢
  obtain⟨v,b,rd,wr,h1,p,A,B⟩:=Zm (s:=B4 P q.fr (comp P o)) l (λv eff rd F=>Nk (NW F)) hw
  exact⟨v,b,rd,wr,false,h1,p,A,B⟩
def hZ (P:Program) (quiet:Bool) (l:List SO) (recs:List Rec):Prop:=
 l.length=recs.length/\∀(i:Nat) (s:SO) (r:Rec),l[i]?=some s->recs[i]?=some r->mL (jY P quiet s.b) r.rd r.wr r.call r.lo r.hi
theorem hZ.nil {quiet:Bool} : hZ P quiet [] []:=⟨rfl,λi s r h=>by simp at h⟩
theorem hZ.cons {quiet:Bool} {l:List SO} {a:List Rec} {s:SO} {r:Rec} (h:hZ P quiet l a) (hr:mL (jY P quiet s.b) r.rd r.wr r.call r.lo r.hi):hZ P quiet (s::l) (r::a):=by
 refine⟨by simp[h.1],λi e f d c=>?_⟩
 cases i with
 | zero=>simp at d c;subst d c;exact hr
 | succ i=>exact h.2 i e f (by simpa using d) (by simpa using c)
theorem hZ.append {quiet:Bool} {l l':List SO} {b a:List Rec} (h:hZ P quiet l b) (d:hZ P quiet l' a):hZ P quiet (l++l') (b++a):=by
 refine⟨by simp[h.1,d.1],λi s r c hr=>?_⟩
 by_cases hi:i<l.length
 .rw[abm hi] at c
  rw[abm (h.1▸hi)] at hr
  exact h.2 i s r c hr
 .rw[abV (by omega)] at c
  rw[abV (by have:=h.1;omega)] at hr
  exact d.2 (i-l.length) s r c (by rw[h.1];exact hr)
theorem wb {a:Fz} {o:Oper} {s:SO} (h:JQ P n all a o=some s):uz n o=true/\s.dst=o.dst/\s.b=oL P a o/\ym n all o=some s.guard:=by
 unfold JQ at h
 split at h
 .rename_i c
  simp only[aa0] at h
  obtain⟨g,d,rfl⟩:=h
  exact⟨c,rfl,rfl,d⟩
 .simp at h
theorem FV {o:Oper} {T:Env} (h:ym n all o=some none):dT n all T o=some true:=by
 unfold ym at h
 unfold dT
 split at h
 .rename_i a;rw[a]
 .split at h
  .split at h
   .simp at h
   .simp at h
  .simp at h
theorem mZ {o:Oper} {T:Env} {d:Nat} {want:Bool} (h:ym n all o=some (some (d,want))):
  (∀b,T d=.val (.bool b)->dT n all T o=some (b==want))/\(T d=.bb []->dT n all T o=some false):=by
 unfold ym at h
 unfold dT
 split at h
 .simp at h
 .rename_i j w e
  rw[e]
  split at h
  .rename_i g f
   split at h
   .rename_i a
    obtain⟨rfl,rfl⟩:=h
    simp only[f,a,if_true]
    exact⟨λb c=>by rw[c],λc=>by rw[c]⟩
   .simp at h
  .simp at h
theorem mW {a:Fz} {os:List Oper} (h:en P n all a os=some []):os=[]:=by
 cases os with
 | nil=>rfl
 | cons o r =>
  simp only[en] at h
  split at h<;>simp at h
theorem oF {a:Fz} {os:List Oper} {s:SO} {l:List SO} (h:en P n all a os=some (s::l)):∃o r,os=o::r/\JQ P n all a o=some s/\en P n all a r=some l:=by
 cases os with
 | nil=>simp[en] at h
 | cons o r =>
  simp only[en] at h
  split at h
  .rename_i c l' h1 b
   obtain⟨rfl,rfl⟩:=h
   exact⟨o,r,rfl,h1,b⟩
  .simp at h
theorem tV {c:Fz}:∀ {l l':List SO} {os:List Oper},en P n all c os=some (l++l')->∃a b,os=a++b/\en P n all c a=some l/\en P n all c b=some l'
 | [],l',os,h=>⟨[],os,rfl,rfl,h⟩
 | s::l,l',os,h=>by
  obtain⟨o,r,rfl,h1,d⟩:=oF h
  obtain⟨a,b,rfl,e,f⟩:=tV d
  exact⟨o::a,b,rfl,by simp[en,h1,e],f⟩
theorem Tr.append {a b:List Oper} {T c d:Env} {h h1 e:Heap} {f g:List Rec} (x:Tr P n all a T h f c h1) (y:Tr P n all b c h1 g d e):Tr P n all (a++b) T h (f++g) d e:=by
 induction x with
 | nil=>exact y
 | cons st i _ j=>exact .cons st i (j y)
theorem DY {T:Env} {d:Nat} {v:V} (h:T d=v):T.put (some d) v=T:=by
 funext t
 simp only[Env.put]
 split
 .rename_i e;subst e;exact h.symm
 .rfl
theorem Kf {E:Fz} {quiet:Bool} {K:Env->View->Prop} (g:Option (Nat × Bool)):∀(l:List (Option Nat × SB)) (os:List Oper) (T:Env) (h:Heap),
  en P n all E os=some (l.map λ(d,b)=>⟨d,g,b⟩)->(∀d w,g=some (d,w)->T d=.val (.bool w)/\(l.all λx=>x.1 != some d)=true)->Dq P quiet l T h.view K ->
  ∃a m j,Tr P n all os T h a m j/\(kh h j/\h.length<=j.length)/\K m j.view/\hZ P quiet (l.map λ(d,b)=>⟨d,g,b⟩) a
 | [],os,T,h,q,s,hw=>by
  have:=mW q;subst this
  exact⟨[],T,h,.nil,⟨.refl _,aaY _⟩,hw,.nil⟩
 | (d,b)::l,os,T,h,q,s,hw=>by
  obtain⟨o,r,rfl,h1,F⟩:=oF q
  obtain⟨G,k,f,i⟩:=wb h1
  simp only at k f i
  have u:dT n all T o=some true:=by
   cases g with
   | none=>exact FV i
   | some p =>
    obtain⟨y,w⟩:=p
    have:=(mZ (T:=T) i).1 w (s y w rfl).1
    rw[this];simp
  rw[f] at hw
  obtain⟨v,j,rd,wr,call,st,z,hk,H⟩:=XI u hw
  obtain⟨a,m,A,D,c,B,C⟩:=Kf g l r (T.put d v) j F (λy w e=>by
   have:=s y w e
   simp only[ab0,aaZ,bne_iff_ne,ne_eq] at this
   refine⟨?_,this.2.2⟩
   rw[<-this.1]
   cases d with
   | none=>rfl
   | some t=>simp only[Env.put];rw[aaR];intro e;subst e;exact this.2.1 rfl) hk
  rw[k] at D
  have hlen:=st.len
  exact⟨_,m,A,.cons st G D,⟨z.trans c.1 hlen,abG hlen c.2⟩,B,C.cons (by rw[f];exact H)⟩
theorem HI {v:Fz} {quiet:Bool} (d:Nat) (w:Bool) (h:Heap):∀(l:List (Option Nat × SB)) (os:List Oper) (T:Env),
  en P n all v os=some (l.map λ(c,b)=>⟨c,some (d,w),b⟩)->(T d=.val (.bool !w)∨T d=.bb [])->(l.all λx=>x.1 != some d)=true ->
  ∃a,Tr P n all os T h a (jK l T) h/\hZ P quiet (l.map λ(c,b)=>⟨c,some (d,w),b⟩) a
 | [],os,T,k,f,j=>by
  have:=mW k;subst this
  exact⟨[],.nil,.nil⟩
 | (c,b)::l,os,T,k,f,j=>by
  obtain⟨o,r,rfl,h1,y⟩:=oF k
  obtain⟨m,g,p,i⟩:=wb h1
  simp only at g p i
  have q:dT n all T o=some false:=by
   rcases f with f | f
   .rw[(mZ (T:=T) i).1 _ f];cases w<;>rfl
   .exact(mZ (T:=T) i).2 f
  simp only[ab0,aaZ,bne_iff_ne,ne_eq] at j
  obtain⟨a,u,s⟩:=HI d w h l r (T.put c (.bb [])) y (by
   have:(T.put c (.bb [])) d=T d:=by
    cases c with
    | none=>rfl
    | some t=>simp only[Env.put];rw[aaR];intro e;subst e;exact j.1 rfl
   rw[this];exact f) j.2
  rw[g] at u
  refine⟨_,?_,s.cons (r:=⟨[],[],false,h.length,h.length⟩) ⟨λ_=>⟨rfl,rfl,rfl,rfl⟩,λ_=>rfl⟩⟩
  have:=Tr.cons (.skip q) m u
  rw[jK,g]
  exact this
theorem Zq {p:Fz} {quiet:Bool} {K:Env->View->Prop} {g:SG} {os:List Oper} {T:Env} {h:Heap} (f:en P n all p os=some g.flat) (c:wX g=true) (hw:wG P quiet g T h.view K):
  ∃a o k,Tr P n all os T h a o k/\(kh h k/\h.length<=k.length)/\K o k.view/\hZ P quiet g.flat a:=by
 unfold wG at hw
 unfold SG.flat at f ⊢
 unfold wX at c
 split at hw
 .rename_i l
  rw[l] at f ⊢
  exact Kf none g.ops os T h f (λd w e=>by simp at e) hw
 .rename_i d want l
  rw[l] at f c ⊢
  split at hw
  .rename_i b j
   by_cases e:b=want
   .subst e
    have:=hw.1 rfl
    rw[DY j] at this
    exact Kf (some (d,b)) g.ops os T h f (λq w e=>by simp at e;obtain⟨rfl,rfl⟩:=e;exact⟨j,c⟩) this
   .have e':b = !want:=by cases b<;>cases want<;>simp_all
    have:=hw.2 e'
    subst e'
    rw[DY j] at this
    obtain⟨a,m,i⟩:=HI (quiet:=quiet) d want h g.ops os T f (.inl j) c
    exact⟨a,_,h,m,⟨.refl _,aaY _⟩,this,i⟩
  .rename_i j
   obtain⟨a,m,i⟩:=HI (quiet:=quiet) d want h g.ops os T f (.inr j) c
   exact⟨a,_,h,m,⟨.refl _,aaY _⟩,hw,i⟩
  .exact hw.elim
theorem Bu {s:Fz} {quiet:Bool} {K:Env->View->Prop}:∀(gs:List SG) (os:List Oper) (T:Env) (h:Heap),en P n all s os=some (oN gs)->gs.all wX=true->AM P quiet gs T h.view K ->
  ∃c r e,Tr P n all os T h c r e/\(kh h e/\h.length<=e.length)/\K r e.view/\hZ P quiet (oN gs) c
 | [],os,T,h,f,_,hw=>by
  have:=mW f;subst this
  exact⟨[],T,h,.nil,⟨.refl _,aaY _⟩,hw,.nil⟩
 | g::gs,os,T,h,f,d,hw=>by
  simp only[ab0,aaZ] at d
  obtain⟨a,b,rfl,h1,t⟩:=tV f
  obtain⟨w,u,i,j,st1,k,l⟩:=Zq h1 d.1 hw
  obtain⟨x,v,m,o,st2,p,q⟩:=Bu gs b u i t d.2 k
  exact⟨_,v,m,j.append o,⟨st1.1.trans st2.1 st1.2,abG st1.2 st2.2⟩,p,l.append q⟩
theorem Tr.at_ {os:List Oper} {T g:Env} {h j:Heap} {b:List Rec} (k:Tr P n all os T h b g j):∀(i:Nat) (o:Oper),os[i]?=some o ->
  ∃c h1 v e rd wr call a,b[i]?=some ⟨rd,wr,call,h1.length,e.length⟩/\eC P n all o c h1 v e rd wr call/\h.length<=h1.length/\Tr P n all (os.drop (i+1)) (c.put o.dst v) e a g j/\(∀m,a[m]?=b[i+1+m]?) /\
   (∀t,(∀l∈os.take i,l.dst≠some t)->c t=T t):=by
 induction k with
 | nil=>intro i o hi;simp at hi
 | @cons o0 rest T g h h1 j v rd wr call b st D k s =>
  intro i o hi
  cases i with
  | zero =>
   simp at hi;subst hi
   exact⟨T,h,v,h1,rd,wr,call,b,rfl,st,aaY _,by simpa using k,λm=>by rw[show 0+1+m=m+1 by omega,abB],λt _=>rfl⟩
  | succ i =>
   obtain⟨c,e,v2,u,p,Ye,call2,a,w,x,y,z,A,B⟩:=s i o hi
   have hlen:h.length<=h1.length:=by
    cases st with
    | skip=>exact aaY _
    | op _ _=>rename_i eff _ _;cases eff<;>simp[bp.apply]
    | kO _ _ _=>exact aaY _
    | ic _ _ _ _ _ _=>exact aaY _
    | call _ _ _ _ C _ _=>exact C.1
   refine⟨c,e,v2,u,p,Ye,call2,a,by simpa using w,x,abG hlen y,by simpa using z,λm=>?_,λt q=>?_⟩
   .rw[A,show i+1+1+m=(i+1+m)+1 by omega,abB]
   .simp only[acW,abd] at q
    rw[B t λl r=>q l (.inr r)]
    have:=q o0 (.inl rfl)
    cases f:o0.dst with
    | none=>rfl
    | some d=>simp only[Env.put];rw[aaR];rintro rfl;exact this f
theorem Pn {o:Oper} {T:Env} {h g:Heap} {v:V} {rd wr:List Nat} {call:Bool} (st:eC P n all o T h v g rd wr call) (b:DP o=true) (i:o.guard=none):v=.ptr h.length 0 0:=by
 unfold DP at b
 have d:dT n all T o=some true:=by unfold dT;rw[i]
 cases st with
 | skip f=>rw[d] at f;simp at f
 | op _ a =>
  split at b
  .rename_i e c
   simp only[cK,c] at a
   split at a
   .unfold nP at a
    split at a
    .simp at a;exact a.1.symm
    .simp at a
   .simp at a
  .simp at b
 | kO _ c _=>rw[c] at b;simp at b
 | ic _ c _ _ _ _=>rw[c] at b;simp at b
 | call _ c _ _ _ _ _=>rw[c] at b;simp at b
theorem Qs {o:Oper} {T:Env} {h g:Heap} {v:V} {rd wr:List Nat} {call:Bool} {t id i j:Nat} (st:eC P n all o T h v g rd wr call) (c:mj o=some t) (k:T t=.ptr id i j):wr=[id]/\call=false:=by
 unfold mj at c
 split at c
 .rename_i ty l x d m
  simp at c;subst c
  have e:dT n all T o=some true:=by unfold dT;rw[m]
  cases st with
  | skip f=>rw[e] at f;simp at f
  | op _ b =>
   have p:ev T (.tmp l)=.ptr id i j:=k
   simp only[cK,d,p,s8] at b
   split at b
   .split at b
    .simp only[aaV,abf] at b
     obtain⟨_,he,_⟩:=b
     rw[<-he];exact⟨rfl,rfl⟩
    .simp at b
   .simp at b
  | kO _ a _=>rw[d] at a;simp at a
  | ic _ a _ _ _ _=>rw[d] at a;simp at a
  | call _ a _ _ _ _ _=>rw[d] at a;simp at a
 .simp at c
theorem Q9 {o:Oper} {T:Env} {h g:Heap} {v:V} {rd wr:List Nat} {call:Bool} (st:eC P n all o T h v g rd wr call) (d:HA o=true):wr=[]/\call=false/\∀id,id∈rd->id<h.length:=by
 unfold HA at d
 cases st with
 | skip _=>exact⟨rfl,rfl,λid c=>by simp at c⟩
 | op _ b =>
  split at d
  .rename_i e a f
   simp only[cK,f,oM] at b
   split at b
   .split at b
    .rename_i z es hH
     split at b
     .simp only[aa0] at b
      obtain⟨_,_,b⟩:=b
      obtain⟨_,rfl,rfl⟩:=b
      refine⟨rfl,rfl,λi c=>?_⟩
      simp at c;subst c
      exact fg (by rw[hH];simp)
     .simp at b
    .simp at b
   .simp only[aa0] at b
    obtain⟨_,_,b⟩:=b
    obtain⟨_,rfl,rfl⟩:=b
    exact⟨rfl,rfl,λid c=>by simp at c⟩
   .simp at b
  .simp at d
 | kO _ f _=>rw[f] at d;simp at d
 | ic _ f _ _ _ _=>rw[f] at d;simp at d
 | call _ f _ _ _ _ _=>rw[f] at d;simp at d
theorem Af {T G:Env} {h H:Heap} {d:List Rec} (I:Tr P n all all T h d G H) {i k:Nat} {a b:Rec} (hp:CS all i k=true) (g:d[i]?=some a) (J:d[k]?=some b):qx a b:=by
 unfold CS at hp
 split at hp
 .rename_i K L l m
  rw[aaZ] at hp
  obtain⟨M,hp⟩:=hp
  split at hp
  .rename_i t o
   rw[ab8] at hp
   obtain⟨j,N,hp⟩:=hp
   rw[abL] at N
   rw[aaZ,aa5] at hp
   obtain⟨O,c⟩:=hp
   unfold YZ at c
   split at c
   .rename_i Q p
    simp only[aaZ,abQ,abj,bne_iff_ne,ne_eq,Option.isNone_iff_eq_none] at c
    obtain⟨⟨⟨R,S⟩,U⟩,V⟩:=c
    obtain⟨T1,h1,v1,W,X,ZC,c1,q,D,E,e3,Y,Z,_⟩:=I.at_ i K l
    obtain⟨Tj,r,vj,ab,ae,al,cj,s,f1,f2,f3,f4,f5,_⟩:=Y.at_ (j-(i+1)) Q (by rw[acg,show i+1+(j-(i+1))=j by omega];exact p)
    have u:(all.drop (i+1)).drop (j-(i+1)+1)=all.drop (j+1):=by rw[List.drop_drop];congr 1;omega
    rw[u] at f4
    obtain⟨Tk,v,vk,w,x,y,ck,z,g1,g2,g3,_,_,g6⟩:=f4.at_ (k-(j+1)) L (by rw[acg,show j+1+(k-(j+1))=k by omega];exact m)
    rw[g] at D
    have A:=(ac2 D)
    have f:d[k]?=some ⟨x,y,ck,v.length,w.length⟩:=by
     rw[<-g1,f5,Z];congr 1;omega
    rw[J] at f
    have f:=ac2 f
    have hv:=Pn f2 U S
    have B:Tk t=.ptr r.length 0 0:=by
     rw[g6 t λo' C=>V o' C,R,hv]
     simp[Env.put]
    obtain⟨s1,s2⟩:=Qs g2 o B
    obtain⟨F,l2,l3⟩:=Q9 E M
    rw[A,f]
    have hlen:h1.length<=W.length:=by
     cases E with
     | skip=>exact aaY _
     | op _ _=>rename_i eff _ _;cases eff<;>simp[bp.apply]
     | kO _ _ _=>exact aaY _
     | ic _ _ _ _ _ _=>exact aaY _
     | call _ _ _ _ g _ _=>exact g.1
    refine⟨λid e=>by simp[F] at e,λid e=>?_,λhc=>by simp[l2] at hc,λ_=>F,λid e=>?_⟩
    .simp only[s1,abN] at e
     intro hr
     have:=l3 _ hr
     omega
    .simp only[s1,abN] at e
     simp only
     omega
   .simp at c
  .simp at hp
 .simp at hp
theorem U1 {ls:List Nat} {d:List Rec} {T t:Env} {hp g:Heap} (u:Tr P n all all T hp d t g) (h:JK all ls=true) (y:ls.length=d.length) (hr:∀(i x:Nat) (r:Rec),ls[i]?=some x->d[i]?=some r->mL x r.rd r.wr r.call r.lo r.hi):xF all d:=by
 intro i k a b j p l v
 have hk:k<d.length:=(aaX.1 l).1
 unfold JK at h
 simp only[abj] at h
 have h1:=h (ls[i]'(by omega),i) (by rw[abO];simp[aaQ (show i<ls.length by omega)])
  (ls[k]'(by omega),k) (by rw[abO];simp[aaQ (show k<ls.length by omega)])
 have q:=hr i _ a (aaQ (by omega)) p
 have s:=hr k _ b (aaQ (by omega)) l
 simp only[j,decide_true,acU,v,acC,acG,abQ,aaZ,aa5] at h1
 rcases h1 with ((h1 | h1) | h1) | h1
 .obtain⟨f,e,m,w⟩:=q.1 h1
  exact⟨λid c=>by simp[e] at c,λid _=>by simp[f],λo=>by simp[m] at o,λ_=>e,λid _ z=>by omega⟩
 .obtain⟨f,e,m,w⟩:=s.1 h1
  exact⟨λid _=>by simp[f],λid c=>by simp[e] at c,λ_=>e,λo=>by simp[m] at o,λid c=>by simp[e] at c⟩
 .have f:=q.2 h1.1
  have e:=s.2 h1.2
  exact⟨λid c=>by simp[f] at c,λid c=>by simp[e] at c,λ_=>e,λ_=>f,λid c=>by simp[e] at c⟩
 .exact Af u h1 p l
theorem Tr.keep {os:List Oper} {T c:Env} {h e:Heap} {a:List Rec} (f:Tr P n all os T h a c e) {t:Nat} (g:∀o∈os,o.dst≠some t):c t=T t:=by
 induction f with
 | nil=>rfl
 | @cons o0 rest T c h h1 e v rd wr call a st k f i =>
  rw[i λo j=>g o (by simp[j])]
  have:=g o0 (by simp)
  cases b:o0.dst with
  | none=>rfl
  | some d=>simp only[Env.put];rw[aaR];rintro rfl;exact this b
theorem z7 {o:Oper} {T:Env} {h g:Heap} {v:V} {rd wr:List Nat} {call:Bool} {t:Nat} (st:eC P n all o T h v g rd wr call) (d:uU o=some t):wr=[]/\call=false/\g.length=h.length/\∀id,id∈rd->∃i j,T t=.ptr id i j:=by
 unfold uU at d
 split at d
 .rename_i e m f
  simp at d;subst d
  cases st with
  | skip _=>exact⟨rfl,rfl,rfl,λid c=>by simp at c⟩
  | op _ a =>
   simp only[cK,f,oM] at a
   split at a
   .rename_i id i j k
    split at a
    .split at a
     .simp only[aa0] at a
      obtain⟨_,_,a⟩:=a
      obtain⟨_,rfl,rfl⟩:=a
      refine⟨rfl,rfl,rfl,λl c=>?_⟩
      simp at c;subst c
      exact⟨i,j,k⟩
     .simp at a
    .simp at a
   .simp only[aa0] at a
    obtain⟨_,_,a⟩:=a
    obtain⟨_,rfl,rfl⟩:=a
    exact⟨rfl,rfl,rfl,λid c=>by simp at c⟩
   .simp at a
  | kO _ b _=>rw[f] at b;simp at b
  | ic _ b _ _ _ _=>rw[f] at b;simp at b
  | call _ b _ _ _ _ _=>rw[f] at b;simp at b
 .simp at d
theorem zE {i t:Nat} (h:stays all i t=true):∀o∈all.drop i,o.dst≠some t:=by
 intro o a
 have:=abj.1 h o a
 simpa using this
theorem Eb {a:List (Nat × Nat)} {T:Env} {K:Prop} (b:BJ a T K):∀p∈a,iT (T p.1) (T p.2):=by
 induction a with
 | nil=>intro p hp;simp at hp
 | cons q l c =>
  intro p hp
  rcases abd.1 hp with rfl | hp
  .exact b.1
  .exact c b.2 p hp
theorem BJ.rest {a:List (Nat × Nat)} {T:Env} {K:Prop} (b:BJ a T K):K:=by
 induction a with
 | nil=>exact b
 | cons q l c=>exact c b.2
theorem s0 {T l:Env} {h m:Heap} {a:List Rec} (p:Tr P n all all T h a l m) {i t:Nat} {o:Oper} (j:all[i]?=some o) (q:stays all i t=true) {r:Rec} (hr:a[i]?=some r):
  ∃e h1 v f,eC P n all o e h1 v f r.rd r.wr r.call/\r.lo=h1.length/\r.hi=f.length/\e t=l t:=by
 obtain⟨e,h1,v,f,rd,wr,call,k,g,s,x,u,y,z⟩:=p.at_ i o j
 rw[hr] at g
 have g:=ac2 g
 subst g
 refine⟨e,h1,v,f,s,rfl,rfl,?_⟩
 have hk:=zE q
 have hi:i<all.length:=(aaX.1 j).1
 have b:all[i]=o:=(aaX.1 j).2
 rw[abA hi,b] at hk
 rw[u.keep λw b=>hk w (by simp[b])]
 have:=hk o (by simp)
 cases c:o.dst with
 | none=>rfl
 | some d=>simp only[Env.put];rw[aaR];rintro rfl;exact this c
theorem C4 {i a b j c d:Nat} (h:iT (.ptr i a b) (.ptr j c d)):i≠j:=h
theorem Fo {i a b j c d e:Nat} (h:iT (.ptr i a b) (.sl j c d e)):i≠j:=h
theorem uv {o:Oper} {T:Env} {h q:Heap} {v:V} {rd wr:List Nat} {call:Bool} {t:Nat} (st:eC P n all o T h v q rd wr call) (g:rT o=some t):
  call=false/\∀id,id∈wr->(∃i j,T t=.ptr id i j)∨∃a b c,T t=.sl id a b c:=by
 unfold rT at g
 split at g
 .rename_i w m
  simp at g;subst g
  unfold mj at m
  split at m
  .rename_i ty t2 x k r
   simp at m;subst m
   cases st with
   | skip _=>exact⟨rfl,λid f=>by simp at f⟩
   | op _ d =>
    simp only[cK,k,s8] at d
    split at d
    .rename_i id i j p
     split at d
     .split at d
      .simp only[aaV,abf] at d
       obtain⟨_,he,_⟩:=d
       rw[<-he]
       refine⟨rfl,λl f=>?_⟩
       simp[bp.wr] at f;subst f
       exact .inl ⟨i,j,p⟩
      .simp at d
     .simp at d
    .simp at d
   | kO _ e _=>rw[k] at e;simp at e
   | ic _ e _ _ _ _=>rw[k] at e;simp at e
   | call _ e _ _ _ _ _=>rw[k] at e;simp at e
  .simp at m
 .unfold RE at g
  split at g
  .rename_i args s k r
   split at g
   .rename_i t2 y u
    simp at g;subst g
    cases st with
    | skip _=>exact⟨rfl,λid f=>by simp at f⟩
    | op _ d =>
     simp only[cK,k,u] at d
     split at d
     .unfold pG at d
      split at d
      .split at d
       .simp at d
       .split at d
        .split at d<;>first | (simp only[aaV,abf] at d;obtain⟨_,he,_⟩:=d;rw[<-he];exact⟨rfl,λl f=>by simp[bp.wr] at f⟩) | simp at d
        .split at d
         .simp at d
         .split at d
          .split at d
           .simp only[aaV,abf] at d
            obtain⟨_,he,_⟩:=d
            rw[<-he];exact⟨rfl,λl f=>by simp[bp.wr] at f⟩
           .simp at d
          .rename_i id off len esz p
           split at d
           .split at d
            .simp only[aaV,abf] at d
             obtain⟨_,he,_⟩:=d
             rw[<-he]
             refine⟨rfl,λl f=>?_⟩
             simp[bp.wr] at f;subst f
             exact .inr ⟨off,len,esz,p⟩
            .simp at d
           .simp at d
          .simp at d
      .simp at d
     .split at d
      .unfold uB at d
       repeat' (split at d)
       all_goals first | (simp only[aaV,abf] at d;obtain⟨_,he,_⟩:=d;rw[<-he];exact⟨rfl,λl f=>by simp[bp.wr] at f⟩) | simp at d
      .simp at d
    | kO _ e _=>rw[k] at e;simp at e
    | ic _ e _ _ _ _=>rw[k] at e;simp at e
    | call _ e _ _ _ _ _=>rw[k] at e;simp at e
   .simp at g
  .simp at g
theorem VY {o:Oper} {T:Env} {h g:Heap} {v:V} {rd wr:List Nat} {call:Bool} (st:eC P n all o T h v g rd wr call) (b:Ks o=true):rd=[]/\wr=[]/\call=false:=by
 unfold Ks at b
 cases st with
 | skip _=>exact⟨rfl,rfl,rfl⟩
 | op _ a =>
  split at b
  .rename_i ty len parts c
   simp only[cK,c,jk] at a
   have key:∀ {x:Option (V × bp × List Nat)} {e:bp},x=some (v,e,rd)->(∀y,x=some y->y.2.1.wr=[]/\y.2.2=[])->rd=[]/\e.wr=[]:=λf d=>⟨(d _ f).2,(d _ f).1⟩
   obtain⟨i,k2⟩:=key a (by
    intro y d
    repeat' (first | (split at d)|(simp only[aaV] at d;subst d;exact⟨rfl,rfl⟩)|(simp at d;done)))
   exact⟨i,k2,rfl⟩
  .rename_i e c
   simp only[cK,c] at a
   split at a
   .unfold nP at a
    split at a
    .simp only[aaV,abf] at a
     obtain⟨_,he,hr⟩:=a
     rw[<-he,<-hr];exact⟨rfl,rfl,rfl⟩
    .simp at a
   .simp at a
  .simp at b
 | kO _ c _=>rw[c] at b;simp at b
 | ic _ c _ _ _ _=>rw[c] at b;simp at b
 | call _ c _ _ _ _ _=>rw[c] at b;simp at b
theorem yR {o:Oper} {t:Nat} (h:mj o=some t):rT o=some t:=by unfold rT;rw[h]
theorem Sl {T w:Env} {h Q:Heap} {l:List Rec} (u:Tr P n all all T h l w Q) {i k:Nat} {a b:Rec} {p:Nat × Nat} (hp:Fh all i k=some p) (j:iT (w p.1) (w p.2)) (N:l[i]?=some a) (O:l[k]?=some b):qx a b:=by
 unfold Fh at hp
 split at hp
 .rename_i Z ob q r
  split at hp
  .rename_i s t x y
   split at hp
   .rename_i g
    simp only[aaZ] at g
    simp at hp;subst hp
    obtain⟨z,A,R,B,C,D,E,F⟩:=s0 u q g.1 N
    obtain⟨Tb,G,S,H,I,_,_,J⟩:=s0 u r g.2 O
    obtain⟨o,K,U,L⟩:=z7 C x
    have j:iT (z s) (Tb t):=by rw[F,J];exact j
    refine⟨λid f=>by simp[o] at f,λid f hr=>?_,λv=>by simp[K] at v,λ_=>o,λid _ hx=>by omega⟩
    obtain⟨V,W,M⟩:=L id hr
    rw[M] at j
    rcases (uv I (yR y)).2 id f with ⟨c,d,m⟩ | ⟨c,d,e,m⟩
    .rw[m] at j;exact C4 j rfl
    .rw[m] at j;exact Fo j rfl
   .simp at hp
  .split at hp
   .rename_i t s y x
    split at hp
    .rename_i g
     simp only[aaZ] at g
     simp at hp;subst hp
     obtain⟨z,A,R,B,C,D,E,F⟩:=s0 u q g.1 N
     obtain⟨Tb,G,S,H,I,X,Y,J⟩:=s0 u r g.2 O
     obtain⟨o,K,U,L⟩:=z7 I x
     have j:iT (Tb s) (z t):=by rw[F,J];exact j
     refine⟨λid f hr=>?_,λid f=>by simp[o] at f,λv=>o,λv=>by simp[K] at v,λid f=>by simp[o] at f⟩
     obtain⟨V,W,M⟩:=L id hr
     rw[M] at j
     rcases (uv C (yR y)).2 id f with ⟨c,d,m⟩ | ⟨c,d,e,m⟩
     .rw[m] at j;exact C4 j rfl
     .rw[m] at j;exact Fo j rfl
    .simp at hp
   .simp at hp
 .simp at hp
theorem Qh {T w:Env} {h Q:Heap} {l:List Rec} (u:Tr P n all all T h l w Q) {i k:Nat} {a b:Rec} {p:Nat × Nat} (hp:Ht all i k=some p) (j:iT (w p.1) (w p.2)) (N:l[i]?=some a) (O:l[k]?=some b):qx a b:=by
 unfold Ht at hp
 split at hp
 .rename_i Z ob q r
  split at hp
  .rename_i s t x y
   split at hp
   .rename_i g
    simp only[aaZ] at g
    simp at hp;subst hp
    obtain⟨z,A,R,B,C,D,E,F⟩:=s0 u q g.1 N
    obtain⟨Tb,G,S,H,I,_,_,J⟩:=s0 u r g.2 O
    obtain⟨o,K,U,L⟩:=z7 C x
    have j:iT (z s) (Tb t):=by rw[F,J];exact j
    refine⟨λid f=>by simp[o] at f,λid f hr=>?_,λv=>by simp[K] at v,λ_=>o,λid _ hx=>by omega⟩
    obtain⟨V,W,M⟩:=L id hr
    rw[M] at j
    rcases (uv I y).2 id f with ⟨c,d,m⟩ | ⟨c,d,e,m⟩
    .rw[m] at j;exact C4 j rfl
    .rw[m] at j;exact Fo j rfl
   .simp at hp
  .split at hp
   .rename_i t s y x
    split at hp
    .rename_i g
     simp only[aaZ] at g
     simp at hp;subst hp
     obtain⟨z,A,R,B,C,D,E,F⟩:=s0 u q g.1 N
     obtain⟨Tb,G,S,H,I,X,Y,J⟩:=s0 u r g.2 O
     obtain⟨o,K,U,L⟩:=z7 I x
     have j:iT (Tb s) (z t):=by rw[F,J];exact j
     refine⟨λid f hr=>?_,λid f=>by simp[o] at f,λv=>o,λv=>by simp[K] at v,λid f=>by simp[o] at f⟩
     obtain⟨V,W,M⟩:=L id hr
     rw[M] at j
     rcases (uv C y).2 id f with ⟨c,d,m⟩ | ⟨c,d,e,m⟩
     .rw[m] at j;exact C4 j rfl
     .rw[m] at j;exact Fo j rfl
    .simp at hp
   .simp at hp
 .simp at hp
theorem TE {l:List (Nat × Nat)} {a:List (Nat × Nat)} (h:EO all l=some a):∀q∈l,∃p∈a,Fh all q.1 q.2=some p:=by
 induction l generalizing a with
 | nil=>intro q b;simp at b
 | cons x r d =>
  simp only[EO] at h
  split at h
  .rename_i p l' h1 f
   simp at h;subst h
   intro q b
   rcases abd.1 b with rfl | b
   .exact⟨p,by simp,h1⟩
   .obtain⟨g,c,e⟩:=d f q b
    exact⟨g,by simp[c],e⟩
  .simp at h
theorem Py {l:List (Nat × Nat)} {a:List (Nat × Nat)} (h:yT all l=some a):∀q∈l,∃f,(∀p∈f,p∈a)/\CR all q.1 q.2=some f:=by
 induction l generalizing a with
 | nil=>intro q b;simp at b
 | cons x r g =>
  simp only[yT] at h
  split at h
  .rename_i p l' h1 i
   simp at h;subst h
   intro q b
   rcases abd.1 b with rfl | b
   .exact⟨p,λx c=>by simp[c],h1⟩
   .obtain⟨j,d,e⟩:=g i q b
    exact⟨j,λx c=>by simp[d x c],e⟩
  .simp at h
theorem Td {H:View} {x:V} {xs:List (List V)} {rd:List Nat} (h:bM H x=some (xs,rd)):∀id,id∈rd->∃a b c,x=.sl id a b c:=by
 unfold bM at h
 split at h
 .simp at h;obtain⟨_,rfl⟩:=h;intro id d;simp at d
 .simp at h;obtain⟨_,rfl⟩:=h;intro id d;simp at d
 .simp at h;obtain⟨_,rfl⟩:=h;intro id d;simp at d
 .simp at h;obtain⟨_,rfl⟩:=h;intro id d;simp at d
 .split at h
  .split at h
   .obtain⟨_,rfl⟩:=h
    intro id d
    simp at d;subst d
    exact⟨_,_,_,rfl⟩
   .simp at h
  .simp at h
 .simp at h;obtain⟨_,rfl⟩:=h;intro id d;simp at d
 .simp at h
theorem Lm {o:Oper} {T:Env} {h s:Heap} {v:V} {rd wr:List Nat} {call:Bool} {t y d:Nat} (st:eC P n all o T h v s rd wr call) (l:CJ o=some (t,y,d)):
  call=false/\(∀id,id∈wr->∃a b c,T t=.sl id a b c)/\(∀id,id∈rd->(∃a b c,T t=.sl id a b c)∨∃a b c,T y=.sl id a b c)/\(h.length<s.length->∃a b c,v=.sl h.length a b c)/\s.length<=h.length+1/\o.dst=some d:=by
 unfold CJ at l
 split at l
 .rename_i args z A r D m
  split at l
  .rename_i t2 B C
   simp at l
   obtain⟨rfl,rfl,rfl⟩:=l
   cases st with
   | skip _=>exact⟨rfl,λid g=>by simp at g,λid g=>by simp at g,λh=>by omega,by omega,m⟩
   | op _ f =>
    simp only[cK,r,C] at f
    have w:∀ {v':V} {i:bp} {k:List Nat},some (v',bp.none,([]:List Nat))=some (v,i,k)->false=false/\(∀id,id∈i.wr->∃a b c,T t2=.sl id a b c)/\(∀id,id∈k->(∃a b c,T t2=.sl id a b c)∨∃a b c,T B=.sl id a b c)/\(h.length<(i.apply h).length->∃a b c,v=.sl h.length a b c)/\(i.apply h).length<=h.length+1/\o.dst=some A:=by
     intro v' i k e
     obtain⟨_,rfl,rfl⟩:=e
     exact⟨rfl,λid g=>by simp[bp.wr] at g,λid g=>by simp at g,λh=>by simp[bp.apply] at h,by simp[bp.apply],m⟩
    split at f
    .unfold pG at f
     split at f
     .rename_i e xs k _ u
      have p:=Td u
      split at f
      .simp at f
      .split at f
       .split at f<;>first | exact w f | simp at f
       .split at f
        .simp at f
        .split at f
         .split at f
          .obtain⟨rfl,rfl,rfl⟩:=f
           exact⟨rfl,λid g=>by simp[bp.wr] at g,λid g=>.inr (p id g),λ_=>⟨_,_,_,rfl⟩,by simp[bp.apply],m⟩
          .simp at f
         .rename_i id off len esz x
          split at f
          .split at f
           .obtain⟨rfl,rfl,rfl⟩:=f
            refine⟨rfl,λq g=>?_,λq g=>?_,λ_=>⟨_,_,_,rfl⟩,by simp[bp.apply],m⟩
            .simp[bp.wr] at g;subst g
             exact⟨off,len,esz,x⟩
            .rcases abd.1 g with rfl | g
             .exact .inl ⟨off,len,esz,x⟩
             .exact .inr (p q g)
           .simp at f
          .simp at f
         .simp at f
     .simp at f
    .split at f
     .unfold uB at f
      split at f
      .split at f
       .split at f
        .exact w f
        .split at f
         .obtain⟨rfl,rfl,rfl⟩:=f
          exact⟨rfl,λid g=>by simp[bp.wr] at g,λid g=>by simp at g,λ_=>⟨_,_,_,rfl⟩,by simp[bp.apply],m⟩
         .simp at f
       .simp at f
      .simp at f
     .simp at f
   | kO _ j _=>rw[r] at j;simp at j
   | ic _ j _ _ _ _=>rw[r] at j;simp at j
   | call _ j _ _ _ _ _=>rw[r] at j;simp at j
  .simp at l
 .simp at l
theorem Tc {T j:Env} {h q:Heap} {a:List Rec} (s:Tr P n all all T h a j q) {i:Nat} {o:Oper} (k:all[i]?=some o) {r:Rec} (hr:a[i]?=some r):
  ∃e h1 v f,eC P n all o e h1 v f r.rd r.wr r.call/\r.lo=h1.length/\r.hi=f.length/\(∀t,stays all i t=true->e t=j t)/\∀d,o.dst=some d->stays all (i+1) d=true->j d=v:=by
 obtain⟨e,h1,v,f,rd,wr,call,l,g,u,y,p,z,A⟩:=s.at_ i o k
 rw[hr] at g
 have g:=ac2 g
 subst g
 refine⟨e,h1,v,f,u,rfl,rfl,λt m=>?_,λd w m=>?_⟩
 .have hk:=zE m
  have hi:i<all.length:=(aaX.1 k).1
  have b:all[i]=o:=(aaX.1 k).2
  rw[abA hi,b] at hk
  rw[p.keep λx b=>hk x (by simp[b])]
  have:=hk o (by simp)
  cases c:o.dst with
  | none=>rfl
  | some d=>simp only[Env.put];rw[aaR];rintro rfl;exact this c
 .rw[p.keep (zE m),w]
  simp[Env.put]
theorem Bl {i a b c j d e f:Nat} (h:iT (.sl i a b c) (.sl j d e f)):i≠j:=h
theorem P1 {T r:Env} {h E:Heap} {c:List Rec} (A:Tr P n all all T h c r E) {i k:Nat} {a b:Rec} {B:List (Nat × Nat)} (hp:Ha all i k=some B) (o:∀p∈B,iT (r p.1) (r p.2)) (F:c[i]?=some a) (G:c[k]?=some b):qx a b:=by
 unfold Ha at hp
 split at hp
 .rename_i oa ob s u
  split at hp
  .rename_i t y d g C d' h1 H
   split at hp
   .rename_i j
    simp only[aaZ] at j
    obtain⟨⟨⟨⟨s1,s2⟩,I⟩,v⟩,J⟩:=j
    simp at hp;subst hp
    have l:=o (t,g) (by simp)
    have a2:=o (t,C) (by simp)
    have a3:=o (g,y) (by simp)
    have a4:=o (d,g) (by simp)
    obtain⟨Ta,w,va,K,L,M,N,x,z⟩:=Tc A s F
    obtain⟨Tb,O,vb,Q,R,_,_,q,_⟩:=Tc A u G
    obtain⟨S,U,V,W,p5,X⟩:=Lm L h1
    obtain⟨Y,D,Z,_⟩:=Lm R H
    have z:=z d X I
    rw[<-x t s1,<-q g v] at l
    rw[<-x t s1,<-q C J] at a2
    rw[<-q g v,<-x y s2] at a3
    rw[z,<-q g v] at a4
    refine⟨λid f hr=>?_,λid f hr=>?_,λm=>by rw[S] at m;simp at m,λm=>by rw[Y] at m;simp at m,λid f hx=>?_⟩
    .obtain⟨_,_,_,e⟩:=U id f
     rcases Z id hr with ⟨_,_,_,e'⟩ | ⟨_,_,_,e'⟩
     .rw[e,e'] at l;exact Bl l rfl
     .rw[e,e'] at a2;exact Bl a2 rfl
    .obtain⟨_,_,_,e⟩:=D id f
     rcases V id hr with ⟨_,_,_,e'⟩ | ⟨_,_,_,e'⟩
     .rw[e',e] at l;exact Bl l rfl
     .rw[e,e'] at a3;exact Bl a3 rfl
    .obtain⟨_,_,_,e⟩:=D id f
     obtain⟨_,_,_,e'⟩:=W (by omega)
     have:id=w.length:=by omega
     subst this
     rw[e,e'] at a4;exact Bl a4 rfl
   .simp at hp
  .simp at hp
 .simp at hp
theorem Qo {T d:Env} {h m:Heap} {c:List Rec} (e:Tr P n all all T h c d m) {i k:Nat} {a b:Rec} {f:List (Nat × Nat)} (hp:CR all i k=some f) (g:∀p∈f,iT (d p.1) (d p.2)) (j:c[i]?=some a) (l:c[k]?=some b):qx a b:=by
 unfold CR at hp
 split at hp
 .rename_i p h1
  simp at hp;subst hp
  exact Qh e h1 (g p (by simp)) j l
 .exact P1 e hp g j l
theorem Vq {ls:List Nat} {d:List Rec} {T o:Env} {hp q:Heap} {j:List (Nat × Nat)} (v:Tr P n all all T hp d o q) (h:EO all (mO all ls)=some j) (z:∀p∈j,iT (o p.1) (o p.2)) (D:ls.length=d.length)
  (hr:∀(i x:Nat) (r:Rec),ls[i]?=some x->d[i]?=some r->mL x r.rd r.wr r.call r.lo r.hi):xF all d:=by
 intro i k a b s l m A
 have hi:i<d.length:=(aaX.1 l).1
 have hk:k<d.length:=(aaX.1 m).1
 have w:=hr i _ a (aaQ (by omega)) l
 have y:=hr k _ b (aaQ (by omega)) m
 have B:(ls[i]'(by omega),i)∈ls.zipIdx:=by rw[abO];simp[aaQ (show i<ls.length by omega)]
 have mk:(ls[k]'(by omega),k)∈ls.zipIdx:=by rw[abO];simp[aaQ (show k<ls.length by omega)]
 by_cases h1:Ck all (ls[i]'(by omega)) i (ls[k]'(by omega)) k=true
 .unfold Ck at h1
  simp only[s,decide_true,acU,A,acC,acG,abQ,aaZ,aa5] at h1
  rcases h1 with ((h1 | h1) | h1) | h1
  .obtain⟨g,f,t,C⟩:=w.1 h1
   exact⟨λid c=>by simp[f] at c,λid _=>by simp[g],λu=>by simp[t] at u,λ_=>f,λid _ E=>by omega⟩
  .obtain⟨g,f,t,C⟩:=y.1 h1
   exact⟨λid _=>by simp[g],λid c=>by simp[f] at c,λ_=>f,λu=>by simp[t] at u,λid c=>by simp[f] at c⟩
  .have g:=w.2 h1.1
   have f:=y.2 h1.2
   exact⟨λid c=>by simp[g] at c,λid c=>by simp[f] at c,λ_=>f,λ_=>g,λid c=>by simp[f] at c⟩
  .exact Af v h1 l m
 .have hm:(i,k)∈mO all ls:=by
   unfold mO
   rw[acu]
   refine⟨_,B,?_⟩
   rw[ach]
   exact⟨_,mk,by simp only;rw[aaR h1]⟩
  obtain⟨p,hp,e⟩:=TE h (i,k) hm
  exact Sl v e (z p hp) l m
theorem Ix {P:Program} {t:TypeId} {id:Nat} {q:V} {ok:Bool} {H1 a:View} (h:H1 id=a id):fX P t (.mp id) q ok H1=fX P t (.mp id) q ok a:=by
 unfold fX
 simp only[h]
theorem PI {P:Program} {t:TypeId} {id:Nat} {q:V} {H1 a:View} (h:H1 id=a id):fh P t (.mp id) q H1=fh P t (.mp id) q a:=by
 cases hm:eQ P t with
 | none=>simp only[fh,hm]
 | some x=>simp only[fh,hm,h]
theorem VZ {P:Program} {t:TypeId} {id:Nat} {q:V} {H:View} {v:V} {eff:bp} {rd:List Nat} (h:fX P t (.mp id) q false H=some (v,eff,rd)):eff=.none/\rd=[id]:=by
 simp only[fX,abp,if_false] at h
 repeat' (first | (simp only[aaV,abf] at h;exact⟨h.2.1.symm,h.2.2.symm⟩)|(split at h)|(simp at h;done))
theorem Tx {P:Program} {t:TypeId} {id:Nat} {q:V} {H:View} {v:V} {eff:bp} {rd:List Nat} (h:fh P t (.mp id) q H=some (v,eff,rd)):∃obj,eff=.fR id obj:=by
 cases hm:eQ P t with
 | none=>simp[fh,hm] at h
 | some x =>
  simp only[fh,hm] at h
  repeat' (first | (simp only[aaV,abf] at h;exact⟨_,h.2.1.symm⟩)|(split at h)|(simp at h;done))
theorem Lw {o:Oper} {T:Env} {h f:Heap} {v:V} {rd wr:List Nat} {call:Bool} (st:eC P n all o T h v f rd wr call) (i:dT n all T o=some true) (j:∀e x,o.op≠.box e x) (k:∀s d x,o.op≠.convert s d x) (l:∀c,o.op≠.call c):
  ∃eff,cK P o T h.view h.length=some (v,eff,rd)/\f=eff.apply h/\wr=eff.wr/\call=false:=by
 cases st with
 | skip g=>rw[i] at g;simp at g
 | op _ b=>exact⟨_,b,rfl,rfl,rfl⟩
 | kO _ a _=>exact absurd a (j _ _)
 | ic _ a _ _ _ _=>exact absurd a (k _ _ _)
 | call _ a _ _ _ _ _=>exact absurd a (l _)
theorem X3 {a:List Rec} {f:Nat->Env} {b:Nat->Heap} {vs:Nat->V} (d:Eh P n all a f b vs) (i:a.length=all.length) {k:Nat} (hk:k<=all.length) (hw:∀j r,j<k->a[j]?=some r->r.wr=[]):
  ∀j,j<=k->(b 0).length<=(b j).length/\∀id,id<(b 0).length->(b j).view id=(b 0).view id:=by
 intro j
 induction j with
 | zero=>intro _;exact⟨aaY _,λ_ _=>rfl⟩
 | succ j g =>
  intro l
  obtain⟨e,h⟩:=g (by omega)
  obtain⟨st,_,_,_,_⟩:=d j all[j] (a[j]'(by omega)) (aaQ (by omega)) (aaQ (by omega))
  refine⟨abG e (wW st),λid c=>?_⟩
  rw[uD st (abq c e) (by rw[hw j _ (by omega) (aaQ (by omega))];simp)]
  exact h id c
theorem sB {a:List Rec} {b:Nat->Env} {e:Nat->Heap} {vs:Nat->V} (c:Eh P n all a b e vs) (m:a.length=all.length) {i t:Nat} (h:stays all i t=true):∀j,i<=j->j<=all.length->b j t=b i t:=by
 intro j d f
 refine CX (vs:=vs) (N:=all.length) (λk o hk=>?_) rfl i j d f λk o h1 p g=>zE h o (by
  rw[List.mem_iff_getElem?]
  exact⟨k-i,by rw[acg,show i+(k-i)=k by omega];exact g⟩)
 have l:k<all.length:=(aaX.1 hk).1
 exact(c k o (a[k]'(by omega)) hk (aaQ (by omega))).2.2.1
theorem LG {ls:List Nat} {d:List Rec} {T I:Env} {hp a6:Heap} {V:List (Nat × Nat)} {tp:Option (Nat × Nat)} (tr:Tr P n all all T hp d I a6) (h:yT all (JB all ls tp)=some V) (hA:∀p∈V,iT (I p.1) (I p.2)) (hl:ls.length=d.length)
  (hr:∀(i x:Nat) (r:Rec),ls[i]?=some x->d[i]?=some r->mL x r.rd r.wr r.call r.lo r.hi) (W:∀p,tp=some p->∃D,JH all ls p.1 p.2=some D/\Me P D.1 (I D.2.1) (I D.2.2) hp.view):PX P n all d T I hp:=by
 have main:∀i k a b,i<k->d[i]?=some a->d[k]?=some b->ordered (gW all []) i k=false->tp≠some (i,k)->qx a b:=by
  intro i k a b K X S ho a7
  have hk:k<d.length:=(aaX.1 S).1
  have la:=hr i _ a (aaQ (by omega)) X
  have lb:=hr k _ b (aaQ (by omega)) S
  have mi:(ls[i]'(by omega),i)∈ls.zipIdx:=by rw[abO];simp[aaQ (show i<ls.length by omega)]
  have mk:(ls[k]'(by omega),k)∈ls.zipIdx:=by rw[abO];simp[aaQ (show k<ls.length by omega)]
  by_cases h1:Ck all (ls[i]'(by omega)) i (ls[k]'(by omega)) k=true
  .unfold Ck at h1
   simp only[K,decide_true,acU,ho,acC,acG,abQ,aaZ,aa5] at h1
   rcases h1 with ((h1 | h1) | h1) | h1
   .obtain⟨w,s,Y,e4⟩:=la.1 h1
    exact⟨λid c=>by simp[s] at c,λid _=>by simp[w],λZ=>by simp[Y] at Z,λ_=>s,λid _ hx=>by omega⟩
   .obtain⟨w,s,Y,e4⟩:=lb.1 h1
    exact⟨λid _=>by simp[w],λid c=>by simp[s] at c,λ_=>s,λZ=>by simp[Y] at Z,λid c=>by simp[s] at c⟩
   .have w:=la.2 h1.1
    have s:=lb.2 h1.2
    exact⟨λid c=>by simp[w] at c,λid c=>by simp[s] at c,λ_=>s,λ_=>w,λid c=>by simp[s] at c⟩
   .exact Af tr h1 X S
  .have hm:(i,k)∈mO all ls:=by
    unfold mO
    rw[acu]
    refine⟨_,mi,?_⟩
    rw[ach]
    exact⟨_,mk,by simp only;rw[aaR h1]⟩
   by_cases hn:newAt all k=true
   .unfold newAt at hn
    split at hn
    .rename_i ob L
     obtain⟨T1,ch,v,J,rd,wr,call,a8,w,s,_⟩:=tr.at_ k ob L
     rw[S] at w
     have w:=ac2 w
     subst w
     obtain⟨n1,n2,n3⟩:=VY s hn
     exact⟨λid _=>by simp[n1],λid c=>by simp[n2] at c,λ_=>n2,λZ=>by simp[n3] at Z,λid c=>by simp[n2] at c⟩
    .simp at hn
   .obtain⟨p,hp,e⟩:=Py h (i,k) (by
     unfold JB
     rw[ab7]
     refine⟨hm,?_⟩
     simp only[aaZ,ac5,bne_iff_ne,ne_eq]
     exact⟨by simpa using hn,a7⟩)
    exact Qo tr e (λq hq=>hA q (hp q hq)) X S
 cases tp with
 | none=>exact xF.Zz λi k a b h1 J h3 h4=>main i k a b h1 J h3 h4 (by simp)
 | some p =>
  obtain⟨i0,C⟩:=p
  obtain⟨D,f,B⟩:=W _ rfl
  intro M hs vs cj N ab E u i
  by_cases hi:i=i0
  .subst hi
   refine⟨some C,λk a b h1 J h3 h4 h5=>main i k a b h1 J h3 h4 (λe=>h5 (by simp at e;rw[e])),λk a b o hk X S ho=>?_⟩
   simp at hk;subst hk
   unfold JH at f
   split at f
   .rename_i oa ob O L
    rw[ho] at O
    have O:=ac2 O
    subst O
    split at f
    .rename_i t m q t' m' q' l y bd bl
     split at f
     .rename_i F
      simp only[aaZ,abQ,aa5,abj,abL] at F
      obtain⟨⟨⟨⟨⟨⟨⟨⟨rfl,rfl⟩,rfl⟩,s1⟩,s2⟩,s3⟩,s4⟩,K⟩,U⟩:=F
      simp only[aaV] at f
      subst f
      have bn:C<all.length:=(aaX.1 L).1
      have br:∀j r,j<C->d[j]?=some r->r.wr=[]:=λj r hj bs=>by
       have h1:=U j hj
       have ae:j<ls.length:=by omega
       rw[aaP,aaQ ae] at h1
       exact(hr j _ r (aaQ ae) bs).2 h1
      have G:=X3 u E (Nat.le_of_lt bn) br
      have em:∀j,i<=j->j<=all.length->M j m=I m:=λj h1 J=>by
       rw[<-ab,sB u E s1 j h1 J,sB u E s1 all.length (by omega) (aaY _)]
      have eq:∀j,i<=j->j<=all.length->M j q=I q:=λj h1 J=>by
       rw[<-ab,sB u E s2 j h1 J,sB u E s2 all.length (by omega) (aaY _)]
      obtain⟨bx,_,_,b0,b1⟩:=u i o a ho X
      obtain⟨b2,_,_,_,_⟩:=u C ob b L S
      have gi:dT n all (M i) o=some true:=by unfold dT;rw[bd]
      have gk:dT n all (M C) ob=some true:=by unfold dT;rw[bl]
      unfold Me at B
      split at B
      .rename_i id c
       obtain⟨⟨ck,c0,H⟩,B⟩:=B
       have Q:id<hp.length:=fg (by rw[H];simp)
       have al:(hs C).view id=hp.view id:=by rw[(G C (aaY _)).2 id (by rw[N];exact Q),N]
       have an:(hs i).view id=hp.view id:=by rw[(G i (Nat.le_of_lt K)).2 id (by rw[N];exact Q),N]
       obtain⟨cc,z,b3,b4,b5⟩:=Lw bx gi (by rw[l];simp) (by rw[l];simp) (by rw[l];simp)
       obtain⟨cf,A,b7,b8,cu⟩:=Lw b2 gk (by rw[y];simp) (by rw[y];simp) (by rw[y];simp)
       simp only[cK,l] at z
       simp only[cK,y] at A
       have w:ev (M i) (.tmp m)=.mp id:=(em i (aaY _) (by omega)).trans c
       have s:ev (M i) (.tmp q)=I q:=eq i (aaY _) (by omega)
       have Y:ev (M C) (.tmp m)=.mp id:=(em C (by omega) (by omega)).trans c
       have e4:ev (M C) (.tmp q)=I q:=eq C (by omega) (by omega)
       rw[w,s] at z
       rw[Y,e4,PI al] at A
       obtain⟨l1,l2⟩:=VZ z
       obtain⟨obj,l3⟩:=Tx A
       subst l1 l3
       have b9:(hs (C+1)).view id=obj:=by
        rw[b7,k8 (λcv R=>by
         simp only[bp.wr,abN] at R
         subst R
         rw[al,H];simp)]
        simp[bp.view,View.set]
       refine⟨K,b4,b5,by rw[b0,b1,b3];rfl,λg hg ca=>?_⟩
       have aq:id<(hs i).length:=fg (by rw[an,H];simp)
       have ar:g.view id=(hp.view.set id obj) id:=by
        rw[ca id aq,b8,aaT (by simp[bp.wr]),b9]
        simp[View.set]
       have cb:=B _ _ _ A
       have a1:cK P o (M i) g.view g.length=some (vs i,.none,a.rd):=by
        simp only[cK,l]
        rw[w,s,Ix ar,cb,<-Ix an]
        exact z
       exact .op gi a1
      .exact B.elim
     .simp at f
    .simp at f
   .simp at f
  .exact⟨none,λk a b h1 J h3 h4 _=>main i k a b h1 J h3 h4 (λe=>hi (by simp at e;exact e.1.symm)),λk a b o h1=>by simp at h1⟩
theorem V3 (hm:P.follows .mixedOrders=true) {p:Fz} {id:Nat} {ops:Array Oper} {q:SC} {T:Env} {h:Heap} {Q:Exit->Env->View->Prop} (a:Fe P n p ops.toList=some q) (hw:wS P q T h.view Q):
  ∃e g d,dy P n (.region id ops true) T h e g d/\(kh h d/\h.length<=d.length)/\Q e g d.view:=by
 unfold Fe at a
 split at a
 .simp at a
 .rename_i l v
  split at a
  .simp at a
  .rename_i b
   have b:(group l).all wX=true:=by simpa using b
   have j:en P n ops.toList p ops.toList=some (oN (group l)):=by rw[iw];exact v
   split at a
   .rename_i w
    simp only[aa0] at a
    obtain⟨y,k,rfl⟩:=a
    obtain⟨f,g,d,t,m,hk,c⟩:=Bu (group l) ops.toList T h j b hw
    rw[iw] at c
    refine⟨.normal,g,d,?_,m,hk.rest⟩
    have o:xF ops.toList f:=Vq t k (Eb hk) (by simpa using c.1) (λi x r u hr=>by
     simp only[aaS,aa0] at u
     obtain⟨s,z,rfl⟩:=u
     exact c.2 i s r z hr)
    simpa using B2 hm (id:=id) t w o
   .simp at a
theorem Wu (hm:P.follows .mixedOrders=true) {A:Fz} {id:Nat} {ops:Array Oper} {B:SC} {T:Env} {h:Heap} {Q:Exit->Env->View->Prop} (b:FI P n A ops.toList=some B) (hw:wS P B T h.view Q):
  ∃e k d,dy P n (.region id ops true) T h e k d/\(kh h d/\h.length<=d.length)/\Q e k d.view:=by
 unfold FI at b
 split at b
 .simp at b
 .rename_i l D
  split at b
  .simp at b
  .rename_i c
   have c:(group l).all wX=true:=by simpa using c
   have m:en P n ops.toList A ops.toList=some (oN (group l)):=by rw[iw];exact D
   split at b
   .rename_i C
    split at b
    .simp only[aa0] at b
     obtain⟨v,f,rfl⟩:=b
     obtain⟨o,k,d,q,g,hk,a⟩:=Bu (group l) ops.toList T h m c hw
     rw[iw] at a
     refine⟨.normal,k,d,?_,g,hk.rest⟩
     have j:=LG q f (Eb hk) (by simpa using a.1) (λi x r t hr=>by
      simp only[aaS,aa0] at t
      obtain⟨s,w,rfl⟩:=t
      exact a.2 i s r w hr) (λp hp=>by simp at hp)
     simpa using Ad hm (id:=id) q C j
    .split at b
     .rename_i y z
      simp only[aa0] at b
      obtain⟨v,f,rfl⟩:=b
      obtain⟨o,k,d,q,g,hk,a⟩:=Bu (group l) ops.toList T h m c hw
      rw[iw] at a
      refine⟨.normal,k,d,?_,g,hk.2.rest⟩
      have j:=LG q f (Eb hk.2) (by simpa using a.1) (λi x r t hr=>by
       simp only[aaS,aa0] at t
       obtain⟨s,w,rfl⟩:=t
       exact a.2 i s r w hr) (λE u=>by
        simp only[aaV] at u
        subst u
        exact⟨y,z,hk.1⟩)
      simpa using Ad hm (id:=id) q C j
     .simp at b
   .simp at b
theorem vr (hm:P.follows .mixedOrders=true) {u:Fz} {id:Nat} {ops:Array Oper} {draw quiet:Bool} {v:SC} {T:Env} {h:Heap} {Q:Exit->Env->View->Prop} (a:uA P n u ops.toList draw quiet=some v) (hw:wS P v T h.view Q):
  ∃e d c,dy P n (.region id ops draw) T h e d c/\(kh h c/\h.length<=c.length)/\Q e d c.view:=by
 unfold uA at a
 split at a
 .simp at a
 .rename_i l y
  split at a
  .simp at a
  .rename_i f
   have f:(group l).all wX=true:=by simpa using f
   have k:en P n ops.toList u ops.toList=some (oN (group l)):=by rw[iw];exact y
   have key:AM P quiet (group l) T h.view (Q .normal)->(draw=true->ox ops.toList=true/\JK ops.toList (l.map λs=>jY P quiet s.b)=true) ->
     ∃e d c,dy P n (.region id ops draw) T h e d c/\(kh h c/\h.length<=c.length)/\Q e d c.view:=by
    intro hw m
    obtain⟨j,d,c,o,p,hk,g⟩:=Bu (group l) ops.toList T h k f hw
    rw[iw] at g
    refine⟨.normal,d,c,?_,p,hk⟩
    cases q:draw with
    | false=>simpa using KW (id:=id) o
    | true =>
     obtain⟨h1,z⟩:=m q
     have t:xF ops.toList j:=U1 o z (by simpa using g.1) (λi x r w hr=>by
      simp only[aaS,aa0] at w
      obtain⟨s,A,rfl⟩:=w
      exact g.2 i s r A hr)
     simpa using B2 hm (id:=id) o h1 t
   split at a
   .split at a
    .rename_i B
     simp at a;subst a
     exact key hw (λ_=>by simpa using B)
    .simp at a
   .rename_i q
    simp at a;subst a
    exact key hw (λe=>absurd e q)
theorem gf {a b:Option SC} {c:SC} (h:orElse' a b=some c):a=some c∨b=some c:=by
 cases a with
 | none=>exact .inr h
 | some x=>exact .inl h
theorem Uo (hm:P.follows .mixedOrders=true) {k:List Nat} {id:Nat} {ops:Array Oper} {draw:Bool} {g:SC} {T:Env} {h:Heap} {Q:Exit->Env->View->Prop} (i:JE P n k ops.toList draw=some g) (hw:wS P g T h.view Q):
  ∃e j b,dy P n (.region id ops draw) T h e j b/\(kh h b/\h.length<=b.length)/\Q e j b.view:=by
 unfold JE at i
 rcases gf i with h1 | h1
 .exact vr hm h1 hw
 .split at h1
  .rename_i l
   subst l
   rcases gf h1 with a | h1
   .split at a
    .exact Wu hm a hw
    .simp at a
   rcases gf h1 with a | h1
   .split at a
    .exact vr hm a hw
    .simp at a
   rcases gf h1 with c | c
   .exact V3 hm c hw
   .rcases gf c with d | d
    .exact vr hm d hw
    .rcases gf d with f | f
     .exact vr hm f hw
     .exact vr hm f hw
  .simp at h1
theorem IM {e:Exit} {a b:Prop} (h:DE e a b):(e=.normal/\a)∨(e≠.normal/\b):=by
 cases e with
 | normal=>exact .inl ⟨rfl,h⟩
 | _=>exact .inr ⟨by simp,h⟩
def uy (P:Program) (n:Nat) (fz:List Nat) (c:Code):Prop:=∀sc:SC,dN P n fz c=some sc->∀(T:Env) (h:Heap) (Q:Exit->Env->View->Prop),wS P sc T h.view Q ->
 ∃e T' h',dy P n c T h e T' h'/\(kh h h'/\h.length<=h'.length)/\Q e T' h'.view
theorem HU {b:List Nat} : uy P n b .skip:=by
 intro c a T h Q hw;simp[dN] at a;subst a;exact⟨_,T,h,.skip,⟨.refl _,aaY _⟩,hw⟩
theorem J3 {g:List Nat} {x y:Code} (i:uy P n g x) (j:uy P n g y):uy P n g (.seq x y):=by
 intro u c T h Q hw
 simp only[dN] at c
 split at c
 .rename_i a b h1 q
  simp at c;subst c
  obtain⟨e,o,d,p,st1,f⟩:=i a h1 T h _ hw
  rcases IM f with ⟨rfl,f⟩ | ⟨k,f⟩
  .obtain⟨r,s,l,t,st2,m⟩:=j b q o d _ f
   exact⟨r,s,l,p.seq t,⟨st1.1.trans st2.1 st1.2,abG st1.2 st2.2⟩,m⟩
  .exact⟨e,o,d,p.Oi k,st1,f⟩
 .simp at c
theorem qO {b:Fz} {ops:List Oper} {draw quiet:Bool} {a:SC} (h:uA P n b ops draw quiet=some a) (l:Nat):pU a l=none:=by
 unfold uA at h
 repeat' (first | (simp only[aaV] at h;subst h;rfl)|(split at h)|(simp at h;done))
theorem PU {b:Fz} {ops:List Oper} {a:SC} (h:Fe P n b ops=some a) (l:Nat):pU a l=none:=by
 unfold Fe at h
 repeat' (first | (simp only[aa0] at h;obtain⟨_,_,rfl⟩:=h;rfl)|(split at h)|(simp at h;done))
theorem QG {b:Fz} {ops:List Oper} {a:SC} (h:FI P n b ops=some a) (l:Nat):pU a l=none:=by
 unfold FI at h
 repeat' (first | (simp only[aa0] at h;obtain⟨_,_,rfl⟩:=h;rfl)|(split at h)|(simp at h;done))
theorem P9 {f:List Nat} {ops:List Oper} {draw:Bool} {e:SC} (h:JE P n f ops draw=some e) (l:Nat):pU e l=none:=by
 rcases gf h with h1 | h1
 .exact qO h1 l
 .split at h1
  .rcases gf h1 with a | h1
   .split at a
    .exact QG a l
    .simp at a
   rcases gf h1 with a | h1
   .split at a
    .exact qO a l
    .simp at a
   rcases gf h1 with b | b
   .exact PU b l
   .rcases gf b with c | c
    .exact qO c l
    .rcases gf c with d | d
     .exact qO d l
     .exact qO d l
  .simp at h1
theorem Tt {j:List Nat}:∀(c:Code) (f:SC),dN P n j c=some f->∀l,match findLabel c l with
  | some rest=>∃r,pU f l=some r/\dN P n j rest=some r
  | none=>pU f l=none:=by
 intro c
 induction c with
 | seq x y h i =>
  intro f d l
  simp only[dN] at d
  split at d
  .rename_i a b h1 k
   simp at d;subst d
   have g:=h a h1 l
   have o:=i b k l
   simp only[findLabel,pU]
   cases m:findLabel x l with
   | some rx =>
    rw[m] at g
    obtain⟨r,p,q⟩:=g
    exact⟨.seq r b,by rw[p],by simp only[dN,q,k]⟩
   | none =>
    rw[m] at g
    rw[g]
    exact o
  .simp at d
 | label l' =>
  intro f d l
  simp[dN] at d;subst d
  simp only[findLabel,pU]
  by_cases e:(l'==l)=true
  .rw[aaT e];exact⟨.skip,by rw[aaT e],by simp[dN]⟩
  .rw[aaR e];simp only;rw[aaR e]
 | region id ops draw=>intro f d l;simp only[dN] at d;simp only[findLabel];exact P9 d l
 | cond x y z _ _ =>
  intro f d l
  simp only[dN] at d
  split at d
  .simp at d;subst d;rfl
  .simp at d
 | block id c _=>intro f d l;simp only[dN,aa0] at d;obtain⟨_,_,rfl⟩:=d;rfl
 | loop c _=>intro f d l;simp only[dN,aa0] at d;obtain⟨_,_,rfl⟩:=d;rfl
 | scope c _ =>
  intro f d l
  simp only[dN] at d
  split at d
  .split at d
   .simp only[aa0] at d;obtain⟨_,_,rfl⟩:=d;rfl
   .simp at d
  .simp at d
 | skip=>intro f d l;simp[dN] at d;subst d;rfl
 | exit id=>intro f d l;simp[dN] at d;subst d;rfl
 | ret=>intro f d l;simp[dN] at d;subst d;rfl
 | goto l'=>intro f d l;simp[dN] at d;subst d;rfl
 | _=>intro f d;simp[dN] at d
theorem P5 {v:List Nat} {c:Code} (F:uy P n v c) (hr:∀l rest,findLabel c l=some rest->uy P n v rest):uy P n v (.scope c):=by
 intro H d T h Q hw
 simp only[dN] at d
 split at d
 .rename_i a h1
  split at d
  .rename_i l J
   simp only[aa0] at d
   obtain⟨r,w,rfl⟩:=d
   have j:=Tt c a h1 l
   cases m:findLabel c l with
   | none=>rw[m] at j;simp only at j;rw[j] at w;simp at w
   | some rest =>
    rw[m] at j
    obtain⟨L,t,o⟩:=j
    rw[w] at t
    have t:=ac2 t
    subst t
    obtain⟨I,K,x,y⟩:=hw
    have go:∀k T (h:Heap),I k T h.view->∃e E u,uG P n c rest T h e E u/\(kh h u/\h.length<=u.length)/\Q e E u.view:=by
     intro k
     induction k using Nat.strongRecOn with
     | ind k z =>
      intro T h G
      obtain⟨e,p,b,q,st1,s⟩:=hr l rest m r o T h _ (y k T h.view G)
      cases e with
      | goto l' =>
       obtain⟨rfl,A,B,f⟩:=s
       obtain⟨o,C,g,D,st2,i⟩:=z A B p b f
       exact⟨o,C,g,uG.jump q m D,⟨st1.1.trans st2.1 st1.2,abG st1.2 st2.2⟩,i⟩
      | _=>exact⟨_,p,b,.out q rfl,st1,s⟩
    obtain⟨e,p,b,q,st1,s⟩:=F a h1 T h _ x
    cases e with
    | goto l' =>
     obtain⟨rfl,A,_,f⟩:=s
     obtain⟨o,C,g,D,st2,i⟩:=go A p b f
     exact⟨o,C,g,.scope (uG.jump q m D),⟨st1.1.trans st2.1 st1.2,abG st1.2 st2.2⟩,i⟩
    | _=>exact⟨_,p,b,.scope (.out q rfl),st1,s⟩
  .simp at d
 .simp at d
theorem V2 (hm:P.follows .mixedOrders=true) {E:List Nat}:∀c:Code,uy P n E c/\∀l rest,findLabel c l=some rest->uy P n E rest:=by
 intro c
 induction c with
 | skip=>exact⟨HU,λl rest h=>by simp[findLabel] at h⟩
 | region id ops draw=>exact⟨λp d T h Q hw=>Uo hm d hw,λl rest h=>by simp[findLabel] at h⟩
 | seq x y o g =>
  refine⟨J3 o.1 g.1,λl rest h=>?_⟩
  simp only[findLabel] at h
  split at h
  .rename_i r hr
   simp only[aaV] at h;subst h
   exact J3 (o.2 _ _ hr) g.1
  .exact g.2 _ _ h
 | cond c x y o g =>
  refine⟨?_,λl rest h=>by simp[findLabel] at h⟩
  intro p d T h Q hw
  simp only[dN] at d
  split at d
  .rename_i a b h1 H
   simp at d;subst d
   simp only[wS] at hw
   split at hw
   .rename_i t u
    have F:xg (SX.of c) t T=T:=by
     unfold xg
     split
     .rename_i k hk
      rw[hk] at u
      exact DY u
     .rfl
    rw[SX.di] at u
    cases t with
    | true =>
     have:=hw.1 rfl
     rw[F] at this
     obtain⟨e,j,f,m,st,i⟩:=o.1 a h1 T h Q this
     exact⟨e,j,f,.cond u m,st,i⟩
    | false =>
     have:=hw.2 rfl
     rw[F] at this
     obtain⟨e,j,f,m,st,i⟩:=g.1 b H T h Q this
     exact⟨e,j,f,.cond u m,st,i⟩
   .exact hw.elim
  .simp at d
 | block id c s =>
  refine⟨?_,λl rest h=>by simp[findLabel] at h⟩
  intro p d T h Q hw
  simp only[dN,aa0] at d
  obtain⟨a,h1,rfl⟩:=d
  obtain⟨e,j,f,m,st,i⟩:=s.1 a h1 T h _ hw
  exact⟨_,j,f,m.block,st,i⟩
 | loop c s =>
  refine⟨?_,λl rest h=>by simp[findLabel] at h⟩
  intro p d T h Q hw
  simp only[dN,aa0] at d
  obtain⟨a,h1,rfl⟩:=d
  obtain⟨I,⟨k,hk⟩,q⟩:=hw
  have go:∀k T (h:Heap),I k T h.view->∃e j f,sr P n c T h e j f/\(kh h f/\h.length<=f.length)/\Q e j f.view:=by
   intro k
   induction k using Nat.strongRecOn with
   | ind k w =>
    intro T h J
    obtain⟨e,G,v,m,st1,i⟩:=s.1 a h1 T h _ (q k T h.view J)
    rcases IM i with ⟨rfl,K,z,A⟩ | ⟨B,i⟩
    .obtain⟨L,M,C,N,st2,D⟩:=w K z G v A
     exact⟨L,M,C,.step m N,⟨st1.1.trans st2.1 st1.2,abG st1.2 st2.2⟩,D⟩
    .exact⟨e,G,v,.out m B,st1,i⟩
  obtain⟨e,j,f,m,st,i⟩:=go k T h hk
  exact⟨e,j,f,.loop m,st,i⟩
 | exit id=>exact⟨λp d T h Q hw=>by simp[dN] at d;subst d;exact⟨_,T,h,.exit,⟨.refl _,aaY _⟩,hw⟩,λl rest h=>by simp[findLabel] at h⟩
 | ret=>exact⟨λp d T h Q hw=>by simp[dN] at d;subst d;exact⟨_,T,h,.ret,⟨.refl _,aaY _⟩,hw⟩,λl rest h=>by simp[findLabel] at h⟩
 | label l'=>exact⟨λp d T h Q hw=>by simp[dN] at d;subst d;exact⟨_,T,h,.label,⟨.refl _,aaY _⟩,hw⟩,λl rest h=>by
   simp only[findLabel] at h
   split at h
   .simp only[aaV] at h;subst h;exact HU
   .simp at h⟩
 | goto l'=>exact⟨λp d T h Q hw=>by simp[dN] at d;subst d;exact⟨_,T,h,.goto,⟨.refl _,aaY _⟩,hw⟩,λl rest h=>by simp[findLabel] at h⟩
 | scope c s=>exact⟨P5 s.1 s.2,λl rest h=>by simp[findLabel] at h⟩
 | _=>exact⟨λp d=>by simp[dN] at d,λl rest h=>by simp[findLabel] at h⟩
theorem Zh (hm:P.follows .mixedOrders=true) {f:List Nat} (c:Code) (b:SC) (g:dN P n f c=some b) (T:Env) (h:Heap) (Q:Exit->Env->View->Prop) (hw:wS P b T h.view Q):
 ∃e d a,dy P n c T h e d a/\(kh h a/\h.length<=a.length)/\Q e d a.view:=(V2 hm c).1 b g T h Q hw
theorem Zi {T:Env} {h:Heap} {r:ResultVar} {l:List SR} {rest:List ResultVar} (b:gN P (r::rest)=some l):∃s l',l=s::l'/\gN P rest=some l'/\∀K:V->Prop,wR T h.view s K->∃v,vV P T h r=some v/\K v:=by
 cases r with
 | tmp t =>
  simp only[gN,aa0] at b
  obtain⟨l',h1,rfl⟩:=b
  exact⟨.tmp t,l',rfl,h1,λK hk=>⟨_,rfl,hk⟩⟩
 | cell a t =>
  simp only[gN] at b
  split at b
  .rename_i k l' h1 g
   simp at b;subst b
   refine⟨.cell a k,l',rfl,g,λK hk=>?_⟩
   simp only[wR] at hk
   simp only[vV,oM,zd h1]
   split at hk
   .rename_i id i j c
    split at hk
    .rename_i es hH
     obtain⟨d,hk⟩:=hk
     obtain⟨v,f,hk⟩:=r6 hk
     exact⟨v,by rw[c];simp only[hH];rw[aaT d,f];rfl,hk⟩
    .exact hk.elim
   .rename_i e j c
    obtain⟨v,f,hk⟩:=r6 hk
    exact⟨v,by rw[c];simp only;rw[f];rfl,hk⟩
   .exact hk.elim
  .simp at b
theorem S4 {T:Env} {h:Heap} {K:List V->Prop}:∀(rs:List ResultVar) (l:List SR) (acc:List V),gN P rs=some l->IU T h.view l acc K->∃vs,nW P T h rs=some vs/\K (acc++vs)
 | [],l,acc,a,hw=>by simp[gN] at a;subst a;exact⟨[],rfl,by simpa [IU] using hw⟩
 | r::rest,l,acc,a,hw=>by
  obtain⟨s,l',rfl,h1,c⟩:=Zi (T:=T) (h:=h) a
  obtain⟨v,d,hk⟩:=c _ hw
  obtain⟨vs,b,hk⟩:=S4 rest l' (acc++[v]) h1 hk
  exact⟨v::vs,by simp[nW,d,b],by simpa using hk⟩
def wF (P:Program) (F:SF) (vs:List V) (H:View) (K:V->View->Prop):Prop:=
 vs.length<=F.n/\wS P F.code (mT vs) H λe T' H'=>(e=.ret∨e=.normal)/\IU T' H' F.res [] λl=>K (zw l) H'
theorem ay.of (hm:P.follows .mixedOrders=true) {f:FuncId} {j:List Nat} {F:SF} (b:aJ P f j=some F) {vs:List V} {H:View} {K:V->View->Prop} (hw:wF P F vs H K):ay P f vs H K:=by
 unfold aJ at b
 split at b
 .rename_i fn g
  split at b
  .rename_i c k
   split at b
   .rename_i m rs h1 n o
    simp at b;subst b
    refine⟨o,?_⟩
    rintro h rfl
    obtain⟨e,r,p,q,st,he,hr⟩:=Zh hm c m h1 _ h _ hw.2
    obtain⟨d,i,hk⟩:=S4 _ _ [] n hr
    refine⟨zw d,p,bY.OU g k hw.1 q he ?_,st.1,by simpa using hk⟩
    unfold Qn
    rw[i]
    cases d with
    | nil=>rfl
    | cons a l=>cases l<;>rfl
   .simp at b
  .simp at b
 .simp at b
theorem ay.mono {f:FuncId} {vs:List V} {H:View} {K c:V->View->Prop} (h:ay P f vs H K) (hk:∀r H',K r H'->c r H'):ay P f vs H c:=
 ⟨h.1,λd e=>let ⟨r,g,a,s,b⟩:=h.2 d e; ⟨r,g,a,s,hk _ _ b⟩⟩
theorem aC.Pv {f:FuncId} {vs:List V} {H:View} {t:V} {K:V->View->Prop} (h:aC P f vs t) (a:ec P f=true) (hk:K t H):GF P f vs H K:=
 ⟨a,λb e=>⟨t,b,bY.ij h b,λ_ _=>rfl,e▸hk⟩⟩
theorem ay.Pv {f:FuncId} {vs:List V} {H:View} {K:V->View->Prop} (h:ay P f vs H λr H'=>(∀id,H id≠.dead->H' id=H id)/\K r H'):GF P f vs H K:=
 ⟨h.1,λc e=>by
  obtain⟨r,g,i,st,d,hk⟩:=h.2 c e
  refine⟨r,g,i,λid a=>?_,hk⟩
  by_cases b:c.view id=.dead
  .rw[b];exact st id a b
  .rw[<-e] at d;exact d id b⟩
end
inductive dd {α:Type} (x:α):Type where
 | mk
def gK (s:ByteArray):List Int:=s.data.toList.map λb=>(b.toNat:Int)
theorem fP (s:ByteArray):s.size=(gK s).length:=by grind [gK,bsize]
def aW (P:Program) (c:SC) (T:Env) (H:View) (Q:Exit->Env->View->Prop) (_:dd (T,H,Q)):Prop:=wS P (.loop c) T H Q
def Yh (P:Program) (l:Nat) (c r:SC) (T:Env) (H:View) (Q:Exit->Env->View->Prop) (_:dd (T,H,Q)):Prop:=wS P (.scope l c r) T H Q
def az (P:Program) (quiet:Bool) (f:FuncId) (vs:List V) (H:View) (K:V->View->Prop) (_:dd (H,K)):Prop:=
 if quiet then GF P f vs H K else ay P f vs H K
def Ft {α:Type} (v:α) (F:α->Prop) (_:dd F):Prop:=F v
def eU (v:V) (F:V->Prop) (_:dd F):Prop:=F v
def Kg (o:cr) (F:cr->Prop) (_:dd F):Prop:=F o
def tL {α:Type} (o:Option α) (F:Option α->Prop) (_:dd F):Prop:=F o
def ao (b:Bool) (A B:Prop) (_:dd (A,B)):Prop:=(b=true->A)/\(b=false->B)
theorem ZE {α:Type} (v:α) (F:α->Prop) (w:dd F):Ft v F w=F v:=propext Iff.rfl
section
variable (F:V->Prop) (w:dd F)
theorem NO (v:Value):eU (.val v) F w=F (.val v):=propext Iff.rfl
theorem Ni (k:Nat):eU (.emp k) F w=F (.emp k):=propext Iff.rfl
theorem NN:eU .eD F w=F .eD:=propext Iff.rfl
theorem NQ (es:List (List V)):eU (.aZ es) F w=F (.aZ es):=propext Iff.rfl
theorem SU (a b c d:Nat):eU (.sl a b c d) F w=F (.sl a b c d):=propext Iff.rfl
theorem OI (a b c:Nat):eU (.ptr a b c) F w=F (.ptr a b c):=propext Iff.rfl
theorem Mf (e:List V) (j:Nat):eU (.aR e j) F w=F (.aR e j):=propext Iff.rfl
theorem TI (a:Nat):eU (.mp a) F w=F (.mp a):=propext Iff.rfl
theorem Ux (f:FuncId) (a b:List V):eU (.fn f a b) F w=F (.fn f a b):=propext Iff.rfl
theorem OV (cs:List V):eU (.agg cs) F w=F (.agg cs):=propext Iff.rfl
theorem Oe (cs:List V):eU (.bb cs) F w=F (.bb cs):=propext Iff.rfl
end
theorem Oo (F:cr->Prop) (w:dd F) (k:Nat) (es:List (List V)):Kg (.arr k es) F w=F (.arr k es):=propext Iff.rfl
theorem Oz (F:cr->Prop) (w:dd F) (es:List (V × V × Nat)) (k:Nat):Kg (.map es k) F w=F (.map es k):=propext Iff.rfl
theorem Mm {α:Type} (F:Option α->Prop) (w:dd F) (x:α):tL (some x) F w=F (some x):=propext Iff.rfl
theorem Ko (A B:Prop) (w:dd (A,B)):ao true A B w=A:=by simp[ao]
theorem Ib (A B:Prop) (w:dd (A,B)):ao false A B w=B:=by simp[ao]
theorem Nw (b:Bool) (A B:Prop) (w:dd (A,B)):ao (!b) A B w=ao b B A .mk:=by grind [ao]
theorem ao.split {b:Bool} {A B:Prop} {w:dd (A,B)} (h1:b=true->A) (a:b=false->B):ao b A B w:=⟨h1,a⟩
theorem ao.dec {p:Prop} [Decidable p] {A B:Prop} {w:dd (A,B)} (h1:p->A) (a:¬ p->B):ao (decide p) A B w:=⟨λh=>h1 (by simpa using h),λh=>a (by simpa using h)⟩
theorem ao.eq {a b:Int} {A B:Prop} {w:dd (A,B)} (h1:a=b->A) (c:¬ a=b->B):ao (a==b) A B w:=⟨λh=>h1 (by simpa using h),λh=>c (by simpa using h)⟩
theorem ao.ne {a b:Int} {A B:Prop} {w:dd (A,B)} (h1:¬ a=b->A) (c:a=b->B):ao (a != b) A B w:=⟨λh=>h1 (by simpa using h),λh=>c (by simpa using h)⟩
section
variable (P:Program) (T:Env) (H:View)
theorem WB (F:SF) (vs:List V) (K:V->View->Prop):wF P F vs H K=(vs.length<=F.n/\wS P F.code (mT vs) H λe a H'=>(e=.ret∨e=.normal)/\IU a H' F.res [] λl=>Ft (zw l) (λv=>K v H') .mk):=propext Iff.rfl
theorem O6 (Q:Exit->Env->View->Prop):wS P .skip T H Q=Q .normal T H:=propext Iff.rfl
theorem Jd (q:Bool) (gs:List SG) (Q:Exit->Env->View->Prop):wS P (.region q gs) T H Q=AM P q gs T H (Q .normal):=propext Iff.rfl
theorem Fj (a:List (Nat × Nat)) (gs:List SG) (Q:Exit->Env->View->Prop):wS P (.sn a gs) T H Q=AM P false gs T H (λb H'=>BJ a b (Q .normal b H')):=propext Iff.rfl
theorem FE (a:Nat × Nat × Nat) (b:List (Nat × Nat)) (gs:List SG) (Q:Exit->Env->View->Prop):wS P (.yM a b gs) T H Q=AM P false gs T H (λc H'=>Me P a.1 (c a.2.1) (c a.2.2) H/\BJ b c (Q .normal c H')):=propext Iff.rfl
theorem Oq (K:Prop):BJ [] T K=K:=propext Iff.rfl
theorem J2 (a b:Nat) (l:List (Nat × Nat)) (K:Prop):BJ ((a,b)::l) T K=(iT (T a) (T b)/\BJ l T K):=propext Iff.rfl
theorem Nf (i j k a b c:Nat):iT (.ptr i j k) (.ptr a b c)=(i≠a):=propext Iff.rfl
theorem N3 (i j k a b c d:Nat):iT (.ptr i j k) (.sl a b c d)=(i≠a):=propext Iff.rfl
theorem L1 (i j k e:Nat):iT (.ptr i j k) (.emp e)=True:=id rfl
theorem KK (i j k:Nat):iT (.ptr i j k) .eD=True:=id rfl
theorem LR (i j k:Nat) (es:List (List V)):iT (.ptr i j k) (.aZ es)=True:=id rfl
theorem OP (a b c d e f g h:Nat):iT (.sl a b c d) (.sl e f g h)=(a≠e):=propext Iff.rfl
theorem Ua (a b c d e:Nat):iT (.sl a b c d) (.emp e)=True:=id rfl
theorem R5 (a b c d:Nat):iT (.sl a b c d) .eD=True:=id rfl
theorem RF (a b c d:Nat) (es:List (List V)):iT (.sl a b c d) (.aZ es)=True:=id rfl
theorem N1 (k:Nat) (v:V):iT (.emp k) v=True:=by cases v<;>rfl
theorem Nz (v:V):iT .eD v=True:=by cases v<;>rfl
theorem OM (es:List (List V)) (v:V):iT (.aZ es) v=True:=by cases v<;>rfl
theorem J9 (e:List V) (j:Nat) (v:V):iT (.aR e j) v=True:=by cases v<;>rfl
theorem S5 (x y:SC) (Q:Exit->Env->View->Prop):wS P (.seq x y) T H Q=wS P x T H λe a H'=>DE e (wS P y a H' Q) (Q e a H'):=propext Iff.rfl
theorem Of (c:SX) (x y:SC) (Q:Exit->Env->View->Prop):wS P (.cond c x y) T H Q=eU (c.at T) (λv=>match v with
 | .val (.bool b)=>ao b (wS P x (xg c true T) H Q) (wS P y (xg c false T) H Q) .mk
 | _=>False) .mk:=propext Iff.rfl
theorem JV (id:Nat) (c:SC) (Q:Exit->Env->View->Prop):wS P (.block id c) T H Q=wS P c T H λe=>Q (sw id e):=propext Iff.rfl
theorem ON (id:Nat) (Q:Exit->Env->View->Prop):wS P (.exit id) T H Q=Q (.exit id) T H:=propext Iff.rfl
theorem St (Q:Exit->Env->View->Prop):wS P .ret T H Q=Q .ret T H:=propext Iff.rfl
theorem Mn (l:Nat) (c r:SC) (Q:Exit->Env->View->Prop):wS P (.scope l c r) T H Q=Yh P l c r T H Q .mk:=propext Iff.rfl
theorem K0 (l:Nat) (Q:Exit->Env->View->Prop):wS P (.label l) T H Q=Q .normal T H:=propext Iff.rfl
theorem O8 (l:Nat) (Q:Exit->Env->View->Prop):wS P (.goto l) T H Q=Q (.goto l) T H:=propext Iff.rfl
theorem GI (l l':Nat) (a b:Prop):CQ l (.goto l') a b=(l'=l/\a):=propext Iff.rfl
theorem BH (l:Nat) (a b:Prop):CQ l .normal a b=b:=propext Iff.rfl
theorem E8 (l i:Nat) (a b:Prop):CQ l (.exit i) a b=b:=propext Iff.rfl
theorem Ji (l:Nat) (a b:Prop):CQ l .ret a b=b:=propext Iff.rfl
theorem Kl (l:Nat) (a b:Prop):DE (.goto l) a b=b:=propext Iff.rfl
theorem E7 (i l:Nat):sw i (.goto l)=.goto l:=id rfl
theorem M8 (c:SC) (Q:Exit->Env->View->Prop):wS P (.loop c) T H Q=aW P c T H Q .mk:=propext Iff.rfl
theorem NF (q:Bool) (K:Env->View->Prop):AM P q [] T H K=K T H:=propext Iff.rfl
theorem Lr (q:Bool) (g:SG) (r:List SG) (K:Env->View->Prop):AM P q (g::r) T H K=wG P q g T H λa H'=>AM P q r a H' K:=propext Iff.rfl
theorem Nc (q:Bool) (ops:List (Option Nat × SB)) (K:Env->View->Prop):wG P q ⟨none,ops⟩ T H K=Dq P q ops T H K:=propext Iff.rfl
theorem NG (q:Bool) (d:Nat) (ops:List (Option Nat × SB)) (K:Env->View->Prop):wG P q ⟨some (d,true),ops⟩ T H K=eU (T d) (λv=>match v with
 | .val (.bool b)=>ao b (Dq P q ops (T.put (some d) (.val (.bool true))) H K) (K (jK ops (T.put (some d) (.val (.bool false)))) H) .mk
 | .bb []=>K (jK ops T) H
 | _=>False) .mk:=propext Iff.rfl
theorem LY (q:Bool) (d:Nat) (ops:List (Option Nat × SB)) (K:Env->View->Prop):wG P q ⟨some (d,false),ops⟩ T H K=eU (T d) (λv=>match v with
  | .val (.bool b)=>ao b (K (jK ops (T.put (some d) (.val (.bool true)))) H) (Dq P q ops (T.put (some d) (.val (.bool false))) H K) .mk
  | .bb []=>K (jK ops T) H
  | _=>False) .mk:=by
 simp only[wG,eU]
 generalize T d=v
 cases v with
 | val x=>grind [ao]
 | bb l=>grind
 | _=>simp
theorem Dt:jK [] T=T:=id rfl
theorem Bd (d:Option Nat) (b:SB) (r:List (Option Nat × SB)):jK ((d,b)::r) T=jK r (T.put d (.bb [])):=id rfl
theorem Om (q:Bool) (K:Env->View->Prop):Dq P q [] T H K=K T H:=propext Iff.rfl
theorem Ld (q:Bool) (d:Option Nat) (b:SB) (r:List (Option Nat × SB)) (K:Env->View->Prop):Dq P q ((d,b)::r) T H K=wB P q b T H λv H'=>Ft v (λv'=>Dq P q r (T.put d v') H' K) .mk:=propext Iff.rfl
theorem WV (q:Bool) (s:SI) (K:V->View->Prop):wB P q (.op s) T H K=wI P s T H K:=propext Iff.rfl
theorem Nv (q:Bool) (f:SX) (args:List SX) (K:V->View->Prop):wB P q (.call f args) T H K=eU (f.at T) (λv=>match v with
 | .fn g first cap=>az P q g (first++args.map (SX.at T)++cap) H K .mk
 | _=>False) .mk:=propext Iff.rfl
theorem Lj (q:Bool) (f:SX) (args:List SX) (K:V->View->Prop):wB P q (.oQ f args) T H K=eU (f.at T) (λv=>match v with
 | .fn g first cap=>az P true g (first++args.map (SX.at T)++cap) H K .mk
 | _=>False) .mk:=propext Iff.rfl
theorem S6 (x:SX) (K:V->View->Prop):wI P (.eT x) T H K=K (x.at T) H:=propext Iff.rfl
theorem Ou (c a b:SX) (K:V->View->Prop):wI P (.pick c a b) T H K=eU (c.at T) (λv=>match v with
  | .val (.bool t)=>ao t (K (a.at T) H) (K (b.at T) H) .mk
  | _=>False) .mk:=by
 simp only[wI,eU]
 generalize c.at T=v
 cases v with
 | val x =>
  grind [ao]
 | _=>simp
theorem Uw (x:SX) (K:V->View->Prop):wI P (.box x) T H K=eU (x.at T) (λv=>v.cells.all aK=true/\Ft v.cells (λcs=>∀n,H n=.dead->K (.ptr n 0 0) (H.set n (.arr cs.length [cs]))) .mk) .mk:=propext Iff.rfl
theorem Rv (x:SX) (K:V->View->Prop):wI P (.kO x) T H K=eU (x.at T) (λv=>v.cells.all aK=true/\Ft v.cells (λcs=>K (.aR cs 0) H) .mk) .mk:=propext Iff.rfl
theorem J6 (z:List V) (K:V->View->Prop):wI P (.alloc z) T H K=(z.all aK=true/\∀n,H n=.dead->K (.ptr n 0 0) (H.set n (.arr z.length [z]))):=propext Iff.rfl
theorem O3 (sz:Option Nat) (a:SX) (K:V->View->Prop):wI P (.load sz a) T H K=eU (a.at T) (λv=>match v with
 | .ptr id i j=>Kg (H id) (λo=>match o with
  | .arr _ es=>i<es.length/\Ft (es.getD i []) (λe=>k7 sz e j λv=>K v H) .mk
  | _=>False) .mk
 | .aR e j=>k7 sz e j λv=>K v H
 | _=>False) .mk:=propext Iff.rfl
theorem Lc (sz:Option Nat) (a:SX) (K:V->View->Prop):wI P (.CY sz a) T H K=eU (a.at T) (λv=>match v with
 | .aR e j=>k7 sz e j λv=>K v H
 | _=>False) .mk:=propext Iff.rfl
theorem Lq (sz:Nat) (a x:SX) (K:V->View->Prop):wI P (.store sz a x) T H K=eU (a.at T) (λv=>match v with
 | .ptr id i j=>Kg (H id) (λo=>match o with
  | .arr esz es=>Ft (x.at T).cells (λcs=>(i<es.length/\cs.length=sz/\j+cs.length<=esz/\cs.all aK=true) /\
   Ft (es.set i (gv (es.getD i []) j cs)) (λes'=>K .any (H.set id (.arr esz es'))) .mk) .mk
  | _=>False) .mk
 | _=>False) .mk:=propext Iff.rfl
theorem NS (x:SX) (K:V->View->Prop):wI P (.Ex x) T H K=eU (x.at T) (λv=>match v with
 | .ptr id i j=>K (.ptr id i j) H
 | .aR e j=>K (.aR e j) H
 | .fn f a b=>K (.fn f a b) H
 | _=>False) .mk:=propext Iff.rfl
theorem N0 (off:Nat) (x:SX) (K:V->View->Prop):wI P (.addr off x) T H K=eU (x.at T) (λv=>match v with
 | .ptr id i j=>K (.ptr id i (j+off)) H
 | .aR e j=>K (.aR e (j+off)) H
 | _=>False) .mk:=propext Iff.rfl
theorem LV (off:Nat) (sz:Option Nat) (x:SX) (K:V->View->Prop):wI P (.field off sz x) T H K=eU (x.at T) (λv=>match v with
 | .agg cs=>k7 sz cs off λv=>K v H
 | _=>False) .mk:=propext Iff.rfl
theorem RM (sz:Nat) (x i:SX) (K:V->View->Prop):wI P (.idx sz x i) T H K=tL (asNat (i.at T)) (λo=>match o with
  | none=>False
  | some q=>eU (x.at T) (λv=>match v with
   | .sl id off len esz=>(q<len/\esz=sz)/\K (.ptr id (off+q) 0) H
   | .aZ es=>tL es[q]? (λo=>match o with
    | some e=>e.length=sz/\K (.aR e 0) H
    | none=>False) .mk
   | _=>False) .mk) .mk:=by
 simp only[wI,tL,eU]
 cases asNat (i.at T) with
 | none=>rfl
 | some q =>
  grind
theorem Ng (f:FuncId) (first cap:List SX) (K:V->View->Prop):wI P (.tU f first cap) T H K=K (.fn f (first.map (SX.at T)) (cap.map (SX.at T))) H:=propext Iff.rfl
theorem LO (K:V->View->Prop):wI P .qS T H K=(∀n,H n=.dead->K (.mp n) (H.set n (.map [] 0))):=propext Iff.rfl
theorem TG (i:Nat) (x:SX) (K:V->View->Prop):wI P (.ext i x) T H K=eU (x.at T) (λv=>match v with
 | .bb vs=>i<vs.length/\K (vs.getD i .any) H
 | _=>False) .mk:=propext Iff.rfl
theorem R7 (x:SX) (K:V->View->Prop):wI P (.len x) T H K=tL (cJ (x.at T)) (λo=>match o with
 | some n=>K (cO n) H
 | none=>False) .mk:=propext Iff.rfl
theorem Nu (x:SX) (K:V->View->Prop):wI P (.sd x) T H K=eU (x.at T) (λv=>match v with
 | .val (.string s)=>K (cO s.size) H
 | _=>False) .mk:=propext Iff.rfl
theorem K3 (op:BinOp) (x y:SX) (K:V->View->Prop):wI P (.arith op x y) T H K=eU (x.at T) (λv=>eU (y.at T) (λv'=>match v,v' with
 | .val (.int k a),.val (.int c b)=>k=c/\tL (ja op k a b) (λo=>match o with | some v=>K (.val v) H | none=>False) .mk
 | _,_=>False) .mk) .mk:=propext Iff.rfl
theorem WO (l:Bool) (x y:SX) (K:V->View->Prop):wI P (.sh l x y) T H K=eU (x.at T) (λv=>eU (y.at T) (λv'=>match v,v' with
 | .val (.int k a),.val (.int _ b)=>0<=b/\K (.val (.int k (Px l k a b))) H
 | _,_=>False) .mk) .mk:=propext Iff.rfl
theorem T8 (op:BinOp) (x y:SX) (K:V->View->Prop):wI P (.Ay op x y) T H K=eU (x.at T) (λv=>eU (y.at T) (λv'=>match v,v' with
 | .val (.string a),.val (.string b)=>(match op with
  | .eql=>K (.val (.bool (jX a b))) H
  | .neq=>K (.val (.bool (!jX a b))) H
  | _=>False)
 | _,_=>False) .mk) .mk:=propext Iff.rfl
theorem Oy (x i:SX) (K:V->View->Prop):wI P (.jv x i) T H K=eU (x.at T) (λv=>tL (asNat (i.at T)) (λo=>match v,o with
  | .val (.string s),some q=>tL (gK s)[q]? (λo=>match o with
   | some c=>K (.val (.int .u8 c)) H
   | none=>False) .mk
  | _,_=>False) .mk) .mk:=by
 simp only[wI,tL,eU]
 generalize x.at T=v
 generalize asNat (i.at T)=o
 cases v with
 | val u =>
  grind [gK]
 | _=>rfl
theorem Tg (x:SX) (K:V->View->Prop):wI P (.not x) T H K=eU (x.at T) (λv=>match v with
 | .val (.bool t)=>K (.val (.bool (!t))) H
 | _=>False) .mk:=propext Iff.rfl
theorem TB (eq:Bool) (k:Nat) (x y:SX) (K:V->View->Prop):wI P (.nil eq k x y) T H K=tL (DR (fV k (x.at T)) (fV k (y.at T))) (λo=>match o with
 | some b=>K (.val (.bool (if eq=true then b else !b))) H
 | none=>False) .mk:=propext Iff.rfl
theorem OW (x y:SX) (K:V->View->Prop):wI P (.beq true x y) T H K=eU (x.at T) (λv=>eU (y.at T) (λv'=>match v,v' with
 | .val (.bool a),.val (.bool b)=>K (.val (.bool (a==b))) H
 | _,_=>False) .mk) .mk:=propext Iff.rfl
theorem OS (x y:SX) (K:V->View->Prop):wI P (.beq false x y) T H K=eU (x.at T) (λv=>eU (y.at T) (λv'=>match v,v' with
 | .val (.bool a),.val (.bool b)=>K (.val (.bool (a != b))) H
 | _,_=>False) .mk) .mk:=propext Iff.rfl
theorem S8 (x y:SX) (K:V->View->Prop):wI P (.mm true x y) T H K=eU (x.at T) (λv=>eU (y.at T) (λv'=>match v,v' with
 | .val (.int k a),.val (.int _ b)=>K (.val (.int k (if b>a then b else a))) H
 | _,_=>False) .mk) .mk:=propext Iff.rfl
theorem TH (x y:SX) (K:V->View->Prop):wI P (.mm false x y) T H K=eU (x.at T) (λv=>eU (y.at T) (λv'=>match v,v' with
 | .val (.int k a),.val (.int _ b)=>K (.val (.int k (if b<a then b else a))) H
 | _,_=>False) .mk) .mk:=propext Iff.rfl
theorem O0 (k:IntKind) (x:SX) (K:V->View->Prop):wI P (.conv k x) T H K=eU (x.at T) (λv=>match v with
 | .val (.int _ a)=>K (.val (.int k (k.wrap a))) H
 | _=>False) .mk:=propext Iff.rfl
theorem Li (n k:Nat) (o:cr):View.set H n o k=if k=n then o else H k:=id rfl
theorem KP (z:List V) (parts:List (Nat × Nat × SX)) (K:V->View->Prop):wI P (.build z parts) T H K=tL (oh z (parts.map λp=>(p.1,p.2.1,p.2.2.at T))) (λo=>match o with
 | some cs=>K (.agg cs) H
 | none=>False) .mk:=propext Iff.rfl
theorem I1 (len sz:Nat) (z:List V) (parts:List (Nat × SX)) (K:V->View->Prop):wI P (.bN len sz z parts) T H K=tL (nB sz (List.replicate len z) (parts.map λp=>(p.1,p.2.at T))) (λo=>match o with
 | some es=>∀n,H n=.dead->K (.sl n 0 len sz) (H.set n (.arr sz es))
 | none=>False) .mk:=propext Iff.rfl
theorem KM (sz:Nat) (x:SX) (lo hi:Option SX) (K:V->View->Prop):wI P (.slice sz x lo hi) T H K=tL (cZ sz (x.at T) (lo.map (SX.at T)) (hi.map (SX.at T))) (λo=>match o with
 | some (v,.none,_)=>K v H
 | _=>False) .mk:=propext Iff.rfl
theorem NV (sz bytes:Nat) (z:List V) (l c:SX) (K:V->View->Prop):wI P (.make sz bytes z l c) T H K=tL (asNat (l.at T)) (λa=>tL (asNat (c.at T)) (λb=>match a,b with
 | some l,some c=>(l<=c/\c<aF/\bytes*c<aF)/\(c=0->K (.emp 2) H)/\(c≠0->∀n,H n=.dead->K (.sl n 0 l sz) (H.set n (.arr sz (List.replicate l z))))
 | _,_=>False) .mk) .mk:=propext Iff.rfl
def nq (sz bytes:Nat) (x:V) (xs:List (List V)) (H:View) (K:V->View->Prop) (_:dd (H,K)):Prop:=if xs.isEmpty=true then (match x with
  | .emp k=>K (.emp k) H
  | .eD=>K .eD H
  | .aZ es=>K (.aZ es) H
  | .sl a b c d=>K (.sl a b c d) H
  | _=>False)
 else (xs.all λe=>e.length==sz&&e.all aK)=true/\(match x with
  | .emp _=>(xs.length*bytes<aF/\xs.length<aF)/\∀n,H n=.dead->K (.sl n 0 xs.length sz) (H.set n (.arr sz xs))
  | .sl id off len esz=>match H id with
   | .arr _ es=>(off+len<=es.length/\esz=sz/\(len+xs.length)*bytes<aF/\len+xs.length<aF) /\
    ∀n,H n=.dead->K (.sl n 0 (len+xs.length) esz) ((H.set id .dead).set n (.arr esz ((es.drop off).take len++xs)))
   | _=>False
  | _=>False)
theorem TR (sz bytes:Nat) (x y:SX) (K:V->View->Prop):wI P (.app sz bytes x y) T H K=tL (bM H (y.at T)) (λo=>match o with
 | some (xs,_)=>nq sz bytes (x.at T) xs H K .mk
 | none=>False) .mk:=propext Iff.rfl
theorem xb (sz bytes k:Nat) (xs:List (List V)) (K:V->View->Prop) (w:dd (H,K)) (a:xs.isEmpty=false):nq sz bytes (.emp k) xs H K w=((xs.all λe=>e.length==sz&&e.all aK)=true/\(xs.length*bytes<aF/\xs.length<aF)/\∀n,H n=.dead->K (.sl n 0 xs.length sz) (H.set n (.arr sz xs))):=by
 grind [nq]
theorem vi (sz bytes id off len esz:Nat) (xs:List (List V)) (K:V->View->Prop) (w:dd (H,K)) (a:xs.isEmpty=false):nq sz bytes (.sl id off len esz) xs H K w=((xs.all λe=>e.length==sz&&e.all aK)=true/\Kg (H id) (λo=>match o with
  | .arr _ es=>(off+len<=es.length/\esz=sz/\(len+xs.length)*bytes<aF/\len+xs.length<aF) /\
   ∀n,H n=.dead->K (.sl n 0 (len+xs.length) esz) ((H.set id .dead).set n (.arr esz ((es.drop off).take len++xs)))
  | _=>False) .mk):=by
 unfold nq Kg;rw[aaR (by rw[a];simp)]
theorem j6 (id off len esz z:Nat) (es:List (List V)) (hH:H id=.arr z es) (a:off+(len+1)<=es.length):bM H (.sl id off (len+1) esz)=some ((es.drop off).take (len+1),[id]):=by
 grind [bM]
theorem nU (es:List (List V)):bM H (.aZ es)=some (es,[]):=id rfl
theorem xO (k:Nat):bM H (.emp k)=some ([],[]):=id rfl
theorem N6 (x:SX) (K:V->View->Prop):wI P (.HC x) T H K=eU (x.at T) (λv=>match v with
 | .aZ es=>tL (mz es) (λo=>match o with
  | some l=>K (.val (.string ⟨l.toArray⟩)) H
  | none=>False) .mk
 | _=>False) .mk:=propext Iff.rfl
theorem No (x:SX) (K:V->View->Prop):wI P (.ic x) T H K=eU (x.at T) (λv=>match v with
 | .val (.string s)=>K (.aZ (iA s)) H
 | _=>False) .mk:=propext Iff.rfl
def jQ (P:Program) (op:Op) (ty:TypeId) (T:Env) (H:View) (K:V->View->Prop) (_:dd (T,H,K)):Prop:=wI P (.old op ty) T H K
theorem QY (op:Op) (ty:TypeId) (K:V->View->Prop):wI P (.old op ty) T H K=jQ P op ty T H K .mk:=propext Iff.rfl
theorem RD (t:Nat):ev T (.tmp t)=T t:=id rfl
theorem JW (v:Value):ev T (.const v)=gz v:=id rfl
theorem Rn (t:Nat):(SX.tmp t).at T=T t:=id rfl
theorem Ru (v:V):(SX.val v).at T=v:=id rfl
theorem OJ (d t:Nat) (v:V):(T.put (some d) v) t=if t=d then v else T t:=id rfl
theorem Lg (v:V):T.put none v=T:=id rfl
theorem J1 (vs:List V) (t:Nat):mT vs t=vs.getD t .any:=id rfl
theorem ET (e:List V) (j:Nat) (K:V->Prop):k7 none e j K=(j<e.length/\K (e.getD j .any)):=propext Iff.rfl
theorem Gr (n:Nat) (e:List V) (j:Nat) (K:V->Prop):k7 (some n) e j K=(j+n<=e.length/\K (.agg ((e.drop j).take n))):=propext Iff.rfl
theorem Gq (a b:Prop):DE .normal a b=a:=propext Iff.rfl
theorem KN (i:Nat) (a b:Prop):DE (.exit i) a b=b:=propext Iff.rfl
theorem O4 (a b:Prop):DE .ret a b=b:=propext Iff.rfl
theorem BG (i:Nat):sw i .normal=.normal:=id rfl
theorem Io (i:Nat):sw i .ret=.ret:=id rfl
theorem GO (i j:Nat):sw i (.exit j)=if j=i then .normal else .exit j:=by simp only[sw]
theorem Ol (acc:List V) (K:List V->Prop):IU T H [] acc K=K acc:=propext Iff.rfl
theorem L8 (r:SR) (l:List SR) (acc:List V) (K:List V->Prop):IU T H (r::l) acc K=wR T H r λv=>IU T H l (acc++[v]) K:=propext Iff.rfl
theorem RX (t:Nat) (K:V->Prop):wR T H (.tmp t) K=K (T t):=propext Iff.rfl
theorem M7 (t:Nat) (sz:Option Nat) (K:V->Prop):wR T H (.cell t sz) K=eU (T t) (λv=>match v with
 | .ptr id i j=>Kg (H id) (λo=>match o with
  | .arr _ es=>i<es.length/\Ft (es.getD i []) (λe=>k7 sz e j K) .mk
  | _=>False) .mk
 | .aR e j=>k7 sz e j K
 | _=>False) .mk:=propext Iff.rfl
theorem IL (t:Nat) (b:Bool):xg (.tmp t) b T=T.put (some t) (.val (.bool b)):=id rfl
theorem IE (v:V) (b:Bool):xg (.val v) b T=T:=id rfl
theorem RZ:(Exit.ret=Exit.ret∨Exit.ret=Exit.normal)=True:=by simp
theorem Jc:(Exit.normal=Exit.ret∨Exit.normal=Exit.normal)=True:=by simp
end
section
variable {P:Program} {T:Env} {H:View}
theorem aW.intro {c:SC} {Q:Exit->Env->View->Prop} {v:dd (T,H,Q)} (I:Nat->Env->View->Prop) (k:Nat) (d:I k T H)
  (f:∀k T H,I k T H->wS P c T H λe a H'=>DE e (∃b,b<k/\I b a H') (Q e a H')):aW P c T H Q v:=by
 simp only[aW,wS]
 exact⟨I,⟨k,d⟩,f⟩
theorem az.pure {q:Bool} {f:FuncId} {vs:List V} {K:V->View->Prop} {v:dd (H,K)} {t:V} (b:aC P f vs t) (hk:K t H) (a:ec P f=true:=by kernel_rfl):az P q f vs H K v:=by
 cases q with
 | true=>exact b.Pv a hk
 | false =>
  refine⟨a,?_⟩
  rintro h rfl
  exact⟨t,h,bY.ij b h,.refl _,hk⟩
theorem az.cG {f:FuncId} {vs:List V} {K:V->View->Prop} {v:dd (H,K)} (a:ay P f vs H K):az P false f vs H K v:=a
theorem IV:Heap.view []=λ_=>cr.dead:=by grind [Heap.view]
theorem aC.of {f:FuncId} {vs:List V} {t:V} (b:∀v∈vs,Tree v) (h:ay P f vs (λ_=>.dead) λr H'=>∀a:Heap,a.view=H'->Fr a r t):aC P f vs t:=by
 obtain⟨r,a,c,_,d⟩:=h.2 [] IV
 grind [aC.zG]
theorem wrap64 {x:Int} (h1 : -9223372036854775808<=x) (a:x<=9223372036854775807):IntKind.wrap .i64 x=x:=by
 unfold IntKind.wrap
 have b:(2:Int) ^ IntKind.i64.bits=18446744073709551616:=by rfl
 have c:(2:Int) ^ (IntKind.i64.bits-1)=9223372036854775808:=by rfl
 have d:IntKind.i64.signed=true:=by rfl
 grind
theorem II {k:IntKind} {i:Int} (h:0<=i):asNat (.val (.int k i))=some i.toNat:=by simp[asNat,h]
end
theorem I0 (v:Value):V.cells (.val v)=[.val v]:=id rfl
theorem CB (v:Value):aK (.val v)=true:=id rfl
theorem IB (k:Nat):V.cells (.emp k)=[.emp k]:=id rfl
theorem CF (k:Nat):aK (.emp k)=true:=id rfl
theorem Jn  : V.cells .eD=[.eD]:=id rfl
theorem NA  : aK .eD=true:=id rfl
theorem Ij (es:List (List V)):V.cells (.aZ es)=[.aZ es]:=id rfl
theorem NL (es:List (List V)):aK (.aZ es)=true:=id rfl
theorem Kz (a b c d:Nat):V.cells (.sl a b c d)=[.sl a b c d]:=id rfl
theorem T7 (a b c d:Nat):aK (.sl a b c d)=true:=id rfl
theorem IY (a b c:Nat):V.cells (.ptr a b c)=[.ptr a b c]:=id rfl
theorem OE (a b c:Nat):aK (.ptr a b c)=true:=id rfl
theorem EI (e:List V) (j:Nat):V.cells (.aR e j)=[.aR e j]:=id rfl
theorem LK (e:List V) (j:Nat):aK (.aR e j)=true:=id rfl
theorem KR (a:Nat):V.cells (.mp a)=[.mp a]:=id rfl
theorem Uv (a:Nat):aK (.mp a)=true:=id rfl
theorem Lx (f:FuncId) (a b:List V):V.cells (.fn f a b)=[.fn f a b]:=id rfl
theorem TO (f:FuncId) (a b:List V):aK (.fn f a b)=true:=id rfl
theorem IQ (cs:List V):V.cells (.agg cs)=cs:=id rfl
theorem Ov (k:Nat):cJ (.emp k)=some 0:=id rfl
theorem Nn:cJ .eD=some 0:=id rfl
theorem Ob (es:List (List V)):cJ (.aZ es)=some es.length:=id rfl
theorem Sd (a b c d:Nat):cJ (.sl a b c d)=some c:=id rfl
abbrev ZB {p:Prop} (_:p):Prop:=p
theorem WJ (P:Program) (T:Env) (H:View) (a:SC) (Q:Exit->Env->View->Prop):wS P (ai [a]) T H Q=wS P a T H Q:=by rw[ai]
theorem WI (P:Program) (T:Env) (H:View) (a b:SC) (l:List SC) (Q:Exit->Env->View->Prop):wS P (ai (a::b::l)) T H Q=wS P (.seq a (ai (b::l))) T H Q:=by rw[ai]
abbrev Wr:Prop:=ZB (And.intro @WJ<|And.intro @WI<|And.intro @WB<|And.intro @O6<|And.intro @Jd<|And.intro @Fj<|And.intro @FE<|And.intro @Oq<|And.intro @J2<|And.intro @S5 <|
 And.intro @Of<|And.intro @JV<|And.intro @ON<|And.intro @St<|And.intro @Mn<|And.intro @K0<|And.intro @O8<|And.intro @GI<|And.intro @BH<|And.intro @E8<|And.intro @Ji<|And.intro @Kl<|And.intro @E7 <|
 And.intro @M8<|And.intro @NF<|And.intro @Lr<|And.intro @Nc <|
 And.intro @NG<|And.intro @LY<|And.intro @Dt<|And.intro @Bd <|
 And.intro @Om<|And.intro @Ld<|And.intro @WV<|And.intro @Nv<|And.intro @Lj <|
 And.intro @S6<|And.intro @Ou<|And.intro @Uw<|And.intro @Rv <|
 And.intro @J6<|And.intro @O3<|And.intro @Lc<|And.intro @Lq <|
 And.intro @NS<|And.intro @N0<|And.intro @LV<|And.intro @RM <|
 And.intro @Ng<|And.intro @LO<|And.intro @TG<|And.intro @R7 <|
 And.intro @Nu<|And.intro @K3<|And.intro @WO<|And.intro @T8<|And.intro @Oy <|
 And.intro @Tg<|And.intro @TB<|And.intro @OW<|And.intro @OS <|
 And.intro @S8<|And.intro @TH<|And.intro @O0<|And.intro @N6 <|
 And.intro @No<|And.intro @KP<|And.intro @I1<|And.intro @KM <|
 And.intro @NV<|And.intro @TR<|And.intro @QY<|And.intro @RD<|And.intro @JW<|And.intro @Rn<|And.intro @Ru <|
 And.intro @OJ<|And.intro @Lg<|And.intro @J1<|And.intro @ET <|
 And.intro @Gr<|And.intro @Gq<|And.intro @KN<|And.intro @O4 <|
 And.intro @BG<|And.intro @Io<|And.intro @GO<|And.intro @Ol <|
 And.intro @L8<|And.intro @RX<|And.intro @M7<|And.intro @IL @IE)
theorem wr:Wr:=⟨@WJ,@WI,@WB,@O6,@Jd,@Fj,@FE,@Oq,@J2,@S5,@Of,@JV,@ON,@St,@Mn,@K0,@O8,@GI,@BH,@E8,@Ji,@Kl,@E7,@M8,@NF,@Lr,@Nc,@NG,@LY,@Dt,@Bd,@Om,@Ld,@WV,@Nv,@Lj,@S6,@Ou,@Uw,@Rv,@J6,@O3,@Lc,@Lq,@NS,@N0,@LV,@RM,@Ng,@LO,@TG,@R7,@Nu,@K3,@WO,@T8,@Oy,@Tg,@TB,@OW,@OS,@S8,@TH,@O0,@N6,@No,@KP,@I1,@KM,@NV,@TR,@QY,@RD,@JW,@Rn,@Ru,@OJ,@Lg,@J1,@ET,@Gr,@Gq,@KN,@O4,@BG,@Io,@GO,@Ol,@L8,@RX,@M7,@IL,@IE⟩
theorem SS:zw []=.bb []:=id rfl
theorem RW (v:V):zw [v]=v:=id rfl
theorem Un (v w:V) (l:List V):zw (v::w::l)=.bb (v::w::l):=id rfl
theorem WQ (n:Nat):cO n=.val (.int .i64 n):=id rfl
theorem LZ (e:List V) (j:Nat) (cs:List V):gv e j cs=e.take j++cs++e.drop (j+cs.length):=id rfl
theorem Kk (z:List V):oh z []=some z:=id rfl
theorem Mk (z:List V) (o n:Nat) (x:V) (r:List (Nat × Nat × V)):oh z ((o,n,x)::r)=if x.cells.length=n/\o+n<=z.length/\x.cells.all aK=true then oh (gv z o x.cells) r else none:=by rw[oh]
theorem NK (k:Nat) (z:List (List V)):nB k z []=some z:=by rw[nB]
theorem Nh (k:Nat) (z:List (List V)) (i:Nat) (x:V) (r:List (Nat × V)):nB k z ((i,x)::r)=if x.cells.length=k/\i<z.length/\x.cells.all aK=true then nB k (z.set i x.cells) r else none:=by rw[nB]
theorem Rp (b:Bool):DR (some true) (some b)=some b:=id rfl
theorem SL (b:Bool):DR (some b) (some true)=some b:=by cases b<;>rfl
section
variable (k:IntKind) (a b:Int)
theorem NZ:ja .add k a b=some (.int k (k.wrap (a+b))):=id rfl
theorem OD:ja .sub k a b=some (.int k (k.wrap (a-b))):=id rfl
theorem N4:ja .mul k a b=some (.int k (k.wrap (a*b))):=id rfl
theorem NR:ja .quo k a b=if b=0 then none else some (.int k (k.wrap (a.tdiv b))):=id rfl
theorem On:ja .rem k a b=if b=0 then none else some (.int k (a.tmod b)):=id rfl
theorem Np:ja .eql k a b=some (.bool (a==b)):=id rfl
theorem OX:ja .neq k a b=some (.bool (a != b)):=id rfl
theorem Oc:ja .lss k a b=some (.bool (a<b)):=id rfl
theorem N5:ja .leq k a b=some (.bool (a<=b)):=id rfl
theorem OF:ja .gtr k a b=some (.bool (a>b)):=id rfl
theorem Oj:ja .geq k a b=some (.bool (a≥b)):=id rfl
theorem Sh:ja .or k a b=some (.int k (k.wrap (BitVec.ofInt k.bits a ||| BitVec.ofInt k.bits b).toNat)):=id rfl
theorem Og:ja .and k a b=some (.int k (k.wrap (BitVec.ofInt k.bits a &&& BitVec.ofInt k.bits b).toNat)):=id rfl
theorem FD:ja .andNot k a b=some (.int k (k.wrap (BitVec.ofInt k.bits a &&& ~~~(BitVec.ofInt k.bits b)).toNat)):=id rfl
end
theorem SY:fV 0 (.emp 1)=some true:=id rfl
theorem Q6:fV 0 (.emp 2)=some false:=id rfl
theorem Nj:fV 0 .eD=some false:=id rfl
theorem QQ (a b n c:Nat):fV 0 (.sl a b (n+1) c)=some false:=id rfl
theorem NX (e:List V) (l:List (List V)):fV 0 (.aZ (e::l))=some false:=id rfl
theorem NC (a b c:Nat):fV 1 (.ptr a b c)=some false:=id rfl
theorem K5 (e:List V) (j:Nat):fV 1 (.aR e j)=some false:=id rfl
theorem Rq (a:Nat):fV 2 (.mp a)=some false:=id rfl
theorem Rr (f:FuncId) (a b:List V):fV 3 (.fn f a b)=some false:=id rfl
theorem QP:fV 1 (.val (.pointer none))=some true:=id rfl
theorem R8:fV 2 (.val (.map none))=some true:=id rfl
theorem Ra:fV 3 (.val .nilFunc)=some true:=id rfl
abbrev Wq:Prop:=ZB (And.intro @SS<|And.intro @RW<|And.intro @Un<|And.intro @WQ<|And.intro @LZ<|And.intro @Kk<|And.intro @Mk<|And.intro @NK<|And.intro @Nh<|And.intro @Rp<|And.intro @SL<|And.intro @NZ<|And.intro @OD<|And.intro @N4<|And.intro @NR<|And.intro @On<|And.intro @Np<|And.intro @OX<|And.intro @Oc<|And.intro @N5<|And.intro @OF<|And.intro @Oj<|And.intro @Sh<|And.intro @Og<|And.intro @FD<|And.intro @SY<|And.intro @Q6<|And.intro @Nj<|And.intro @QQ<|And.intro @NX<|And.intro @NC<|And.intro @K5<|And.intro @Rq<|And.intro @Rr<|And.intro @QP<|And.intro @R8<|And.intro @Ra<|And.intro @eq_self.{1}<|And.intro @ne_eq.{1}<|And.intro @implies_true.{1}<|And.intro @implies_true.{0}<|And.intro @decide_true<|And.intro @decide_false<|And.intro @Nf<|And.intro @N3<|And.intro @L1<|And.intro @KK<|And.intro @LR<|And.intro @J9<|And.intro @OP<|And.intro @Ua<|And.intro @R5<|And.intro @RF<|And.intro @N1<|And.intro @Nz<|And.intro @OM<|And.intro @I0<|And.intro @CB<|And.intro @IB<|And.intro @CF<|And.intro @Jn<|And.intro @NA<|And.intro @Ij<|And.intro @NL<|And.intro @Kz<|And.intro @T7<|And.intro @IY<|And.intro @OE<|And.intro @EI<|And.intro @LK<|And.intro @KR<|And.intro @Uv<|And.intro @Lx<|And.intro @TO<|And.intro @IQ<|And.intro @Ov<|And.intro @Nn<|And.intro @Ob<|And.intro @Sd<|And.intro @true_or<|And.intro @or_true<|And.intro @or_false<|And.intro @false_or <|
 And.intro @ZE<|And.intro @NO<|And.intro @Ni<|And.intro @NN <|
 And.intro @NQ<|And.intro @SU<|And.intro @OI<|And.intro @Mf <|
 And.intro @TI<|And.intro @Ux<|And.intro @OV<|And.intro @Oe <|
 And.intro @Oo<|And.intro @Oz<|And.intro @Mm<|And.intro @Ko <|
 And.intro @Ib<|And.intro @Nw<|And.intro @List.getD_cons_zero.{0}<|And.intro @List.getD_cons_succ.{0} <|
 And.intro @List.length_cons.{0}<|And.intro @List.length_nil.{0}<|And.intro @List.length_map.{0,0}<|And.intro @wrap64 <|
 And.intro @true_and<|And.intro @and_true<|And.intro @and_self<|And.intro @aa5 <|
 And.intro @acf<|And.intro @List.all_cons.{0}<|And.intro @List.all_nil.{0}<|And.intro @Bool.and_self <|
 And.intro @List.nil_append.{0}<|And.intro @List.cons_append.{0}<|And.intro @abE<|And.intro @II <|
 And.intro @abu<|And.intro @RZ<|And.intro @Jc<|And.intro @bne_iff_ne.{0} <|
 And.intro @beq_iff_eq.{0}<|And.intro @Bool.not_eq_true<|And.intro @acU<|And.intro @Bool.not_false <|
 And.intro @List.append_nil.{0}<|And.intro @List.map_cons.{0,0}<|And.intro @List.map_nil.{0,0}<|And.intro @Bool.true_eq_false <|
 And.intro @abp<|And.intro @false_implies<|And.intro @true_implies<|And.intro @Bool.not_not <|
 And.intro @List.drop_zero.{0}<|And.intro @Li<|And.intro @List.set_cons_zero.{0}<|And.intro @List.set_cons_succ.{0} <|
 And.intro @List.drop_nil.{0}<|And.intro @acp<|And.intro @List.replicate_zero.{0}<|And.intro @List.replicate_succ.{0} <|
 And.intro @nU<|And.intro @xO<|And.intro @xb<|And.intro @vi <|
 And.intro @List.isEmpty_cons.{0}<|And.intro @Option.map_none.{0,0}<|And.intro @Option.map_some.{0,0}<|And.intro @Nat.succ_ne_zero <|
 And.intro @List.take_succ_cons.{0}<|And.intro @List.take_zero.{0}<|And.intro @List.drop_succ_cons.{0}<|And.intro @bne_eq_false_iff_eq.{0} <|
 And.intro @beq_eq_false_iff_ne.{0}<|And.intro @not_true_eq_false<|And.intro @not_false_eq_true @acn)
theorem wq:Wq:=⟨@SS,@RW,@Un,@WQ,@LZ,@Kk,@Mk,@NK,@Nh,@Rp,@SL,@NZ,@OD,@N4,@NR,@On,@Np,@OX,@Oc,@N5,@OF,@Oj,@Sh,@Og,@FD,@SY,@Q6,@Nj,@QQ,@NX,@NC,@K5,@Rq,@Rr,@QP,@R8,@Ra,@eq_self,@ne_eq,@implies_true,@implies_true,@decide_true,@decide_false,@Nf,@N3,@L1,@KK,@LR,@J9,@OP,@Ua,@R5,@RF,@N1,@Nz,@OM,@I0,@CB,@IB,@CF,@Jn,@NA,@Ij,@NL,@Kz,@T7,@IY,@OE,@EI,@LK,@KR,@Uv,@Lx,@TO,@IQ,@Ov,@Nn,@Ob,@Sd,@true_or,@or_true,@or_false,@false_or,@ZE,@NO,@Ni,@NN,@NQ,@SU,@OI,@Mf,@TI,@Ux,@OV,@Oe,@Oo,@Oz,@Mm,@Ko,@Ib,@Nw,@acb,@acJ,@aa3,@abn,@aaU,@wrap64,@true_and,@and_true,@and_self,@aa5,@acf,@ab0,@List.all_nil,@Bool.and_self,@abK,@abv,@abE,@II,@abu,@RZ,@Jc,@bne_iff_ne,@abQ,@Bool.not_eq_true,@acU,@Bool.not_false,@abW,@abl,@acq,@Bool.true_eq_false,@abp,@false_implies,@true_implies,@Bool.not_not,@abP,@Li,@List.set_cons_zero,@List.set_cons_succ,@List.drop_nil,@acp,@List.replicate_zero,@List.replicate_succ,@nU,@xO,@xb,@vi,@List.isEmpty_cons,@Option.map_none,@aa2,@Nat.succ_ne_zero,@acW,@List.take_zero,@acX,@bne_eq_false_iff_eq,@beq_eq_false_iff_ne,@not_true_eq_false,@not_false_eq_true,@acn⟩
inductive Aa:V->Prop
 | val (v:Value):Aa (.val v)
 | bb (cs:List V):(∀i,i<cs.length->∃v,cs.getD i .any=.val v)->Aa (.bb cs)
theorem UW {Z c:Nat->Prop} {μ μ':Mu} {hp b:Array Obj} {t:V} {x:Value} (d:Aa t) (h:aD Z μ hp t x):aD c μ' b t x:=by
 cases d with
 | val=>cases h with | val _ a=>exact .val _ a
 | bb cs e =>
  cases h with
  | bb _ f h1 g =>
   refine .bb _ _ h1 λi hi=>?_
   have:=g i hi
   obtain⟨v,a⟩:=e i hi
   rw[a] at this ⊢
   cases this with | val _ a=>exact .val _ a
theorem bY.borrow {P:Program} {f:FuncId} {d vs:List V} {t:V} {h:Heap} (q:aC P f d t) (r:Aa t) (u:d.length=vs.length)
  (j:∀i,i<vs.length->Fr h (vs.getD i .any) (d.getD i .any)):bY P f vs h t h:=by
 refine⟨aaY _,λZ μ F w xs c hr k=>?_⟩
 have l:gG (λb=>Z b∨kx μ b) μ w.heap d xs:=⟨by rw[u,c.1],λi hi=>Ga hr (j i (by omega)) (c.2 i (by omega))⟩
 have m:∀b,(Z b∨kx μ b)->b<w.heap.size:=by
  rintro b (a | ⟨id,o,s,a⟩)
  .exact hr.de b a
  .exact hr.lt _ _ _ _ a
 refine(q _ μ w xs l m).mono ?_
 rintro e w' ⟨x,z,rfl,v,n,A,y,g⟩
 have hm:iS Z Z μ μ w.heap w'.heap:=⟨λ_ h=>h,λb a=>g b (hr.de b a) (λx=>x),λ_ _ h=>h,g.mn⟩
 exact⟨x,Z,μ,rfl,UW r (v μ),⟨λid=>(hr.obj id).mono hm rfl (λb o s p=>g b (hr.lt _ _ _ _ p) (λx=>x)),hr.inj,λid b o s p=>abq (hr.lt _ _ _ _ p) n.size,λb a=>abq (hr.de b a) n.size,hr.iK⟩,
  ⟨n,hm,λb a _=>g b a (λx=>x),λb a=>.inl a,λ_ _ _ _ h=>.inl h⟩,λ_ _=>rfl⟩
def ct (H:View) (v t:V):Prop:=∀h:Heap,h.view=H->Fr h v t
theorem ct.tree {H:View} {v:V} (h:Tree v):ct H v v:=λ_ _=>.tree _ h
theorem ct.sl {H:View} {id off len esz z:Nat} {es:List (List V)} (hH:H id=.arr z es) (hle:off+len<=es.length) (c:∀e∈es,∀v∈e,Tree v):
  ct H (.sl id off len esz) (.aZ ((es.drop off).take len)):=by
 rintro h rfl
 have b:∀i,i<len->((es.drop off).take len).getD i []=es.getD (off+i) []:=λi hi=>by
  simp[aaP,ab3,hi]
 refine .sl id off len esz z es _ hH hle (by simp;omega) (λi hi=>by rw[b i hi]) (λi j hi a=>?_)
 rw[b i hi] at a ⊢
 refine .tree _ ?_
 have h1:off+i<es.length:=by omega
 have d:es.getD (off+i) []=es[off+i]:=by simp[aaP,h1]
 rw[d] at a ⊢
 have f:(es[off+i]).getD j .any=(es[off+i])[j]:=by simp[aaP,a]
 rw[f]
 exact c _ (aaW _) _ (aaW _)
theorem az.borrow {P:Program} {q:Bool} {f:FuncId} {H:View} {vs c:List V} {K:V->View->Prop} {v:dd (H,K)} {t:V} (d:aC P f c t) (a:ec P f=true) (g:Aa t) (j:c.length=vs.length)
  (b:∀i,i<vs.length->ct H (vs.getD i .any) (c.getD i .any)) (hk:K t H):az P q f vs H K v:=by
 unfold az
 cases q with
 | true=>exact⟨a,λh e=>⟨t,h,bY.borrow d g j (λi hi=>b i hi h e),λ_ _=>rfl,e▸hk⟩⟩
 | false =>
  refine⟨a,?_⟩
  rintro h rfl
  exact⟨t,h,bY.borrow d g j (λi hi=>b i hi h rfl),.refl _,hk⟩
abbrev gi (x:Int):V:=.val (.int .i64 x)
abbrev gb (x:Bool):V:=.val (.bool x)
abbrev gs (x:ByteArray):V:=.val (.string x)
theorem mixed:(aa).follows .mixedOrders=true:=by kernel_rfl
def encI (l:List Int):V:=.aZ (l.map λx=>[gi x])
def bX (l:List Bool):V:=.aZ (l.map λx=>[gb x])
theorem bC (l:List Int):Tree (encI l):=by
 refine .aZ _ λi j hi a=>?_
 simp only[aaU] at hi
 simp[aaP,hi] at a ⊢
 subst a
 exact .val _
def aI {α:Type} (l:List α):Prop:=l.length<4611686018427387904
def qi:SC:=
 ai [ai [ag [af 11 5,af 12 0,aN 13 12,aS 14 .lss 11 13],bP 14 (.exit 0)],.block 1 (ai [ag [af 17 0,af 18 5,aL 19 1 17 18,au 20 19,af 21 1,af 22 5,aL 23 1 21 22,au 24 23,aS 25 .neq 20 24],aX 25 (ai [ag [bh 4 false],.ret])]),ag [af 15 5,aH 16 .add 15 1,af 5 16]]
def tM:SF:=⟨ai [ag [bh 4 false],ai [ag [af 6 0,aN 7 6,af 8 1,aN 9 8,aS 10 .neq 7 9],aX 10 (ai [ag [bh 4 false],.ret])],ai [ag [aT 5 0],bQ 0 qi],ag [bh 4 true],.ret],
 [.tmp 4],26⟩
theorem yl:aJ aa 26 []=some tM:=by kernel_rfl
theorem XP {α:Type} [BEq α] [LawfulBEq α] {a b:List α} (h:a.length≠b.length):(a==b)=false:=by
 simp only[beq_eq_false_iff_ne];intro e;exact h (by rw[e])
theorem XM (a b:List Int) (l:aI a) (H:View):ay aa 26 [encI a,encI b] H λr H'=>r=gb (a==b)/\H'=H:=by
 refine ay.of mixed yl ?_
 unfold aI at l
 simp(disch:=omega)only[↓wr,seval,wq,tM,encI]
 apply ao.ne<;>intro h
 .simp(disch:=omega)only[↓wr,seval,wq]
  rw[XP (by omega)]
 .simp(disch:=omega)only[↓wr,seval,wq]
  refine aW.intro (λk T H'=>∃i:Nat,i+k=a.length/\a.take i=b.take i/\T 0=encI a/\T 1=encI b/\T 5=gi i/\H'=H) a.length ?_ ?_
  .exact⟨0,by omega,by simp,rfl,rfl,rfl,rfl⟩
  .rintro k T H' ⟨i,hk,hi,c,h1,d,rfl⟩
   simp(disch:=omega)only[↓wr,seval,wq,qi,c,h1,d,encI]
   apply ao.dec<;>intro m
   .have g:a[i]?=some (a[i]'(by omega)):=aaQ (by omega)
    have j:b[i]?=some (b[i]'(by omega)):=aaQ (by omega)
    simp(disch:=omega)only[↓wr,seval,wq,c,h1,d,encI,aaS,g,j,aa2]
    apply ao.ne<;>intro f
    .simp(disch:=omega)only[↓wr,seval,wq]
     have:(a==b)=false:=by
      simp only[beq_eq_false_iff_ne];rintro rfl;exact f rfl
     rw[this]
    .simp(disch:=omega)only[↓wr,seval,wq,c,h1,d,encI]
     refine⟨k-1,by omega,i+1,by omega,?_,rfl⟩
     rw[aa9,aa9,hi,g,j,f]
   .simp(disch:=omega)only[↓wr,seval,wq,c,h1,d,encI]
    have:a=b:=by
     have e:i=a.length:=by omega
     rw[aa6 (by omega),aa6 (by omega)] at hi
     exact hi
    rw[this];simp
theorem O7 (a b:List Int) (c:aI a):aC aa 26 [encI a,encI b] (gb (a==b)):=
 aC.of (by simp[bC]) ((XM a b c _).mono λr H' h d _=>by rw[h.1];exact .tree _ (.val _))
theorem j9 (l:List Bool):Tree (bX l):=by
 refine .aZ _ λi j hi a=>?_
 simp only[aaU] at hi
 simp[aaP,hi] at a ⊢
 subst a
 exact .val _
end Gv
