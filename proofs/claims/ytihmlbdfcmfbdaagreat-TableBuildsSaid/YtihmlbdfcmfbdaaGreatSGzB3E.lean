/-
  Part 5 of the proof: what the machine does and what the functions answer.
  Conditions: those that each lemma names.
-/
import Derived.Test.YtihmlbdfcmfbdaaGreatProg
import Derived.KernelRfl
import Derived.Test.YtihmlbdfcmfbdaaGreatSGzB3D
set_option linter.unusedSimpArgs false
set_option linter.unusedVariables false
set_option maxRecDepth 100000
set_option maxHeartbeats 20000000
namespace Gv
open Go Go.Proofs
section
variable {P:Program} {n:Nat} {all:List Oper}
theorem Vb (h:aF):h.view h.length=.dead:=by simp[aF.view,Zi]
theorem XZ {o:Oper} {T:Env} {h:aF} {s:SI} {K:V->View->Prop} (e:dM n all T o=some true) (f:∀ v eff rd,sI P s T h.view h.length=some (v,eff,rd)->cx P o T h.view h.length=some (v,eff,rd)) (hw:wI P s T h.view K) :
  ∃ v c rd wr,eh P n all o T h v c rd wr false/\jY h c/\K v c.view/\mn (vZ P s) rd wr false h.length c.length:=by
 obtain⟨v,eff,rd,hs,hk⟩:=XX hw (Vb h)
 have d:=f _ _ _ hs
 have a:∀ id,id∈eff.wr->h.view id≠.dead:=λid b=>(oB d id b).1
 refine⟨v,eff.apply h,rd,eff.wr,.op e d,?_,?_,?_,?_⟩
 .intro id b hd
  rw[mR a]
  cases eff with
  | none=>exact hd
  | new o=>simp only[bH.view,View.set];rw[Zk (by omega)];exact hd
  | fK k o =>
   simp only[bH.view,View.set]
   rw[Zk (by rintro rfl;exact a id (by simp[bH.wr]) hd)];exact hd
  | er k o =>
   simp only[bH.view,View.set]
   rw[Zk (by omega)]
   split
   .rfl
   .exact hd
 .rw[mR (λid b=>(oB d id b).1)];exact hk
 .intro g
  obtain⟨rfl,rfl⟩:=(tY hs).1 g
  exact⟨rfl,rfl,rfl,rfl⟩
 .intro h1
  rcases ZI (vZ P s) 1 with i | i
  .obtain⟨rfl,rfl⟩:=(tY hs).1 (by omega);rfl
  .exact(tY hs).2 (by omega)
theorem Mp {P:Program} {fr:Bool} {s:SI} {T:Env} {H:View} {n:Nat} {v:V} {eff:bH} {rd:List Nat} (h:sI P (AJ P fr s) T H n=some (v,eff,rd)):sI P s T H n=some (v,eff,rd):=by
 unfold AJ at h
 split at h
 .split at h
  .exact UQ h
  .exact h
 .split at h
  .rename_i a
   simp only[Zw] at a
   exact VV a.2 h
  .exact h
 .exact h
theorem Cy (P:Program) (a:Fz) (o:Oper) :
  (∃ f args b,o.op=.call { callee:=.value f,args:=args,argTypes:=b }/\(nV P a o=.call (SX.of f) (args.toList.map SX.of)∨nV P a o=.yG (SX.of f) (args.toList.map SX.of))) ∨
  (∃ t x,o.op=.box t x/\nV P a o=.op (.kf (SX.of x)))∨(∃ s d x,o.op=.convert s d x/\xB P s d=true/\nV P a o=.op (.hX (SX.of x)))∨nV P a o=.op (AJ P a.fr (comp P o)):=by
 unfold nV
 split
 .rename_i f args b c
  refine .inl ⟨f,args,b,c,?_⟩
  by_cases hq:(match o.dst with | some d=>a.l.contains (200000+d) | none=>false)=true
  .exact .inr (Zn hq)
  .exact .inl (Zk hq)
 .rename_i t x c
  by_cases hd:(match o.dst with | some d=>a.l.contains d | none=>false)=true
  .exact .inr (.inl ⟨t,x,c,Zn hd⟩)
  .refine .inr (.inr (.inr ?_))
   refine(Zk hd).trans ?_
   simp only[comp,c,AJ]
 .rename_i s d x c
  by_cases hd:((match o.dst with | some d=>a.l.contains d | none=>false) && xB P s d)=true
  .exact .inr (.inr (.inl ⟨s,d,x,c,by simp only[Zw] at hd;exact hd.2,Zn hd⟩))
  .exact .inr (.inr (.inr (Zk hd)))
 .exact .inr (.inr (.inr rfl))
theorem eh.len {o:Oper} {T:Env} {h a:aF} {v:V} {rd wr:List Nat} {call:Bool} (st:eh P n all o T h v a rd wr call):h.length<=a.length:=by
 cases st with
 | skip=>exact Zt _
 | op _ _=>rename_i eff _ _ ;cases eff <;> simp[bH.apply]
 | kf _ _ _=>exact Zt _
 | hX _ _ _ _ _ _=>exact Zt _
 | call _ _ _ _ b _ _=>exact b.1
theorem V5 {q:Fz} {o:Oper} {T:Env} {h:aF} {quiet:Bool} {K:V->View->Prop} (l:dM n all T o=some true) (hw:wB P quiet (nV P q o) T h.view K) :
  ∃ v b rd wr call,eh P n all o T h v b rd wr call/\jY h b/\K v b.view/\mn (jT P quiet (nV P q o)) rd wr call h.length b.length:=by
 rcases Cy P q o with ⟨f,args,A,k,j | j⟩ | ⟨t,x,k,j⟩ | ⟨s,d,x,k,u,j⟩ | j
 rotate_left
 .rw[j] at hw ⊢
  simp only[wB] at hw
  split at hw
  .rename_i g first cap m
   rw[DU] at hw
   rw[SX.cZ] at m
   obtain⟨c,i⟩:=hw
   obtain⟨r,b,hr,hold,hk⟩:=i h rfl
   refine⟨r,b,[],[],true,.call l k m c hr (λid a _=>hold id a) (λid a=>by simp at a),λid a hd=>(hold id a).trans hd,hk,?_,?_⟩
   .intro p;simp[jT] at p
   .intro _;rfl
  .exact hw.elim
 rotate_right
 .rw[j] at hw ⊢
  simp only[wB] at hw
  split at hw
  .rename_i g first cap m
   rw[DU] at hw
   rw[SX.cZ] at m
   split at hw
   .rename_i hq
    obtain⟨c,i⟩:=hw
    obtain⟨r,b,hr,hold,hk⟩:=i h rfl
    refine⟨r,b,[],[],true,.call l k m c hr (λid a _=>hold id a) (λid a=>by simp at a),λid a hd=>(hold id a).trans hd,hk,?_,?_⟩
    .intro p;simp[jT,hq] at p
    .intro _;rfl
   .rename_i hq
    obtain⟨c,i⟩:=hw
    obtain⟨r,b,hr,w,hk⟩:=i h rfl
    refine⟨r,b,[],List.range h.length,true,.call l k m c hr (λid a B=>?_) (λid a=>by simpa using a),w,hk,VF (by simp[jT,hq])⟩
    exact absurd (by simpa using a) B
  .exact hw.elim
 .rw[j] at hw ⊢
  simp only[wB,wI,SX.cZ] at hw
  exact⟨_,h,[],[],false,.kf l k hw.1,.refl _,hw.2,λ_=>⟨rfl,rfl,rfl,rfl⟩,λ_=>rfl⟩
 .rw[j] at hw ⊢
  simp only[wB,wI,SX.cZ] at hw
  obtain⟨e,h1,y,z⟩:=CD u
  split at hw
  .rename_i st C
   exact⟨_,h,[],[],false,.hX l k h1 y z C,.refl _,hw,λ_=>⟨rfl,rfl,rfl,rfl⟩,λ_=>rfl⟩
  .exact hw.elim
 .rw[j] at hw ⊢
  obtain⟨v,b,rd,wr,h1,p,y,z⟩:=XZ (s:=AJ P q.fr (comp P o)) l (λv eff rd hs=>M6 (Mp hs)) hw
  exact⟨v,b,rd,wr,false,h1,p,y,z⟩
def gU (P:Program) (quiet:Bool) (l:List SO) (recs:List Rec):Prop :=
 l.length=recs.length/\∀ (i:Nat) (s:SO) (r:Rec),l[i]?=some s->recs[i]?=some r->mn (jT P quiet s.b) r.rd r.wr r.call r.lo r.hi
theorem gU.nil {quiet:Bool} : gU P quiet [] []:=⟨rfl,λi s r h=>by simp at h⟩
theorem gU.cons {quiet:Bool} {l:List SO} {a:List Rec} {s:SO} {r:Rec} (h:gU P quiet l a) (hr:mn (jT P quiet s.b) r.rd r.wr r.call r.lo r.hi):gU P quiet (s :: l) (r :: a):=by
 refine⟨by simp[h.1],λi d e hs c=>?_⟩
 cases i with
 | zero=>simp at hs c;subst hs c;exact hr
 | succ i=>exact h.2 i d e (by simpa using hs) (by simpa using c)
theorem gU.append {quiet:Bool} {l l':List SO} {b a:List Rec} (h:gU P quiet l b) (c:gU P quiet l' a):gU P quiet (l ++ l') (b ++ a):=by
 refine⟨by simp[h.1,c.1],λi s r hs hr=>?_⟩
 by_cases hi:i < l.length
 .rw[ZP hi] at hs
  rw[ZP (h.1 ▸ hi)] at hr
  exact h.2 i s r hs hr
 .rw[Z3 (by omega)] at hs
  rw[Z3 (by have:=h.1;omega)] at hr
  exact c.2 (i - l.length) s r hs (by rw[h.1];exact hr)
theorem vK {a:Fz} {o:Oper} {s:SO} (h:IJ P n all a o=some s):tK n o=true/\s.dst=o.dst/\s.b=nV P a o/\yg n all o=some s.guard:=by
 unfold IJ at h
 split at h
 .rename_i hd
  simp only[Zu] at h
  obtain⟨g,c,rfl⟩:=h
  exact⟨hd,rfl,rfl,c⟩
 .simp at h
theorem FI {o:Oper} {T:Env} (h:yg n all o=some none):dM n all T o=some true:=by
 unfold yg at h
 unfold dM
 split at h
 .rename_i a;rw[a]
 .split at h
  .split at h
   .simp at h
   .simp at h
  .simp at h
theorem mQ {o:Oper} {T:Env} {d:Nat} {want:Bool} (h:yg n all o=some (some (d,want))) :
  (∀ b,T d=.val (.bool b)->dM n all T o=some (b == want))/\(T d=.bt []->dM n all T o=some false):=by
 unfold yg at h
 unfold dM
 split at h
 .simp at h
 .rename_i j w e
  rw[e]
  split at h
  .rename_i f hd
   split at h
   .rename_i a
    simp at h
    obtain⟨rfl,rfl⟩:=h
    simp only[hd,a,if_true]
    exact⟨λb c=>by rw[c],λc=>by rw[c]⟩
   .simp at h
  .simp at h
theorem mD {a:Fz} {os:List Oper} (h:dV P n all a os=some []):os=[]:=by
 cases os with
 | nil=>rfl
 | cons o r =>
  simp only[dV] at h
  split at h <;> simp at h
theorem nD {a:Fz} {os:List Oper} {s:SO} {l:List SO} (h:dV P n all a os=some (s :: l)):∃ o r,os=o :: r/\IJ P n all a o=some s/\dV P n all a r=some l:=by
 cases os with
 | nil=>simp[dV] at h
 | cons o r =>
  simp only[dV] at h
  split at h
  .rename_i c l' h1 b
   simp at h
   obtain⟨rfl,rfl⟩:=h
   exact⟨o,r,rfl,h1,b⟩
  .simp at h
theorem td {c:Fz} : ∀ {l l':List SO} {os:List Oper},dV P n all c os=some (l ++ l')->∃ a b,os=a ++ b/\dV P n all c a=some l/\dV P n all c b=some l'
 | [],l',os,h=>⟨[],os,rfl,rfl,h⟩
 | s :: l,l',os,h=>by
  obtain⟨o,r,rfl,h1,d⟩:=nD h
  obtain⟨a,b,rfl,e,f⟩:=td d
  exact⟨o :: a,b,rfl,by simp[dV,h1,e],f⟩
theorem Tr.append {a b:List Oper} {T c d:Env} {h h1 e:aF} {f g:List Rec} (x:Tr P n all a T h f c h1) (y:Tr P n all b c h1 g d e):Tr P n all (a ++ b) T h (f ++ g) d e:=by
 induction x with
 | nil=>exact y
 | cons st hd _ i=>exact .cons st hd (i y)
theorem DP {T:Env} {d:Nat} {v:V} (h:T d=v):T.put (some d) v=T:=by
 funext t
 simp only[Env.put]
 split
 .rename_i e;subst e;exact h.symm
 .rfl
theorem JH {E:Fz} {quiet:Bool} {K:Env->View->Prop} (g:Option (Nat × Bool)):∀ (l:List (Option Nat × SB)) (os:List Oper) (T:Env) (h:aF),
  dV P n all E os=some (l.map λ(d,b)=>⟨d,g,b⟩)->(∀ d w,g=some (d,w)->T d=.val (.bool w)/\(l.all λx=>x.1 != some d)=true)->BZ P quiet l T h.view K ->
  ∃ a m j,Tr P n all os T h a m j/\(jY h j/\h.length<=j.length)/\K m j.view/\gU P quiet (l.map λ(d,b)=>⟨d,g,b⟩) a
 | [],os,T,h,q,s,hw=>by
  have:=mD q;subst this
  exact⟨[],T,h,.nil,⟨.refl _,Zt _⟩,hw,.nil⟩
 | (d,b) :: l,os,T,h,q,s,hw=>by
  obtain⟨o,r,rfl,h1,F⟩:=nD q
  obtain⟨hd,k,f,i⟩:=vK h1
  simp only at k f i
  have u:dM n all T o=some true:=by
   cases g with
   | none=>exact FI i
   | some p =>
    obtain⟨y,w⟩:=p
    have:=(mQ (T:=T) i).1 w (s y w rfl).1
    rw[this];simp
  simp only[BZ] at hw
  rw[f] at hw
  obtain⟨v,j,rd,wr,call,st,z,hk,hl⟩:=V5 u hw
  obtain⟨a,m,A,D,c,B,C⟩:=JH g l r (T.put d v) j F (λy w e=>by
   have:=s y w e
   simp only[aaG,Zw,abo,ne_eq] at this
   refine⟨?_,this.2.2⟩
   rw[<-this.1]
   cases d with
   | none=>rfl
   | some t=>simp only[Env.put];rw[Zk];intro e;subst e;exact this.2.1 rfl) hk
  rw[k] at D
  have hlen:=st.len
  exact⟨_,m,A,.cons st hd D,⟨z.trans c.1 hlen,aai hlen c.2⟩,B,C.cons (by rw[f];exact hl)⟩
theorem F4 {s:Fz} {quiet:Bool} (d:Nat) (w:Bool) (h:aF):∀ (l:List (Option Nat × SB)) (os:List Oper) (T:Env),
  dV P n all s os=some (l.map λ(c,b)=>⟨c,some (d,w),b⟩)->(T d=.val (.bool !w)∨T d=.bt [])->(l.all λx=>x.1 != some d)=true ->
  ∃ a,Tr P n all os T h a (jE l T) h/\gU P quiet (l.map λ(c,b)=>⟨c,some (d,w),b⟩) a
 | [],os,T,i,hd,hl=>by
  have:=mD i;subst this
  exact⟨[],.nil,.nil⟩
 | (c,b) :: l,os,T,i,hd,hl=>by
  obtain⟨o,r,rfl,h1,u⟩:=nD i
  obtain⟨j,f,k,g⟩:=vK h1
  simp only at f k g
  have m:dM n all T o=some false:=by
   rcases hd with hd | hd
   .rw[(mQ (T:=T) g).1 _ hd];cases w <;> rfl
   .exact(mQ (T:=T) g).2 hd
  simp only[aaG,Zw,abo,ne_eq] at hl
  obtain⟨a,q,p⟩:=F4 d w h l r (T.put c (.bt [])) u (by
   have:(T.put c (.bt [])) d=T d:=by
    cases c with
    | none=>rfl
    | some t=>simp only[Env.put];rw[Zk];intro e;subst e;exact hl.1 rfl
   rw[this];exact hd) hl.2
  rw[f] at q
  refine⟨_,?_,p.cons (r:=⟨[],[],false,h.length,h.length⟩) ⟨λ_=>⟨rfl,rfl,rfl,rfl⟩,λ_=>rfl⟩⟩
  have:=Tr.cons (.skip m) j q
  rw[jE,f]
  exact this
theorem XT {p:Fz} {quiet:Bool} {K:Env->View->Prop} {g:SG} {os:List Oper} {T:Env} {h:aF} (f:dV P n all p os=some g.flat) (c:wu g=true) (hw:wG P quiet g T h.view K) :
  ∃ a o k,Tr P n all os T h a o k/\(jY h k/\h.length<=k.length)/\K o k.view/\gU P quiet g.flat a:=by
 unfold wG at hw
 unfold SG.flat at f ⊢
 unfold wu at c
 split at hw
 .rename_i l
  rw[l] at f ⊢
  exact JH none g.ops os T h f (λd w e=>by simp at e) hw
 .rename_i d want l
  rw[l] at f c ⊢
  simp only at c
  split at hw
  .rename_i b j
   by_cases e:b=want
   .subst e
    have:=hw.1 rfl
    rw[DP j] at this
    exact JH (some (d,b)) g.ops os T h f (λq w e=>by simp at e;obtain⟨rfl,rfl⟩:=e;exact⟨j,c⟩) this
   .have e':b = !want:=by cases b <;> cases want <;> simp_all
    have:=hw.2 e'
    subst e'
    rw[DP j] at this
    obtain⟨a,m,i⟩:=F4 (quiet:=quiet) d want h g.ops os T f (.inl j) c
    exact⟨a,_,h,m,⟨.refl _,Zt _⟩,this,i⟩
  .rename_i j
   obtain⟨a,m,i⟩:=F4 (quiet:=quiet) d want h g.ops os T f (.inr j) c
   exact⟨a,_,h,m,⟨.refl _,Zt _⟩,hw,i⟩
  .exact hw.elim
theorem Bg {s:Fz} {quiet:Bool} {K:Env->View->Prop} : ∀ (gs:List SG) (os:List Oper) (T:Env) (h:aF),dV P n all s os=some (lR gs)->gs.all wu=true->Aj P quiet gs T h.view K ->
  ∃ c r e,Tr P n all os T h c r e/\(jY h e/\h.length<=e.length)/\K r e.view/\gU P quiet (lR gs) c
 | [],os,T,h,f,_,hw=>by
  have:=mD f;subst this
  exact⟨[],T,h,.nil,⟨.refl _,Zt _⟩,hw,.nil⟩
 | g :: gs,os,T,h,f,d,hw=>by
  simp only[lR,ZJ,List.flatten_cons] at f ⊢
  simp only[aaG,Zw] at d
  obtain⟨a,b,rfl,h1,t⟩:=td f
  obtain⟨w,u,i,j,st1,k,l⟩:=XT h1 d.1 hw
  obtain⟨x,v,m,o,st2,p,q⟩:=Bg gs b u i t d.2 k
  exact⟨_,v,m,j.append o,⟨st1.1.trans st2.1 st1.2,aai st1.2 st2.2⟩,p,l.append q⟩
theorem Tr.at_ {os:List Oper} {T g:Env} {h j:aF} {b:List Rec} (k:Tr P n all os T h b g j):∀ (i:Nat) (o:Oper),os[i]?=some o ->
  ∃ c h1 v e rd wr call a,b[i]?=some ⟨rd,wr,call,h1.length,e.length⟩/\eh P n all o c h1 v e rd wr call/\h.length<=h1.length/\Tr P n all (os.drop (i+1)) (c.put o.dst v) e a g j/\(∀ m,a[m]?=b[i+1+m]?) /\
   (∀ t,(∀ l∈os.take i,l.dst≠some t)->c t=T t):=by
 induction k with
 | nil=>intro i o hi;simp at hi
 | @cons o0 rest T g h h1 j v rd wr call b st hd k s =>
  intro i o hi
  cases i with
  | zero =>
   simp at hi;subst hi
   exact⟨T,h,v,h1,rd,wr,call,b,rfl,st,Zt _,by simpa using k,λm=>by rw[show 0+1+m=m+1 by omega,aae],λt _=>rfl⟩
  | succ i =>
   simp at hi
   obtain⟨c,e,v2,u,p,Xr,call2,a,w,x,y,z,A,B⟩:=s i o hi
   have hlen:h.length<=h1.length:=by
    cases st with
    | skip=>exact Zt _
    | op _ _=>rename_i eff _ _;cases eff <;> simp[bH.apply]
    | kf _ _ _=>exact Zt _
    | hX _ _ _ _ _ _=>exact Zt _
    | call _ _ _ _ C _ _=>exact C.1
   refine⟨c,e,v2,u,p,Xr,call2,a,by simpa using w,x,aai hlen y,by simpa using z,λm=>?_,λt q=>?_⟩
   .rw[A,show i+1+1+m=(i+1+m)+1 by omega,aae]
   .simp only[aa7,Zz] at q
    rw[B t λl r=>q l (.inr r)]
    have:=q o0 (.inl rfl)
    cases f:o0.dst with
    | none=>rfl
    | some d=>simp only[Env.put];rw[Zk];rintro rfl;exact this f
theorem O8 {o:Oper} {T:Env} {h f:aF} {v:V} {rd wr:List Nat} {call:Bool} (st:eh P n all o T h v f rd wr call) (b:Dx o=true) (g:o.guard=none):v=.ptr h.length 0 0:=by
 unfold Dx at b
 have d:dM n all T o=some true:=by unfold dM;rw[g]
 cases st with
 | skip hs=>rw[d] at hs;simp at hs
 | op _ a =>
  split at b
  .rename_i e c
   simp only[cx,c] at a
   split at a
   .unfold np at a
    split at a
    .simp at a;exact a.1.symm
    .simp at a
   .simp at a
  .simp at b
 | kf _ c _=>rw[c] at b;simp at b
 | hX _ c _ _ _ _=>rw[c] at b;simp at b
 | call _ c _ _ _ _ _=>rw[c] at b;simp at b
theorem Ol {o:Oper} {T:Env} {h f:aF} {v:V} {rd wr:List Nat} {call:Bool} {t id i j:Nat} (st:eh P n all o T h v f rd wr call) (c:ml o=some t) (g:T t=.ptr id i j):wr=[id]/\call=false:=by
 unfold ml at c
 split at c
 .rename_i ty k x d l
  simp at c;subst c
  have e:dM n all T o=some true:=by unfold dM;rw[l]
  cases st with
  | skip hs=>rw[e] at hs;simp at hs
  | op _ b =>
   have m:ev T (.tmp k)=.ptr id i j:=g
   simp only[cx,d,m,sP] at b
   split at b
   .split at b
    .simp only[Zl,Zo] at b
     obtain⟨_,he,_⟩:=b
     rw[<-he];exact⟨rfl,rfl⟩
    .simp at b
   .simp at b
  | kf _ a _=>rw[d] at a;simp at a
  | hX _ a _ _ _ _=>rw[d] at a;simp at a
  | call _ a _ _ _ _ _=>rw[d] at a;simp at a
 .simp at c
theorem QR {o:Oper} {T:Env} {h g:aF} {v:V} {rd wr:List Nat} {call:Bool} (st:eh P n all o T h v g rd wr call) (d:FQ o=true):wr=[]/\call=false/\∀ id,id∈rd->id < h.length:=by
 unfold FQ at d
 cases st with
 | skip _=>exact⟨rfl,rfl,λid c=>by simp at c⟩
 | op _ b =>
  split at d
  .rename_i e a f
   simp only[cx,f,od] at b
   split at b
   .rename_i id i j l
    split at b
    .rename_i z es hH
     split at b
     .simp only[Zu] at b
      obtain⟨_,_,b⟩:=b
      simp at b
      obtain⟨_,rfl,rfl⟩:=b
      refine⟨rfl,rfl,λk c=>?_⟩
      simp at c;subst c
      exact jj (by rw[hH];simp)
     .simp at b
    .simp at b
   .simp only[Zu] at b
    obtain⟨_,_,b⟩:=b
    simp at b
    obtain⟨_,rfl,rfl⟩:=b
    exact⟨rfl,rfl,λid c=>by simp at c⟩
   .simp at b
  .simp at d
 | kf _ f _=>rw[f] at d;simp at d
 | hX _ f _ _ _ _=>rw[f] at d;simp at d
 | call _ f _ _ _ _ _=>rw[f] at d;simp at d
theorem zb {T G:Env} {h H:aF} {e:List Rec} (I:Tr P n all all T h e G H) {i k:Nat} {a b:Rec} (hp:Cp all i k=true) (g:e[i]?=some a) (J:e[k]?=some b):qh a b:=by
 unfold Cp at hp
 split at hp
 .rename_i K L l m
  rw[Zw] at hp
  obtain⟨hl,hp⟩:=hp
  split at hp
  .rename_i t o
   rw[List.any_eq_true] at hp
   obtain⟨j,M,hp⟩:=hp
   rw[aap] at M
   rw[Zw,ZA] at hp
   obtain⟨N,c⟩:=hp
   unfold XD at c
   split at c
   .rename_i O p
    simp only[Zw,aaz,ZZ,abo,ne_eq,Option.isNone_iff_eq_none] at c
    obtain⟨⟨⟨Q,R⟩,S⟩,U⟩:=c
    obtain⟨T1,h1,v1,V,W,Yb,c1,q,D,E,e3,X,Y,_⟩:=I.at_ i K l
    obtain⟨Tj,r,vj,Z,an,aq,cj,s,f1,f2,f3,f4,f5,_⟩:=X.at_ (j - (i+1)) O (by rw[abp,show i+1+(j - (i+1))=j by omega];exact p)
    have u:(all.drop (i+1)).drop (j - (i+1)+1)=all.drop (j+1):=by rw[List.drop_drop];congr 1;omega
    rw[u] at f4
    obtain⟨Tk,v,vk,w,x,y,ck,z,g1,g2,g3,_,_,g6⟩:=f4.at_ (k - (j+1)) L (by rw[abp,show j+1+(k - (j+1))=k by omega];exact m)
    rw[g] at D
    have A:=(abt D)
    have f:e[k]?=some ⟨x,y,ck,v.length,w.length⟩:=by
     rw[<-g1,f5,Y];congr 1;omega
    rw[J] at f
    have f:=abt f
    have hv:=O8 f2 S R
    have B:Tk t=.ptr r.length 0 0:=by
     rw[g6 t λo' C=>U o' C,Q,hv]
     simp[Env.put]
    obtain⟨s1,s2⟩:=Ol g2 o B
    obtain⟨F,l2,l3⟩:=QR E hl
    rw[A,f]
    have hlen:h1.length<=V.length:=by
     cases E with
     | skip=>exact Zt _
     | op _ _=>rename_i eff _ _;cases eff <;> simp[bH.apply]
     | kf _ _ _=>exact Zt _
     | hX _ _ _ _ _ _=>exact Zt _
     | call _ _ _ _ g _ _=>exact g.1
    refine⟨λid d=>by simp[F] at d,λid d=>?_,λhc=>by simp[l2] at hc,λ_=>F,λid d=>?_⟩
    .simp only[s1,aaj] at d
     subst d
     intro hr
     have:=l3 _ hr
     omega
    .simp only[s1,aaj] at d
     subst d
     simp only
     omega
   .simp at c
  .simp at hp
 .simp at hp
theorem Tu {ls:List Nat} {d:List Rec} {T t:Env} {hp g:aF} (u:Tr P n all all T hp d t g) (h:IL all ls=true) (hl:ls.length=d.length) (hr:∀ (i x:Nat) (r:Rec),ls[i]?=some x->d[i]?=some r->mn x r.rd r.wr r.call r.lo r.hi):xb all d:=by
 intro i k a b j l m v
 have hi:i < d.length:=(Zy.1 l).1
 have hk:k < d.length:=(Zy.1 m).1
 unfold IL at h
 simp only[ZZ] at h
 have h1:=h (ls[i]'(by omega),i) (by rw[aax];simp[Zj (show i < ls.length by omega)])
  (ls[k]'(by omega),k) (by rw[aax];simp[Zj (show k < ls.length by omega)])
 have q:=hr i _ a (Zj (by omega)) l
 have s:=hr k _ b (Zj (by omega)) m
 simp only[j,decide_true,abd,v,abu,aam,aaz,Zw,ZA] at h1
 rcases h1 with ((h1 | h1) | h1) | h1
 .obtain⟨f,e,o,w⟩:=q.1 h1
  exact⟨λid c=>by simp[e] at c,λid _=>by simp[f],λp=>by simp[o] at p,λ_=>e,λid _ y=>by omega⟩
 .obtain⟨f,e,o,w⟩:=s.1 h1
  exact⟨λid _=>by simp[f],λid c=>by simp[e] at c,λ_=>e,λp=>by simp[o] at p,λid c=>by simp[e] at c⟩
 .have f:=q.2 h1.1
  have e:=s.2 h1.2
  exact⟨λid c=>by simp[f] at c,λid c=>by simp[e] at c,λ_=>e,λ_=>f,λid c=>by simp[e] at c⟩
 .exact zb u h1 l m
theorem Tr.keep {os:List Oper} {T c:Env} {h e:aF} {a:List Rec} (f:Tr P n all os T h a c e) {t:Nat} (g:∀ o∈os,o.dst≠some t):c t=T t:=by
 induction f with
 | nil=>rfl
 | @cons o0 rest T c h h1 e v rd wr call a st hd f i =>
  rw[i λo j=>g o (by simp[j])]
  have:=g o0 (by simp)
  cases b:o0.dst with
  | none=>rfl
  | some d=>simp only[Env.put];rw[Zk];rintro rfl;exact this b
theorem yJ {o:Oper} {T:Env} {h g:aF} {v:V} {rd wr:List Nat} {call:Bool} {t:Nat} (st:eh P n all o T h v g rd wr call) (d:tZ o=some t):wr=[]/\call=false/\g.length=h.length/\∀ id,id∈rd->∃ i j,T t=.ptr id i j:=by
 unfold tZ at d
 split at d
 .rename_i e m f
  simp at d;subst d
  cases st with
  | skip _=>exact⟨rfl,rfl,rfl,λid c=>by simp at c⟩
  | op _ a =>
   simp only[cx,f,od] at a
   split at a
   .rename_i id i j k
    split at a
    .split at a
     .simp only[Zu] at a
      obtain⟨_,_,a⟩:=a
      simp at a
      obtain⟨_,rfl,rfl⟩:=a
      refine⟨rfl,rfl,rfl,λl c=>?_⟩
      simp at c;subst c
      exact⟨i,j,k⟩
     .simp at a
    .simp at a
   .simp only[Zu] at a
    obtain⟨_,_,a⟩:=a
    simp at a
    obtain⟨_,rfl,rfl⟩:=a
    exact⟨rfl,rfl,rfl,λid c=>by simp at c⟩
   .simp at a
  | kf _ b _=>rw[f] at b;simp at b
  | hX _ b _ _ _ _=>rw[f] at b;simp at b
  | call _ b _ _ _ _ _=>rw[f] at b;simp at b
 .simp at d
theorem zr {i t:Nat} (h:stays all i t=true):∀ o∈all.drop i,o.dst≠some t:=by
 intro o a
 have:=ZZ.1 h o a
 simpa using this
theorem Dv {a:List (Nat × Nat)} {T:Env} {K:Prop} (b:BW a T K):∀ p∈a,jg (T p.1) (T p.2):=by
 induction a with
 | nil=>intro p hp;simp at hp
 | cons q l c =>
  intro p hp
  rcases Zz.1 hp with rfl | hp
  .exact b.1
  .exact c b.2 p hp
theorem BW.rest {a:List (Nat × Nat)} {T:Env} {K:Prop} (b:BW a T K):K:=by
 induction a with
 | nil=>exact b
 | cons q l c=>exact c b.2
theorem sk {T l:Env} {h m:aF} {a:List Rec} (p:Tr P n all all T h a l m) {i t:Nat} {o:Oper} (j:all[i]?=some o) (hs:stays all i t=true) {r:Rec} (hr:a[i]?=some r) :
  ∃ e h1 v f,eh P n all o e h1 v f r.rd r.wr r.call/\r.lo=h1.length/\r.hi=f.length/\e t=l t:=by
 obtain⟨e,h1,v,f,rd,wr,call,k,g,q,w,s,x,y⟩:=p.at_ i o j
 rw[hr] at g
 have g:=abt g
 subst g
 refine⟨e,h1,v,f,q,rfl,rfl,?_⟩
 have hk:=zr hs
 have hi:i < all.length:=(Zy.1 j).1
 have b:all[i]=o:=(Zy.1 j).2
 rw[aad hi,b] at hk
 rw[s.keep λu b=>hk u (by simp[b])]
 have:=hk o (by simp)
 cases c:o.dst with
 | none=>rfl
 | some d=>simp only[Env.put];rw[Zk];rintro rfl;exact this c
theorem Ck {i a b j c d:Nat} (h:jg (.ptr i a b) (.ptr j c d)):i≠j:=h
theorem FJ {i a b j c d e:Nat} (h:jg (.ptr i a b) (.sl j c d e)):i≠j:=h
theorem tX {o:Oper} {T:Env} {h p:aF} {v:V} {rd wr:List Nat} {call:Bool} {t:Nat} (st:eh P n all o T h v p rd wr call) (g:rA o=some t) :
  call=false/\∀ id,id∈wr->(∃ i j,T t=.ptr id i j)∨∃ a b c,T t=.sl id a b c:=by
 unfold rA at g
 split at g
 .rename_i s hs
  simp at g;subst g
  unfold ml at hs
  split at hs
  .rename_i ty t2 x k q
   simp at hs;subst hs
   cases st with
   | skip _=>exact⟨rfl,λid f=>by simp at f⟩
   | op _ d =>
    simp only[cx,k,sP] at d
    split at d
    .rename_i id i j m
     split at d
     .split at d
      .simp only[Zl,Zo] at d
       obtain⟨_,he,_⟩:=d
       rw[<-he]
       refine⟨rfl,λl f=>?_⟩
       simp[bH.wr] at f;subst f
       exact .inl ⟨i,j,m⟩
      .simp at d
     .simp at d
    .simp at d
   | kf _ e _=>rw[k] at e;simp at e
   | hX _ e _ _ _ _=>rw[k] at e;simp at e
   | call _ e _ _ _ _ _=>rw[k] at e;simp at e
  .simp at hs
 .unfold RW at g
  split at g
  .rename_i args r k q
   split at g
   .rename_i t2 y hl
    simp at g;subst g
    cases st with
    | skip _=>exact⟨rfl,λid f=>by simp at f⟩
    | op _ d =>
     simp only[cx,k,hl] at d
     split at d
     .unfold oD at d
      split at d
      .split at d
       .simp at d
       .split at d
        .split at d <;> first | (simp only[Zl,Zo] at d;obtain⟨_,he,_⟩:=d;rw[<-he];exact⟨rfl,λl f=>by simp[bH.wr] at f⟩) | simp at d
        .split at d
         .simp at d
         .split at d
          .split at d
           .simp only[Zl,Zo] at d
            obtain⟨_,he,_⟩:=d
            rw[<-he];exact⟨rfl,λl f=>by simp[bH.wr] at f⟩
           .simp at d
          .rename_i id off len esz m
           split at d
           .split at d
            .simp only[Zl,Zo] at d
             obtain⟨_,he,_⟩:=d
             rw[<-he]
             refine⟨rfl,λl f=>?_⟩
             simp[bH.wr] at f;subst f
             exact .inr ⟨off,len,esz,m⟩
            .simp at d
           .simp at d
          .simp at d
      .simp at d
     .split at d
      .unfold zw at d
       repeat' (split at d)
       all_goals first | (simp only[Zl,Zo] at d;obtain⟨_,he,_⟩:=d;rw[<-he];exact⟨rfl,λl f=>by simp[bH.wr] at f⟩) | simp at d
      .simp at d
    | kf _ e _=>rw[k] at e;simp at e
    | hX _ e _ _ _ _=>rw[k] at e;simp at e
    | call _ e _ _ _ _ _=>rw[k] at e;simp at e
   .simp at g
  .simp at g
theorem Dq {o:Oper} {T:Env} {h g:aF} {v:V} {rd wr:List Nat} {call:Bool} (st:eh P n all o T h v g rd wr call) (b:Jf o=true):rd=[]/\wr=[]/\call=false:=by
 unfold Jf at b
 cases st with
 | skip _=>exact⟨rfl,rfl,rfl⟩
 | op _ a =>
  split at b
  .rename_i ty len parts c
   simp only[cx,c,jc] at a
   have key:∀ {x:Option (V × bH × List Nat)} {e:bH},x=some (v,e,rd)->(∀ y,x=some y->y.2.1.wr=[]/\y.2.2=[])->rd=[]/\e.wr=[]:=λf d=>⟨(d _ f).2,(d _ f).1⟩
   obtain⟨i,k2⟩:=key a (by
    intro y d
    repeat' (first | (split at d)|(simp only[Zl] at d;subst d;exact⟨rfl,rfl⟩)|(simp at d;done)))
   exact⟨i,k2,rfl⟩
  .rename_i e c
   simp only[cx,c] at a
   split at a
   .unfold np at a
    split at a
    .simp only[Zl,Zo] at a
     obtain⟨_,he,hr⟩:=a
     rw[<-he,<-hr];exact⟨rfl,rfl,rfl⟩
    .simp at a
   .simp at a
  .simp at b
 | kf _ c _=>rw[c] at b;simp at b
 | hX _ c _ _ _ _=>rw[c] at b;simp at b
 | call _ c _ _ _ _ _=>rw[c] at b;simp at b
theorem xV {o:Oper} {t:Nat} (h:ml o=some t):rA o=some t:=by unfold rA;rw[h]
theorem QY {T w:Env} {h N:aF} {l:List Rec} (u:Tr P n all all T h l w N) {i k:Nat} {a b:Rec} {p:Nat × Nat} (hp:EE all i k=some p) (j:jg (w p.1) (w p.2)) (L:l[i]?=some a) (M:l[k]?=some b):qh a b:=by
 unfold EE at hp
 split at hp
 .rename_i X Y q r
  split at hp
  .rename_i s t hl hs
   split at hp
   .rename_i g
    simp only[Zw] at g
    simp at hp;subst hp
    obtain⟨x,y,O,z,A,B,C,D⟩:=sk u q g.1 L
    obtain⟨Tb,E,Q,F,G,_,_,H⟩:=sk u r g.2 M
    obtain⟨o,I,R,J⟩:=yJ A hl
    have j:jg (x s) (Tb t):=by rw[D,H];exact j
    refine⟨λid f=>by simp[o] at f,λid f hr=>?_,λv=>by simp[I] at v,λ_=>o,λid _ Z=>by omega⟩
    obtain⟨S,U,K⟩:=J id hr
    rw[K] at j
    rcases (tX G (xV hs)).2 id f with ⟨c,d,m⟩ | ⟨c,d,e,m⟩
    .rw[m] at j;exact Ck j rfl
    .rw[m] at j;exact FJ j rfl
   .simp at hp
  .split at hp
   .rename_i t s hs hl
    split at hp
    .rename_i g
     simp only[Zw] at g
     simp at hp;subst hp
     obtain⟨x,y,O,z,A,B,C,D⟩:=sk u q g.1 L
     obtain⟨Tb,E,Q,F,G,V,W,H⟩:=sk u r g.2 M
     obtain⟨o,I,R,J⟩:=yJ G hl
     have j:jg (Tb s) (x t):=by rw[D,H];exact j
     refine⟨λid f hr=>?_,λid f=>by simp[o] at f,λv=>o,λv=>by simp[I] at v,λid f=>by simp[o] at f⟩
     obtain⟨S,U,K⟩:=J id hr
     rw[K] at j
     rcases (tX A (xV hs)).2 id f with ⟨c,d,m⟩ | ⟨c,d,e,m⟩
     .rw[m] at j;exact Ck j rfl
     .rw[m] at j;exact FJ j rfl
    .simp at hp
   .simp at hp
 .simp at hp
theorem Oa {T w:Env} {h N:aF} {l:List Rec} (u:Tr P n all all T h l w N) {i k:Nat} {a b:Rec} {p:Nat × Nat} (hp:FZ all i k=some p) (j:jg (w p.1) (w p.2)) (L:l[i]?=some a) (M:l[k]?=some b):qh a b:=by
 unfold FZ at hp
 split at hp
 .rename_i X Y q r
  split at hp
  .rename_i s t hl hs
   split at hp
   .rename_i g
    simp only[Zw] at g
    simp at hp;subst hp
    obtain⟨x,y,O,z,A,B,C,D⟩:=sk u q g.1 L
    obtain⟨Tb,E,Q,F,G,_,_,H⟩:=sk u r g.2 M
    obtain⟨o,I,R,J⟩:=yJ A hl
    have j:jg (x s) (Tb t):=by rw[D,H];exact j
    refine⟨λid f=>by simp[o] at f,λid f hr=>?_,λv=>by simp[I] at v,λ_=>o,λid _ Z=>by omega⟩
    obtain⟨S,U,K⟩:=J id hr
    rw[K] at j
    rcases (tX G hs).2 id f with ⟨c,d,m⟩ | ⟨c,d,e,m⟩
    .rw[m] at j;exact Ck j rfl
    .rw[m] at j;exact FJ j rfl
   .simp at hp
  .split at hp
   .rename_i t s hs hl
    split at hp
    .rename_i g
     simp only[Zw] at g
     simp at hp;subst hp
     obtain⟨x,y,O,z,A,B,C,D⟩:=sk u q g.1 L
     obtain⟨Tb,E,Q,F,G,V,W,H⟩:=sk u r g.2 M
     obtain⟨o,I,R,J⟩:=yJ G hl
     have j:jg (Tb s) (x t):=by rw[D,H];exact j
     refine⟨λid f hr=>?_,λid f=>by simp[o] at f,λv=>o,λv=>by simp[I] at v,λid f=>by simp[o] at f⟩
     obtain⟨S,U,K⟩:=J id hr
     rw[K] at j
     rcases (tX A hs).2 id f with ⟨c,d,m⟩ | ⟨c,d,e,m⟩
     .rw[m] at j;exact Ck j rfl
     .rw[m] at j;exact FJ j rfl
    .simp at hp
   .simp at hp
 .simp at hp
theorem RI {l:List (Nat × Nat)} {a:List (Nat × Nat)} (h:D2 all l=some a):∀ q∈l,∃ p∈a,EE all q.1 q.2=some p:=by
 induction l generalizing a with
 | nil=>intro q hq;simp at hq
 | cons x r c =>
  obtain⟨i,k⟩:=x
  simp only[D2] at h
  split at h
  .rename_i p l' h1 d
   simp at h;subst h
   intro q hq
   rcases Zz.1 hq with rfl | hq
   .exact⟨p,by simp,h1⟩
   .obtain⟨f,b,e⟩:=c d q hq
    exact⟨f,by simp[b],e⟩
  .simp at h
theorem Pf {l:List (Nat × Nat)} {a:List (Nat × Nat)} (h:xE all l=some a):∀ q∈l,∃ d,(∀ p∈d,p∈a)/\Cd all q.1 q.2=some d:=by
 induction l generalizing a with
 | nil=>intro q hq;simp at hq
 | cons x r f =>
  obtain⟨i,k⟩:=x
  simp only[xE] at h
  split at h
  .rename_i p l' h1 g
   simp at h;subst h
   intro q hq
   rcases Zz.1 hq with rfl | hq
   .exact⟨p,λx b=>by simp[b],h1⟩
   .obtain⟨j,c,e⟩:=f g q hq
    exact⟨j,λx b=>by simp[c x b],e⟩
  .simp at h
theorem Tf {H:View} {x:V} {xs:List (List V)} {rd:List Nat} (h:bR H x=some (xs,rd)):∀ id,id∈rd->∃ a b c,x=.sl id a b c:=by
 unfold bR at h
 split at h
 .simp at h;obtain⟨_,rfl⟩:=h;intro id d;simp at d
 .simp at h;obtain⟨_,rfl⟩:=h;intro id d;simp at d
 .simp at h;obtain⟨_,rfl⟩:=h;intro id d;simp at d
 .simp at h;obtain⟨_,rfl⟩:=h;intro id d;simp at d
 .split at h
  .split at h
   .simp at h
    obtain⟨_,rfl⟩:=h
    intro id d
    simp at d;subst d
    exact⟨_,_,_,rfl⟩
   .simp at h
  .simp at h
 .simp at h;obtain⟨_,rfl⟩:=h;intro id d;simp at d
 .simp at h
theorem Kf {o:Oper} {T:Env} {h r:aF} {v:V} {rd wr:List Nat} {call:Bool} {t y d:Nat} (st:eh P n all o T h v r rd wr call) (l:Cn o=some (t,y,d)) :
  call=false/\(∀ id,id∈wr->∃ a b c,T t=.sl id a b c)/\(∀ id,id∈rd->(∃ a b c,T t=.sl id a b c)∨∃ a b c,T y=.sl id a b c)/\(h.length < r.length->∃ a b c,v=.sl h.length a b c)/\r.length<=h.length+1/\o.dst=some d:=by
 unfold Cn at l
 split at l
 .rename_i args x z q B hd
  split at l
  .rename_i t2 A hl
   simp at l
   obtain⟨rfl,rfl,rfl⟩:=l
   cases st with
   | skip _=>exact⟨rfl,λid g=>by simp at g,λid g=>by simp at g,λh=>by omega,by omega,hd⟩
   | op _ f =>
    simp only[cx,q,hl] at f
    have u:∀ {v':V} {i:bH} {k:List Nat},some (v',bH.none,([]:List Nat))=some (v,i,k)->false=false/\(∀ id,id∈i.wr->∃ a b c,T t2=.sl id a b c)/\(∀ id,id∈k->(∃ a b c,T t2=.sl id a b c)∨∃ a b c,T A=.sl id a b c)/\(h.length < (i.apply h).length->∃ a b c,v=.sl h.length a b c)/\(i.apply h).length<=h.length+1/\o.dst=some z:=by
     intro v' i k e
     simp only[Zl,Zo] at e
     obtain⟨_,rfl,rfl⟩:=e
     exact⟨rfl,λid g=>by simp[bH.wr] at g,λid g=>by simp at g,λh=>by simp[bH.apply] at h,by simp[bH.apply],hd⟩
    split at f
    .unfold oD at f
     split at f
     .rename_i e xs k _ s
      have m:=Tf s
      split at f
      .simp at f
      .split at f
       .split at f <;> first | exact u f | simp at f
       .split at f
        .simp at f
        .split at f
         .split at f
          .simp only[Zl,Zo] at f
           obtain⟨rfl,rfl,rfl⟩:=f
           exact⟨rfl,λid g=>by simp[bH.wr] at g,λid g=>.inr (m id g),λ_=>⟨_,_,_,rfl⟩,by simp[bH.apply],hd⟩
          .simp at f
         .rename_i id off len esz w
          split at f
          .split at f
           .simp only[Zl,Zo] at f
            obtain⟨rfl,rfl,rfl⟩:=f
            refine⟨rfl,λp g=>?_,λp g=>?_,λ_=>⟨_,_,_,rfl⟩,by simp[bH.apply],hd⟩
            .simp[bH.wr] at g;subst g
             exact⟨off,len,esz,w⟩
            .rcases Zz.1 g with rfl | g
             .exact .inl ⟨off,len,esz,w⟩
             .exact .inr (m p g)
           .simp at f
          .simp at f
         .simp at f
     .simp at f
    .split at f
     .unfold zw at f
      split at f
      .split at f
       .split at f
        .exact u f
        .split at f
         .simp only[Zl,Zo] at f
          obtain⟨rfl,rfl,rfl⟩:=f
          exact⟨rfl,λid g=>by simp[bH.wr] at g,λid g=>by simp at g,λ_=>⟨_,_,_,rfl⟩,by simp[bH.apply],hd⟩
         .simp at f
       .simp at f
      .simp at f
     .simp at f
   | kf _ j _=>rw[q] at j;simp at j
   | hX _ j _ _ _ _=>rw[q] at j;simp at j
   | call _ j _ _ _ _ _=>rw[q] at j;simp at j
  .simp at l
 .simp at l
theorem Sy {T j:Env} {h p:aF} {a:List Rec} (q:Tr P n all all T h a j p) {i:Nat} {o:Oper} (k:all[i]?=some o) {r:Rec} (hr:a[i]?=some r) :
  ∃ e h1 v f,eh P n all o e h1 v f r.rd r.wr r.call/\r.lo=h1.length/\r.hi=f.length/\(∀ t,stays all i t=true->e t=j t)/\∀ d,o.dst=some d->stays all (i+1) d=true->j d=v:=by
 obtain⟨e,h1,v,f,rd,wr,call,l,g,s,w,m,x,y⟩:=q.at_ i o k
 rw[hr] at g
 have g:=abt g
 subst g
 refine⟨e,h1,v,f,s,rfl,rfl,λt hs=>?_,λd hd hs=>?_⟩
 .have hk:=zr hs
  have hi:i < all.length:=(Zy.1 k).1
  have b:all[i]=o:=(Zy.1 k).2
  rw[aad hi,b] at hk
  rw[m.keep λu b=>hk u (by simp[b])]
  have:=hk o (by simp)
  cases c:o.dst with
  | none=>rfl
  | some d=>simp only[Env.put];rw[Zk];rintro rfl;exact this c
 .rw[m.keep (zr hs),hd]
  simp[Env.put]
theorem AG {i a b c j d e f:Nat} (h:jg (.sl i a b c) (.sl j d e f)):i≠j:=h
theorem Oi {T r:Env} {h E:aF} {c:List Rec} (A:Tr P n all all T h c r E) {i k:Nat} {a b:Rec} {B:List (Nat × Nat)} (hp:Gj all i k=some B) (o:∀ p∈B,jg (r p.1) (r p.2)) (F:c[i]?=some a) (G:c[k]?=some b):qh a b:=by
 unfold Gj at hp
 split at hp
 .rename_i oa ob s u
  split at hp
  .rename_i t y d g C d' h1 H
   split at hp
   .rename_i l
    simp only[Zw] at l
    obtain⟨⟨⟨⟨s1,s2⟩,I⟩,v⟩,J⟩:=l
    simp at hp;subst hp
    have j:=o (t,g) (by simp)
    have a2:=o (t,C) (by simp)
    have a3:=o (g,y) (by simp)
    have a4:=o (d,g) (by simp)
    simp only at j a2 a3 a4
    obtain⟨Ta,w,va,K,L,M,N,x,z⟩:=Sy A s F
    obtain⟨Tb,O,vb,Q,R,_,_,q,_⟩:=Sy A u G
    obtain⟨S,U,V,W,p5,X⟩:=Kf L h1
    obtain⟨Y,D,Z,_⟩:=Kf R H
    have z:=z d X I
    rw[<-x t s1,<-q g v] at j
    rw[<-x t s1,<-q C J] at a2
    rw[<-q g v,<-x y s2] at a3
    rw[z,<-q g v] at a4
    refine⟨λid f hr=>?_,λid f hr=>?_,λm=>by rw[S] at m;simp at m,λm=>by rw[Y] at m;simp at m,λid f hx=>?_⟩
    .obtain⟨_,_,_,e⟩:=U id f
     rcases Z id hr with ⟨_,_,_,e'⟩ | ⟨_,_,_,e'⟩
     .rw[e,e'] at j;exact AG j rfl
     .rw[e,e'] at a2;exact AG a2 rfl
    .obtain⟨_,_,_,e⟩:=D id f
     rcases V id hr with ⟨_,_,_,e'⟩ | ⟨_,_,_,e'⟩
     .rw[e',e] at j;exact AG j rfl
     .rw[e,e'] at a3;exact AG a3 rfl
    .obtain⟨_,_,_,e⟩:=D id f
     obtain⟨_,_,_,e'⟩:=W (by omega)
     have:id=w.length:=by omega
     subst this
     rw[e,e'] at a4;exact AG a4 rfl
   .simp at hp
  .simp at hp
 .simp at hp
theorem Oc {T d:Env} {h m:aF} {c:List Rec} (e:Tr P n all all T h c d m) {i k:Nat} {a b:Rec} {f:List (Nat × Nat)} (hp:Cd all i k=some f) (g:∀ p∈f,jg (d p.1) (d p.2)) (j:c[i]?=some a) (l:c[k]?=some b):qh a b:=by
 unfold Cd at hp
 split at hp
 .rename_i p h1
  simp at hp;subst hp
  exact Oa e h1 (g p (by simp)) j l
 .exact Oi e hp g j l
theorem Un {ls:List Nat} {d:List Rec} {T o:Env} {hp q:aF} {j:List (Nat × Nat)} (v:Tr P n all all T hp d o q) (h:D2 all (ma all ls)=some j) (z:∀ p∈j,jg (o p.1) (o p.2)) (hl:ls.length=d.length)
  (hr:∀ (i x:Nat) (r:Rec),ls[i]?=some x->d[i]?=some r->mn x r.rd r.wr r.call r.lo r.hi):xb all d:=by
 intro i k a b s l m A
 have hi:i < d.length:=(Zy.1 l).1
 have hk:k < d.length:=(Zy.1 m).1
 have w:=hr i _ a (Zj (by omega)) l
 have y:=hr k _ b (Zj (by omega)) m
 have B:(ls[i]'(by omega),i)∈ls.zipIdx:=by rw[aax];simp[Zj (show i < ls.length by omega)]
 have mk:(ls[k]'(by omega),k)∈ls.zipIdx:=by rw[aax];simp[Zj (show k < ls.length by omega)]
 by_cases h1:AB all (ls[i]'(by omega)) i (ls[k]'(by omega)) k=true
 .unfold AB at h1
  simp only[s,decide_true,abd,A,abu,aam,aaz,Zw,ZA] at h1
  rcases h1 with ((h1 | h1) | h1) | h1
  .obtain⟨g,f,t,C⟩:=w.1 h1
   exact⟨λid c=>by simp[f] at c,λid _=>by simp[g],λu=>by simp[t] at u,λ_=>f,λid _ D=>by omega⟩
  .obtain⟨g,f,t,C⟩:=y.1 h1
   exact⟨λid _=>by simp[g],λid c=>by simp[f] at c,λ_=>f,λu=>by simp[t] at u,λid c=>by simp[f] at c⟩
  .have g:=w.2 h1.1
   have f:=y.2 h1.2
   exact⟨λid c=>by simp[g] at c,λid c=>by simp[f] at c,λ_=>f,λ_=>g,λid c=>by simp[f] at c⟩
  .exact zb v h1 l m
 .have hm:(i,k)∈ma all ls:=by
   unfold ma
   rw[List.mem_flatMap]
   refine⟨_,B,?_⟩
   rw[aaD]
   exact⟨_,mk,by simp only;rw[Zk h1]⟩
  obtain⟨p,hp,e⟩:=RI h (i,k) hm
  exact QY v e (z p hp) l m
theorem Ig {P:Program} {t:TypeId} {id:Nat} {q:V} {ok:Bool} {H1 a:View} (h:H1 id=a id):gF P t (.mp id) q ok H1=gF P t (.mp id) q ok a:=by
 unfold gF
 simp only[h]
theorem N6 {P:Program} {t:TypeId} {id:Nat} {q:V} {H1 a:View} (h:H1 id=a id):eT P t (.mp id) q H1=eT P t (.mp id) q a:=by
 cases hm:dK P t with
 | none=>simp only[eT,hm]
 | some x=>simp only[eT,hm,h]
theorem Uw {P:Program} {t:TypeId} {id:Nat} {q:V} {H:View} {v:V} {eff:bH} {rd:List Nat} (h:gF P t (.mp id) q false H=some (v,eff,rd)):eff=.none/\rd=[id]:=by
 simp only[gF,ZM,if_false] at h
 repeat' (first | (simp only[Zl,Zo] at h;exact⟨h.2.1.symm,h.2.2.symm⟩)|(split at h)|(simp at h;done))
theorem QD {P:Program} {t:TypeId} {id:Nat} {q:V} {H:View} {v:V} {eff:bH} {rd:List Nat} (h:eT P t (.mp id) q H=some (v,eff,rd)):∃ obj,eff=.fK id obj:=by
 cases hm:dK P t with
 | none=>simp[eT,hm] at h
 | some x =>
  simp only[eT,hm] at h
  repeat' (first | (simp only[Zl,Zo] at h;exact⟨_,h.2.1.symm⟩)|(split at h)|(simp at h;done))
theorem KJ {o:Oper} {T:Env} {h f:aF} {v:V} {rd wr:List Nat} {call:Bool} (st:eh P n all o T h v f rd wr call) (g:dM n all T o=some true) (i:∀ e x,o.op≠.box e x) (j:∀ s d x,o.op≠.convert s d x) (hl:∀ c,o.op≠.call c) :
  ∃ eff,cx P o T h.view h.length=some (v,eff,rd)/\f=eff.apply h/\wr=eff.wr/\call=false:=by
 cases st with
 | skip hs=>rw[g] at hs;simp at hs
 | op _ b=>exact⟨_,b,rfl,rfl,rfl⟩
 | kf _ a _=>exact absurd a (i _ _)
 | hX _ a _ _ _ _=>exact absurd a (j _ _ _)
 | call _ a _ _ _ _ _=>exact absurd a (hl _)
theorem Wa {a:List Rec} {e:Nat->Env} {hs:Nat->aF} {vs:Nat->V} (c:C4 P n all a e hs vs) (hl:a.length=all.length) {k:Nat} (hk:k<=all.length) (hw:∀ j r,j < k->a[j]?=some r->r.wr=[]) :
  ∀ j,j<=k->(hs 0).length<=(hs j).length/\∀ id,id < (hs 0).length->(hs j).view id=(hs 0).view id:=by
 intro j
 induction j with
 | zero=>intro _;exact⟨Zt _,λ_ _=>rfl⟩
 | succ j f =>
  intro h
  obtain⟨d,g⟩:=f (by omega)
  obtain⟨st,_,_,_,_⟩:=c j all[j] (a[j]'(by omega)) (Zj (by omega)) (Zj (by omega))
  refine⟨aai d (vJ st),λid b=>?_⟩
  rw[tM st (ZX b d) (by rw[hw j _ (by omega) (Zj (by omega))];simp)]
  exact g id b
theorem rU {a:List Rec} {b:Nat->Env} {hs:Nat->aF} {vs:Nat->V} (c:C4 P n all a b hs vs) (hl:a.length=all.length) {i t:Nat} (h:stays all i t=true):∀ j,i<=j->j<=all.length->b j t=b i t:=by
 intro j d e
 refine Co (vs:=vs) (N:=all.length) (λk o hk=>?_) rfl i j d e λk o h1 l f=>zr h o (by
  rw[List.mem_iff_getElem?]
  exact⟨k - i,by rw[abp,show i+(k - i)=k by omega];exact f⟩)
 have g:k < all.length:=(Zy.1 hk).1
 exact(c k o (a[k]'(by omega)) hk (Zj (by omega))).2.2.1
theorem J9 {ls:List Nat} {d:List Rec} {T I:Env} {hp bb:aF} {W:List (Nat × Nat)} {tp:Option (Nat × Nat)} (tr:Tr P n all all T hp d I bb) (h:xE all (IV all ls tp)=some W) (hA:∀ p∈W,jg (I p.1) (I p.2)) (hl:ls.length=d.length)
  (hr:∀ (i x:Nat) (r:Rec),ls[i]?=some x->d[i]?=some r->mn x r.rd r.wr r.call r.lo r.hi) (X:∀ p,tp=some p->∃ D,IQ all ls p.1 p.2=some D/\N4 P D.1 (I D.2.1) (I D.2.2) hp.view):OE P n all d T I hp:=by
 have main:∀ i k a b,i < k->d[i]?=some a->d[k]?=some b->ordered (gD all []) i k=false->tp≠some (i,k)->qh a b:=by
  intro i k a b K V S ho bd
  have hi:i < d.length:=(Zy.1 V).1
  have hk:k < d.length:=(Zy.1 S).1
  have la:=hr i _ a (Zj (by omega)) V
  have lb:=hr k _ b (Zj (by omega)) S
  have mi:(ls[i]'(by omega),i)∈ls.zipIdx:=by rw[aax];simp[Zj (show i < ls.length by omega)]
  have mk:(ls[k]'(by omega),k)∈ls.zipIdx:=by rw[aax];simp[Zj (show k < ls.length by omega)]
  by_cases h1:AB all (ls[i]'(by omega)) i (ls[k]'(by omega)) k=true
  .unfold AB at h1
   simp only[K,decide_true,abd,ho,abu,aam,aaz,Zw,ZA] at h1
   rcases h1 with ((h1 | h1) | h1) | h1
   .obtain⟨y,s,Y,e4⟩:=la.1 h1
    exact⟨λid c=>by simp[s] at c,λid _=>by simp[y],λZ=>by simp[Y] at Z,λ_=>s,λid _ hx=>by omega⟩
   .obtain⟨y,s,Y,e4⟩:=lb.1 h1
    exact⟨λid _=>by simp[y],λid c=>by simp[s] at c,λ_=>s,λZ=>by simp[Y] at Z,λid c=>by simp[s] at c⟩
   .have y:=la.2 h1.1
    have s:=lb.2 h1.2
    exact⟨λid c=>by simp[y] at c,λid c=>by simp[s] at c,λ_=>s,λ_=>y,λid c=>by simp[s] at c⟩
   .exact zb tr h1 V S
  .have hm:(i,k)∈ma all ls:=by
    unfold ma
    rw[List.mem_flatMap]
    refine⟨_,mi,?_⟩
    rw[aaD]
    exact⟨_,mk,by simp only;rw[Zk h1]⟩
   by_cases hn:newAt all k=true
   .unfold newAt at hn
    split at hn
    .rename_i ob L
     obtain⟨T1,cj,v,J,rd,wr,call,bl,y,s,_⟩:=tr.at_ k ob L
     rw[S] at y
     have y:=abt y
     subst y
     obtain⟨n1,n2,n3⟩:=Dq s hn
     exact⟨λid _=>by simp[n1],λid c=>by simp[n2] at c,λ_=>n2,λZ=>by simp[n3] at Z,λid c=>by simp[n2] at c⟩
    .simp at hn
   .obtain⟨p,hp,e⟩:=Pf h (i,k) (by
     unfold IV
     rw[aag]
     refine⟨hm,?_⟩
     simp only[Zw,abv,abo,ne_eq]
     exact⟨by simpa using hn,bd⟩)
    exact Oc tr e (λq hq=>hA q (hp q hq)) V S
 cases tp with
 | none=>exact xb.X9 λi k a b h1 J h3 h4=>main i k a b h1 J h3 h4 (by simp)
 | some p =>
  obtain⟨i0,C⟩:=p
  obtain⟨D,f,u⟩:=X _ rfl
  intro M hs vs ck N an E w i
  by_cases hi:i=i0
  .subst hi
   refine⟨some C,λk a b h1 J h3 h4 h5=>main i k a b h1 J h3 h4 (λe=>h5 (by simp at e;rw[e])),λk a b o hk V S ho=>?_⟩
   simp at hk;subst hk
   unfold IQ at f
   simp only at f
   split at f
   .rename_i oa ob O L
    rw[ho] at O
    have O:=abt O
    subst O
    split at f
    .rename_i t m q t' m' q' l z bn bq
     split at f
     .rename_i F
      simp only[Zw,aaz,ZA,ZZ,aap] at F
      obtain⟨⟨⟨⟨⟨⟨⟨⟨rfl,rfl⟩,rfl⟩,s1⟩,s2⟩,s3⟩,s4⟩,K⟩,U⟩:=F
      simp only[Zl] at f
      subst f
      simp only at u
      have br:C < all.length:=(Zy.1 L).1
      have bs:∀ j r,j < C->d[j]?=some r->r.wr=[]:=λj r hj bx=>by
       have h1:=U j hj
       have aq:j < ls.length:=by omega
       rw[Zi,Zj aq] at h1
       exact(hr j _ r (Zj aq) bx).2 h1
      have G:=Wa w E (Nat.le_of_lt br) bs
      have em:∀ j,i<=j->j<=all.length->M j m=I m:=λj h1 J=>by
       rw[<-an,rU w E s1 j h1 J,rU w E s1 all.length (by omega) (Zt _)]
      have eq:∀ j,i<=j->j<=all.length->M j q=I q:=λj h1 J=>by
       rw[<-an,rU w E s2 j h1 J,rU w E s2 all.length (by omega) (Zt _)]
      obtain⟨b0,_,_,b1,b2⟩:=w i o a ho V
      obtain⟨b3,_,_,_,_⟩:=w C ob b L S
      have gi:dM n all (M i) o=some true:=by unfold dM;rw[bn]
      have gk:dM n all (M C) ob=some true:=by unfold dM;rw[bq]
      unfold N4 at u
      split at u
      .rename_i id c
       obtain⟨⟨cr,c0,H⟩,u⟩:=u
       have Q:id < hp.length:=jj (by rw[H];simp)
       have ar:(hs C).view id=hp.view id:=by rw[(G C (Zt _)).2 id (by rw[N];exact Q),N]
       have a1:(hs i).view id=hp.view id:=by rw[(G i (Nat.le_of_lt K)).2 id (by rw[N];exact Q),N]
       obtain⟨cg,A,b4,b5,b7⟩:=KJ b0 gi (by rw[l];simp) (by rw[l];simp) (by rw[l];simp)
       obtain⟨ch,B,b8,b9,cu⟩:=KJ b3 gk (by rw[z];simp) (by rw[z];simp) (by rw[z];simp)
       simp only[cx,l] at A
       simp only[cx,z] at B
       have y:ev (M i) (.tmp m)=.mp id:=(em i (Zt _) (by omega)).trans c
       have s:ev (M i) (.tmp q)=I q:=eq i (Zt _) (by omega)
       have Y:ev (M C) (.tmp m)=.mp id:=(em C (by omega) (by omega)).trans c
       have e4:ev (M C) (.tmp q)=I q:=eq C (by omega) (by omega)
       rw[y,s] at A
       rw[Y,e4,N6 ar] at B
       obtain⟨l1,l2⟩:=Uw A
       obtain⟨obj,l3⟩:=QD B
       subst l1 l3
       have ca:(hs (C+1)).view id=obj:=by
        rw[b8,mR (λcv R=>by
         simp only[bH.wr,aaj] at R
         subst R
         rw[ar,H];simp)]
        simp[bH.view,View.set]
       refine⟨K,b5,b7,by rw[b1,b2,b4];rfl,λg hg cc=>?_⟩
       have a6:id < (hs i).length:=jj (by rw[a1,H];simp)
       have a7:g.view id=(hp.view.set id obj) id:=by
        rw[cc id a6,b9,Zn (by simp[bH.wr]),ca]
        simp[View.set]
       have cf:=u _ _ _ B
       have a8:cx P o (M i) g.view g.length=some (vs i,.none,a.rd):=by
        simp only[cx,l]
        rw[y,s,Ig a7,cf,<-Ig a1]
        exact A
       exact .op gi a8
      .exact u.elim
     .simp at f
    .simp at f
   .simp at f
  .exact⟨none,λk a b h1 J h3 h4 _=>main i k a b h1 J h3 h4 (λe=>hi (by simp at e;exact e.1.symm)),λk a b o h1=>by simp at h1⟩
theorem Ve (hm:P.follows .mixedOrders=true) {p:Fz} {id:Nat} {ops:Array Oper} {q:SC} {T:Env} {h:aF} {Q:Exit->Env->View->Prop} (a:D8 P n p ops.toList=some q) (hw:wS P q T h.view Q) :
  ∃ e g d,dp P n (.region id ops true) T h e g d/\(jY h d/\h.length<=d.length)/\Q e g d.view:=by
 unfold D8 at a
 split at a
 .simp at a
 .rename_i l hl
  split at a
  .simp at a
  .rename_i b
   have b:(group l).all wu=true:=by simpa using b
   have j:dV P n ops.toList p ops.toList=some (lR (group l)):=by rw[iv];exact hl
   split at a
   .rename_i v
    simp only[Zu] at a
    obtain⟨w,k,rfl⟩:=a
    obtain⟨f,g,d,t,m,hk,c⟩:=Bg (group l) ops.toList T h j b hw
    rw[iv] at c
    refine⟨.normal,g,d,?_,m,hk.rest⟩
    have o:xb ops.toList f:=Un t k (Dv hk) (by simpa using c.1) (λi x r u hr=>by
     simp only[Zm,Zu] at u
     obtain⟨s,hs,rfl⟩:=u
     exact c.2 i s r hs hr)
    simpa using BJ hm (id:=id) t v o
   .simp at a
theorem TI (hm:P.follows .mixedOrders=true) {z:Fz} {id:Nat} {ops:Array Oper} {A:SC} {T:Env} {h:aF} {Q:Exit->Env->View->Prop} (b:EH P n z ops.toList=some A) (hw:wS P A T h.view Q) :
  ∃ e k d,dp P n (.region id ops true) T h e k d/\(jY h d/\h.length<=d.length)/\Q e k d.view:=by
 unfold EH at b
 split at b
 .simp at b
 .rename_i l hl
  split at b
  .simp at b
  .rename_i c
   have c:(group l).all wu=true:=by simpa using c
   have m:dV P n ops.toList z ops.toList=some (lR (group l)):=by rw[iv];exact hl
   split at b
   .rename_i B
    split at b
    .simp only[Zu] at b
     obtain⟨v,f,rfl⟩:=b
     obtain⟨o,k,d,q,g,hk,a⟩:=Bg (group l) ops.toList T h m c hw
     rw[iv] at a
     refine⟨.normal,k,d,?_,g,hk.rest⟩
     have j:=J9 q f (Dv hk) (by simpa using a.1) (λi x r t hr=>by
      simp only[Zm,Zu] at t
      obtain⟨s,hs,rfl⟩:=t
      exact a.2 i s r hs hr) (λp hp=>by simp at hp)
     simpa using zd hm (id:=id) q B j
    .rename_i p hp
     split at b
     .rename_i w y
      simp only[Zu] at b
      obtain⟨v,f,rfl⟩:=b
      obtain⟨o,k,d,q,g,hk,a⟩:=Bg (group l) ops.toList T h m c hw
      rw[iv] at a
      refine⟨.normal,k,d,?_,g,hk.2.rest⟩
      have j:=J9 q f (Dv hk.2) (by simpa using a.1) (λi x r t hr=>by
       simp only[Zm,Zu] at t
       obtain⟨s,hs,rfl⟩:=t
       exact a.2 i s r hs hr) (λC u=>by
        simp only[Zl] at u
        subst u
        exact⟨w,y,hk.1⟩)
      simpa using zd hm (id:=id) q B j
     .simp at b
   .simp at b
theorem uE (hm:P.follows .mixedOrders=true) {t:Fz} {id:Nat} {ops:Array Oper} {draw quiet:Bool} {u:SC} {T:Env} {h:aF} {Q:Exit->Env->View->Prop} (a:tH P n t ops.toList draw quiet=some u) (hw:wS P u T h.view Q) :
  ∃ e d c,dp P n (.region id ops draw) T h e d c/\(jY h c/\h.length<=c.length)/\Q e d c.view:=by
 unfold tH at a
 split at a
 .simp at a
 .rename_i l hl
  split at a
  .simp at a
  .rename_i f
   have f:(group l).all wu=true:=by simpa using f
   have k:dV P n ops.toList t ops.toList=some (lR (group l)):=by rw[iv];exact hl
   have key:Aj P quiet (group l) T h.view (Q .normal)->(draw=true->nG ops.toList=true/\IL ops.toList (l.map λs=>jT P quiet s.b)=true) ->
     ∃ e d c,dp P n (.region id ops draw) T h e d c/\(jY h c/\h.length<=c.length)/\Q e d c.view:=by
    intro hw m
    obtain⟨j,d,c,o,p,hk,g⟩:=Bg (group l) ops.toList T h k f hw
    rw[iv] at g
    refine⟨.normal,d,c,?_,p,hk⟩
    cases hd:draw with
    | false=>simpa using Jd (id:=id) o
    | true =>
     obtain⟨h1,w⟩:=m hd
     have q:xb ops.toList j:=Tu o w (by simpa using g.1) (λi x r v hr=>by
      simp only[Zm,Zu] at v
      obtain⟨s,hs,rfl⟩:=v
      exact g.2 i s r hs hr)
     simpa using BJ hm (id:=id) o h1 q
   split at a
   .rename_i hd
    split at a
    .rename_i y
     simp at a;subst a
     exact key hw (λ_=>by simpa using y)
    .simp at a
   .rename_i hd
    simp at a;subst a
    exact key hw (λe=>absurd e hd)
theorem fW {a b:Option SC} {c:SC} (h:orElse' a b=some c):a=some c∨b=some c:=by
 cases a with
 | none=>exact .inr h
 | some x=>exact .inl h
theorem PL (hm:P.follows .mixedOrders=true) {k:List Nat} {id:Nat} {ops:Array Oper} {draw:Bool} {i:SC} {T:Env} {h:aF} {Q:Exit->Env->View->Prop} (c:Fy P n k ops.toList draw=some i) (hw:wS P i T h.view Q) :
  ∃ e j b,dp P n (.region id ops draw) T h e j b/\(jY h b/\h.length<=b.length)/\Q e j b.view:=by
 unfold Fy at c
 rcases fW c with h1 | h1
 .exact uE hm h1 hw
 .clear c
  split at h1
  .rename_i hd
   subst hd
   rcases fW h1 with a | h1
   .split at a
    .exact TI hm a hw
    .simp at a
   rcases fW h1 with a | h1
   .split at a
    .exact uE hm a hw
    .simp at a
   rcases fW h1 with d | d
   .exact Ve hm d hw
   .rcases fW d with f | f
    .exact uE hm f hw
    .rcases fW f with g | g
     .exact uE hm g hw
     .exact uE hm g hw
  .simp at h1
theorem Hx {e:Exit} {a b:Prop} (h:CG e a b):(e=.normal/\a)∨(e≠.normal/\b):=by
 cases e with
 | normal=>exact .inl ⟨rfl,h⟩
 | _=>exact .inr ⟨by simp,h⟩
def tQ (P:Program) (n:Nat) (fz:List Nat) (c:Code):Prop:=∀ sc:SC,dw P n fz c=some sc->∀ (T:Env) (h:aF) (Q:Exit->Env->View->Prop),wS P sc T h.view Q ->
 ∃ e T' h',dp P n c T h e T' h'/\(jY h h'/\h.length<=h'.length)/\Q e T' h'.view
theorem Hs {b:List Nat} : tQ P n b .skip:=by
 intro c a T h Q hw;simp[dw] at a;subst a;exact⟨_,T,h,.skip,⟨.refl _,Zt _⟩,hw⟩
theorem I9 {f:List Nat} {x y:Code} (g:tQ P n f x) (i:tQ P n f y):tQ P n f (.seq x y):=by
 intro t c T h Q hw
 simp only[dw] at c
 split at c
 .rename_i a b h1 p
  simp at c;subst c
  simp only[wS] at hw
  obtain⟨e,m,d,o,st1,hq⟩:=g a h1 T h _ hw
  rcases Hx hq with ⟨rfl,hq⟩ | ⟨j,hq⟩
  .obtain⟨q,r,k,s,st2,l⟩:=i b p m d _ hq
   exact⟨q,r,k,o.seq s,⟨st1.1.trans st2.1 st1.2,aai st1.2 st2.2⟩,l⟩
  .exact⟨e,m,d,o.Mq j,st1,hq⟩
 .simp at c
theorem qq {b:Fz} {ops:List Oper} {draw quiet:Bool} {a:SC} (h:tH P n b ops draw quiet=some a) (l:Nat):qa a l=none:=by
 unfold tH at h
 repeat' (first | (simp only[Zl] at h;subst h;rfl)|(split at h)|(simp at h;done))
theorem OC {b:Fz} {ops:List Oper} {a:SC} (h:D8 P n b ops=some a) (l:Nat):qa a l=none:=by
 unfold D8 at h
 repeat' (first | (simp only[Zu] at h;obtain⟨_,_,rfl⟩:=h;rfl)|(split at h)|(simp at h;done))
theorem PD {b:Fz} {ops:List Oper} {a:SC} (h:EH P n b ops=some a) (l:Nat):qa a l=none:=by
 unfold EH at h
 repeat' (first | (simp only[Zu] at h;obtain⟨_,_,rfl⟩:=h;rfl)|(split at h)|(simp at h;done))
theorem PC {f:List Nat} {ops:List Oper} {draw:Bool} {e:SC} (h:Fy P n f ops draw=some e) (l:Nat):qa e l=none:=by
 unfold Fy at h
 rcases fW h with h1 | h1
 .exact qq h1 l
 .split at h1
  .rcases fW h1 with a | h1
   .split at a
    .exact PD a l
    .simp at a
   rcases fW h1 with a | h1
   .split at a
    .exact qq a l
    .simp at a
   rcases fW h1 with b | b
   .exact OC b l
   .rcases fW b with c | c
    .exact qq c l
    .rcases fW c with d | d
     .exact qq d l
     .exact qq d l
  .simp at h1
theorem RP {j:List Nat} : ∀ (c:Code) (f:SC),dw P n j c=some f->∀ l,match findLabel c l with
  | some rest=>∃ r,qa f l=some r/\dw P n j rest=some r
  | none=>qa f l=none:=by
 intro c
 induction c with
 | seq x y h i =>
  intro f d l
  simp only[dw] at d
  split at d
  .rename_i a b h1 k
   simp at d;subst d
   have g:=h a h1 l
   have o:=i b k l
   simp only[findLabel,qa]
   cases m:findLabel x l with
   | some rx =>
    rw[m] at g
    obtain⟨r,p,q⟩:=g
    exact⟨.seq r b,by rw[p],by simp only[dw,q,k]⟩
   | none =>
    rw[m] at g
    simp only at g ⊢
    rw[g]
    exact o
  .simp at d
 | label l' =>
  intro f d l
  simp[dw] at d;subst d
  simp only[findLabel,qa]
  by_cases e:(l' == l)=true
  .rw[Zn e];exact⟨.skip,by rw[Zn e],by simp[dw]⟩
  .rw[Zk e];simp only;rw[Zk e]
 | region id ops draw=>intro f d l;simp only[dw] at d;simp only[findLabel];exact PC d l
 | cond x y z _ _ =>
  intro f d l
  simp only[dw] at d
  split at d
  .simp at d;subst d;rfl
  .simp at d
 | block id c _=>intro f d l;simp only[dw,Zu] at d;obtain⟨_,_,rfl⟩:=d;rfl
 | loop c _=>intro f d l;simp only[dw,Zu] at d;obtain⟨_,_,rfl⟩:=d;rfl
 | scope c _ =>
  intro f d l
  simp only[dw] at d
  split at d
  .split at d
   .simp only[Zu] at d;obtain⟨_,_,rfl⟩:=d;rfl
   .simp at d
  .simp at d
 | skip=>intro f d l;simp[dw] at d;subst d;rfl
 | exit id=>intro f d l;simp[dw] at d;subst d;rfl
 | ret=>intro f d l;simp[dw] at d;subst d;rfl
 | goto l'=>intro f d l;simp[dw] at d;subst d;rfl
 | _=>intro f d;simp[dw] at d
theorem Pa {u:List Nat} {c:Code} (E:tQ P n u c) (hr:∀ l rest,findLabel c l=some rest->tQ P n u rest):tQ P n u (.scope c):=by
 intro G d T h Q hw
 simp only[dw] at d
 split at d
 .rename_i a h1
  split at d
  .rename_i l H
   simp only[Zu] at d
   obtain⟨r,v,rfl⟩:=d
   have j:=RP c a h1 l
   cases m:findLabel c l with
   | none=>rw[m] at j;simp only at j;rw[j] at v;simp at v
   | some rest =>
    rw[m] at j
    obtain⟨J,s,o⟩:=j
    rw[v] at s
    have s:=abt s
    subst s
    simp only[wS] at hw
    obtain⟨I,K,w,x⟩:=hw
    have go:∀ k T (h:aF),I k T h.view->∃ e D t,tS P n c rest T h e D t/\(jY h t/\h.length<=t.length)/\Q e D t.view:=by
     intro k
     induction k using Nat.strongRecOn with
     | ind k y =>
      intro T h F
      obtain⟨e,p,b,q,st1,hq⟩:=hr l rest m r o T h _ (x k T h.view F)
      cases e with
      | goto l' =>
       obtain⟨rfl,z,A,f⟩:=hq
       obtain⟨o,B,g,C,st2,i⟩:=y z A p b f
       exact⟨o,B,g,tS.jump q m C,⟨st1.1.trans st2.1 st1.2,aai st1.2 st2.2⟩,i⟩
      | _=>exact⟨_,p,b,.out q rfl,st1,hq⟩
    obtain⟨e,p,b,q,st1,hq⟩:=E a h1 T h _ w
    cases e with
    | goto l' =>
     obtain⟨rfl,z,_,f⟩:=hq
     obtain⟨o,B,g,C,st2,i⟩:=go z p b f
     exact⟨o,B,g,.scope (tS.jump q m C),⟨st1.1.trans st2.1 st1.2,aai st1.2 st2.2⟩,i⟩
    | _=>exact⟨_,p,b,.scope (.out q rfl),st1,hq⟩
  .simp at d
 .simp at d
theorem UK (hm:P.follows .mixedOrders=true) {D:List Nat} : ∀ c:Code,tQ P n D c/\∀ l rest,findLabel c l=some rest->tQ P n D rest:=by
 intro c
 induction c with
 | skip=>exact⟨Hs,λl rest h=>by simp[findLabel] at h⟩
 | region id ops draw=>exact⟨λo d T h Q hw=>PL hm d hw,λl rest h=>by simp[findLabel] at h⟩
 | seq x y m g =>
  refine⟨I9 m.1 g.1,λl rest h=>?_⟩
  simp only[findLabel] at h
  split at h
  .rename_i r hr
   simp only[Zl] at h;subst h
   exact I9 (m.2 _ _ hr) g.1
  .exact g.2 _ _ h
 | cond c x y m g =>
  refine⟨?_,λl rest h=>by simp[findLabel] at h⟩
  intro o d T h Q hw
  simp only[dw] at d
  split at d
  .rename_i a b h1 G
   simp at d;subst d
   simp only[wS] at hw
   split at hw
   .rename_i t s
    have E:rT (SX.of c) t T=T:=by
     unfold rT
     split
     .rename_i k hk
      rw[hk] at s
      exact DP s
     .rfl
    rw[SX.cZ] at s
    cases t with
    | true =>
     have:=hw.1 rfl
     rw[E] at this
     obtain⟨e,i,f,j,st,hq⟩:=m.1 a h1 T h Q this
     exact⟨e,i,f,.cond s j,st,hq⟩
    | false =>
     have:=hw.2 rfl
     rw[E] at this
     obtain⟨e,i,f,j,st,hq⟩:=g.1 b G T h Q this
     exact⟨e,i,f,.cond s j,st,hq⟩
   .exact hw.elim
  .simp at d
 | block id c q =>
  refine⟨?_,λl rest h=>by simp[findLabel] at h⟩
  intro o d T h Q hw
  simp only[dw,Zu] at d
  obtain⟨a,h1,rfl⟩:=d
  simp only[wS] at hw
  obtain⟨e,i,f,j,st,hq⟩:=q.1 a h1 T h _ hw
  exact⟨_,i,f,j.block,st,hq⟩
 | loop c q =>
  refine⟨?_,λl rest h=>by simp[findLabel] at h⟩
  intro o d T h Q hw
  simp only[dw,Zu] at d
  obtain⟨a,h1,rfl⟩:=d
  simp only[wS] at hw
  obtain⟨I,⟨k,hk⟩,p⟩:=hw
  have go:∀ k T (h:aF),I k T h.view->∃ e i f,rN P n c T h e i f/\(jY h f/\h.length<=f.length)/\Q e i f.view:=by
   intro k
   induction k using Nat.strongRecOn with
   | ind k v =>
    intro T h H
    obtain⟨e,F,u,j,st1,hq⟩:=q.1 a h1 T h _ (p k T h.view H)
    rcases Hx hq with ⟨rfl,J,w,z⟩ | ⟨A,hq⟩
    .obtain⟨K,L,B,M,st2,C⟩:=v J w F u z
     exact⟨K,L,B,.step j M,⟨st1.1.trans st2.1 st1.2,aai st1.2 st2.2⟩,C⟩
    .exact⟨e,F,u,.out j A,st1,hq⟩
  obtain⟨e,i,f,j,st,hq⟩:=go k T h hk
  exact⟨e,i,f,.loop j,st,hq⟩
 | exit id=>exact⟨λo d T h Q hw=>by simp[dw] at d;subst d;exact⟨_,T,h,.exit,⟨.refl _,Zt _⟩,hw⟩,λl rest h=>by simp[findLabel] at h⟩
 | ret=>exact⟨λo d T h Q hw=>by simp[dw] at d;subst d;exact⟨_,T,h,.ret,⟨.refl _,Zt _⟩,hw⟩,λl rest h=>by simp[findLabel] at h⟩
 | label l'=>exact⟨λo d T h Q hw=>by simp[dw] at d;subst d;exact⟨_,T,h,.label,⟨.refl _,Zt _⟩,hw⟩,λl rest h=>by
   simp only[findLabel] at h
   split at h
   .simp only[Zl] at h;subst h;exact Hs
   .simp at h⟩
 | goto l'=>exact⟨λo d T h Q hw=>by simp[dw] at d;subst d;exact⟨_,T,h,.goto,⟨.refl _,Zt _⟩,hw⟩,λl rest h=>by simp[findLabel] at h⟩
 | scope c q=>exact⟨Pa q.1 q.2,λl rest h=>by simp[findLabel] at h⟩
 | _=>exact⟨λo d=>by simp[dw] at d,λl rest h=>by simp[findLabel] at h⟩
theorem XG (hm:P.follows .mixedOrders=true) {f:List Nat} (c:Code) (b:SC) (g:dw P n f c=some b) (T:Env) (h:aF) (Q:Exit->Env->View->Prop) (hw:wS P b T h.view Q) :
 ∃ e d a,dp P n c T h e d a/\(jY h a/\h.length<=a.length)/\Q e d a.view:=(UK hm c).1 b g T h Q hw
theorem X0 {T:Env} {h:aF} {r:ResultVar} {l:List SR} {rest:List ResultVar} (b:gE P (r :: rest)=some l):∃ s l',l=s :: l'/\gE P rest=some l'/\∀ K:V->Prop,wR T h.view s K->∃ v,uK P T h r=some v/\K v:=by
 cases r with
 | tmp t =>
  simp only[gE,Zu] at b
  obtain⟨l',h1,rfl⟩:=b
  exact⟨.tmp t,l',rfl,h1,λK hk=>⟨_,rfl,hk⟩⟩
 | cell a t =>
  simp only[gE] at b
  split at b
  .rename_i k l' h1 g
   simp at b;subst b
   refine⟨.cell a k,l',rfl,g,λK hk=>?_⟩
   simp only[wR] at hk
   simp only[uK,od,yA h1]
   split at hk
   .rename_i id i j c
    split at hk
    .rename_i es hH
     obtain⟨d,hk⟩:=hk
     obtain⟨v,f,hk⟩:=rB hk
     exact⟨v,by rw[c];simp only[hH];rw[Zn d,f];rfl,hk⟩
    .exact hk.elim
   .rename_i e j c
    obtain⟨v,f,hk⟩:=rB hk
    exact⟨v,by rw[c];simp only;rw[f];rfl,hk⟩
   .exact hk.elim
  .simp at b
theorem Sz {T:Env} {h:aF} {K:List V->Prop} : ∀ (rs:List ResultVar) (l:List SR) (acc:List V),gE P rs=some l->FC T h.view l acc K->∃ vs,nC P T h rs=some vs/\K (acc ++ vs)
 | [],l,acc,a,hw=>by simp[gE] at a;subst a;exact⟨[],rfl,by simpa [FC] using hw⟩
 | r :: rest,l,acc,a,hw=>by
  obtain⟨s,l',rfl,h1,c⟩:=X0 (T:=T) (h:=h) a
  simp only[FC] at hw
  obtain⟨v,d,hk⟩:=c _ hw
  obtain⟨vs,b,hk⟩:=Sz rest l' (acc ++ [v]) h1 hk
  exact⟨v :: vs,by simp[nC,d,b],by simpa using hk⟩
def wF (P:Program) (F:SF) (vs:List V) (H:View) (K:V->View->Prop):Prop :=
 vs.length<=F.n/\wS P F.code (mE vs) H λe T' H'=>(e=.ret∨e=.normal)/\FC T' H' F.res [] λl=>K (zG l) H'
theorem au.of (hm:P.follows .mixedOrders=true) {f:FuncId} {j:List Nat} {F:SF} (b:aN P f j=some F) {vs:List V} {H:View} {K:V->View->Prop} (hw:wF P F vs H K):au P f vs H K:=by
 unfold aN at b
 split at b
 .rename_i fn g
  split at b
  .rename_i c k
   split at b
   .rename_i m rs h1 n o
    simp at b;subst b
    refine⟨o,?_⟩
    rintro h rfl
    obtain⟨e,r,p,q,st,he,hr⟩:=XG hm c m h1 _ h _ hw.2
    obtain⟨d,i,hk⟩:=Sz _ _ [] n hr
    refine⟨zG d,p,bZ.Mg g k hw.1 q he ?_,st.1,by simpa using hk⟩
    unfold Pd
    rw[i]
    cases d with
    | nil=>rfl
    | cons a l=>cases l <;> rfl
   .simp at b
  .simp at b
 .simp at b
theorem au.mono {f:FuncId} {vs:List V} {H:View} {K c:V->View->Prop} (h:au P f vs H K) (hk:∀ r H',K r H'->c r H'):au P f vs H c :=
 ⟨h.1,λd e=>let ⟨r,g,a,s,b⟩:=h.2 d e; ⟨r,g,a,s,hk _ _ b⟩⟩
theorem az.Pn {f:FuncId} {vs:List V} {H:View} {t:V} {K:V->View->Prop} (h:az P f vs t) (a:dS P f=true) (hk:K t H):EZ P f vs H K :=
 ⟨a,λb e=>⟨t,b,bZ.hU h b,λ_ _=>rfl,e ▸ hk⟩⟩
theorem au.Pn {f:FuncId} {vs:List V} {H:View} {K:V->View->Prop} (h:au P f vs H λr H'=>(∀ id,H id≠.dead->H' id=H id)/\K r H'):EZ P f vs H K :=
 ⟨h.1,λb e=>by
  obtain⟨r,d,g,st,c,hk⟩:=h.2 b e
  refine⟨r,d,g,λid a=>?_,hk⟩
  by_cases hd:b.view id=.dead
  .rw[hd];exact st id a hd
  .rw[<-e] at c;exact c id hd⟩
end
inductive cO {α:Type} (x:α):Type where
 | mk
def gx (s:ByteArray):List Int:=s.data.toList.map λb=>(b.toNat:Int)
theorem fC (s:ByteArray):s.size=(gx s).length:=by rw[gx,Zr,bsize]
def aR (P:Program) (c:SC) (T:Env) (H:View) (Q:Exit->Env->View->Prop) (_:cO (T,H,Q)):Prop:=wS P (.loop c) T H Q
def WW (P:Program) (l:Nat) (c r:SC) (T:Env) (H:View) (Q:Exit->Env->View->Prop) (_:cO (T,H,Q)):Prop:=wS P (.scope l c r) T H Q
def ax (P:Program) (quiet:Bool) (f:FuncId) (vs:List V) (H:View) (K:V->View->Prop) (_:cO (H,K)):Prop :=
 if quiet then EZ P f vs H K else au P f vs H K
def FL {α:Type} (v:α) (F:α->Prop) (_:cO F):Prop:=F v
def eJ (v:V) (F:V->Prop) (_:cO F):Prop:=F v
def JC (o:cU) (F:cU->Prop) (_:cO F):Prop:=F o
def si {α:Type} (o:Option α) (F:Option α->Prop) (_:cO F):Prop:=F o
def ah (b:Bool) (A B:Prop) (_:cO (A,B)):Prop:=(b=true->A)/\(b=false->B)
theorem Yc {α:Type} (v:α) (F:α->Prop) (w:cO F):FL v F w=F v:=propext Iff.rfl
section
variable (F:V->Prop) (w:cO F)
theorem NB (v:Value):eJ (.val v) F w=F (.val v):=propext Iff.rfl
theorem Mn (k:Nat):eJ (.emp k) F w=F (.emp k):=propext Iff.rfl
theorem Mr:eJ .ef F w=F .ef:=propext Iff.rfl
theorem NZ (es:List (List V)):eJ (.aD es) F w=F (.aD es):=propext Iff.rfl
theorem Th (a b c d:Nat):eJ (.sl a b c d) F w=F (.sl a b c d):=propext Iff.rfl
theorem MR (a b c:Nat):eJ (.ptr a b c) F w=F (.ptr a b c):=propext Iff.rfl
theorem Jv (e:List V) (j:Nat):eJ (.aI e j) F w=F (.aI e j):=propext Iff.rfl
theorem Qs (a:Nat):eJ (.mp a) F w=F (.mp a):=propext Iff.rfl
theorem Rt (f:FuncId) (a b:List V):eJ (.fn f a b) F w=F (.fn f a b):=propext Iff.rfl
theorem Nz (cs:List V):eJ (.agg cs) F w=F (.agg cs):=propext Iff.rfl
theorem NM (cs:List V):eJ (.bt cs) F w=F (.bt cs):=propext Iff.rfl
end
theorem Mv (F:cU->Prop) (w:cO F) (k:Nat) (es:List (List V)):JC (.arr k es) F w=F (.arr k es):=propext Iff.rfl
theorem L8 (F:cU->Prop) (w:cO F) (es:List (V × V × Nat)) (k:Nat):JC (.map es k) F w=F (.map es k):=propext Iff.rfl
theorem K5 {α:Type} (F:Option α->Prop) (w:cO F) (x:α):si (some x) F w=F (some x):=propext Iff.rfl
theorem Lf (A B:Prop) (w:cO (A,B)):ah true A B w=A:=by simp[ah]
theorem G9 (A B:Prop) (w:cO (A,B)):ah false A B w=B:=by simp[ah]
theorem Mb (b:Bool) (A B:Prop) (w:cO (A,B)):ah (!b) A B w=ah b B A .mk:=by cases b <;> simp[ah]
theorem ah.split {b:Bool} {A B:Prop} {w:cO (A,B)} (h1:b=true->A) (a:b=false->B):ah b A B w:=⟨h1,a⟩
theorem ah.dec {p:Prop} [Decidable p] {A B:Prop} {w:cO (A,B)} (h1:p->A) (a:¬ p->B):ah (decide p) A B w:=⟨λh=>h1 (by simpa using h),λh=>a (by simpa using h)⟩
theorem ah.eq {a b:Int} {A B:Prop} {w:cO (A,B)} (h1:a=b->A) (c:¬ a=b->B):ah (a == b) A B w:=⟨λh=>h1 (by simpa using h),λh=>c (by simpa using h)⟩
theorem ah.ne {a b:Int} {A B:Prop} {w:cO (A,B)} (h1:¬ a=b->A) (c:a=b->B):ah (a != b) A B w:=⟨λh=>h1 (by simpa using h),λh=>c (by simpa using h)⟩
section
variable (P:Program) (T:Env) (H:View)
theorem Vy (F:SF) (vs:List V) (K:V->View->Prop):wF P F vs H K=(vs.length<=F.n/\wS P F.code (mE vs) H λe a H'=>(e=.ret∨e=.normal)/\FC a H' F.res [] λl=>FL (zG l) (λv=>K v H') .mk):=propext Iff.rfl
theorem MN (Q:Exit->Env->View->Prop):wS P .skip T H Q=Q .normal T H:=propext Iff.rfl
theorem G5 (q:Bool) (gs:List SG) (Q:Exit->Env->View->Prop):wS P (.region q gs) T H Q=Aj P q gs T H (Q .normal):=propext Iff.rfl
theorem EW (a:List (Nat × Nat)) (gs:List SG) (Q:Exit->Env->View->Prop):wS P (.kU a gs) T H Q=Aj P false gs T H (λb H'=>BW a b (Q .normal b H')):=propext Iff.rfl
theorem Fq (a:Nat × Nat × Nat) (b:List (Nat × Nat)) (gs:List SG) (Q:Exit->Env->View->Prop):wS P (.Gi a b gs) T H Q=Aj P false gs T H (λc H'=>N4 P a.1 (c a.2.1) (c a.2.2) H/\BW b c (Q .normal c H')):=propext Iff.rfl
theorem MP (K:Prop):BW [] T K=K:=propext Iff.rfl
theorem Ja (a b:Nat) (l:List (Nat × Nat)) (K:Prop):BW ((a,b) :: l) T K=(jg (T a) (T b)/\BW l T K):=propext Iff.rfl
theorem L5 (i j k a b c:Nat):jg (.ptr i j k) (.ptr a b c)=(i≠a):=propext Iff.rfl
theorem B8 (i j k a b c d:Nat):jg (.ptr i j k) (.sl a b c d)=(i≠a):=propext Iff.rfl
theorem yx (i j k e:Nat):jg (.ptr i j k) (.emp e)=True:=id rfl
theorem JJ (i j k:Nat):jg (.ptr i j k) .ef=True:=id rfl
theorem Je (i j k:Nat) (es:List (List V)):jg (.ptr i j k) (.aD es)=True:=id rfl
theorem M1 (a b c d e f g h:Nat):jg (.sl a b c d) (.sl e f g h)=(a≠e):=propext Iff.rfl
theorem Sb (a b c d e:Nat):jg (.sl a b c d) (.emp e)=True:=id rfl
theorem RU (a b c d:Nat):jg (.sl a b c d) .ef=True:=id rfl
theorem QZ (a b c d:Nat) (es:List (List V)):jg (.sl a b c d) (.aD es)=True:=id rfl
theorem NX (k:Nat) (v:V):jg (.emp k) v=True:=by cases v <;> rfl
theorem Mf (v:V):jg .ef v=True:=by cases v <;> rfl
theorem NH (es:List (List V)) (v:V):jg (.aD es) v=True:=by cases v <;> rfl
theorem KX (e:List V) (j:Nat) (v:V):jg (.aI e j) v=True:=by cases v <;> rfl
theorem QB (x y:SC) (Q:Exit->Env->View->Prop):wS P (.seq x y) T H Q=wS P x T H λe a H'=>CG e (wS P y a H' Q) (Q e a H'):=propext Iff.rfl
theorem LZ (c:SX) (x y:SC) (Q:Exit->Env->View->Prop):wS P (.cond c x y) T H Q=eJ (c.at T) (λv=>match v with
 | .val (.bool b)=>ah b (wS P x (rT c true T) H Q) (wS P y (rT c false T) H Q) .mk
 | _=>False) .mk:=propext Iff.rfl
theorem Kr (id:Nat) (c:SC) (Q:Exit->Env->View->Prop):wS P (.block id c) T H Q=wS P c T H λe=>Q (rK id e):=propext Iff.rfl
theorem ND (id:Nat) (Q:Exit->Env->View->Prop):wS P (.exit id) T H Q=Q (.exit id) T H:=propext Iff.rfl
theorem SH (Q:Exit->Env->View->Prop):wS P .ret T H Q=Q .ret T H:=propext Iff.rfl
theorem Kw (l:Nat) (c r:SC) (Q:Exit->Env->View->Prop):wS P (.scope l c r) T H Q=WW P l c r T H Q .mk:=propext Iff.rfl
theorem J3 (l:Nat) (Q:Exit->Env->View->Prop):wS P (.label l) T H Q=Q .normal T H:=propext Iff.rfl
theorem Mc (l:Nat) (Q:Exit->Env->View->Prop):wS P (.goto l) T H Q=Q (.goto l) T H:=propext Iff.rfl
theorem D9 (l l':Nat) (a b:Prop):Cs l (.goto l') a b=(l'=l/\a):=propext Iff.rfl
theorem AO (l:Nat) (a b:Prop):Cs l .normal a b=b:=propext Iff.rfl
theorem Ek (l i:Nat) (a b:Prop):Cs l (.exit i) a b=b:=propext Iff.rfl
theorem HK (l:Nat) (a b:Prop):Cs l .ret a b=b:=propext Iff.rfl
theorem K8 (l:Nat) (a b:Prop):CG (.goto l) a b=b:=propext Iff.rfl
theorem Fv (i l:Nat):rK i (.goto l)=.goto l:=id rfl
theorem Ng (c:SC) (Q:Exit->Env->View->Prop):wS P (.loop c) T H Q=aR P c T H Q .mk:=propext Iff.rfl
theorem L6 (q:Bool) (K:Env->View->Prop):Aj P q [] T H K=K T H:=propext Iff.rfl
theorem Jm (q:Bool) (g:SG) (r:List SG) (K:Env->View->Prop):Aj P q (g :: r) T H K=wG P q g T H λa H'=>Aj P q r a H' K:=propext Iff.rfl
theorem Nu (q:Bool) (ops:List (Option Nat × SB)) (K:Env->View->Prop):wG P q ⟨none,ops⟩ T H K=BZ P q ops T H K:=propext Iff.rfl
theorem Nq (q:Bool) (d:Nat) (ops:List (Option Nat × SB)) (K:Env->View->Prop):wG P q ⟨some (d,true),ops⟩ T H K=eJ (T d) (λv=>match v with
 | .val (.bool b)=>ah b (BZ P q ops (T.put (some d) (.val (.bool true))) H K) (K (jE ops (T.put (some d) (.val (.bool false)))) H) .mk
 | .bt []=>K (jE ops T) H
 | _=>False) .mk:=propext Iff.rfl
theorem Kl (q:Bool) (d:Nat) (ops:List (Option Nat × SB)) (K:Env->View->Prop):wG P q ⟨some (d,false),ops⟩ T H K=eJ (T d) (λv=>match v with
  | .val (.bool b)=>ah b (K (jE ops (T.put (some d) (.val (.bool true)))) H) (BZ P q ops (T.put (some d) (.val (.bool false))) H K) .mk
  | .bt []=>K (jE ops T) H
  | _=>False) .mk:=by
 simp only[wG,eJ]
 generalize T d=v
 cases v with
 | val x=>cases x <;> simp[ah,and_comm]
 | bt l=>cases l <;> simp
 | _=>simp
theorem CE:jE [] T=T:=id rfl
theorem BK (d:Option Nat) (b:SB) (r:List (Option Nat × SB)):jE ((d,b) :: r) T=jE r (T.put d (.bt [])):=id rfl
theorem NF (q:Bool) (K:Env->View->Prop):BZ P q [] T H K=K T H:=propext Iff.rfl
theorem Kz (q:Bool) (d:Option Nat) (b:SB) (r:List (Option Nat × SB)) (K:Env->View->Prop):BZ P q ((d,b) :: r) T H K=wB P q b T H λv H'=>FL v (λv'=>BZ P q r (T.put d v') H' K) .mk:=propext Iff.rfl
theorem VB (q:Bool) (s:SI) (K:V->View->Prop):wB P q (.op s) T H K=wI P s T H K:=propext Iff.rfl
theorem MB (q:Bool) (f:SX) (args:List SX) (K:V->View->Prop):wB P q (.call f args) T H K=eJ (f.at T) (λv=>match v with
 | .fn g first cap=>ax P q g (first ++ args.map (SX.at T) ++ cap) H K .mk
 | _=>False) .mk:=propext Iff.rfl
theorem Kc (q:Bool) (f:SX) (args:List SX) (K:V->View->Prop):wB P q (.yG f args) T H K=eJ (f.at T) (λv=>match v with
 | .fn g first cap=>ax P true g (first ++ args.map (SX.at T) ++ cap) H K .mk
 | _=>False) .mk:=propext Iff.rfl
theorem P4 (x:SX) (K:V->View->Prop):wI P (.er x) T H K=K (x.at T) H:=propext Iff.rfl
theorem MU (c a b:SX) (K:V->View->Prop):wI P (.pick c a b) T H K=eJ (c.at T) (λv=>match v with
  | .val (.bool t)=>ah t (K (a.at T) H) (K (b.at T) H) .mk
  | _=>False) .mk:=by
 simp only[wI,eJ]
 generalize c.at T=v
 cases v with
 | val x =>
  cases x with
  | bool t=>cases t <;> simp[ah]
  | _=>simp
 | _=>simp
theorem Sm (x:SX) (K:V->View->Prop):wI P (.box x) T H K=eJ (x.at T) (λv=>v.cells.all aL=true/\FL v.cells (λcs=>∀ n,H n=.dead->K (.ptr n 0 0) (H.set n (.arr cs.length [cs]))) .mk) .mk:=propext Iff.rfl
theorem RQ (x:SX) (K:V->View->Prop):wI P (.kf x) T H K=eJ (x.at T) (λv=>v.cells.all aL=true/\FL v.cells (λcs=>K (.aI cs 0) H) .mk) .mk:=propext Iff.rfl
theorem K0 (z:List V) (K:V->View->Prop):wI P (.alloc z) T H K=(z.all aL=true/\∀ n,H n=.dead->K (.ptr n 0 0) (H.set n (.arr z.length [z]))):=propext Iff.rfl
theorem M4 (sz:Option Nat) (a:SX) (K:V->View->Prop):wI P (.load sz a) T H K=eJ (a.at T) (λv=>match v with
 | .ptr id i j=>JC (H id) (λo=>match o with
  | .arr _ es=>i < es.length/\FL (es.getD i []) (λe=>kG sz e j λv=>K v H) .mk
  | _=>False) .mk
 | .aI e j=>kG sz e j λv=>K v H
 | _=>False) .mk:=propext Iff.rfl
theorem Kt (sz:Option Nat) (a:SX) (K:V->View->Prop):wI P (.Ci sz a) T H K=eJ (a.at T) (λv=>match v with
 | .aI e j=>kG sz e j λv=>K v H
 | _=>False) .mk:=propext Iff.rfl
theorem I7 (sz:Nat) (a x:SX) (K:V->View->Prop):wI P (.store sz a x) T H K=eJ (a.at T) (λv=>match v with
 | .ptr id i j=>JC (H id) (λo=>match o with
  | .arr esz es=>FL (x.at T).cells (λcs=>(i < es.length/\cs.length=sz/\j+cs.length<=esz/\cs.all aL=true) /\
   FL (es.set i (gm (es.getD i []) j cs)) (λes'=>K .any (H.set id (.arr esz es'))) .mk) .mk
  | _=>False) .mk
 | _=>False) .mk:=propext Iff.rfl
theorem MX (x:SX) (K:V->View->Prop):wI P (.Dn x) T H K=eJ (x.at T) (λv=>match v with
 | .ptr id i j=>K (.ptr id i j) H
 | .aI e j=>K (.aI e j) H
 | .fn f a b=>K (.fn f a b) H
 | _=>False) .mk:=propext Iff.rfl
theorem Nc (off:Nat) (x:SX) (K:V->View->Prop):wI P (.addr off x) T H K=eJ (x.at T) (λv=>match v with
 | .ptr id i j=>K (.ptr id i (j+off)) H
 | .aI e j=>K (.aI e (j+off)) H
 | _=>False) .mk:=propext Iff.rfl
theorem Jo (off:Nat) (sz:Option Nat) (x:SX) (K:V->View->Prop):wI P (.field off sz x) T H K=eJ (x.at T) (λv=>match v with
 | .agg cs=>kG sz cs off λv=>K v H
 | _=>False) .mk:=propext Iff.rfl
theorem SP (sz:Nat) (x i:SX) (K:V->View->Prop):wI P (.idx sz x i) T H K=si (asNat (i.at T)) (λo=>match o with
  | none=>False
  | some q=>eJ (x.at T) (λv=>match v with
   | .sl id off len esz=>(q < len/\esz=sz)/\K (.ptr id (off+q) 0) H
   | .aD es=>si es[q]? (λo=>match o with
    | some e=>e.length=sz/\K (.aI e 0) H
    | none=>False) .mk
   | _=>False) .mk) .mk:=by
 simp only[wI,si,eJ]
 cases asNat (i.at T) with
 | none=>rfl
 | some q =>
  simp only
  cases x.at T with
  | aD es =>
   simp only
   cases h:es[q]? with
   | none=>simp
   | some e=>simp
  | _=>rfl
theorem Nl (f:FuncId) (first cap:List SX) (K:V->View->Prop):wI P (.uS f first cap) T H K=K (.fn f (first.map (SX.at T)) (cap.map (SX.at T))) H:=propext Iff.rfl
theorem JD (K:V->View->Prop):wI P .pA T H K=(∀ n,H n=.dead->K (.mp n) (H.set n (.map [] 0))):=propext Iff.rfl
theorem Rj (i:Nat) (x:SX) (K:V->View->Prop):wI P (.ext i x) T H K=eJ (x.at T) (λv=>match v with
 | .bt vs=>i < vs.length/\K (vs.getD i .any) H
 | _=>False) .mk:=propext Iff.rfl
theorem Q3 (x:SX) (K:V->View->Prop):wI P (.len x) T H K=si (cT (x.at T)) (λo=>match o with
 | some n=>K (jd n) H
 | none=>False) .mk:=propext Iff.rfl
theorem Mt (x:SX) (K:V->View->Prop):wI P (.rD x) T H K=eJ (x.at T) (λv=>match v with
 | .val (.string s)=>K (jd s.size) H
 | _=>False) .mk:=propext Iff.rfl
theorem JF (op:BinOp) (x y:SX) (K:V->View->Prop):wI P (.arith op x y) T H K=eJ (x.at T) (λv=>eJ (y.at T) (λv'=>match v,v' with
 | .val (.int k a),.val (.int c b)=>k=c/\si (iW op k a b) (λo=>match o with | some v=>K (.val v) H | none=>False) .mk
 | _,_=>False) .mk) .mk:=propext Iff.rfl
theorem Vu (l:Bool) (x y:SX) (K:V->View->Prop):wI P (.sh l x y) T H K=eJ (x.at T) (λv=>eJ (y.at T) (λv'=>match v,v' with
 | .val (.int k a),.val (.int _ b)=>0<=b/\K (.val (.int k (GH l k a b))) H
 | _,_=>False) .mk) .mk:=propext Iff.rfl
theorem QF (op:BinOp) (x y:SX) (K:V->View->Prop):wI P (.zX op x y) T H K=eJ (x.at T) (λv=>eJ (y.at T) (λv'=>match v,v' with
 | .val (.string a),.val (.string b)=>(match op with
  | .eql=>K (.val (.bool (jR a b))) H
  | .neq=>K (.val (.bool (!jR a b))) H
  | _=>False)
 | _,_=>False) .mk) .mk:=propext Iff.rfl
theorem MQ (x i:SX) (K:V->View->Prop):wI P (.jk x i) T H K=eJ (x.at T) (λv=>si (asNat (i.at T)) (λo=>match v,o with
  | .val (.string s),some q=>si (gx s)[q]? (λo=>match o with
   | some c=>K (.val (.int .u8 c)) H
   | none=>False) .mk
  | _,_=>False) .mk) .mk:=by
 simp only[wI,si,eJ]
 generalize x.at T=v
 generalize asNat (i.at T)=o
 cases v with
 | val u =>
  cases u with
  | string s =>
   cases o with
   | none=>rfl
   | some q =>
    simp only[gx,Zm]
    cases h:s.data.toList[q]? with
    | none=>simp
    | some e=>simp
  | _=>rfl
 | _=>rfl
theorem P6 (x:SX) (K:V->View->Prop):wI P (.not x) T H K=eJ (x.at T) (λv=>match v with
 | .val (.bool t)=>K (.val (.bool (!t))) H
 | _=>False) .mk:=propext Iff.rfl
theorem RT (eq:Bool) (k:Nat) (x y:SX) (K:V->View->Prop):wI P (.nil eq k x y) T H K=si (Da (fN k (x.at T)) (fN k (y.at T))) (λo=>match o with
 | some b=>K (.val (.bool (if eq=true then b else !b))) H
 | none=>False) .mk:=propext Iff.rfl
theorem NA (x y:SX) (K:V->View->Prop):wI P (.beq true x y) T H K=eJ (x.at T) (λv=>eJ (y.at T) (λv'=>match v,v' with
 | .val (.bool a),.val (.bool b)=>K (.val (.bool (a == b))) H
 | _,_=>False) .mk) .mk:=propext Iff.rfl
theorem ML (x y:SX) (K:V->View->Prop):wI P (.beq false x y) T H K=eJ (x.at T) (λv=>eJ (y.at T) (λv'=>match v,v' with
 | .val (.bool a),.val (.bool b)=>K (.val (.bool (a != b))) H
 | _,_=>False) .mk) .mk:=propext Iff.rfl
theorem Rb (x y:SX) (K:V->View->Prop):wI P (.mm true x y) T H K=eJ (x.at T) (λv=>eJ (y.at T) (λv'=>match v,v' with
 | .val (.int k a),.val (.int _ b)=>K (.val (.int k (if b > a then b else a))) H
 | _,_=>False) .mk) .mk:=propext Iff.rfl
theorem RH (x y:SX) (K:V->View->Prop):wI P (.mm false x y) T H K=eJ (x.at T) (λv=>eJ (y.at T) (λv'=>match v,v' with
 | .val (.int k a),.val (.int _ b)=>K (.val (.int k (if b < a then b else a))) H
 | _,_=>False) .mk) .mk:=propext Iff.rfl
theorem NP (k:IntKind) (x:SX) (K:V->View->Prop):wI P (.conv k x) T H K=eJ (x.at T) (λv=>match v with
 | .val (.int _ a)=>K (.val (.int k (k.wrap a))) H
 | _=>False) .mk:=propext Iff.rfl
theorem JQ (n k:Nat) (o:cU):View.set H n o k=if k=n then o else H k:=id rfl
theorem JO (z:List V) (parts:List (Nat × Nat × SX)) (K:V->View->Prop):wI P (.build z parts) T H K=si (nJ z (parts.map λp=>(p.1,p.2.1,p.2.2.at T))) (λo=>match o with
 | some cs=>K (.agg cs) H
 | none=>False) .mk:=propext Iff.rfl
theorem G2 (len sz:Nat) (z:List V) (parts:List (Nat × SX)) (K:V->View->Prop):wI P (.bO len sz z parts) T H K=si (mT sz (List.replicate len z) (parts.map λp=>(p.1,p.2.at T))) (λo=>match o with
 | some es=>∀ n,H n=.dead->K (.sl n 0 len sz) (H.set n (.arr sz es))
 | none=>False) .mk:=propext Iff.rfl
theorem K6 (sz:Nat) (x:SX) (lo hi:Option SX) (K:V->View->Prop):wI P (.slice sz x lo hi) T H K=si (dE sz (x.at T) (lo.map (SX.at T)) (hi.map (SX.at T))) (λo=>match o with
 | some (v,.none,_)=>K v H
 | _=>False) .mk:=propext Iff.rfl
theorem Ml (sz bytes:Nat) (z:List V) (l c:SX) (K:V->View->Prop):wI P (.make sz bytes z l c) T H K=si (asNat (l.at T)) (λa=>si (asNat (c.at T)) (λb=>match a,b with
 | some l,some c=>(l<=c/\c < aA/\bytes * c < aA)/\(c=0->K (.emp 2) H)/\(c≠0->∀ n,H n=.dead->K (.sl n 0 l sz) (H.set n (.arr sz (List.replicate l z))))
 | _,_=>False) .mk) .mk:=propext Iff.rfl
def nZ (sz bytes:Nat) (x:V) (xs:List (List V)) (H:View) (K:V->View->Prop) (_:cO (H,K)):Prop:=if xs.isEmpty=true then (match x with
  | .emp k=>K (.emp k) H
  | .ef=>K .ef H
  | .aD es=>K (.aD es) H
  | .sl a b c d=>K (.sl a b c d) H
  | _=>False)
 else (xs.all λe=>e.length == sz && e.all aL)=true/\(match x with
  | .emp _=>(xs.length * bytes < aA/\xs.length < aA)/\∀ n,H n=.dead->K (.sl n 0 xs.length sz) (H.set n (.arr sz xs))
  | .sl id off len esz=>match H id with
   | .arr _ es=>(off+len<=es.length/\esz=sz/\(len+xs.length) * bytes < aA/\len+xs.length < aA) /\
    ∀ n,H n=.dead->K (.sl n 0 (len+xs.length) esz) ((H.set id .dead).set n (.arr esz ((es.drop off).take len ++ xs)))
   | _=>False
  | _=>False)
theorem R4 (sz bytes:Nat) (x y:SX) (K:V->View->Prop):wI P (.app sz bytes x y) T H K=si (bR H (y.at T)) (λo=>match o with
 | some (xs,_)=>nZ sz bytes (x.at T) xs H K .mk
 | none=>False) .mk:=propext Iff.rfl
theorem BI (sz bytes k:Nat) (xs:List (List V)) (K:V->View->Prop) (w:cO (H,K)) (a:xs.isEmpty=false):nZ sz bytes (.emp k) xs H K w=((xs.all λe=>e.length == sz && e.all aL)=true/\(xs.length * bytes < aA/\xs.length < aA)/\∀ n,H n=.dead->K (.sl n 0 xs.length sz) (H.set n (.arr sz xs))):=by
 unfold nZ;rw[Zk (by rw[a];simp)]
theorem zR (sz bytes id off len esz:Nat) (xs:List (List V)) (K:V->View->Prop) (w:cO (H,K)) (a:xs.isEmpty=false):nZ sz bytes (.sl id off len esz) xs H K w=((xs.all λe=>e.length == sz && e.all aL)=true/\JC (H id) (λo=>match o with
  | .arr _ es=>(off+len<=es.length/\esz=sz/\(len+xs.length) * bytes < aA/\len+xs.length < aA) /\
   ∀ n,H n=.dead->K (.sl n 0 (len+xs.length) esz) ((H.set id .dead).set n (.arr esz ((es.drop off).take len ++ xs)))
  | _=>False) .mk):=by
 unfold nZ JC;rw[Zk (by rw[a];simp)]
theorem tT (id off len esz z:Nat) (es:List (List V)) (hH:H id=.arr z es) (hl:off+(len+1)<=es.length):bR H (.sl id off (len+1) esz)=some ((es.drop off).take (len+1),[id]):=by
 simp only[bR,hH];rw[Zn hl]
theorem Cx (es:List (List V)):bR H (.aD es)=some (es,[]):=id rfl
theorem wV (k:Nat):bR H (.emp k)=some ([],[]):=id rfl
theorem MI (x:SX) (K:V->View->Prop):wI P (.Gc x) T H K=eJ (x.at T) (λv=>match v with
 | .aD es=>si (mo es) (λo=>match o with
  | some l=>K (.val (.string ⟨l.toArray⟩)) H
  | none=>False) .mk
 | _=>False) .mk:=propext Iff.rfl
theorem LW (x:SX) (K:V->View->Prop):wI P (.hX x) T H K=eJ (x.at T) (λv=>match v with
 | .val (.string s)=>K (.aD (iD s)) H
 | _=>False) .mk:=propext Iff.rfl
def j5 (P:Program) (op:Op) (ty:TypeId) (T:Env) (H:View) (K:V->View->Prop) (_:cO (T,H,K)):Prop:=wI P (.old op ty) T H K
theorem Si (op:Op) (ty:TypeId) (K:V->View->Prop):wI P (.old op ty) T H K=j5 P op ty T H K .mk:=propext Iff.rfl
theorem Rc (t:Nat):ev T (.tmp t)=T t:=id rfl
theorem J8 (v:Value):ev T (.const v)=gq v:=id rfl
theorem Sg (t:Nat):(SX.tmp t).at T=T t:=id rfl
theorem Ti (v:V):(SX.val v).at T=v:=id rfl
theorem ME (d t:Nat) (v:V):(T.put (some d) v) t=if t=d then v else T t:=id rfl
theorem KI (v:V):T.put none v=T:=id rfl
theorem KW (vs:List V) (t:Nat):mE vs t=vs.getD t .any:=id rfl
theorem D1 (e:List V) (j:Nat) (K:V->Prop):kG none e j K=(j < e.length/\K (e.getD j .any)):=propext Iff.rfl
theorem DT (n:Nat) (e:List V) (j:Nat) (K:V->Prop):kG (some n) e j K=(j+n<=e.length/\K (.agg ((e.drop j).take n))):=propext Iff.rfl
theorem E0 (a b:Prop):CG .normal a b=a:=propext Iff.rfl
theorem I5 (i:Nat) (a b:Prop):CG (.exit i) a b=b:=propext Iff.rfl
theorem Nt (a b:Prop):CG .ret a b=b:=propext Iff.rfl
theorem BD (i:Nat):rK i .normal=.normal:=id rfl
theorem Hf (i:Nat):rK i .ret=.ret:=id rfl
theorem EL (i j:Nat):rK i (.exit j)=if j=i then .normal else .exit j:=by simp only[rK]
theorem LY (acc:List V) (K:List V->Prop):FC T H [] acc K=K acc:=propext Iff.rfl
theorem Ko (r:SR) (l:List SR) (acc:List V) (K:List V->Prop):FC T H (r :: l) acc K=wR T H r λv=>FC T H l (acc ++ [v]) K:=propext Iff.rfl
theorem SQ (t:Nat) (K:V->Prop):wR T H (.tmp t) K=K (T t):=propext Iff.rfl
theorem Np (t:Nat) (sz:Option Nat) (K:V->Prop):wR T H (.cell t sz) K=eJ (T t) (λv=>match v with
 | .ptr id i j=>JC (H id) (λo=>match o with
  | .arr _ es=>i < es.length/\FL (es.getD i []) (λe=>kG sz e j K) .mk
  | _=>False) .mk
 | .aI e j=>kG sz e j K
 | _=>False) .mk:=propext Iff.rfl
theorem Ip (t:Nat) (b:Bool):rT (.tmp t) b T=T.put (some t) (.val (.bool b)):=id rfl
theorem HC (v:V) (b:Bool):rT (.val v) b T=T:=id rfl
theorem RS:(Exit.ret=Exit.ret∨Exit.ret=Exit.normal)=True:=by simp
theorem HJ:(Exit.normal=Exit.ret∨Exit.normal=Exit.normal)=True:=by simp
end
section
variable {P:Program} {T:Env} {H:View}
theorem aR.intro {c:SC} {Q:Exit->Env->View->Prop} {v:cO (T,H,Q)} (I:Nat->Env->View->Prop) (k:Nat) (d:I k T H)
  (hs:∀ k T H,I k T H->wS P c T H λe a H'=>CG e (∃ b,b < k/\I b a H') (Q e a H')):aR P c T H Q v:=by
 simp only[aR,wS]
 exact⟨I,⟨k,d⟩,hs⟩
theorem ax.pure {q:Bool} {f:FuncId} {vs:List V} {K:V->View->Prop} {v:cO (H,K)} {t:V} (b:az P f vs t) (hk:K t H) (a:dS P f=true:=by kernel_rfl):ax P q f vs H K v:=by
 unfold ax
 cases q with
 | true=>exact b.Pn a hk
 | false =>
  refine⟨a,?_⟩
  rintro h rfl
  exact⟨t,h,bZ.hU b h,.refl _,hk⟩
theorem ax.dJ {f:FuncId} {vs:List V} {K:V->View->Prop} {v:cO (H,K)} (a:au P f vs H K):ax P false f vs H K v:=a
theorem GQ:aF.view []=λ_=>cU.dead:=by funext id;simp[aF.view]
theorem az.of {f:FuncId} {vs:List V} {t:V} (b:∀ v∈vs,Tree v) (h:au P f vs (λ_=>.dead) λr H'=>∀ a:aF,a.view=H'->Fr a r t):az P f vs t:=by
 obtain⟨r,a,c,_,d⟩:=h.2 [] GQ
 exact az.yS b c (d a rfl)
theorem wrap64 {x:Int} (h1 : -9223372036854775808<=x) (d:x<=9223372036854775807):IntKind.wrap .i64 x=x:=by
 unfold IntKind.wrap
 have a:(2:Int) ^ IntKind.i64.bits=18446744073709551616:=by rfl
 have b:(2:Int) ^ (IntKind.i64.bits - 1)=9223372036854775808:=by rfl
 have c:IntKind.i64.signed=true:=by rfl
 simp only[a,b,c,aaH,ZA]
 split <;> omega
theorem Ho {k:IntKind} {i:Int} (h:0<=i):asNat (.val (.int k i))=some i.toNat:=by simp[asNat,h]
end
theorem Hj (v:Value):V.cells (.val v)=[.val v]:=id rfl
theorem xQ (v:Value):aL (.val v)=true:=id rfl
theorem G8 (k:Nat):V.cells (.emp k)=[.emp k]:=id rfl
theorem Ch (k:Nat):aL (.emp k)=true:=id rfl
theorem Hg  : V.cells .ef=[.ef]:=id rfl
theorem Mw  : aL .ef=true:=id rfl
theorem Ic (es:List (List V)):V.cells (.aD es)=[.aD es]:=id rfl
theorem NC (es:List (List V)):aL (.aD es)=true:=id rfl
theorem Lc (a b c d:Nat):V.cells (.sl a b c d)=[.sl a b c d]:=id rfl
theorem QL (a b c d:Nat):aL (.sl a b c d)=true:=id rfl
theorem GN (a b c:Nat):V.cells (.ptr a b c)=[.ptr a b c]:=id rfl
theorem L0 (a b c:Nat):aL (.ptr a b c)=true:=id rfl
theorem FK (e:List V) (j:Nat):V.cells (.aI e j)=[.aI e j]:=id rfl
theorem Jl (e:List V) (j:Nat):aL (.aI e j)=true:=id rfl
theorem JM (a:Nat):V.cells (.mp a)=[.mp a]:=id rfl
theorem PT (a:Nat):aL (.mp a)=true:=id rfl
theorem Jh (f:FuncId) (a b:List V):V.cells (.fn f a b)=[.fn f a b]:=id rfl
theorem Qf (f:FuncId) (a b:List V):aL (.fn f a b)=true:=id rfl
theorem GJ (cs:List V):V.cells (.agg cs)=cs:=id rfl
theorem MJ (k:Nat):cT (.emp k)=some 0:=id rfl
theorem NY:cT .ef=some 0:=id rfl
theorem NT (es:List (List V)):cT (.aD es)=some es.length:=id rfl
theorem RG (a b c d:Nat):cT (.sl a b c d)=some c:=id rfl
abbrev Ya {p:Prop} (_:p):Prop:=p
theorem Vr (P:Program) (T:Env) (H:View) (a:SC) (Q:Exit->Env->View->Prop):wS P (ae [a]) T H Q=wS P a T H Q:=by rw[ae]
theorem Vv (P:Program) (T:Env) (H:View) (a b:SC) (l:List SC) (Q:Exit->Env->View->Prop):wS P (ae (a :: b :: l)) T H Q=wS P (.seq a (ae (b :: l))) T H Q:=by rw[ae]
abbrev Wr:Prop:=Ya (And.intro @Vr <| And.intro @Vv <| And.intro @Vy <| And.intro @MN <| And.intro @G5 <| And.intro @EW <| And.intro @Fq <| And.intro @MP <| And.intro @Ja <| And.intro @QB <|
 And.intro @LZ <| And.intro @Kr <| And.intro @ND <| And.intro @SH <| And.intro @Kw <| And.intro @J3 <| And.intro @Mc <| And.intro @D9 <| And.intro @AO <| And.intro @Ek <| And.intro @HK <| And.intro @K8 <| And.intro @Fv <|
 And.intro @Ng <| And.intro @L6 <| And.intro @Jm <| And.intro @Nu <|
 And.intro @Nq <| And.intro @Kl <| And.intro @CE <| And.intro @BK <|
 And.intro @NF <| And.intro @Kz <| And.intro @VB <| And.intro @MB <| And.intro @Kc <|
 And.intro @P4 <| And.intro @MU <| And.intro @Sm <| And.intro @RQ <|
 And.intro @K0 <| And.intro @M4 <| And.intro @Kt <| And.intro @I7 <|
 And.intro @MX <| And.intro @Nc <| And.intro @Jo <| And.intro @SP <|
 And.intro @Nl <| And.intro @JD <| And.intro @Rj <| And.intro @Q3 <|
 And.intro @Mt <| And.intro @JF <| And.intro @Vu <| And.intro @QF <| And.intro @MQ <|
 And.intro @P6 <| And.intro @RT <| And.intro @NA <| And.intro @ML <|
 And.intro @Rb <| And.intro @RH <| And.intro @NP <| And.intro @MI <|
 And.intro @LW <| And.intro @JO <| And.intro @G2 <| And.intro @K6 <|
 And.intro @Ml <| And.intro @R4 <| And.intro @Si <| And.intro @Rc <| And.intro @J8 <| And.intro @Sg <| And.intro @Ti <|
 And.intro @ME <| And.intro @KI <| And.intro @KW <| And.intro @D1 <|
 And.intro @DT <| And.intro @E0 <| And.intro @I5 <| And.intro @Nt <|
 And.intro @BD <| And.intro @Hf <| And.intro @EL <| And.intro @LY <|
 And.intro @Ko <| And.intro @SQ <| And.intro @Np <| And.intro @Ip @HC)
theorem wr:Wr:=⟨@Vr,@Vv,@Vy,@MN,@G5,@EW,@Fq,@MP,@Ja,@QB,@LZ,@Kr,@ND,@SH,@Kw,@J3,@Mc,@D9,@AO,@Ek,@HK,@K8,@Fv,@Ng,@L6,@Jm,@Nu,@Nq,@Kl,@CE,@BK,@NF,@Kz,@VB,@MB,@Kc,@P4,@MU,@Sm,@RQ,@K0,@M4,@Kt,@I7,@MX,@Nc,@Jo,@SP,@Nl,@JD,@Rj,@Q3,@Mt,@JF,@Vu,@QF,@MQ,@P6,@RT,@NA,@ML,@Rb,@RH,@NP,@MI,@LW,@JO,@G2,@K6,@Ml,@R4,@Si,@Rc,@J8,@Sg,@Ti,@ME,@KI,@KW,@D1,@DT,@E0,@I5,@Nt,@BD,@Hf,@EL,@LY,@Ko,@SQ,@Np,@Ip,@HC⟩
theorem Q9:zG []=.bt []:=id rfl
theorem Sf (v:V):zG [v]=v:=id rfl
theorem Qj (v w:V) (l:List V):zG (v :: w :: l)=.bt (v :: w :: l):=id rfl
theorem VL (n:Nat):jd n=.val (.int .i64 n):=id rfl
theorem Jz (e:List V) (j:Nat) (cs:List V):gm e j cs=e.take j ++ cs ++ e.drop (j+cs.length):=id rfl
theorem Ky (z:List V):nJ z []=some z:=id rfl
theorem Ju (z:List V) (o n:Nat) (x:V) (r:List (Nat × Nat × V)):nJ z ((o,n,x) :: r)=if x.cells.length=n/\o+n<=z.length/\x.cells.all aL=true then nJ (gm z o x.cells) r else none:=by rw[nJ]
theorem MY (k:Nat) (z:List (List V)):mT k z []=some z:=by rw[mT]
theorem NR (k:Nat) (z:List (List V)) (i:Nat) (x:V) (r:List (Nat × V)):mT k z ((i,x) :: r)=if x.cells.length=k/\i < z.length/\x.cells.all aL=true then mT k (z.set i x.cells) r else none:=by rw[mT]
theorem Td (b:Bool):Da (some true) (some b)=some b:=id rfl
theorem PK (b:Bool):Da (some b) (some true)=some b:=by cases b <;> rfl
section
variable (k:IntKind) (a b:Int)
theorem MM:iW .add k a b=some (.int k (k.wrap (a+b))):=id rfl
theorem Me:iW .sub k a b=some (.int k (k.wrap (a - b))):=id rfl
theorem Na:iW .mul k a b=some (.int k (k.wrap (a * b))):=id rfl
theorem My:iW .quo k a b=if b=0 then none else some (.int k (k.wrap (a.tdiv b))):=id rfl
theorem M7:iW .rem k a b=if b=0 then none else some (.int k (a.tmod b)):=id rfl
theorem Mo:iW .eql k a b=some (.bool (a == b)):=id rfl
theorem MK:iW .neq k a b=some (.bool (a != b)):=id rfl
theorem NO:iW .lss k a b=some (.bool (a < b)):=id rfl
theorem NG:iW .leq k a b=some (.bool (a<=b)):=id rfl
theorem Nk:iW .gtr k a b=some (.bool (a > b)):=id rfl
theorem Mh:iW .geq k a b=some (.bool (a≥b)):=id rfl
theorem RK:iW .or k a b=some (.int k (k.wrap (BitVec.ofInt k.bits a ||| BitVec.ofInt k.bits b).toNat)):=id rfl
theorem NQ:iW .and k a b=some (.int k (k.wrap (BitVec.ofInt k.bits a &&& BitVec.ofInt k.bits b).toNat)):=id rfl
theorem EB:iW .andNot k a b=some (.int k (k.wrap (BitVec.ofInt k.bits a &&& ~~~(BitVec.ofInt k.bits b)).toNat)):=id rfl
end
theorem Tm:fN 0 (.emp 1)=some true:=id rfl
theorem RY:fN 0 (.emp 2)=some false:=id rfl
theorem MZ:fN 0 .ef=some false:=id rfl
theorem Se (a b n c:Nat):fN 0 (.sl a b (n+1) c)=some false:=id rfl
theorem L4 (e:List V) (l:List (List V)):fN 0 (.aD (e :: l))=some false:=id rfl
theorem Mk (a b c:Nat):fN 1 (.ptr a b c)=some false:=id rfl
theorem Kh (e:List V) (j:Nat):fN 1 (.aI e j)=some false:=id rfl
theorem PZ (a:Nat):fN 2 (.mp a)=some false:=id rfl
theorem Sc (f:FuncId) (a b:List V):fN 3 (.fn f a b)=some false:=id rfl
theorem P5:fN 1 (.val (.pointer none))=some true:=id rfl
theorem Qo:fN 2 (.val (.map none))=some true:=id rfl
theorem Sp:fN 3 (.val .nilFunc)=some true:=id rfl
abbrev Wq:Prop:=Ya (And.intro @Q9 <| And.intro @Sf <| And.intro @Qj <| And.intro @VL <| And.intro @Jz <| And.intro @Ky <| And.intro @Ju <| And.intro @MY <| And.intro @NR <| And.intro @Td <| And.intro @PK <| And.intro @MM <| And.intro @Me <| And.intro @Na <| And.intro @My <| And.intro @M7 <| And.intro @Mo <| And.intro @MK <| And.intro @NO <| And.intro @NG <| And.intro @Nk <| And.intro @Mh <| And.intro @RK <| And.intro @NQ <| And.intro @EB <| And.intro @Tm <| And.intro @RY <| And.intro @MZ <| And.intro @Se <| And.intro @L4 <| And.intro @Mk <| And.intro @Kh <| And.intro @PZ <| And.intro @Sc <| And.intro @P5 <| And.intro @Qo <| And.intro @Sp <| And.intro @eq_self.{1} <| And.intro @ne_eq.{1} <| And.intro @implies_true.{1} <| And.intro @implies_true.{0} <| And.intro @decide_true <| And.intro @decide_false <| And.intro @L5 <| And.intro @B8 <| And.intro @yx <| And.intro @JJ <| And.intro @Je <| And.intro @KX <| And.intro @M1 <| And.intro @Sb <| And.intro @RU <| And.intro @QZ <| And.intro @NX <| And.intro @Mf <| And.intro @NH <| And.intro @Hj <| And.intro @xQ <| And.intro @G8 <| And.intro @Ch <| And.intro @Hg <| And.intro @Mw <| And.intro @Ic <| And.intro @NC <| And.intro @Lc <| And.intro @QL <| And.intro @GN <| And.intro @L0 <| And.intro @FK <| And.intro @Jl <| And.intro @JM <| And.intro @PT <| And.intro @Jh <| And.intro @Qf <| And.intro @GJ <| And.intro @MJ <| And.intro @NY <| And.intro @NT <| And.intro @RG <| And.intro @true_or <| And.intro @or_true <| And.intro @or_false <| And.intro @false_or <|
 And.intro @Yc <| And.intro @NB <| And.intro @Mn <| And.intro @Mr <|
 And.intro @NZ <| And.intro @Th <| And.intro @MR <| And.intro @Jv <|
 And.intro @Qs <| And.intro @Rt <| And.intro @Nz <| And.intro @NM <|
 And.intro @Mv <| And.intro @L8 <| And.intro @K5 <| And.intro @Lf <|
 And.intro @G9 <| And.intro @Mb <| And.intro @List.getD_cons_zero.{0} <| And.intro @List.getD_cons_succ.{0} <|
 And.intro @List.length_cons.{0} <| And.intro @List.length_nil.{0} <| And.intro @List.length_map.{0,0} <| And.intro @wrap64 <|
 And.intro @true_and <| And.intro @and_true <| And.intro @and_self <| And.intro @ZA <|
 And.intro @aaI <| And.intro @List.all_cons.{0} <| And.intro @List.all_nil.{0} <| And.intro @Bool.and_self <|
 And.intro @List.nil_append.{0} <| And.intro @List.cons_append.{0} <| And.intro @aaw <| And.intro @Ho <|
 And.intro @ZK <| And.intro @RS <| And.intro @HJ <| And.intro @bne_iff_ne.{0} <|
 And.intro @beq_iff_eq.{0} <| And.intro @Bool.not_eq_true <| And.intro @abd <| And.intro @Bool.not_false <|
 And.intro @List.append_nil.{0} <| And.intro @List.map_cons.{0,0} <| And.intro @List.map_nil.{0,0} <| And.intro @Bool.true_eq_false <|
 And.intro @ZM <| And.intro @false_implies <| And.intro @true_implies <| And.intro @Bool.not_not <|
 And.intro @List.drop_zero.{0} <| And.intro @JQ <| And.intro @List.set_cons_zero.{0} <| And.intro @List.set_cons_succ.{0} <|
 And.intro @List.drop_nil.{0} <| And.intro @aba <| And.intro @List.replicate_zero.{0} <| And.intro @List.replicate_succ.{0} <|
 And.intro @Cx <| And.intro @wV <| And.intro @BI <| And.intro @zR <|
 And.intro @List.isEmpty_cons.{0} <| And.intro @Option.map_none.{0,0} <| And.intro @Option.map_some.{0,0} <| And.intro @Nat.succ_ne_zero <|
 And.intro @List.take_succ_cons.{0} <| And.intro @List.take_zero.{0} <| And.intro @List.drop_succ_cons.{0} <| And.intro @bne_eq_false_iff_eq.{0} <|
 And.intro @beq_eq_false_iff_ne.{0} <| And.intro @not_true_eq_false <| And.intro @not_false_eq_true @Decidable.not_not)
theorem wq:Wq:=⟨@Q9,@Sf,@Qj,@VL,@Jz,@Ky,@Ju,@MY,@NR,@Td,@PK,@MM,@Me,@Na,@My,@M7,@Mo,@MK,@NO,@NG,@Nk,@Mh,@RK,@NQ,@EB,@Tm,@RY,@MZ,@Se,@L4,@Mk,@Kh,@PZ,@Sc,@P5,@Qo,@Sp,@eq_self,@ne_eq,@implies_true,@implies_true,@decide_true,@decide_false,@L5,@B8,@yx,@JJ,@Je,@KX,@M1,@Sb,@RU,@QZ,@NX,@Mf,@NH,@Hj,@xQ,@G8,@Ch,@Hg,@Mw,@Ic,@NC,@Lc,@QL,@GN,@L0,@FK,@Jl,@JM,@PT,@Jh,@Qf,@GJ,@MJ,@NY,@NT,@RG,@true_or,@or_true,@or_false,@false_or,@Yc,@NB,@Mn,@Mr,@NZ,@Th,@MR,@Jv,@Qs,@Rt,@Nz,@NM,@Mv,@L8,@K5,@Lf,@G9,@Mb,@aat,@aa8,@ZB,@ZW,@Zr,@wrap64,@true_and,@and_true,@and_self,@ZA,@aaI,@aaG,@List.all_nil,@Bool.and_self,@aar,@Z4,@aaw,@Ho,@ZK,@RS,@HJ,@abo,@aaz,@Bool.not_eq_true,@abd,@Bool.not_false,@aav,@ZJ,@aaK,@Bool.true_eq_false,@ZM,@false_implies,@true_implies,@Bool.not_not,@aaE,@JQ,@List.set_cons_zero,@List.set_cons_succ,@List.drop_nil,@aba,@List.replicate_zero,@List.replicate_succ,@Cx,@wV,@BI,@zR,@List.isEmpty_cons,@Option.map_none,@Zq,@Nat.succ_ne_zero,@aa7,@List.take_zero,@List.drop_succ_cons,@bne_eq_false_iff_eq,@beq_eq_false_iff_ne,@not_true_eq_false,@not_false_eq_true,@Decidable.not_not⟩
inductive DJ:V->Prop
 | val (v:Value):DJ (.val v)
 | bt (cs:List V):(∀ i,i < cs.length->∃ v,cs.getD i .any=.val v)->DJ (.bt cs)
theorem Tv {Z d:Nat->Prop} {μ μ':Mu} {hp b:Array Obj} {t:V} {x:Value} (e:DJ t) (h:aC Z μ hp t x):aC d μ' b t x:=by
 cases e with
 | val=>cases h with | val _ a=>exact .val _ a
 | bt cs f =>
  cases h with
  | bt _ c h1 g =>
   refine .bt _ _ h1 λi hi=>?_
   have:=g i hi
   obtain⟨v,a⟩:=f i hi
   rw[a] at this ⊢
   generalize c.getD i undef=y at this ⊢
   cases this with | val _ a=>exact .val _ a
theorem bZ.borrow {P:Program} {f:FuncId} {d vs:List V} {t:V} {h:aF} (p:az P f d t) (q:DJ t) (hl:d.length=vs.length)
  (j:∀ i,i < vs.length->Fr h (vs.getD i .any) (d.getD i .any)):bZ P f vs h t h:=by
 refine⟨Zt _,λZ μ F w xs c hr k=>?_⟩
 have l:gS (λb=>Z b∨j6 μ b) μ w.heap d xs:=⟨by rw[hl,c.1],λi hi=>E2 hr (j i (by omega)) (c.2 i (by omega))⟩
 have m:∀ b,(Z b∨j6 μ b)->b < w.heap.size:=by
  rintro b (a | ⟨id,o,s,a⟩)
  .exact hr.c4 b a
  .exact hr.lt _ _ _ _ a
 refine(p _ μ w xs l m).mono ?_
 rintro e w' ⟨x,v,rfl,r,hs,y,u,g⟩
 have hm:iO Z Z μ μ w.heap w'.heap:=⟨λ_ h=>h,λb a=>g b (hr.c4 b a) (λx=>x),λ_ _ h=>h,g.sJ⟩
 exact⟨x,Z,μ,rfl,Tv q (r μ),⟨λid=>(hr.obj id).mono hm rfl (λb o s n=>g b (hr.lt _ _ _ _ n) (λx=>x)),hr.inj,λid b o s n=>ZX (hr.lt _ _ _ _ n) hs.size,λb a=>ZX (hr.c4 b a) hs.size,hr.iJ⟩,
  ⟨hs,hm,λb a _=>g b a (λx=>x),λb a=>.inl a,λ_ _ _ _ h=>.inl h⟩,λ_ _=>rfl⟩
def ep (H:View) (v t:V):Prop:=∀ h:aF,h.view=H->Fr h v t
theorem ep.tree {H:View} {v:V} (h:Tree v):ep H v v:=λ_ _=>.tree _ h
theorem ep.sl {H:View} {id off len esz z:Nat} {es:List (List V)} (hH:H id=.arr z es) (hle:off+len<=es.length) (c:∀ e∈es,∀ v∈e,Tree v) :
  ep H (.sl id off len esz) (.aD ((es.drop off).take len)):=by
 rintro h rfl
 have b:∀ i,i < len->((es.drop off).take len).getD i []=es.getD (off+i) []:=λi hi=>by
  simp[Zi,aaZ,hi]
 refine .sl id off len esz z es _ hH hle (by simp;omega) (λi hi=>by rw[b i hi]) (λi j hi a=>?_)
 rw[b i hi] at a ⊢
 refine .tree _ ?_
 have h1:off+i < es.length:=by omega
 have d:es.getD (off+i) []=es[off+i]:=by simp[Zi,h1]
 rw[d] at a ⊢
 have f:(es[off+i]).getD j .any=(es[off+i])[j]:=by simp[Zi,a]
 rw[f]
 exact c _ (Zs _) _ (Zs _)
theorem ax.borrow {P:Program} {q:Bool} {f:FuncId} {H:View} {vs c:List V} {K:V->View->Prop} {v:cO (H,K)} {t:V} (d:az P f c t) (a:dS P f=true) (g:DJ t) (hl:c.length=vs.length)
  (b:∀ i,i < vs.length->ep H (vs.getD i .any) (c.getD i .any)) (hk:K t H):ax P q f vs H K v:=by
 unfold ax
 cases q with
 | true=>exact⟨a,λh e=>⟨t,h,bZ.borrow d g hl (λi hi=>b i hi h e),λ_ _=>rfl,e ▸ hk⟩⟩
 | false =>
  refine⟨a,?_⟩
  rintro h rfl
  exact⟨t,h,bZ.borrow d g hl (λi hi=>b i hi h rfl),.refl _,hk⟩
abbrev gi (x:Int):V:=.val (.int .i64 x)
abbrev gb (x:Bool):V:=.val (.bool x)
abbrev gs (x:ByteArray):V:=.val (.string x)
theorem mixed:(Tryz.prog).follows .mixedOrders=true:=by kernel_rfl
def encI (l:List Int):V:=.aD (l.map λx=>[gi x])
def bP (l:List Bool):V:=.aD (l.map λx=>[gb x])
theorem ew (l:List Int):Tree (encI l):=by
 refine .aD _ λi j hi a=>?_
 simp only[Zr] at hi
 simp[Zi,hi] at a ⊢
 subst a
 exact .val _
def aJ {α:Type} (l:List α):Prop:=l.length < 4611686018427387904
def qp:SC :=
 ae [ae [ab [aa 11 5,aa 12 0,aP 13 12,aS 14 .lss 11 13],bT 14 (.exit 0)],.block 1 (ae [ab [aa 17 0,aa 18 5,aH 19 1 17 18,ai 20 19,aa 21 1,aa 22 5,aH 23 1 21 22,ai 24 23,aS 25 .neq 20 24],bc 25 (ae [ab [bz 4 false],.ret])]),ab [aa 15 5,aG 16 .add 15 1,aa 5 16]]
def r8:SF:=⟨ae [ab [bz 4 false],ae [ab [aa 6 0,aP 7 6,aa 8 1,aP 9 8,aS 10 .neq 7 9],bc 10 (ae [ab [bz 4 false],.ret])],ae [ab [aQ 5 0],bU 0 qp],ab [bz 4 true],.ret],
 [.tmp 4],26⟩
theorem xZ:aN Tryz.prog 37 []=some r8:=by kernel_rfl
theorem Nh {α:Type} [BEq α] [LawfulBEq α] {a b:List α} (h:a.length≠b.length):(a == b)=false:=by
 simp only[beq_eq_false_iff_ne];intro e;exact h (by rw[e])
theorem V3 (a b:List Int) (j:aJ a) (H:View):au Tryz.prog 37 [encI a,encI b] H λr H'=>r=gb (a == b)/\H'=H:=by
 refine au.of mixed xZ ?_
 unfold aJ at j
 simp(disch:=omega)only[↓wr,seval,wq,r8,encI]
 apply ah.ne<;>intro h
 .simp(disch:=omega)only[↓wr,seval,wq]
  rw[Nh (by omega)]
 .simp(disch:=omega)only[↓wr,seval,wq]
  refine aR.intro (λk T H'=>∃ i:Nat,i+k=a.length/\a.take i=b.take i/\T 0=encI a/\T 1=encI b/\T 5=gi i/\H'=H) a.length ?_ ?_
  .exact⟨0,by omega,by simp,rfl,rfl,rfl,rfl⟩
  .rintro k T H' ⟨i,hk,hi,c,h1,d,rfl⟩
   simp(disch:=omega)only[↓wr,seval,wq,qp,c,h1,d,encI]
   apply ah.dec<;>intro l
   .have f:a[i]?=some (a[i]'(by omega)):=Zj (by omega)
    have g:b[i]?=some (b[i]'(by omega)):=Zj (by omega)
    simp(disch:=omega)only[↓wr,seval,wq,c,h1,d,encI,Zm,f,g,Zq]
    apply ah.ne<;>intro hd
    .simp(disch:=omega)only[↓wr,seval,wq]
     have:(a == b)=false:=by
      simp only[beq_eq_false_iff_ne];rintro rfl;exact hd rfl
     rw[this]
    .simp(disch:=omega)only[↓wr,seval,wq,c,h1,d,encI]
     refine⟨k - 1,by omega,i+1,by omega,?_,rfl⟩
     rw[ZG,ZG,hi,f,g,hd]
   .simp(disch:=omega)only[↓wr,seval,wq,c,h1,d,encI]
    have:a=b:=by
     have e:i=a.length:=by omega
     rw[Zx (by omega),Zx (by omega)] at hi
     exact hi
    rw[this];simp
theorem NW (a b:List Int) (c:aJ a):az Tryz.prog 37 [encI a,encI b] (gb (a == b)) :=
 az.of (by simp[ew]) ((V3 a b c _).mono λr H' h d _=>by rw[h.1];exact .tree _ (.val _))
theorem iA (l:List Bool):Tree (bP l):=by
 refine .aD _ λi j hi a=>?_
 simp only[Zr] at hi
 simp[Zi,hi] at a ⊢
 subst a
 exact .val _
end Gv
