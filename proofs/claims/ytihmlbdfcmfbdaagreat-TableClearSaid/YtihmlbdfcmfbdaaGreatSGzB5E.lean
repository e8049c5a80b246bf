/-
  Part 5 of the proof: what the machine does and what the functions answer.
  Conditions: those that each lemma names.
-/
import Derived.Test.YtihmlbdfcmfbdaaGreatProg
import Derived.KernelRfl
import Derived.Test.YtihmlbdfcmfbdaaGreatSGzB5D
set_option linter.unusedSimpArgs false
set_option linter.unusedVariables false
set_option maxRecDepth 100000
set_option maxHeartbeats 20000000
namespace Gv
open Go Go.Proofs
section
variable {P:Program} {n:Nat} {all:List Oper}
theorem VH (h:aG):h.view h.length=.dead:=by simp[aG.view,aaq]
theorem Za {o:Oper} {T:Env} {h:aG} {s:SI} {K:V->View->Prop} (e:dU n all T o=some true) (f:∀ v eff rd,sI P s T h.view h.length=some (v,eff,rd)->cD P o T h.view h.length=some (v,eff,rd)) (hw:wI P s T h.view K) :
  ∃ v c rd wr,er P n all o T h v c rd wr false/\kh h c/\K v c.view/\mL (v8 P s) rd wr false h.length c.length:=by
 obtain⟨v,eff,rd,hs,hk⟩:=Y4 hw (VH h)
 have d:=f _ _ _ hs
 have a:∀ id,id∈eff.wr->h.view id≠.dead:=λid b=>(oJ d id b).1
 refine⟨v,eff.apply h,rd,eff.wr,.op e d,?_,?_,?_,?_⟩
 .intro id b hd
  rw[nq a]
  cases eff with
  | none=>exact hd
  | new o=>simp only[bH.view,View.set];rw[aat (by omega)];exact hd
  | fQ k o =>
   simp only[bH.view,View.set]
   rw[aat (by rintro rfl;exact a id (by simp[bH.wr]) hd)];exact hd
  | eF k o =>
   simp only[bH.view,View.set]
   rw[aat (by omega)]
   split
   .rfl
   .exact hd
 .rw[nq (λid b=>(oJ d id b).1)];exact hk
 .intro g
  obtain⟨rfl,rfl⟩:=(uK hs).1 g
  exact⟨rfl,rfl,rfl,rfl⟩
 .intro h1
  rcases aaT (v8 P s) 1 with i | i
  .obtain⟨rfl,rfl⟩:=(uK hs).1 (by omega);rfl
  .exact(uK hs).2 (by omega)
theorem OB {P:Program} {fr:Bool} {s:SI} {T:Env} {H:View} {n:Nat} {v:V} {eff:bH} {rd:List Nat} (h:sI P (Cg P fr s) T H n=some (v,eff,rd)):sI P s T H n=some (v,eff,rd):=by
 unfold Cg at h
 split at h
 .split at h
  .exact UY h
  .exact h
 .split at h
  .rename_i a
   simp only[aaB] at a
   exact WQ a.2 h
  .exact h
 .exact h
theorem C5 (P:Program) (a:Fz) (o:Oper) :
  (∃ f args b,o.op=.call { callee:=.value f,args:=args,argTypes:=b }/\(oH P a o=.call (SX.of f) (args.toList.map SX.of)∨oH P a o=.yR (SX.of f) (args.toList.map SX.of))) ∨
  (∃ t x,o.op=.box t x/\oH P a o=.op (.kD (SX.of x)))∨(∃ s d x,o.op=.convert s d x/\xY P s d=true/\oH P a o=.op (.iq (SX.of x)))∨oH P a o=.op (Cg P a.fr (comp P o)):=by
 unfold oH
 split
 .rename_i f args b c
  refine .inl ⟨f,args,b,c,?_⟩
  by_cases hq:(match o.dst with | some d=>a.l.contains (200000+d) | none=>false)=true
  .exact .inr (aaw hq)
  .exact .inl (aat hq)
 .rename_i t x c
  by_cases hd:(match o.dst with | some d=>a.l.contains d | none=>false)=true
  .exact .inr (.inl ⟨t,x,c,aaw hd⟩)
  .refine .inr (.inr (.inr ?_))
   refine(aat hd).trans ?_
   simp only[comp,c,Cg]
 .rename_i s d x c
  by_cases hd:((match o.dst with | some d=>a.l.contains d | none=>false) && xY P s d)=true
  .exact .inr (.inr (.inl ⟨s,d,x,c,by simp only[aaB] at hd;exact hd.2,aaw hd⟩))
  .exact .inr (.inr (.inr (aat hd)))
 .exact .inr (.inr (.inr rfl))
theorem er.len {o:Oper} {T:Env} {h a:aG} {v:V} {rd wr:List Nat} {call:Bool} (st:er P n all o T h v a rd wr call):h.length<=a.length:=by
 cases st with
 | skip=>exact aaD _
 | op _ _=>rename_i eff _ _ ;cases eff <;> simp[bH.apply]
 | kD _ _ _=>exact aaD _
 | iq _ _ _ _ _ _=>exact aaD _
 | call _ _ _ _ b _ _=>exact b.1
theorem WO {q:Fz} {o:Oper} {T:Env} {h:aG} {quiet:Bool} {K:V->View->Prop} (l:dU n all T o=some true) (hw:wB P quiet (oH P q o) T h.view K) :
  ∃ v b rd wr call,er P n all o T h v b rd wr call/\kh h b/\K v b.view/\mL (jZ P quiet (oH P q o)) rd wr call h.length b.length:=by
 rcases C5 P q o with ⟨f,args,A,k,j | j⟩ | ⟨t,x,k,j⟩ | ⟨s,d,x,k,u,j⟩ | j
 rotate_left
 .rw[j] at hw ⊢
  simp only[wB] at hw
  split at hw
  .rename_i g first cap m
   rw[EW] at hw
   rw[SX.c8] at m
   obtain⟨c,i⟩:=hw
   obtain⟨r,b,hr,hold,hk⟩:=i h rfl
   refine⟨r,b,[],[],true,.call l k m c hr (λid a _=>hold id a) (λid a=>by simp at a),λid a hd=>(hold id a).trans hd,hk,?_,?_⟩
   .intro p;simp[jZ] at p
   .intro _;rfl
  .exact hw.elim
 rotate_right
 .rw[j] at hw ⊢
  simp only[wB] at hw
  split at hw
  .rename_i g first cap m
   rw[EW] at hw
   rw[SX.c8] at m
   split at hw
   .rename_i hq
    obtain⟨c,i⟩:=hw
    obtain⟨r,b,hr,hold,hk⟩:=i h rfl
    refine⟨r,b,[],[],true,.call l k m c hr (λid a _=>hold id a) (λid a=>by simp at a),λid a hd=>(hold id a).trans hd,hk,?_,?_⟩
    .intro p;simp[jZ,hq] at p
    .intro _;rfl
   .rename_i hq
    obtain⟨c,i⟩:=hw
    obtain⟨r,b,hr,w,hk⟩:=i h rfl
    refine⟨r,b,[],List.range h.length,true,.call l k m c hr (λid a B=>?_) (λid a=>by simpa using a),w,hk,Wm (by simp[jZ,hq])⟩
    exact absurd (by simpa using a) B
  .exact hw.elim
 .rw[j] at hw ⊢
  simp only[wB,wI,SX.c8] at hw
  exact⟨_,h,[],[],false,.kD l k hw.1,.refl _,hw.2,λ_=>⟨rfl,rfl,rfl,rfl⟩,λ_=>rfl⟩
 .rw[j] at hw ⊢
  simp only[wB,wI,SX.c8] at hw
  obtain⟨e,h1,y,z⟩:=C9 u
  split at hw
  .rename_i st C
   exact⟨_,h,[],[],false,.iq l k h1 y z C,.refl _,hw,λ_=>⟨rfl,rfl,rfl,rfl⟩,λ_=>rfl⟩
  .exact hw.elim
 .rw[j] at hw ⊢
  obtain⟨v,b,rd,wr,h1,p,y,z⟩:=Za (s:=Cg P q.fr (comp P o)) l (λv eff rd hs=>OK (OB hs)) hw
  exact⟨v,b,rd,wr,false,h1,p,y,z⟩
def ig (P:Program) (quiet:Bool) (l:List SO) (recs:List Rec):Prop :=
 l.length=recs.length/\∀ (i:Nat) (s:SO) (r:Rec),l[i]?=some s->recs[i]?=some r->mL (jZ P quiet s.b) r.rd r.wr r.call r.lo r.hi
theorem ig.nil {quiet:Bool} : ig P quiet [] []:=⟨rfl,λi s r h=>by simp at h⟩
theorem ig.cons {quiet:Bool} {l:List SO} {a:List Rec} {s:SO} {r:Rec} (h:ig P quiet l a) (hr:mL (jZ P quiet s.b) r.rd r.wr r.call r.lo r.hi):ig P quiet (s :: l) (r :: a):=by
 refine⟨by simp[h.1],λi d e hs c=>?_⟩
 cases i with
 | zero=>simp at hs c;subst hs c;exact hr
 | succ i=>exact h.2 i d e (by simpa using hs) (by simpa using c)
theorem ig.append {quiet:Bool} {l l':List SO} {b a:List Rec} (h:ig P quiet l b) (c:ig P quiet l' a):ig P quiet (l ++ l') (b ++ a):=by
 refine⟨by simp[h.1,c.1],λi s r hs hr=>?_⟩
 by_cases hi:i < l.length
 .rw[aaY hi] at hs
  rw[aaY (h.1 ▸ hi)] at hr
  exact h.2 i s r hs hr
 .rw[aa7 (by omega)] at hs
  rw[aa7 (by have:=h.1;omega)] at hr
  exact c.2 (i - l.length) s r hs (by rw[h.1];exact hr)
theorem wz {a:Fz} {o:Oper} {s:SO} (h:Ju P n all a o=some s):uv n o=true/\s.dst=o.dst/\s.b=oH P a o/\xO n all o=some s.guard:=by
 unfold Ju at h
 split at h
 .rename_i hd
  simp only[aaF] at h
  obtain⟨g,c,rfl⟩:=h
  exact⟨hd,rfl,rfl,c⟩
 .simp at h
theorem Ez {o:Oper} {T:Env} (h:xO n all o=some none):dU n all T o=some true:=by
 unfold xO at h
 unfold dU
 split at h
 .rename_i a;rw[a]
 .split at h
  .split at h
   .simp at h
   .simp at h
  .simp at h
theorem nA {o:Oper} {T:Env} {d:Nat} {want:Bool} (h:xO n all o=some (some (d,want))) :
  (∀ b,T d=.val (.bool b)->dU n all T o=some (b == want))/\(T d=.bD []->dU n all T o=some false):=by
 unfold xO at h
 unfold dU
 split at h
 .simp at h
 .rename_i j w e
  rw[e]
  split at h
  .rename_i f hd
   split at h
   .rename_i a
    simp at h
    obtain⟨rfl,rfl⟩:=h
    simp only[hd,a,if_true]
    exact⟨λb c=>by rw[c],λc=>by rw[c]⟩
   .simp at h
  .simp at h
theorem nh {a:Fz} {os:List Oper} (h:dY P n all a os=some []):os=[]:=by
 cases os with
 | nil=>rfl
 | cons o r =>
  simp only[dY] at h
  split at h <;> simp at h
theorem oh {a:Fz} {os:List Oper} {s:SO} {l:List SO} (h:dY P n all a os=some (s :: l)):∃ o r,os=o :: r/\Ju P n all a o=some s/\dY P n all a r=some l:=by
 cases os with
 | nil=>simp[dY] at h
 | cons o r =>
  simp only[dY] at h
  split at h
  .rename_i c l' h1 b
   simp at h
   obtain⟨rfl,rfl⟩:=h
   exact⟨o,r,rfl,h1,b⟩
  .simp at h
theorem tD {c:Fz} : ∀ {l l':List SO} {os:List Oper},dY P n all c os=some (l ++ l')->∃ a b,os=a ++ b/\dY P n all c a=some l/\dY P n all c b=some l'
 | [],l',os,h=>⟨[],os,rfl,rfl,h⟩
 | s :: l,l',os,h=>by
  obtain⟨o,r,rfl,h1,d⟩:=oh h
  obtain⟨a,b,rfl,e,f⟩:=tD d
  exact⟨o :: a,b,rfl,by simp[dY,h1,e],f⟩
theorem Tr.append {a b:List Oper} {T c d:Env} {h h1 e:aG} {f g:List Rec} (x:Tr P n all a T h f c h1) (y:Tr P n all b c h1 g d e):Tr P n all (a ++ b) T h (f ++ g) d e:=by
 induction x with
 | nil=>exact y
 | cons st hd _ i=>exact .cons st hd (i y)
theorem Eb {T:Env} {d:Nat} {v:V} (h:T d=v):T.put (some d) v=T:=by
 funext t
 simp only[Env.put]
 split
 .rename_i e;subst e;exact h.symm
 .rfl
theorem Ky {E:Fz} {quiet:Bool} {K:Env->View->Prop} (g:Option (Nat × Bool)):∀ (l:List (Option Nat × SB)) (os:List Oper) (T:Env) (h:aG),
  dY P n all E os=some (l.map λ(d,b)=>⟨d,g,b⟩)->(∀ d w,g=some (d,w)->T d=.val (.bool w)/\(l.all λx=>x.1 != some d)=true)->Ca P quiet l T h.view K ->
  ∃ a m j,Tr P n all os T h a m j/\(kh h j/\h.length<=j.length)/\K m j.view/\ig P quiet (l.map λ(d,b)=>⟨d,g,b⟩) a
 | [],os,T,h,q,s,hw=>by
  have:=nh q;subst this
  exact⟨[],T,h,.nil,⟨.refl _,aaD _⟩,hw,.nil⟩
 | (d,b) :: l,os,T,h,q,s,hw=>by
  obtain⟨o,r,rfl,h1,F⟩:=oh q
  obtain⟨hd,k,f,i⟩:=wz h1
  simp only at k f i
  have u:dU n all T o=some true:=by
   cases g with
   | none=>exact Ez i
   | some p =>
    obtain⟨y,w⟩:=p
    have:=(nA (T:=T) i).1 w (s y w rfl).1
    rw[this];simp
  simp only[Ca] at hw
  rw[f] at hw
  obtain⟨v,j,rd,wr,call,st,z,hk,hl⟩:=WO u hw
  obtain⟨a,m,A,D,c,B,C⟩:=Ky g l r (T.put d v) j F (λy w e=>by
   have:=s y w e
   simp only[abP,aaB,acy,ne_eq] at this
   refine⟨?_,this.2.2⟩
   rw[<-this.1]
   cases d with
   | none=>rfl
   | some t=>simp only[Env.put];rw[aat];intro e;subst e;exact this.2.1 rfl) hk
  rw[k] at D
  have hlen:=st.len
  exact⟨_,m,A,.cons st hd D,⟨z.trans c.1 hlen,abp hlen c.2⟩,B,C.cons (by rw[f];exact hl)⟩
theorem Gr {s:Fz} {quiet:Bool} (d:Nat) (w:Bool) (h:aG):∀ (l:List (Option Nat × SB)) (os:List Oper) (T:Env),
  dY P n all s os=some (l.map λ(c,b)=>⟨c,some (d,w),b⟩)->(T d=.val (.bool !w)∨T d=.bD [])->(l.all λx=>x.1 != some d)=true ->
  ∃ a,Tr P n all os T h a (jR l T) h/\ig P quiet (l.map λ(c,b)=>⟨c,some (d,w),b⟩) a
 | [],os,T,i,hd,hl=>by
  have:=nh i;subst this
  exact⟨[],.nil,.nil⟩
 | (c,b) :: l,os,T,i,hd,hl=>by
  obtain⟨o,r,rfl,h1,u⟩:=oh i
  obtain⟨j,f,k,g⟩:=wz h1
  simp only at f k g
  have m:dU n all T o=some false:=by
   rcases hd with hd | hd
   .rw[(nA (T:=T) g).1 _ hd];cases w <;> rfl
   .exact(nA (T:=T) g).2 hd
  simp only[abP,aaB,acy,ne_eq] at hl
  obtain⟨a,q,p⟩:=Gr d w h l r (T.put c (.bD [])) u (by
   have:(T.put c (.bD [])) d=T d:=by
    cases c with
    | none=>rfl
    | some t=>simp only[Env.put];rw[aat];intro e;subst e;exact hl.1 rfl
   rw[this];exact hd) hl.2
  rw[f] at q
  refine⟨_,?_,p.cons (r:=⟨[],[],false,h.length,h.length⟩) ⟨λ_=>⟨rfl,rfl,rfl,rfl⟩,λ_=>rfl⟩⟩
  have:=Tr.cons (.skip m) j q
  rw[jR,f]
  exact this
theorem YO {p:Fz} {quiet:Bool} {K:Env->View->Prop} {g:SG} {os:List Oper} {T:Env} {h:aG} (f:dY P n all p os=some g.flat) (c:vX g=true) (hw:wG P quiet g T h.view K) :
  ∃ a o k,Tr P n all os T h a o k/\(kh h k/\h.length<=k.length)/\K o k.view/\ig P quiet g.flat a:=by
 unfold wG at hw
 unfold SG.flat at f ⊢
 unfold vX at c
 split at hw
 .rename_i l
  rw[l] at f ⊢
  exact Ky none g.ops os T h f (λd w e=>by simp at e) hw
 .rename_i d want l
  rw[l] at f c ⊢
  simp only at c
  split at hw
  .rename_i b j
   by_cases e:b=want
   .subst e
    have:=hw.1 rfl
    rw[Eb j] at this
    exact Ky (some (d,b)) g.ops os T h f (λq w e=>by simp at e;obtain⟨rfl,rfl⟩:=e;exact⟨j,c⟩) this
   .have e':b = !want:=by cases b <;> cases want <;> simp_all
    have:=hw.2 e'
    subst e'
    rw[Eb j] at this
    obtain⟨a,m,i⟩:=Gr (quiet:=quiet) d want h g.ops os T f (.inl j) c
    exact⟨a,_,h,m,⟨.refl _,aaD _⟩,this,i⟩
  .rename_i j
   obtain⟨a,m,i⟩:=Gr (quiet:=quiet) d want h g.ops os T f (.inr j) c
   exact⟨a,_,h,m,⟨.refl _,aaD _⟩,hw,i⟩
  .exact hw.elim
theorem BL {s:Fz} {quiet:Bool} {K:Env->View->Prop} : ∀ (gs:List SG) (os:List Oper) (T:Env) (h:aG),dY P n all s os=some (lU gs)->gs.all vX=true->Al P quiet gs T h.view K ->
  ∃ c r e,Tr P n all os T h c r e/\(kh h e/\h.length<=e.length)/\K r e.view/\ig P quiet (lU gs) c
 | [],os,T,h,f,_,hw=>by
  have:=nh f;subst this
  exact⟨[],T,h,.nil,⟨.refl _,aaD _⟩,hw,.nil⟩
 | g :: gs,os,T,h,f,d,hw=>by
  simp only[lU,aaW,List.flatten_cons] at f ⊢
  simp only[abP,aaB] at d
  obtain⟨a,b,rfl,h1,t⟩:=tD f
  obtain⟨w,u,i,j,st1,k,l⟩:=YO h1 d.1 hw
  obtain⟨x,v,m,o,st2,p,q⟩:=BL gs b u i t d.2 k
  exact⟨_,v,m,j.append o,⟨st1.1.trans st2.1 st1.2,abp st1.2 st2.2⟩,p,l.append q⟩
theorem Tr.at_ {os:List Oper} {T g:Env} {h j:aG} {b:List Rec} (k:Tr P n all os T h b g j):∀ (i:Nat) (o:Oper),os[i]?=some o ->
  ∃ c h1 v e rd wr call a,b[i]?=some ⟨rd,wr,call,h1.length,e.length⟩/\er P n all o c h1 v e rd wr call/\h.length<=h1.length/\Tr P n all (os.drop (i+1)) (c.put o.dst v) e a g j/\(∀ m,a[m]?=b[i+1+m]?) /\
   (∀ t,(∀ l∈os.take i,l.dst≠some t)->c t=T t):=by
 induction k with
 | nil=>intro i o hi;simp at hi
 | @cons o0 rest T g h h1 j v rd wr call b st hd k s =>
  intro i o hi
  cases i with
  | zero =>
   simp at hi;subst hi
   exact⟨T,h,v,h1,rd,wr,call,b,rfl,st,aaD _,by simpa using k,λm=>by rw[show 0+1+m=m+1 by omega,abm],λt _=>rfl⟩
  | succ i =>
   simp at hi
   obtain⟨c,e,v2,u,p,Yc,call2,a,w,x,y,z,A,B⟩:=s i o hi
   have hlen:h.length<=h1.length:=by
    cases st with
    | skip=>exact aaD _
    | op _ _=>rename_i eff _ _;cases eff <;> simp[bH.apply]
    | kD _ _ _=>exact aaD _
    | iq _ _ _ _ _ _=>exact aaD _
    | call _ _ _ _ C _ _=>exact C.1
   refine⟨c,e,v2,u,p,Yc,call2,a,by simpa using w,x,abp hlen y,by simpa using z,λm=>?_,λt q=>?_⟩
   .rw[A,show i+1+1+m=(i+1+m)+1 by omega,abm]
   .simp only[ach,aaI] at q
    rw[B t λl r=>q l (.inr r)]
    have:=q o0 (.inl rfl)
    cases f:o0.dst with
    | none=>rfl
    | some d=>simp only[Env.put];rw[aat];rintro rfl;exact this f
theorem PO {o:Oper} {T:Env} {h f:aG} {v:V} {rd wr:List Nat} {call:Bool} (st:er P n all o T h v f rd wr call) (b:DL o=true) (g:o.guard=none):v=.ptr h.length 0 0:=by
 unfold DL at b
 have d:dU n all T o=some true:=by unfold dU;rw[g]
 cases st with
 | skip hs=>rw[d] at hs;simp at hs
 | op _ a =>
  split at b
  .rename_i e c
   simp only[cD,c] at a
   split at a
   .unfold nR at a
    split at a
    .simp at a;exact a.1.symm
    .simp at a
   .simp at a
  .simp at b
 | kD _ c _=>rw[c] at b;simp at b
 | iq _ c _ _ _ _=>rw[c] at b;simp at b
 | call _ c _ _ _ _ _=>rw[c] at b;simp at b
theorem O7 {o:Oper} {T:Env} {h f:aG} {v:V} {rd wr:List Nat} {call:Bool} {t id i j:Nat} (st:er P n all o T h v f rd wr call) (c:mP o=some t) (g:T t=.ptr id i j):wr=[id]/\call=false:=by
 unfold mP at c
 split at c
 .rename_i ty k x d l
  simp at c;subst c
  have e:dU n all T o=some true:=by unfold dU;rw[l]
  cases st with
  | skip hs=>rw[e] at hs;simp at hs
  | op _ b =>
   have m:ev T (.tmp k)=.ptr id i j:=g
   simp only[cD,d,m,td] at b
   split at b
   .split at b
    .simp only[aau,aay] at b
     obtain⟨_,he,_⟩:=b
     rw[<-he];exact⟨rfl,rfl⟩
    .simp at b
   .simp at b
  | kD _ a _=>rw[d] at a;simp at a
  | iq _ a _ _ _ _=>rw[d] at a;simp at a
  | call _ a _ _ _ _ _=>rw[d] at a;simp at a
 .simp at c
theorem TV {o:Oper} {T:Env} {h g:aG} {v:V} {rd wr:List Nat} {call:Bool} (st:er P n all o T h v g rd wr call) (d:GG o=true):wr=[]/\call=false/\∀ id,id∈rd->id < h.length:=by
 unfold GG at d
 cases st with
 | skip _=>exact⟨rfl,rfl,λid c=>by simp at c⟩
 | op _ b =>
  split at d
  .rename_i e a f
   simp only[cD,f,oz] at b
   split at b
   .rename_i id i j l
    split at b
    .rename_i z es hH
     split at b
     .simp only[aaF] at b
      obtain⟨_,_,b⟩:=b
      simp at b
      obtain⟨_,rfl,rfl⟩:=b
      refine⟨rfl,rfl,λk c=>?_⟩
      simp at c;subst c
      exact jw (by rw[hH];simp)
     .simp at b
    .simp at b
   .simp only[aaF] at b
    obtain⟨_,_,b⟩:=b
    simp at b
    obtain⟨_,rfl,rfl⟩:=b
    exact⟨rfl,rfl,λid c=>by simp at c⟩
   .simp at b
  .simp at d
 | kD _ f _=>rw[f] at d;simp at d
 | iq _ f _ _ _ _=>rw[f] at d;simp at d
 | call _ f _ _ _ _ _=>rw[f] at d;simp at d
theorem zh {T G:Env} {h H:aG} {e:List Rec} (I:Tr P n all all T h e G H) {i k:Nat} {a b:Rec} (hp:CQ all i k=true) (g:e[i]?=some a) (J:e[k]?=some b):qN a b:=by
 unfold CQ at hp
 split at hp
 .rename_i K L l m
  rw[aaB] at hp
  obtain⟨hl,hp⟩:=hp
  split at hp
  .rename_i t o
   rw[List.any_eq_true] at hp
   obtain⟨j,M,hp⟩:=hp
   rw[abl] at M
   rw[aaB,aaE] at hp
   obtain⟨N,c⟩:=hp
   unfold Yw at c
   split at c
   .rename_i O p
    simp only[aaB,abH,aaX,acy,ne_eq,Option.isNone_iff_eq_none] at c
    obtain⟨⟨⟨Q,R⟩,S⟩,U⟩:=c
    obtain⟨T1,h1,v1,V,W,Zf,c1,q,D,E,e3,X,Y,_⟩:=I.at_ i K l
    obtain⟨Tj,r,vj,Z,an,aq,cj,s,f1,f2,f3,f4,f5,_⟩:=X.at_ (j - (i+1)) O (by rw[acz,show i+1+(j - (i+1))=j by omega];exact p)
    have u:(all.drop (i+1)).drop (j - (i+1)+1)=all.drop (j+1):=by rw[List.drop_drop];congr 1;omega
    rw[u] at f4
    obtain⟨Tk,v,vk,w,x,y,ck,z,g1,g2,g3,_,_,g6⟩:=f4.at_ (k - (j+1)) L (by rw[acz,show j+1+(k - (j+1))=k by omega];exact m)
    rw[g] at D
    have A:=(acC D)
    have f:e[k]?=some ⟨x,y,ck,v.length,w.length⟩:=by
     rw[<-g1,f5,Y];congr 1;omega
    rw[J] at f
    have f:=acC f
    have hv:=PO f2 S R
    have B:Tk t=.ptr r.length 0 0:=by
     rw[g6 t λo' C=>U o' C,Q,hv]
     simp[Env.put]
    obtain⟨s1,s2⟩:=O7 g2 o B
    obtain⟨F,l2,l3⟩:=TV E hl
    rw[A,f]
    have hlen:h1.length<=V.length:=by
     cases E with
     | skip=>exact aaD _
     | op _ _=>rename_i eff _ _;cases eff <;> simp[bH.apply]
     | kD _ _ _=>exact aaD _
     | iq _ _ _ _ _ _=>exact aaD _
     | call _ _ _ _ g _ _=>exact g.1
    refine⟨λid d=>by simp[F] at d,λid d=>?_,λhc=>by simp[l2] at hc,λ_=>F,λid d=>?_⟩
    .simp only[s1,abq] at d
     subst d
     intro hr
     have:=l3 _ hr
     omega
    .simp only[s1,abq] at d
     subst d
     simp only
     omega
   .simp at c
  .simp at hp
 .simp at hp
theorem UK {ls:List Nat} {d:List Rec} {T t:Env} {hp g:aG} (u:Tr P n all all T hp d t g) (h:Jp all ls=true) (hl:ls.length=d.length) (hr:∀ (i x:Nat) (r:Rec),ls[i]?=some x->d[i]?=some r->mL x r.rd r.wr r.call r.lo r.hi):xm all d:=by
 intro i k a b j l m v
 have hi:i < d.length:=(aaG.1 l).1
 have hk:k < d.length:=(aaG.1 m).1
 unfold Jp at h
 simp only[aaX] at h
 have h1:=h (ls[i]'(by omega),i) (by rw[abG];simp[aar (show i < ls.length by omega)])
  (ls[k]'(by omega),k) (by rw[abG];simp[aar (show k < ls.length by omega)])
 have q:=hr i _ a (aar (by omega)) l
 have s:=hr k _ b (aar (by omega)) m
 simp only[j,decide_true,acE,v,acD,abt,abH,aaB,aaE] at h1
 rcases h1 with ((h1 | h1) | h1) | h1
 .obtain⟨f,e,o,w⟩:=q.1 h1
  exact⟨λid c=>by simp[e] at c,λid _=>by simp[f],λp=>by simp[o] at p,λ_=>e,λid _ y=>by omega⟩
 .obtain⟨f,e,o,w⟩:=s.1 h1
  exact⟨λid _=>by simp[f],λid c=>by simp[e] at c,λ_=>e,λp=>by simp[o] at p,λid c=>by simp[e] at c⟩
 .have f:=q.2 h1.1
  have e:=s.2 h1.2
  exact⟨λid c=>by simp[f] at c,λid c=>by simp[e] at c,λ_=>e,λ_=>f,λid c=>by simp[e] at c⟩
 .exact zh u h1 l m
theorem Tr.keep {os:List Oper} {T c:Env} {h e:aG} {a:List Rec} (f:Tr P n all os T h a c e) {t:Nat} (g:∀ o∈os,o.dst≠some t):c t=T t:=by
 induction f with
 | nil=>rfl
 | @cons o0 rest T c h h1 e v rd wr call a st hd f i =>
  rw[i λo j=>g o (by simp[j])]
  have:=g o0 (by simp)
  cases b:o0.dst with
  | none=>rfl
  | some d=>simp only[Env.put];rw[aat];rintro rfl;exact this b
theorem zC {o:Oper} {T:Env} {h g:aG} {v:V} {rd wr:List Nat} {call:Bool} {t:Nat} (st:er P n all o T h v g rd wr call) (d:uI o=some t):wr=[]/\call=false/\g.length=h.length/\∀ id,id∈rd->∃ i j,T t=.ptr id i j:=by
 unfold uI at d
 split at d
 .rename_i e m f
  simp at d;subst d
  cases st with
  | skip _=>exact⟨rfl,rfl,rfl,λid c=>by simp at c⟩
  | op _ a =>
   simp only[cD,f,oz] at a
   split at a
   .rename_i id i j k
    split at a
    .split at a
     .simp only[aaF] at a
      obtain⟨_,_,a⟩:=a
      simp at a
      obtain⟨_,rfl,rfl⟩:=a
      refine⟨rfl,rfl,rfl,λl c=>?_⟩
      simp at c;subst c
      exact⟨i,j,k⟩
     .simp at a
    .simp at a
   .simp only[aaF] at a
    obtain⟨_,_,a⟩:=a
    simp at a
    obtain⟨_,rfl,rfl⟩:=a
    exact⟨rfl,rfl,rfl,λid c=>by simp at c⟩
   .simp at a
  | kD _ b _=>rw[f] at b;simp at b
  | iq _ b _ _ _ _=>rw[f] at b;simp at b
  | call _ b _ _ _ _ _=>rw[f] at b;simp at b
 .simp at d
theorem yQ {i t:Nat} (h:stays all i t=true):∀ o∈all.drop i,o.dst≠some t:=by
 intro o a
 have:=aaX.1 h o a
 simpa using this
theorem Eh {a:List (Nat × Nat)} {T:Env} {K:Prop} (b:Bc a T K):∀ p∈a,jv (T p.1) (T p.2):=by
 induction a with
 | nil=>intro p hp;simp at hp
 | cons q l c =>
  intro p hp
  rcases aaI.1 hp with rfl | hp
  .exact b.1
  .exact c b.2 p hp
theorem Bc.rest {a:List (Nat × Nat)} {T:Env} {K:Prop} (b:Bc a T K):K:=by
 induction a with
 | nil=>exact b
 | cons q l c=>exact c b.2
theorem s6 {T l:Env} {h m:aG} {a:List Rec} (p:Tr P n all all T h a l m) {i t:Nat} {o:Oper} (j:all[i]?=some o) (hs:stays all i t=true) {r:Rec} (hr:a[i]?=some r) :
  ∃ e h1 v f,er P n all o e h1 v f r.rd r.wr r.call/\r.lo=h1.length/\r.hi=f.length/\e t=l t:=by
 obtain⟨e,h1,v,f,rd,wr,call,k,g,q,w,s,x,y⟩:=p.at_ i o j
 rw[hr] at g
 have g:=acC g
 subst g
 refine⟨e,h1,v,f,q,rfl,rfl,?_⟩
 have hk:=yQ hs
 have hi:i < all.length:=(aaG.1 j).1
 have b:all[i]=o:=(aaG.1 j).2
 rw[abg hi,b] at hk
 rw[s.keep λu b=>hk u (by simp[b])]
 have:=hk o (by simp)
 cases c:o.dst with
 | none=>rfl
 | some d=>simp only[Env.put];rw[aat];rintro rfl;exact this c
theorem CX {i a b j c d:Nat} (h:jv (.ptr i a b) (.ptr j c d)):i≠j:=h
theorem Et {i a b j c d e:Nat} (h:jv (.ptr i a b) (.sl j c d e)):i≠j:=h
theorem um {o:Oper} {T:Env} {h p:aG} {v:V} {rd wr:List Nat} {call:Bool} {t:Nat} (st:er P n all o T h v p rd wr call) (g:rT o=some t) :
  call=false/\∀ id,id∈wr->(∃ i j,T t=.ptr id i j)∨∃ a b c,T t=.sl id a b c:=by
 unfold rT at g
 split at g
 .rename_i s hs
  simp at g;subst g
  unfold mP at hs
  split at hs
  .rename_i ty t2 x k q
   simp at hs;subst hs
   cases st with
   | skip _=>exact⟨rfl,λid f=>by simp at f⟩
   | op _ d =>
    simp only[cD,k,td] at d
    split at d
    .rename_i id i j m
     split at d
     .split at d
      .simp only[aau,aay] at d
       obtain⟨_,he,_⟩:=d
       rw[<-he]
       refine⟨rfl,λl f=>?_⟩
       simp[bH.wr] at f;subst f
       exact .inl ⟨i,j,m⟩
      .simp at d
     .simp at d
    .simp at d
   | kD _ e _=>rw[k] at e;simp at e
   | iq _ e _ _ _ _=>rw[k] at e;simp at e
   | call _ e _ _ _ _ _=>rw[k] at e;simp at e
  .simp at hs
 .unfold TQ at g
  split at g
  .rename_i args r k q
   split at g
   .rename_i t2 y hl
    simp at g;subst g
    cases st with
    | skip _=>exact⟨rfl,λid f=>by simp at f⟩
    | op _ d =>
     simp only[cD,k,hl] at d
     split at d
     .unfold oY at d
      split at d
      .split at d
       .simp at d
       .split at d
        .split at d <;> first | (simp only[aau,aay] at d;obtain⟨_,he,_⟩:=d;rw[<-he];exact⟨rfl,λl f=>by simp[bH.wr] at f⟩) | simp at d
        .split at d
         .simp at d
         .split at d
          .split at d
           .simp only[aau,aay] at d
            obtain⟨_,he,_⟩:=d
            rw[<-he];exact⟨rfl,λl f=>by simp[bH.wr] at f⟩
           .simp at d
          .rename_i id off len esz m
           split at d
           .split at d
            .simp only[aau,aay] at d
             obtain⟨_,he,_⟩:=d
             rw[<-he]
             refine⟨rfl,λl f=>?_⟩
             simp[bH.wr] at f;subst f
             exact .inr ⟨off,len,esz,m⟩
            .simp at d
           .simp at d
          .simp at d
      .simp at d
     .split at d
      .unfold zS at d
       repeat' (split at d)
       all_goals first | (simp only[aau,aay] at d;obtain⟨_,he,_⟩:=d;rw[<-he];exact⟨rfl,λl f=>by simp[bH.wr] at f⟩) | simp at d
      .simp at d
    | kD _ e _=>rw[k] at e;simp at e
    | iq _ e _ _ _ _=>rw[k] at e;simp at e
    | call _ e _ _ _ _ _=>rw[k] at e;simp at e
   .simp at g
  .simp at g
theorem El {o:Oper} {T:Env} {h g:aG} {v:V} {rd wr:List Nat} {call:Bool} (st:er P n all o T h v g rd wr call) (b:Kr o=true):rd=[]/\wr=[]/\call=false:=by
 unfold Kr at b
 cases st with
 | skip _=>exact⟨rfl,rfl,rfl⟩
 | op _ a =>
  split at b
  .rename_i ty len parts c
   simp only[cD,c,ju] at a
   have key:∀ {x:Option (V × bH × List Nat)} {e:bH},x=some (v,e,rd)->(∀ y,x=some y->y.2.1.wr=[]/\y.2.2=[])->rd=[]/\e.wr=[]:=λf d=>⟨(d _ f).2,(d _ f).1⟩
   obtain⟨i,k2⟩:=key a (by
    intro y d
    repeat' (first | (split at d)|(simp only[aau] at d;subst d;exact⟨rfl,rfl⟩)|(simp at d;done)))
   exact⟨i,k2,rfl⟩
  .rename_i e c
   simp only[cD,c] at a
   split at a
   .unfold nR at a
    split at a
    .simp only[aau,aay] at a
     obtain⟨_,he,hr⟩:=a
     rw[<-he,<-hr];exact⟨rfl,rfl,rfl⟩
    .simp at a
   .simp at a
  .simp at b
 | kD _ c _=>rw[c] at b;simp at b
 | iq _ c _ _ _ _=>rw[c] at b;simp at b
 | call _ c _ _ _ _ _=>rw[c] at b;simp at b
theorem yz {o:Oper} {t:Nat} (h:mP o=some t):rT o=some t:=by unfold rT;rw[h]
theorem Sq {T w:Env} {h N:aG} {l:List Rec} (u:Tr P n all all T h l w N) {i k:Nat} {a b:Rec} {p:Nat × Nat} (hp:Gk all i k=some p) (j:jv (w p.1) (w p.2)) (L:l[i]?=some a) (M:l[k]?=some b):qN a b:=by
 unfold Gk at hp
 split at hp
 .rename_i X Y q r
  split at hp
  .rename_i s t hl hs
   split at hp
   .rename_i g
    simp only[aaB] at g
    simp at hp;subst hp
    obtain⟨x,y,O,z,A,B,C,D⟩:=s6 u q g.1 L
    obtain⟨Tb,E,Q,F,G,_,_,H⟩:=s6 u r g.2 M
    obtain⟨o,I,R,J⟩:=zC A hl
    have j:jv (x s) (Tb t):=by rw[D,H];exact j
    refine⟨λid f=>by simp[o] at f,λid f hr=>?_,λv=>by simp[I] at v,λ_=>o,λid _ Z=>by omega⟩
    obtain⟨S,U,K⟩:=J id hr
    rw[K] at j
    rcases (um G (yz hs)).2 id f with ⟨c,d,m⟩ | ⟨c,d,e,m⟩
    .rw[m] at j;exact CX j rfl
    .rw[m] at j;exact Et j rfl
   .simp at hp
  .split at hp
   .rename_i t s hs hl
    split at hp
    .rename_i g
     simp only[aaB] at g
     simp at hp;subst hp
     obtain⟨x,y,O,z,A,B,C,D⟩:=s6 u q g.1 L
     obtain⟨Tb,E,Q,F,G,V,W,H⟩:=s6 u r g.2 M
     obtain⟨o,I,R,J⟩:=zC G hl
     have j:jv (Tb s) (x t):=by rw[D,H];exact j
     refine⟨λid f hr=>?_,λid f=>by simp[o] at f,λv=>o,λv=>by simp[I] at v,λid f=>by simp[o] at f⟩
     obtain⟨S,U,K⟩:=J id hr
     rw[K] at j
     rcases (um A (yz hs)).2 id f with ⟨c,d,m⟩ | ⟨c,d,e,m⟩
     .rw[m] at j;exact CX j rfl
     .rw[m] at j;exact Et j rfl
    .simp at hp
   .simp at hp
 .simp at hp
theorem PX {T w:Env} {h N:aG} {l:List Rec} (u:Tr P n all all T h l w N) {i k:Nat} {a b:Rec} {p:Nat × Nat} (hp:G9 all i k=some p) (j:jv (w p.1) (w p.2)) (L:l[i]?=some a) (M:l[k]?=some b):qN a b:=by
 unfold G9 at hp
 split at hp
 .rename_i X Y q r
  split at hp
  .rename_i s t hl hs
   split at hp
   .rename_i g
    simp only[aaB] at g
    simp at hp;subst hp
    obtain⟨x,y,O,z,A,B,C,D⟩:=s6 u q g.1 L
    obtain⟨Tb,E,Q,F,G,_,_,H⟩:=s6 u r g.2 M
    obtain⟨o,I,R,J⟩:=zC A hl
    have j:jv (x s) (Tb t):=by rw[D,H];exact j
    refine⟨λid f=>by simp[o] at f,λid f hr=>?_,λv=>by simp[I] at v,λ_=>o,λid _ Z=>by omega⟩
    obtain⟨S,U,K⟩:=J id hr
    rw[K] at j
    rcases (um G hs).2 id f with ⟨c,d,m⟩ | ⟨c,d,e,m⟩
    .rw[m] at j;exact CX j rfl
    .rw[m] at j;exact Et j rfl
   .simp at hp
  .split at hp
   .rename_i t s hs hl
    split at hp
    .rename_i g
     simp only[aaB] at g
     simp at hp;subst hp
     obtain⟨x,y,O,z,A,B,C,D⟩:=s6 u q g.1 L
     obtain⟨Tb,E,Q,F,G,V,W,H⟩:=s6 u r g.2 M
     obtain⟨o,I,R,J⟩:=zC G hl
     have j:jv (Tb s) (x t):=by rw[D,H];exact j
     refine⟨λid f hr=>?_,λid f=>by simp[o] at f,λv=>o,λv=>by simp[I] at v,λid f=>by simp[o] at f⟩
     obtain⟨S,U,K⟩:=J id hr
     rw[K] at j
     rcases (um A hs).2 id f with ⟨c,d,m⟩ | ⟨c,d,e,m⟩
     .rw[m] at j;exact CX j rfl
     .rw[m] at j;exact Et j rfl
    .simp at hp
   .simp at hp
 .simp at hp
theorem Si {l:List (Nat × Nat)} {a:List (Nat × Nat)} (h:Fy all l=some a):∀ q∈l,∃ p∈a,Gk all q.1 q.2=some p:=by
 induction l generalizing a with
 | nil=>intro q hq;simp at hq
 | cons x r c =>
  obtain⟨i,k⟩:=x
  simp only[Fy] at h
  split at h
  .rename_i p l' h1 d
   simp at h;subst h
   intro q hq
   rcases aaI.1 hq with rfl | hq
   .exact⟨p,by simp,h1⟩
   .obtain⟨f,b,e⟩:=c d q hq
    exact⟨f,by simp[b],e⟩
  .simp at h
theorem OW {l:List (Nat × Nat)} {a:List (Nat × Nat)} (h:yf all l=some a):∀ q∈l,∃ d,(∀ p∈d,p∈a)/\CR all q.1 q.2=some d:=by
 induction l generalizing a with
 | nil=>intro q hq;simp at hq
 | cons x r f =>
  obtain⟨i,k⟩:=x
  simp only[yf] at h
  split at h
  .rename_i p l' h1 g
   simp at h;subst h
   intro q hq
   rcases aaI.1 hq with rfl | hq
   .exact⟨p,λx b=>by simp[b],h1⟩
   .obtain⟨j,c,e⟩:=f g q hq
    exact⟨j,λx b=>by simp[c x b],e⟩
  .simp at h
theorem QH {H:View} {x:V} {xs:List (List V)} {rd:List Nat} (h:bQ H x=some (xs,rd)):∀ id,id∈rd->∃ a b c,x=.sl id a b c:=by
 unfold bQ at h
 split at h
 .simp at h;obtain⟨_,rfl⟩:=h;intro id d;simp at d
 .simp at h;obtain⟨_,rfl⟩:=h;intro id d;simp at d
 .simp at h;obtain⟨_,rfl⟩:=h;intro id d;simp at d
 .simp at h;obtain⟨_,rfl⟩:=h;intro id d;simp at d
 .split at h
  .split at h
   .simp at h
    obtain⟨_,rfl⟩:=h
    intro id d
    simp at d;subst d
    exact⟨_,_,_,rfl⟩
   .simp at h
  .simp at h
 .simp at h;obtain⟨_,rfl⟩:=h;intro id d;simp at d
 .simp at h
theorem J0 {o:Oper} {T:Env} {h r:aG} {v:V} {rd wr:List Nat} {call:Bool} {t y d:Nat} (st:er P n all o T h v r rd wr call) (l:Cy o=some (t,y,d)) :
  call=false/\(∀ id,id∈wr->∃ a b c,T t=.sl id a b c)/\(∀ id,id∈rd->(∃ a b c,T t=.sl id a b c)∨∃ a b c,T y=.sl id a b c)/\(h.length < r.length->∃ a b c,v=.sl h.length a b c)/\r.length<=h.length+1/\o.dst=some d:=by
 unfold Cy at l
 split at l
 .rename_i args x z q B hd
  split at l
  .rename_i t2 A hl
   simp at l
   obtain⟨rfl,rfl,rfl⟩:=l
   cases st with
   | skip _=>exact⟨rfl,λid g=>by simp at g,λid g=>by simp at g,λh=>by omega,by omega,hd⟩
   | op _ f =>
    simp only[cD,q,hl] at f
    have u:∀ {v':V} {i:bH} {k:List Nat},some (v',bH.none,([]:List Nat))=some (v,i,k)->false=false/\(∀ id,id∈i.wr->∃ a b c,T t2=.sl id a b c)/\(∀ id,id∈k->(∃ a b c,T t2=.sl id a b c)∨∃ a b c,T A=.sl id a b c)/\(h.length < (i.apply h).length->∃ a b c,v=.sl h.length a b c)/\(i.apply h).length<=h.length+1/\o.dst=some z:=by
     intro v' i k e
     simp only[aau,aay] at e
     obtain⟨_,rfl,rfl⟩:=e
     exact⟨rfl,λid g=>by simp[bH.wr] at g,λid g=>by simp at g,λh=>by simp[bH.apply] at h,by simp[bH.apply],hd⟩
    split at f
    .unfold oY at f
     split at f
     .rename_i e xs k _ s
      have m:=QH s
      split at f
      .simp at f
      .split at f
       .split at f <;> first | exact u f | simp at f
       .split at f
        .simp at f
        .split at f
         .split at f
          .simp only[aau,aay] at f
           obtain⟨rfl,rfl,rfl⟩:=f
           exact⟨rfl,λid g=>by simp[bH.wr] at g,λid g=>.inr (m id g),λ_=>⟨_,_,_,rfl⟩,by simp[bH.apply],hd⟩
          .simp at f
         .rename_i id off len esz w
          split at f
          .split at f
           .simp only[aau,aay] at f
            obtain⟨rfl,rfl,rfl⟩:=f
            refine⟨rfl,λp g=>?_,λp g=>?_,λ_=>⟨_,_,_,rfl⟩,by simp[bH.apply],hd⟩
            .simp[bH.wr] at g;subst g
             exact⟨off,len,esz,w⟩
            .rcases aaI.1 g with rfl | g
             .exact .inl ⟨off,len,esz,w⟩
             .exact .inr (m p g)
           .simp at f
          .simp at f
         .simp at f
     .simp at f
    .split at f
     .unfold zS at f
      split at f
      .split at f
       .split at f
        .exact u f
        .split at f
         .simp only[aau,aay] at f
          obtain⟨rfl,rfl,rfl⟩:=f
          exact⟨rfl,λid g=>by simp[bH.wr] at g,λid g=>by simp at g,λ_=>⟨_,_,_,rfl⟩,by simp[bH.apply],hd⟩
         .simp at f
       .simp at f
      .simp at f
     .simp at f
   | kD _ j _=>rw[q] at j;simp at j
   | iq _ j _ _ _ _=>rw[q] at j;simp at j
   | call _ j _ _ _ _ _=>rw[q] at j;simp at j
  .simp at l
 .simp at l
theorem Ro {T j:Env} {h p:aG} {a:List Rec} (q:Tr P n all all T h a j p) {i:Nat} {o:Oper} (k:all[i]?=some o) {r:Rec} (hr:a[i]?=some r) :
  ∃ e h1 v f,er P n all o e h1 v f r.rd r.wr r.call/\r.lo=h1.length/\r.hi=f.length/\(∀ t,stays all i t=true->e t=j t)/\∀ d,o.dst=some d->stays all (i+1) d=true->j d=v:=by
 obtain⟨e,h1,v,f,rd,wr,call,l,g,s,w,m,x,y⟩:=q.at_ i o k
 rw[hr] at g
 have g:=acC g
 subst g
 refine⟨e,h1,v,f,s,rfl,rfl,λt hs=>?_,λd hd hs=>?_⟩
 .have hk:=yQ hs
  have hi:i < all.length:=(aaG.1 k).1
  have b:all[i]=o:=(aaG.1 k).2
  rw[abg hi,b] at hk
  rw[m.keep λu b=>hk u (by simp[b])]
  have:=hk o (by simp)
  cases c:o.dst with
  | none=>rfl
  | some d=>simp only[Env.put];rw[aat];rintro rfl;exact this c
 .rw[m.keep (yQ hs),hd]
  simp[Env.put]
theorem BD {i a b c j d e f:Nat} (h:jv (.sl i a b c) (.sl j d e f)):i≠j:=h
theorem Pc {T r:Env} {h E:aG} {c:List Rec} (A:Tr P n all all T h c r E) {i k:Nat} {a b:Rec} {B:List (Nat × Nat)} (hp:GD all i k=some B) (o:∀ p∈B,jv (r p.1) (r p.2)) (F:c[i]?=some a) (G:c[k]?=some b):qN a b:=by
 unfold GD at hp
 split at hp
 .rename_i oa ob s u
  split at hp
  .rename_i t y d g C d' h1 H
   split at hp
   .rename_i l
    simp only[aaB] at l
    obtain⟨⟨⟨⟨s1,s2⟩,I⟩,v⟩,J⟩:=l
    simp at hp;subst hp
    have j:=o (t,g) (by simp)
    have a2:=o (t,C) (by simp)
    have a3:=o (g,y) (by simp)
    have a4:=o (d,g) (by simp)
    simp only at j a2 a3 a4
    obtain⟨Ta,w,va,K,L,M,N,x,z⟩:=Ro A s F
    obtain⟨Tb,O,vb,Q,R,_,_,q,_⟩:=Ro A u G
    obtain⟨S,U,V,W,p5,X⟩:=J0 L h1
    obtain⟨Y,D,Z,_⟩:=J0 R H
    have z:=z d X I
    rw[<-x t s1,<-q g v] at j
    rw[<-x t s1,<-q C J] at a2
    rw[<-q g v,<-x y s2] at a3
    rw[z,<-q g v] at a4
    refine⟨λid f hr=>?_,λid f hr=>?_,λm=>by rw[S] at m;simp at m,λm=>by rw[Y] at m;simp at m,λid f hx=>?_⟩
    .obtain⟨_,_,_,e⟩:=U id f
     rcases Z id hr with ⟨_,_,_,e'⟩ | ⟨_,_,_,e'⟩
     .rw[e,e'] at j;exact BD j rfl
     .rw[e,e'] at a2;exact BD a2 rfl
    .obtain⟨_,_,_,e⟩:=D id f
     rcases V id hr with ⟨_,_,_,e'⟩ | ⟨_,_,_,e'⟩
     .rw[e',e] at j;exact BD j rfl
     .rw[e,e'] at a3;exact BD a3 rfl
    .obtain⟨_,_,_,e⟩:=D id f
     obtain⟨_,_,_,e'⟩:=W (by omega)
     have:id=w.length:=by omega
     subst this
     rw[e,e'] at a4;exact BD a4 rfl
   .simp at hp
  .simp at hp
 .simp at hp
theorem O1 {T d:Env} {h m:aG} {c:List Rec} (e:Tr P n all all T h c d m) {i k:Nat} {a b:Rec} {f:List (Nat × Nat)} (hp:CR all i k=some f) (g:∀ p∈f,jv (d p.1) (d p.2)) (j:c[i]?=some a) (l:c[k]?=some b):qN a b:=by
 unfold CR at hp
 split at hp
 .rename_i p h1
  simp at hp;subst hp
  exact PX e h1 (g p (by simp)) j l
 .exact Pc e hp g j l
theorem UZ {ls:List Nat} {d:List Rec} {T o:Env} {hp q:aG} {j:List (Nat × Nat)} (v:Tr P n all all T hp d o q) (h:Fy all (mV all ls)=some j) (z:∀ p∈j,jv (o p.1) (o p.2)) (hl:ls.length=d.length)
  (hr:∀ (i x:Nat) (r:Rec),ls[i]?=some x->d[i]?=some r->mL x r.rd r.wr r.call r.lo r.hi):xm all d:=by
 intro i k a b s l m A
 have hi:i < d.length:=(aaG.1 l).1
 have hk:k < d.length:=(aaG.1 m).1
 have w:=hr i _ a (aar (by omega)) l
 have y:=hr k _ b (aar (by omega)) m
 have B:(ls[i]'(by omega),i)∈ls.zipIdx:=by rw[abG];simp[aar (show i < ls.length by omega)]
 have mk:(ls[k]'(by omega),k)∈ls.zipIdx:=by rw[abG];simp[aar (show k < ls.length by omega)]
 by_cases h1:Be all (ls[i]'(by omega)) i (ls[k]'(by omega)) k=true
 .unfold Be at h1
  simp only[s,decide_true,acE,A,acD,abt,abH,aaB,aaE] at h1
  rcases h1 with ((h1 | h1) | h1) | h1
  .obtain⟨g,f,t,C⟩:=w.1 h1
   exact⟨λid c=>by simp[f] at c,λid _=>by simp[g],λu=>by simp[t] at u,λ_=>f,λid _ D=>by omega⟩
  .obtain⟨g,f,t,C⟩:=y.1 h1
   exact⟨λid _=>by simp[g],λid c=>by simp[f] at c,λ_=>f,λu=>by simp[t] at u,λid c=>by simp[f] at c⟩
  .have g:=w.2 h1.1
   have f:=y.2 h1.2
   exact⟨λid c=>by simp[g] at c,λid c=>by simp[f] at c,λ_=>f,λ_=>g,λid c=>by simp[f] at c⟩
  .exact zh v h1 l m
 .have hm:(i,k)∈mV all ls:=by
   unfold mV
   rw[List.mem_flatMap]
   refine⟨_,B,?_⟩
   rw[abJ]
   exact⟨_,mk,by simp only;rw[aat h1]⟩
  obtain⟨p,hp,e⟩:=Si h (i,k) hm
  exact Sq v e (z p hp) l m
theorem Il {P:Program} {t:TypeId} {id:Nat} {q:V} {ok:Bool} {H1 a:View} (h:H1 id=a id):gM P t (.mp id) q ok H1=gM P t (.mp id) q ok a:=by
 unfold gM
 simp only[h]
theorem Qq {P:Program} {t:TypeId} {id:Nat} {q:V} {H1 a:View} (h:H1 id=a id):e9 P t (.mp id) q H1=e9 P t (.mp id) q a:=by
 cases hm:dQ P t with
 | none=>simp only[e9,hm]
 | some x=>simp only[e9,hm,h]
theorem U5 {P:Program} {t:TypeId} {id:Nat} {q:V} {H:View} {v:V} {eff:bH} {rd:List Nat} (h:gM P t (.mp id) q false H=some (v,eff,rd)):eff=.none/\rd=[id]:=by
 simp only[gM,aaU,if_false] at h
 repeat' (first | (simp only[aau,aay] at h;exact⟨h.2.1.symm,h.2.2.symm⟩)|(split at h)|(simp at h;done))
theorem RF {P:Program} {t:TypeId} {id:Nat} {q:V} {H:View} {v:V} {eff:bH} {rd:List Nat} (h:e9 P t (.mp id) q H=some (v,eff,rd)):∃ obj,eff=.fQ id obj:=by
 cases hm:dQ P t with
 | none=>simp[e9,hm] at h
 | some x =>
  simp only[e9,hm] at h
  repeat' (first | (simp only[aau,aay] at h;exact⟨_,h.2.1.symm⟩)|(split at h)|(simp at h;done))
theorem Ko {o:Oper} {T:Env} {h f:aG} {v:V} {rd wr:List Nat} {call:Bool} (st:er P n all o T h v f rd wr call) (g:dU n all T o=some true) (i:∀ e x,o.op≠.box e x) (j:∀ s d x,o.op≠.convert s d x) (hl:∀ c,o.op≠.call c) :
  ∃ eff,cD P o T h.view h.length=some (v,eff,rd)/\f=eff.apply h/\wr=eff.wr/\call=false:=by
 cases st with
 | skip hs=>rw[g] at hs;simp at hs
 | op _ b=>exact⟨_,b,rfl,rfl,rfl⟩
 | kD _ a _=>exact absurd a (i _ _)
 | iq _ a _ _ _ _=>exact absurd a (j _ _ _)
 | call _ a _ _ _ _ _=>exact absurd a (hl _)
theorem XL {a:List Rec} {e:Nat->Env} {hs:Nat->aG} {vs:Nat->V} (c:D2 P n all a e hs vs) (hl:a.length=all.length) {k:Nat} (hk:k<=all.length) (hw:∀ j r,j < k->a[j]?=some r->r.wr=[]) :
  ∀ j,j<=k->(hs 0).length<=(hs j).length/\∀ id,id < (hs 0).length->(hs j).view id=(hs 0).view id:=by
 intro j
 induction j with
 | zero=>intro _;exact⟨aaD _,λ_ _=>rfl⟩
 | succ j f =>
  intro h
  obtain⟨d,g⟩:=f (by omega)
  obtain⟨st,_,_,_,_⟩:=c j all[j] (a[j]'(by omega)) (aar (by omega)) (aar (by omega))
  refine⟨abp d (wE st),λid b=>?_⟩
  rw[uh st (aa3 b d) (by rw[hw j _ (by omega) (aar (by omega))];simp)]
  exact g id b
theorem sw {a:List Rec} {b:Nat->Env} {hs:Nat->aG} {vs:Nat->V} (c:D2 P n all a b hs vs) (hl:a.length=all.length) {i t:Nat} (h:stays all i t=true):∀ j,i<=j->j<=all.length->b j t=b i t:=by
 intro j d e
 refine Cz (vs:=vs) (N:=all.length) (λk o hk=>?_) rfl i j d e λk o h1 l f=>yQ h o (by
  rw[List.mem_iff_getElem?]
  exact⟨k - i,by rw[acz,show i+(k - i)=k by omega];exact f⟩)
 have g:k < all.length:=(aaG.1 hk).1
 exact(c k o (a[k]'(by omega)) hk (aar (by omega))).2.2.1
theorem J2 {ls:List Nat} {d:List Rec} {T I:Env} {hp bb:aG} {W:List (Nat × Nat)} {tp:Option (Nat × Nat)} (tr:Tr P n all all T hp d I bb) (h:yf all (Js all ls tp)=some W) (hA:∀ p∈W,jv (I p.1) (I p.2)) (hl:ls.length=d.length)
  (hr:∀ (i x:Nat) (r:Rec),ls[i]?=some x->d[i]?=some r->mL x r.rd r.wr r.call r.lo r.hi) (X:∀ p,tp=some p->∃ D,Jr all ls p.1 p.2=some D/\PN P D.1 (I D.2.1) (I D.2.2) hp.view):PD P n all d T I hp:=by
 have main:∀ i k a b,i < k->d[i]?=some a->d[k]?=some b->ordered (gJ all []) i k=false->tp≠some (i,k)->qN a b:=by
  intro i k a b K V S ho bd
  have hi:i < d.length:=(aaG.1 V).1
  have hk:k < d.length:=(aaG.1 S).1
  have la:=hr i _ a (aar (by omega)) V
  have lb:=hr k _ b (aar (by omega)) S
  have mi:(ls[i]'(by omega),i)∈ls.zipIdx:=by rw[abG];simp[aar (show i < ls.length by omega)]
  have mk:(ls[k]'(by omega),k)∈ls.zipIdx:=by rw[abG];simp[aar (show k < ls.length by omega)]
  by_cases h1:Be all (ls[i]'(by omega)) i (ls[k]'(by omega)) k=true
  .unfold Be at h1
   simp only[K,decide_true,acE,ho,acD,abt,abH,aaB,aaE] at h1
   rcases h1 with ((h1 | h1) | h1) | h1
   .obtain⟨y,s,Y,e4⟩:=la.1 h1
    exact⟨λid c=>by simp[s] at c,λid _=>by simp[y],λZ=>by simp[Y] at Z,λ_=>s,λid _ hx=>by omega⟩
   .obtain⟨y,s,Y,e4⟩:=lb.1 h1
    exact⟨λid _=>by simp[y],λid c=>by simp[s] at c,λ_=>s,λZ=>by simp[Y] at Z,λid c=>by simp[s] at c⟩
   .have y:=la.2 h1.1
    have s:=lb.2 h1.2
    exact⟨λid c=>by simp[y] at c,λid c=>by simp[s] at c,λ_=>s,λ_=>y,λid c=>by simp[s] at c⟩
   .exact zh tr h1 V S
  .have hm:(i,k)∈mV all ls:=by
    unfold mV
    rw[List.mem_flatMap]
    refine⟨_,mi,?_⟩
    rw[abJ]
    exact⟨_,mk,by simp only;rw[aat h1]⟩
   by_cases hn:newAt all k=true
   .unfold newAt at hn
    split at hn
    .rename_i ob L
     obtain⟨T1,cj,v,J,rd,wr,call,bl,y,s,_⟩:=tr.at_ k ob L
     rw[S] at y
     have y:=acC y
     subst y
     obtain⟨n1,n2,n3⟩:=El s hn
     exact⟨λid _=>by simp[n1],λid c=>by simp[n2] at c,λ_=>n2,λZ=>by simp[n3] at Z,λid c=>by simp[n2] at c⟩
    .simp at hn
   .obtain⟨p,hp,e⟩:=OW h (i,k) (by
     unfold Js
     rw[abj]
     refine⟨hm,?_⟩
     simp only[aaB,acF,acy,ne_eq]
     exact⟨by simpa using hn,bd⟩)
    exact O1 tr e (λq hq=>hA q (hp q hq)) V S
 cases tp with
 | none=>exact xm.Zk λi k a b h1 J h3 h4=>main i k a b h1 J h3 h4 (by simp)
 | some p =>
  obtain⟨i0,C⟩:=p
  obtain⟨D,f,u⟩:=X _ rfl
  intro M hs vs ck N an E w i
  by_cases hi:i=i0
  .subst hi
   refine⟨some C,λk a b h1 J h3 h4 h5=>main i k a b h1 J h3 h4 (λe=>h5 (by simp at e;rw[e])),λk a b o hk V S ho=>?_⟩
   simp at hk;subst hk
   unfold Jr at f
   simp only at f
   split at f
   .rename_i oa ob O L
    rw[ho] at O
    have O:=acC O
    subst O
    split at f
    .rename_i t m q t' m' q' l z bn bq
     split at f
     .rename_i F
      simp only[aaB,abH,aaE,aaX,abl] at F
      obtain⟨⟨⟨⟨⟨⟨⟨⟨rfl,rfl⟩,rfl⟩,s1⟩,s2⟩,s3⟩,s4⟩,K⟩,U⟩:=F
      simp only[aau] at f
      subst f
      simp only at u
      have br:C < all.length:=(aaG.1 L).1
      have bs:∀ j r,j < C->d[j]?=some r->r.wr=[]:=λj r hj bx=>by
       have h1:=U j hj
       have aq:j < ls.length:=by omega
       rw[aaq,aar aq] at h1
       exact(hr j _ r (aar aq) bx).2 h1
      have G:=XL w E (Nat.le_of_lt br) bs
      have em:∀ j,i<=j->j<=all.length->M j m=I m:=λj h1 J=>by
       rw[<-an,sw w E s1 j h1 J,sw w E s1 all.length (by omega) (aaD _)]
      have eq:∀ j,i<=j->j<=all.length->M j q=I q:=λj h1 J=>by
       rw[<-an,sw w E s2 j h1 J,sw w E s2 all.length (by omega) (aaD _)]
      obtain⟨b0,_,_,b1,b2⟩:=w i o a ho V
      obtain⟨b3,_,_,_,_⟩:=w C ob b L S
      have gi:dU n all (M i) o=some true:=by unfold dU;rw[bn]
      have gk:dU n all (M C) ob=some true:=by unfold dU;rw[bq]
      unfold PN at u
      split at u
      .rename_i id c
       obtain⟨⟨cu,c0,H⟩,u⟩:=u
       have Q:id < hp.length:=jw (by rw[H];simp)
       have ar:(hs C).view id=hp.view id:=by rw[(G C (aaD _)).2 id (by rw[N];exact Q),N]
       have a1:(hs i).view id=hp.view id:=by rw[(G i (Nat.le_of_lt K)).2 id (by rw[N];exact Q),N]
       obtain⟨cg,A,b4,b5,b7⟩:=Ko b0 gi (by rw[l];simp) (by rw[l];simp) (by rw[l];simp)
       obtain⟨ch,B,b8,b9,cv⟩:=Ko b3 gk (by rw[z];simp) (by rw[z];simp) (by rw[z];simp)
       simp only[cD,l] at A
       simp only[cD,z] at B
       have y:ev (M i) (.tmp m)=.mp id:=(em i (aaD _) (by omega)).trans c
       have s:ev (M i) (.tmp q)=I q:=eq i (aaD _) (by omega)
       have Y:ev (M C) (.tmp m)=.mp id:=(em C (by omega) (by omega)).trans c
       have e4:ev (M C) (.tmp q)=I q:=eq C (by omega) (by omega)
       rw[y,s] at A
       rw[Y,e4,Qq ar] at B
       obtain⟨l1,l2⟩:=U5 A
       obtain⟨obj,l3⟩:=RF B
       subst l1 l3
       have ca:(hs (C+1)).view id=obj:=by
        rw[b8,nq (λcA R=>by
         simp only[bH.wr,abq] at R
         subst R
         rw[ar,H];simp)]
        simp[bH.view,View.set]
       refine⟨K,b5,b7,by rw[b1,b2,b4];rfl,λg hg cc=>?_⟩
       have a6:id < (hs i).length:=jw (by rw[a1,H];simp)
       have a7:g.view id=(hp.view.set id obj) id:=by
        rw[cc id a6,b9,aaw (by simp[bH.wr]),ca]
        simp[View.set]
       have cf:=u _ _ _ B
       have a8:cD P o (M i) g.view g.length=some (vs i,.none,a.rd):=by
        simp only[cD,l]
        rw[y,s,Il a7,cf,<-Il a1]
        exact A
       exact .op gi a8
      .exact u.elim
     .simp at f
    .simp at f
   .simp at f
  .exact⟨none,λk a b h1 J h3 h4 _=>main i k a b h1 J h3 h4 (λe=>hi (by simp at e;exact e.1.symm)),λk a b o h1=>by simp at h1⟩
theorem UD (hm:P.follows .mixedOrders=true) {p:Fz} {id:Nat} {ops:Array Oper} {q:SC} {T:Env} {h:aG} {Q:Exit->Env->View->Prop} (a:EH P n p ops.toList=some q) (hw:wS P q T h.view Q) :
  ∃ e g d,dw P n (.region id ops true) T h e g d/\(kh h d/\h.length<=d.length)/\Q e g d.view:=by
 unfold EH at a
 split at a
 .simp at a
 .rename_i l hl
  split at a
  .simp at a
  .rename_i b
   have b:(group l).all vX=true:=by simpa using b
   have j:dY P n ops.toList p ops.toList=some (lU (group l)):=by rw[iA];exact hl
   split at a
   .rename_i v
    simp only[aaF] at a
    obtain⟨w,k,rfl⟩:=a
    obtain⟨f,g,d,t,m,hk,c⟩:=BL (group l) ops.toList T h j b hw
    rw[iA] at c
    refine⟨.normal,g,d,?_,m,hk.rest⟩
    have o:xm ops.toList f:=UZ t k (Eh hk) (by simpa using c.1) (λi x r u hr=>by
     simp only[aav,aaF] at u
     obtain⟨s,hs,rfl⟩:=u
     exact c.2 i s r hs hr)
    simpa using Cs hm (id:=id) t v o
   .simp at a
theorem U1 (hm:P.follows .mixedOrders=true) {z:Fz} {id:Nat} {ops:Array Oper} {A:SC} {T:Env} {h:aG} {Q:Exit->Env->View->Prop} (b:FP P n z ops.toList=some A) (hw:wS P A T h.view Q) :
  ∃ e k d,dw P n (.region id ops true) T h e k d/\(kh h d/\h.length<=d.length)/\Q e k d.view:=by
 unfold FP at b
 split at b
 .simp at b
 .rename_i l hl
  split at b
  .simp at b
  .rename_i c
   have c:(group l).all vX=true:=by simpa using c
   have m:dY P n ops.toList z ops.toList=some (lU (group l)):=by rw[iA];exact hl
   split at b
   .rename_i B
    split at b
    .simp only[aaF] at b
     obtain⟨v,f,rfl⟩:=b
     obtain⟨o,k,d,q,g,hk,a⟩:=BL (group l) ops.toList T h m c hw
     rw[iA] at a
     refine⟨.normal,k,d,?_,g,hk.rest⟩
     have j:=J2 q f (Eh hk) (by simpa using a.1) (λi x r t hr=>by
      simp only[aav,aaF] at t
      obtain⟨s,hs,rfl⟩:=t
      exact a.2 i s r hs hr) (λp hp=>by simp at hp)
     simpa using zD hm (id:=id) q B j
    .rename_i p hp
     split at b
     .rename_i w y
      simp only[aaF] at b
      obtain⟨v,f,rfl⟩:=b
      obtain⟨o,k,d,q,g,hk,a⟩:=BL (group l) ops.toList T h m c hw
      rw[iA] at a
      refine⟨.normal,k,d,?_,g,hk.2.rest⟩
      have j:=J2 q f (Eh hk.2) (by simpa using a.1) (λi x r t hr=>by
       simp only[aav,aaF] at t
       obtain⟨s,hs,rfl⟩:=t
       exact a.2 i s r hs hr) (λC u=>by
        simp only[aau] at u
        subst u
        exact⟨w,y,hk.1⟩)
      simpa using zD hm (id:=id) q B j
     .simp at b
   .simp at b
theorem u9 (hm:P.follows .mixedOrders=true) {t:Fz} {id:Nat} {ops:Array Oper} {draw quiet:Bool} {u:SC} {T:Env} {h:aG} {Q:Exit->Env->View->Prop} (a:ux P n t ops.toList draw quiet=some u) (hw:wS P u T h.view Q) :
  ∃ e d c,dw P n (.region id ops draw) T h e d c/\(kh h c/\h.length<=c.length)/\Q e d c.view:=by
 unfold ux at a
 split at a
 .simp at a
 .rename_i l hl
  split at a
  .simp at a
  .rename_i f
   have f:(group l).all vX=true:=by simpa using f
   have k:dY P n ops.toList t ops.toList=some (lU (group l)):=by rw[iA];exact hl
   have key:Al P quiet (group l) T h.view (Q .normal)->(draw=true->od ops.toList=true/\Jp ops.toList (l.map λs=>jZ P quiet s.b)=true) ->
     ∃ e d c,dw P n (.region id ops draw) T h e d c/\(kh h c/\h.length<=c.length)/\Q e d c.view:=by
    intro hw m
    obtain⟨j,d,c,o,p,hk,g⟩:=BL (group l) ops.toList T h k f hw
    rw[iA] at g
    refine⟨.normal,d,c,?_,p,hk⟩
    cases hd:draw with
    | false=>simpa using J8 (id:=id) o
    | true =>
     obtain⟨h1,w⟩:=m hd
     have q:xm ops.toList j:=UK o w (by simpa using g.1) (λi x r v hr=>by
      simp only[aav,aaF] at v
      obtain⟨s,hs,rfl⟩:=v
      exact g.2 i s r hs hr)
     simpa using Cs hm (id:=id) o h1 q
   split at a
   .rename_i hd
    split at a
    .rename_i y
     simp at a;subst a
     exact key hw (λ_=>by simpa using y)
    .simp at a
   .rename_i hd
    simp at a;subst a
    exact key hw (λe=>absurd e hd)
theorem ga {a b:Option SC} {c:SC} (h:orElse' a b=some c):a=some c∨b=some c:=by
 cases a with
 | none=>exact .inr h
 | some x=>exact .inl h
theorem Sr (hm:P.follows .mixedOrders=true) {k:List Nat} {id:Nat} {ops:Array Oper} {draw:Bool} {i:SC} {T:Env} {h:aG} {Q:Exit->Env->View->Prop} (c:EA P n k ops.toList draw=some i) (hw:wS P i T h.view Q) :
  ∃ e j b,dw P n (.region id ops draw) T h e j b/\(kh h b/\h.length<=b.length)/\Q e j b.view:=by
 unfold EA at c
 rcases ga c with h1 | h1
 .exact u9 hm h1 hw
 .clear c
  split at h1
  .rename_i hd
   subst hd
   rcases ga h1 with a | h1
   .split at a
    .exact U1 hm a hw
    .simp at a
   rcases ga h1 with a | h1
   .split at a
    .exact u9 hm a hw
    .simp at a
   rcases ga h1 with d | d
   .exact UD hm d hw
   .rcases ga d with f | f
    .exact u9 hm f hw
    .rcases ga f with g | g
     .exact u9 hm g hw
     .exact u9 hm g hw
  .simp at h1
theorem Iu {e:Exit} {a b:Prop} (h:Di e a b):(e=.normal/\a)∨(e≠.normal/\b):=by
 cases e with
 | normal=>exact .inl ⟨rfl,h⟩
 | _=>exact .inr ⟨by simp,h⟩
def uD (P:Program) (n:Nat) (fz:List Nat) (c:Code):Prop:=∀ sc:SC,dE P n fz c=some sc->∀ (T:Env) (h:aG) (Q:Exit->Env->View->Prop),wS P sc T h.view Q ->
 ∃ e T' h',dw P n c T h e T' h'/\(kh h h'/\h.length<=h'.length)/\Q e T' h'.view
theorem Hm {b:List Nat} : uD P n b .skip:=by
 intro c a T h Q hw;simp[dE] at a;subst a;exact⟨_,T,h,.skip,⟨.refl _,aaD _⟩,hw⟩
theorem LV {f:List Nat} {x y:Code} (g:uD P n f x) (i:uD P n f y):uD P n f (.seq x y):=by
 intro t c T h Q hw
 simp only[dE] at c
 split at c
 .rename_i a b h1 p
  simp at c;subst c
  simp only[wS] at hw
  obtain⟨e,m,d,o,st1,hq⟩:=g a h1 T h _ hw
  rcases Iu hq with ⟨rfl,hq⟩ | ⟨j,hq⟩
  .obtain⟨q,r,k,s,st2,l⟩:=i b p m d _ hq
   exact⟨q,r,k,o.seq s,⟨st1.1.trans st2.1 st1.2,abp st1.2 st2.2⟩,l⟩
  .exact⟨e,m,d,o.NC j,st1,hq⟩
 .simp at c
theorem qB {b:Fz} {ops:List Oper} {draw quiet:Bool} {a:SC} (h:ux P n b ops draw quiet=some a) (l:Nat):qK a l=none:=by
 unfold ux at h
 repeat' (first | (simp only[aau] at h;subst h;rfl)|(split at h)|(simp at h;done))
theorem Qt {b:Fz} {ops:List Oper} {a:SC} (h:EH P n b ops=some a) (l:Nat):qK a l=none:=by
 unfold EH at h
 repeat' (first | (simp only[aaF] at h;obtain⟨_,_,rfl⟩:=h;rfl)|(split at h)|(simp at h;done))
theorem P4 {b:Fz} {ops:List Oper} {a:SC} (h:FP P n b ops=some a) (l:Nat):qK a l=none:=by
 unfold FP at h
 repeat' (first | (simp only[aaF] at h;obtain⟨_,_,rfl⟩:=h;rfl)|(split at h)|(simp at h;done))
theorem OV {f:List Nat} {ops:List Oper} {draw:Bool} {e:SC} (h:EA P n f ops draw=some e) (l:Nat):qK e l=none:=by
 unfold EA at h
 rcases ga h with h1 | h1
 .exact qB h1 l
 .split at h1
  .rcases ga h1 with a | h1
   .split at a
    .exact P4 a l
    .simp at a
   rcases ga h1 with a | h1
   .split at a
    .exact qB a l
    .simp at a
   rcases ga h1 with b | b
   .exact Qt b l
   .rcases ga b with c | c
    .exact qB c l
    .rcases ga c with d | d
     .exact qB d l
     .exact qB d l
  .simp at h1
theorem QX {j:List Nat} : ∀ (c:Code) (f:SC),dE P n j c=some f->∀ l,match findLabel c l with
  | some rest=>∃ r,qK f l=some r/\dE P n j rest=some r
  | none=>qK f l=none:=by
 intro c
 induction c with
 | seq x y h i =>
  intro f d l
  simp only[dE] at d
  split at d
  .rename_i a b h1 k
   simp at d;subst d
   have g:=h a h1 l
   have o:=i b k l
   simp only[findLabel,qK]
   cases m:findLabel x l with
   | some rx =>
    rw[m] at g
    obtain⟨r,p,q⟩:=g
    exact⟨.seq r b,by rw[p],by simp only[dE,q,k]⟩
   | none =>
    rw[m] at g
    simp only at g ⊢
    rw[g]
    exact o
  .simp at d
 | label l' =>
  intro f d l
  simp[dE] at d;subst d
  simp only[findLabel,qK]
  by_cases e:(l' == l)=true
  .rw[aaw e];exact⟨.skip,by rw[aaw e],by simp[dE]⟩
  .rw[aat e];simp only;rw[aat e]
 | region id ops draw=>intro f d l;simp only[dE] at d;simp only[findLabel];exact OV d l
 | cond x y z _ _ =>
  intro f d l
  simp only[dE] at d
  split at d
  .simp at d;subst d;rfl
  .simp at d
 | block id c _=>intro f d l;simp only[dE,aaF] at d;obtain⟨_,_,rfl⟩:=d;rfl
 | loop c _=>intro f d l;simp only[dE,aaF] at d;obtain⟨_,_,rfl⟩:=d;rfl
 | scope c _ =>
  intro f d l
  simp only[dE] at d
  split at d
  .split at d
   .simp only[aaF] at d;obtain⟨_,_,rfl⟩:=d;rfl
   .simp at d
  .simp at d
 | skip=>intro f d l;simp[dE] at d;subst d;rfl
 | exit id=>intro f d l;simp[dE] at d;subst d;rfl
 | ret=>intro f d l;simp[dE] at d;subst d;rfl
 | goto l'=>intro f d l;simp[dE] at d;subst d;rfl
 | _=>intro f d;simp[dE] at d
theorem Qs {u:List Nat} {c:Code} (E:uD P n u c) (hr:∀ l rest,findLabel c l=some rest->uD P n u rest):uD P n u (.scope c):=by
 intro G d T h Q hw
 simp only[dE] at d
 split at d
 .rename_i a h1
  split at d
  .rename_i l H
   simp only[aaF] at d
   obtain⟨r,v,rfl⟩:=d
   have j:=QX c a h1 l
   cases m:findLabel c l with
   | none=>rw[m] at j;simp only at j;rw[j] at v;simp at v
   | some rest =>
    rw[m] at j
    obtain⟨J,s,o⟩:=j
    rw[v] at s
    have s:=acC s
    subst s
    simp only[wS] at hw
    obtain⟨I,K,w,x⟩:=hw
    have go:∀ k T (h:aG),I k T h.view->∃ e D t,tZ P n c rest T h e D t/\(kh h t/\h.length<=t.length)/\Q e D t.view:=by
     intro k
     induction k using Nat.strongRecOn with
     | ind k y =>
      intro T h F
      obtain⟨e,p,b,q,st1,hq⟩:=hr l rest m r o T h _ (x k T h.view F)
      cases e with
      | goto l' =>
       obtain⟨rfl,z,A,f⟩:=hq
       obtain⟨o,B,g,C,st2,i⟩:=y z A p b f
       exact⟨o,B,g,tZ.jump q m C,⟨st1.1.trans st2.1 st1.2,abp st1.2 st2.2⟩,i⟩
      | _=>exact⟨_,p,b,.out q rfl,st1,hq⟩
    obtain⟨e,p,b,q,st1,hq⟩:=E a h1 T h _ w
    cases e with
    | goto l' =>
     obtain⟨rfl,z,_,f⟩:=hq
     obtain⟨o,B,g,C,st2,i⟩:=go z p b f
     exact⟨o,B,g,.scope (tZ.jump q m C),⟨st1.1.trans st2.1 st1.2,abp st1.2 st2.2⟩,i⟩
    | _=>exact⟨_,p,b,.scope (.out q rfl),st1,hq⟩
  .simp at d
 .simp at d
theorem VW (hm:P.follows .mixedOrders=true) {D:List Nat} : ∀ c:Code,uD P n D c/\∀ l rest,findLabel c l=some rest->uD P n D rest:=by
 intro c
 induction c with
 | skip=>exact⟨Hm,λl rest h=>by simp[findLabel] at h⟩
 | region id ops draw=>exact⟨λo d T h Q hw=>Sr hm d hw,λl rest h=>by simp[findLabel] at h⟩
 | seq x y m g =>
  refine⟨LV m.1 g.1,λl rest h=>?_⟩
  simp only[findLabel] at h
  split at h
  .rename_i r hr
   simp only[aau] at h;subst h
   exact LV (m.2 _ _ hr) g.1
  .exact g.2 _ _ h
 | cond c x y m g =>
  refine⟨?_,λl rest h=>by simp[findLabel] at h⟩
  intro o d T h Q hw
  simp only[dE] at d
  split at d
  .rename_i a b h1 G
   simp at d;subst d
   simp only[wS] at hw
   split at hw
   .rename_i t s
    have E:sd (SX.of c) t T=T:=by
     unfold sd
     split
     .rename_i k hk
      rw[hk] at s
      exact Eb s
     .rfl
    rw[SX.c8] at s
    cases t with
    | true =>
     have:=hw.1 rfl
     rw[E] at this
     obtain⟨e,i,f,j,st,hq⟩:=m.1 a h1 T h Q this
     exact⟨e,i,f,.cond s j,st,hq⟩
    | false =>
     have:=hw.2 rfl
     rw[E] at this
     obtain⟨e,i,f,j,st,hq⟩:=g.1 b G T h Q this
     exact⟨e,i,f,.cond s j,st,hq⟩
   .exact hw.elim
  .simp at d
 | block id c q =>
  refine⟨?_,λl rest h=>by simp[findLabel] at h⟩
  intro o d T h Q hw
  simp only[dE,aaF] at d
  obtain⟨a,h1,rfl⟩:=d
  simp only[wS] at hw
  obtain⟨e,i,f,j,st,hq⟩:=q.1 a h1 T h _ hw
  exact⟨_,i,f,j.block,st,hq⟩
 | loop c q =>
  refine⟨?_,λl rest h=>by simp[findLabel] at h⟩
  intro o d T h Q hw
  simp only[dE,aaF] at d
  obtain⟨a,h1,rfl⟩:=d
  simp only[wS] at hw
  obtain⟨I,⟨k,hk⟩,p⟩:=hw
  have go:∀ k T (h:aG),I k T h.view->∃ e i f,sm P n c T h e i f/\(kh h f/\h.length<=f.length)/\Q e i f.view:=by
   intro k
   induction k using Nat.strongRecOn with
   | ind k v =>
    intro T h H
    obtain⟨e,F,u,j,st1,hq⟩:=q.1 a h1 T h _ (p k T h.view H)
    rcases Iu hq with ⟨rfl,J,w,z⟩ | ⟨A,hq⟩
    .obtain⟨K,L,B,M,st2,C⟩:=v J w F u z
     exact⟨K,L,B,.step j M,⟨st1.1.trans st2.1 st1.2,abp st1.2 st2.2⟩,C⟩
    .exact⟨e,F,u,.out j A,st1,hq⟩
  obtain⟨e,i,f,j,st,hq⟩:=go k T h hk
  exact⟨e,i,f,.loop j,st,hq⟩
 | exit id=>exact⟨λo d T h Q hw=>by simp[dE] at d;subst d;exact⟨_,T,h,.exit,⟨.refl _,aaD _⟩,hw⟩,λl rest h=>by simp[findLabel] at h⟩
 | ret=>exact⟨λo d T h Q hw=>by simp[dE] at d;subst d;exact⟨_,T,h,.ret,⟨.refl _,aaD _⟩,hw⟩,λl rest h=>by simp[findLabel] at h⟩
 | label l'=>exact⟨λo d T h Q hw=>by simp[dE] at d;subst d;exact⟨_,T,h,.label,⟨.refl _,aaD _⟩,hw⟩,λl rest h=>by
   simp only[findLabel] at h
   split at h
   .simp only[aau] at h;subst h;exact Hm
   .simp at h⟩
 | goto l'=>exact⟨λo d T h Q hw=>by simp[dE] at d;subst d;exact⟨_,T,h,.goto,⟨.refl _,aaD _⟩,hw⟩,λl rest h=>by simp[findLabel] at h⟩
 | scope c q=>exact⟨Qs q.1 q.2,λl rest h=>by simp[findLabel] at h⟩
 | _=>exact⟨λo d=>by simp[dE] at d,λl rest h=>by simp[findLabel] at h⟩
theorem Y6 (hm:P.follows .mixedOrders=true) {f:List Nat} (c:Code) (b:SC) (g:dE P n f c=some b) (T:Env) (h:aG) (Q:Exit->Env->View->Prop) (hw:wS P b T h.view Q) :
 ∃ e d a,dw P n c T h e d a/\(kh h a/\h.length<=a.length)/\Q e d a.view:=(VW hm c).1 b g T h Q hw
theorem Y9 {T:Env} {h:aG} {r:ResultVar} {l:List SR} {rest:List ResultVar} (b:gN P (r :: rest)=some l):∃ s l',l=s :: l'/\gN P rest=some l'/\∀ K:V->Prop,wR T h.view s K->∃ v,uT P T h r=some v/\K v:=by
 cases r with
 | tmp t =>
  simp only[gN,aaF] at b
  obtain⟨l',h1,rfl⟩:=b
  exact⟨.tmp t,l',rfl,h1,λK hk=>⟨_,rfl,hk⟩⟩
 | cell a t =>
  simp only[gN] at b
  split at b
  .rename_i k l' h1 g
   simp at b;subst b
   refine⟨.cell a k,l',rfl,g,λK hk=>?_⟩
   simp only[wR] at hk
   simp only[uT,oz,yU h1]
   split at hk
   .rename_i id i j c
    split at hk
    .rename_i es hH
     obtain⟨d,hk⟩:=hk
     obtain⟨v,f,hk⟩:=rR hk
     exact⟨v,by rw[c];simp only[hH];rw[aaw d,f];rfl,hk⟩
    .exact hk.elim
   .rename_i e j c
    obtain⟨v,f,hk⟩:=rR hk
    exact⟨v,by rw[c];simp only;rw[f];rfl,hk⟩
   .exact hk.elim
  .simp at b
theorem Tm {T:Env} {h:aG} {K:List V->Prop} : ∀ (rs:List ResultVar) (l:List SR) (acc:List V),gN P rs=some l->Gg T h.view l acc K->∃ vs,nX P T h rs=some vs/\K (acc ++ vs)
 | [],l,acc,a,hw=>by simp[gN] at a;subst a;exact⟨[],rfl,by simpa [Gg] using hw⟩
 | r :: rest,l,acc,a,hw=>by
  obtain⟨s,l',rfl,h1,c⟩:=Y9 (T:=T) (h:=h) a
  simp only[Gg] at hw
  obtain⟨v,d,hk⟩:=c _ hw
  obtain⟨vs,b,hk⟩:=Tm rest l' (acc ++ [v]) h1 hk
  exact⟨v :: vs,by simp[nX,d,b],by simpa using hk⟩
def wF (P:Program) (F:SF) (vs:List V) (H:View) (K:V->View->Prop):Prop :=
 vs.length<=F.n/\wS P F.code (nj vs) H λe T' H'=>(e=.ret∨e=.normal)/\Gg T' H' F.res [] λl=>K (z8 l) H'
theorem av.of (hm:P.follows .mixedOrders=true) {f:FuncId} {j:List Nat} {F:SF} (b:aO P f j=some F) {vs:List V} {H:View} {K:V->View->Prop} (hw:wF P F vs H K):av P f vs H K:=by
 unfold aO at b
 split at b
 .rename_i fn g
  split at b
  .rename_i c k
   split at b
   .rename_i m rs h1 n o
    simp at b;subst b
    refine⟨o,?_⟩
    rintro h rfl
    obtain⟨e,r,p,q,st,he,hr⟩:=Y6 hm c m h1 _ h _ hw.2
    obtain⟨d,i,hk⟩:=Tm _ _ [] n hr
    refine⟨z8 d,p,cd.Of g k hw.1 q he ?_,st.1,by simpa using hk⟩
    unfold PV
    rw[i]
    cases d with
    | nil=>rfl
    | cons a l=>cases l <;> rfl
   .simp at b
  .simp at b
 .simp at b
theorem av.mono {f:FuncId} {vs:List V} {H:View} {K c:V->View->Prop} (h:av P f vs H K) (hk:∀ r H',K r H'->c r H'):av P f vs H c :=
 ⟨h.1,λd e=>let ⟨r,g,a,s,b⟩:=h.2 d e; ⟨r,g,a,s,hk _ _ b⟩⟩
theorem az.Pr {f:FuncId} {vs:List V} {H:View} {t:V} {K:V->View->Prop} (h:az P f vs t) (a:dW P f=true) (hk:K t H):Fm P f vs H K :=
 ⟨a,λb e=>⟨t,b,cd.ij h b,λ_ _=>rfl,e ▸ hk⟩⟩
theorem av.Pr {f:FuncId} {vs:List V} {H:View} {K:V->View->Prop} (h:av P f vs H λr H'=>(∀ id,H id≠.dead->H' id=H id)/\K r H'):Fm P f vs H K :=
 ⟨h.1,λb e=>by
  obtain⟨r,d,g,st,c,hk⟩:=h.2 b e
  refine⟨r,d,g,λid a=>?_,hk⟩
  by_cases hd:b.view id=.dead
  .rw[hd];exact st id a hd
  .rw[<-e] at c;exact c id hd⟩
end
inductive cO {α:Type} (x:α):Type where
 | mk
def gF (s:ByteArray):List Int:=s.data.toList.map λb=>(b.toNat:Int)
theorem fF (s:ByteArray):s.size=(gF s).length:=by rw[gF,aaA,bsize]
def aS (P:Program) (c:SC) (T:Env) (H:View) (Q:Exit->Env->View->Prop) (_:cO (T,H,Q)):Prop:=wS P (.loop c) T H Q
def XQ (P:Program) (l:Nat) (c r:SC) (T:Env) (H:View) (Q:Exit->Env->View->Prop) (_:cO (T,H,Q)):Prop:=wS P (.scope l c r) T H Q
def ay (P:Program) (quiet:Bool) (f:FuncId) (vs:List V) (H:View) (K:V->View->Prop) (_:cO (H,K)):Prop :=
 if quiet then Fm P f vs H K else av P f vs H K
def FI {α:Type} (v:α) (F:α->Prop) (_:cO F):Prop:=F v
def eO (v:V) (F:V->Prop) (_:cO F):Prop:=F v
def JS (o:di) (F:di->Prop) (_:cO F):Prop:=F o
def sC {α:Type} (o:Option α) (F:Option α->Prop) (_:cO F):Prop:=F o
def ah (b:Bool) (A B:Prop) (_:cO (A,B)):Prop:=(b=true->A)/\(b=false->B)
theorem Zg {α:Type} (v:α) (F:α->Prop) (w:cO F):FI v F w=F v:=propext Iff.rfl
section
variable (F:V->Prop) (w:cO F)
theorem MV (v:Value):eO (.val v) F w=F (.val v):=propext Iff.rfl
theorem NW (k:Nat):eO (.emp k) F w=F (.emp k):=propext Iff.rfl
theorem Nz:eO .ep F w=F .ep:=propext Iff.rfl
theorem Ol (es:List (List V)):eO (.aE es) F w=F (.aE es):=propext Iff.rfl
theorem Rc (a b c d:Nat):eO (.sl a b c d) F w=F (.sl a b c d):=propext Iff.rfl
theorem Oq (a b c:Nat):eO (.ptr a b c) F w=F (.ptr a b c):=propext Iff.rfl
theorem KI (e:List V) (j:Nat):eO (.aH e j) F w=F (.aH e j):=propext Iff.rfl
theorem Td (a:Nat):eO (.mp a) F w=F (.mp a):=propext Iff.rfl
theorem Rf (f:FuncId) (a b:List V):eO (.fn f a b) F w=F (.fn f a b):=propext Iff.rfl
theorem Nw (cs:List V):eO (.agg cs) F w=F (.agg cs):=propext Iff.rfl
theorem OG (cs:List V):eO (.bD cs) F w=F (.bD cs):=propext Iff.rfl
end
theorem N9 (F:di->Prop) (w:cO F) (k:Nat) (es:List (List V)):JS (.arr k es) F w=F (.arr k es):=propext Iff.rfl
theorem MT (F:di->Prop) (w:cO F) (es:List (V × V × Nat)) (k:Nat):JS (.map es k) F w=F (.map es k):=propext Iff.rfl
theorem Li {α:Type} (F:Option α->Prop) (w:cO F) (x:α):sC (some x) F w=F (some x):=propext Iff.rfl
theorem Kh (A B:Prop) (w:cO (A,B)):ah true A B w=A:=by simp[ah]
theorem Iw (A B:Prop) (w:cO (A,B)):ah false A B w=B:=by simp[ah]
theorem Ni (b:Bool) (A B:Prop) (w:cO (A,B)):ah (!b) A B w=ah b B A .mk:=by cases b <;> simp[ah]
theorem ah.split {b:Bool} {A B:Prop} {w:cO (A,B)} (h1:b=true->A) (a:b=false->B):ah b A B w:=⟨h1,a⟩
theorem ah.dec {p:Prop} [Decidable p] {A B:Prop} {w:cO (A,B)} (h1:p->A) (a:¬ p->B):ah (decide p) A B w:=⟨λh=>h1 (by simpa using h),λh=>a (by simpa using h)⟩
theorem ah.eq {a b:Int} {A B:Prop} {w:cO (A,B)} (h1:a=b->A) (c:¬ a=b->B):ah (a == b) A B w:=⟨λh=>h1 (by simpa using h),λh=>c (by simpa using h)⟩
theorem ah.ne {a b:Int} {A B:Prop} {w:cO (A,B)} (h1:¬ a=b->A) (c:a=b->B):ah (a != b) A B w:=⟨λh=>h1 (by simpa using h),λh=>c (by simpa using h)⟩
section
variable (P:Program) (T:Env) (H:View)
theorem WD (F:SF) (vs:List V) (K:V->View->Prop):wF P F vs H K=(vs.length<=F.n/\wS P F.code (nj vs) H λe a H'=>(e=.ret∨e=.normal)/\Gg a H' F.res [] λl=>FI (z8 l) (λv=>K v H') .mk):=propext Iff.rfl
theorem M7 (Q:Exit->Env->View->Prop):wS P .skip T H Q=Q .normal T H:=propext Iff.rfl
theorem IS (q:Bool) (gs:List SG) (Q:Exit->Env->View->Prop):wS P (.region q gs) T H Q=Al P q gs T H (Q .normal):=propext Iff.rfl
theorem E8 (a:List (Nat × Nat)) (gs:List SG) (Q:Exit->Env->View->Prop):wS P (.pv a gs) T H Q=Al P false gs T H (λb H'=>Bc a b (Q .normal b H')):=propext Iff.rfl
theorem Ev (a:Nat × Nat × Nat) (b:List (Nat × Nat)) (gs:List SG) (Q:Exit->Env->View->Prop):wS P (.Gw a b gs) T H Q=Al P false gs T H (λc H'=>PN P a.1 (c a.2.1) (c a.2.2) H/\Bc b c (Q .normal c H')):=propext Iff.rfl
theorem M0 (K:Prop):Bc [] T K=K:=propext Iff.rfl
theorem Kv (a b:Nat) (l:List (Nat × Nat)) (K:Prop):Bc ((a,b) :: l) T K=(jv (T a) (T b)/\Bc l T K):=propext Iff.rfl
theorem OD (i j k a b c:Nat):jv (.ptr i j k) (.ptr a b c)=(i≠a):=propext Iff.rfl
theorem CU (i j k a b c d:Nat):jv (.ptr i j k) (.sl a b c d)=(i≠a):=propext Iff.rfl
theorem zt (i j k e:Nat):jv (.ptr i j k) (.emp e)=True:=id rfl
theorem LD (i j k:Nat):jv (.ptr i j k) .ep=True:=id rfl
theorem Lm (i j k:Nat) (es:List (List V)):jv (.ptr i j k) (.aE es)=True:=id rfl
theorem Nt (a b c d e f g h:Nat):jv (.sl a b c d) (.sl e f g h)=(a≠e):=propext Iff.rfl
theorem Rs (a b c d e:Nat):jv (.sl a b c d) (.emp e)=True:=id rfl
theorem RX (a b c d:Nat):jv (.sl a b c d) .ep=True:=id rfl
theorem QA (a b c d:Nat) (es:List (List V)):jv (.sl a b c d) (.aE es)=True:=id rfl
theorem OE (k:Nat) (v:V):jv (.emp k) v=True:=by cases v <;> rfl
theorem NS (v:V):jv .ep v=True:=by cases v <;> rfl
theorem ML (es:List (List V)) (v:V):jv (.aE es) v=True:=by cases v <;> rfl
theorem Kd (e:List V) (j:Nat) (v:V):jv (.aH e j) v=True:=by cases v <;> rfl
theorem Sv (x y:SC) (Q:Exit->Env->View->Prop):wS P (.seq x y) T H Q=wS P x T H λe a H'=>Di e (wS P y a H' Q) (Q e a H'):=propext Iff.rfl
theorem Nn (c:SX) (x y:SC) (Q:Exit->Env->View->Prop):wS P (.cond c x y) T H Q=eO (c.at T) (λv=>match v with
 | .val (.bool b)=>ah b (wS P x (sd c true T) H Q) (wS P y (sd c false T) H Q) .mk
 | _=>False) .mk:=propext Iff.rfl
theorem Lk (id:Nat) (c:SC) (Q:Exit->Env->View->Prop):wS P (.block id c) T H Q=wS P c T H λe=>Q (sy id e):=propext Iff.rfl
theorem N8 (id:Nat) (Q:Exit->Env->View->Prop):wS P (.exit id) T H Q=Q (.exit id) T H:=propext Iff.rfl
theorem Sd (Q:Exit->Env->View->Prop):wS P .ret T H Q=Q .ret T H:=propext Iff.rfl
theorem KG (l:Nat) (c r:SC) (Q:Exit->Env->View->Prop):wS P (.scope l c r) T H Q=XQ P l c r T H Q .mk:=propext Iff.rfl
theorem KQ (l:Nat) (Q:Exit->Env->View->Prop):wS P (.label l) T H Q=Q .normal T H:=propext Iff.rfl
theorem MH (l:Nat) (Q:Exit->Env->View->Prop):wS P (.goto l) T H Q=Q (.goto l) T H:=propext Iff.rfl
theorem FM (l l':Nat) (a b:Prop):CV l (.goto l') a b=(l'=l/\a):=propext Iff.rfl
theorem Cu (l:Nat) (a b:Prop):CV l .normal a b=b:=propext Iff.rfl
theorem Fp (l i:Nat) (a b:Prop):CV l (.exit i) a b=b:=propext Iff.rfl
theorem HF (l:Nat) (a b:Prop):CV l .ret a b=b:=propext Iff.rfl
theorem Lu (l:Nat) (a b:Prop):Di (.goto l) a b=b:=propext Iff.rfl
theorem FB (i l:Nat):sy i (.goto l)=.goto l:=id rfl
theorem MN (c:SC) (Q:Exit->Env->View->Prop):wS P (.loop c) T H Q=aS P c T H Q .mk:=propext Iff.rfl
theorem MF (q:Bool) (K:Env->View->Prop):Al P q [] T H K=K T H:=propext Iff.rfl
theorem KF (q:Bool) (g:SG) (r:List SG) (K:Env->View->Prop):Al P q (g :: r) T H K=wG P q g T H λa H'=>Al P q r a H' K:=propext Iff.rfl
theorem MI (q:Bool) (ops:List (Option Nat × SB)) (K:Env->View->Prop):wG P q ⟨none,ops⟩ T H K=Ca P q ops T H K:=propext Iff.rfl
theorem NT (q:Bool) (d:Nat) (ops:List (Option Nat × SB)) (K:Env->View->Prop):wG P q ⟨some (d,true),ops⟩ T H K=eO (T d) (λv=>match v with
 | .val (.bool b)=>ah b (Ca P q ops (T.put (some d) (.val (.bool true))) H K) (K (jR ops (T.put (some d) (.val (.bool false)))) H) .mk
 | .bD []=>K (jR ops T) H
 | _=>False) .mk:=propext Iff.rfl
theorem Kl (q:Bool) (d:Nat) (ops:List (Option Nat × SB)) (K:Env->View->Prop):wG P q ⟨some (d,false),ops⟩ T H K=eO (T d) (λv=>match v with
  | .val (.bool b)=>ah b (K (jR ops (T.put (some d) (.val (.bool true)))) H) (Ca P q ops (T.put (some d) (.val (.bool false))) H K) .mk
  | .bD []=>K (jR ops T) H
  | _=>False) .mk:=by
 simp only[wG,eO]
 generalize T d=v
 cases v with
 | val x=>cases x <;> simp[ah,and_comm]
 | bD l=>cases l <;> simp
 | _=>simp
theorem Dt:jR [] T=T:=id rfl
theorem B0 (d:Option Nat) (b:SB) (r:List (Option Nat × SB)):jR ((d,b) :: r) T=jR r (T.put d (.bD [])):=id rfl
theorem Oy (q:Bool) (K:Env->View->Prop):Ca P q [] T H K=K T H:=propext Iff.rfl
theorem Ki (q:Bool) (d:Option Nat) (b:SB) (r:List (Option Nat × SB)) (K:Env->View->Prop):Ca P q ((d,b) :: r) T H K=wB P q b T H λv H'=>FI v (λv'=>Ca P q r (T.put d v') H' K) .mk:=propext Iff.rfl
theorem Wg (q:Bool) (s:SI) (K:V->View->Prop):wB P q (.op s) T H K=wI P s T H K:=propext Iff.rfl
theorem MY (q:Bool) (f:SX) (args:List SX) (K:V->View->Prop):wB P q (.call f args) T H K=eO (f.at T) (λv=>match v with
 | .fn g first cap=>ay P q g (first ++ args.map (SX.at T) ++ cap) H K .mk
 | _=>False) .mk:=propext Iff.rfl
theorem Kn (q:Bool) (f:SX) (args:List SX) (K:V->View->Prop):wB P q (.yR f args) T H K=eO (f.at T) (λv=>match v with
 | .fn g first cap=>ay P true g (first ++ args.map (SX.at T) ++ cap) H K .mk
 | _=>False) .mk:=propext Iff.rfl
theorem TE (x:SX) (K:V->View->Prop):wI P (.eF x) T H K=K (x.at T) H:=propext Iff.rfl
theorem M6 (c a b:SX) (K:V->View->Prop):wI P (.pick c a b) T H K=eO (c.at T) (λv=>match v with
  | .val (.bool t)=>ah t (K (a.at T) H) (K (b.at T) H) .mk
  | _=>False) .mk:=by
 simp only[wI,eO]
 generalize c.at T=v
 cases v with
 | val x =>
  cases x with
  | bool t=>cases t <;> simp[ah]
  | _=>simp
 | _=>simp
theorem Qw (x:SX) (K:V->View->Prop):wI P (.box x) T H K=eO (x.at T) (λv=>v.cells.all aR=true/\FI v.cells (λcs=>∀ n,H n=.dead->K (.ptr n 0 0) (H.set n (.arr cs.length [cs]))) .mk) .mk:=propext Iff.rfl
theorem TY (x:SX) (K:V->View->Prop):wI P (.kD x) T H K=eO (x.at T) (λv=>v.cells.all aR=true/\FI v.cells (λcs=>K (.aH cs 0) H) .mk) .mk:=propext Iff.rfl
theorem LW (z:List V) (K:V->View->Prop):wI P (.alloc z) T H K=(z.all aR=true/\∀ n,H n=.dead->K (.ptr n 0 0) (H.set n (.arr z.length [z]))):=propext Iff.rfl
theorem Nj (sz:Option Nat) (a:SX) (K:V->View->Prop):wI P (.load sz a) T H K=eO (a.at T) (λv=>match v with
 | .ptr id i j=>JS (H id) (λo=>match o with
  | .arr _ es=>i < es.length/\FI (es.getD i []) (λe=>kN sz e j λv=>K v H) .mk
  | _=>False) .mk
 | .aH e j=>kN sz e j λv=>K v H
 | _=>False) .mk:=propext Iff.rfl
theorem Lh (sz:Option Nat) (a:SX) (K:V->View->Prop):wI P (.CF sz a) T H K=eO (a.at T) (λv=>match v with
 | .aH e j=>kN sz e j λv=>K v H
 | _=>False) .mk:=propext Iff.rfl
theorem LU (sz:Nat) (a x:SX) (K:V->View->Prop):wI P (.store sz a x) T H K=eO (a.at T) (λv=>match v with
 | .ptr id i j=>JS (H id) (λo=>match o with
  | .arr esz es=>FI (x.at T).cells (λcs=>(i < es.length/\cs.length=sz/\j+cs.length<=esz/\cs.all aR=true) /\
   FI (es.set i (gu (es.getD i []) j cs)) (λes'=>K .any (H.set id (.arr esz es'))) .mk) .mk
  | _=>False) .mk
 | _=>False) .mk:=propext Iff.rfl
theorem Nl (x:SX) (K:V->View->Prop):wI P (.DP x) T H K=eO (x.at T) (λv=>match v with
 | .ptr id i j=>K (.ptr id i j) H
 | .aH e j=>K (.aH e j) H
 | .fn f a b=>K (.fn f a b) H
 | _=>False) .mk:=propext Iff.rfl
theorem MK (off:Nat) (x:SX) (K:V->View->Prop):wI P (.addr off x) T H K=eO (x.at T) (λv=>match v with
 | .ptr id i j=>K (.ptr id i (j+off)) H
 | .aH e j=>K (.aH e (j+off)) H
 | _=>False) .mk:=propext Iff.rfl
theorem LX (off:Nat) (sz:Option Nat) (x:SX) (K:V->View->Prop):wI P (.field off sz x) T H K=eO (x.at T) (λv=>match v with
 | .agg cs=>kN sz cs off λv=>K v H
 | _=>False) .mk:=propext Iff.rfl
theorem RQ (sz:Nat) (x i:SX) (K:V->View->Prop):wI P (.idx sz x i) T H K=sC (asNat (i.at T)) (λo=>match o with
  | none=>False
  | some q=>eO (x.at T) (λv=>match v with
   | .sl id off len esz=>(q < len/\esz=sz)/\K (.ptr id (off+q) 0) H
   | .aE es=>sC es[q]? (λo=>match o with
    | some e=>e.length=sz/\K (.aH e 0) H
    | none=>False) .mk
   | _=>False) .mk) .mk:=by
 simp only[wI,sC,eO]
 cases asNat (i.at T) with
 | none=>rfl
 | some q =>
  simp only
  cases x.at T with
  | aE es =>
   simp only
   cases h:es[q]? with
   | none=>simp
   | some e=>simp
  | _=>rfl
theorem Nc (f:FuncId) (first cap:List SX) (K:V->View->Prop):wI P (.rQ f first cap) T H K=K (.fn f (first.map (SX.at T)) (cap.map (SX.at T))) H:=propext Iff.rfl
theorem J1 (K:V->View->Prop):wI P .p9 T H K=(∀ n,H n=.dead->K (.mp n) (H.set n (.map [] 0))):=propext Iff.rfl
theorem Qu (i:Nat) (x:SX) (K:V->View->Prop):wI P (.ext i x) T H K=eO (x.at T) (λv=>match v with
 | .bD vs=>i < vs.length/\K (vs.getD i .any) H
 | _=>False) .mk:=propext Iff.rfl
theorem Tz (x:SX) (K:V->View->Prop):wI P (.len x) T H K=sC (cU (x.at T)) (λo=>match o with
 | some n=>K (iW n) H
 | none=>False) .mk:=propext Iff.rfl
theorem MG (x:SX) (K:V->View->Prop):wI P (.rJ x) T H K=eO (x.at T) (λv=>match v with
 | .val (.string s)=>K (iW s.size) H
 | _=>False) .mk:=propext Iff.rfl
theorem JE (op:BinOp) (x y:SX) (K:V->View->Prop):wI P (.arith op x y) T H K=eO (x.at T) (λv=>eO (y.at T) (λv'=>match v,v' with
 | .val (.int k a),.val (.int c b)=>k=c/\sC (jo op k a b) (λo=>match o with | some v=>K (.val v) H | none=>False) .mk
 | _,_=>False) .mk) .mk:=propext Iff.rfl
theorem Wv (l:Bool) (x y:SX) (K:V->View->Prop):wI P (.sh l x y) T H K=eO (x.at T) (λv=>eO (y.at T) (λv'=>match v,v' with
 | .val (.int k a),.val (.int _ b)=>0<=b/\K (.val (.int k (G0 l k a b))) H
 | _,_=>False) .mk) .mk:=propext Iff.rfl
theorem R5 (op:BinOp) (x y:SX) (K:V->View->Prop):wI P (.AB op x y) T H K=eO (x.at T) (λv=>eO (y.at T) (λv'=>match v,v' with
 | .val (.string a),.val (.string b)=>(match op with
  | .eql=>K (.val (.bool (j8 a b))) H
  | .neq=>K (.val (.bool (!j8 a b))) H
  | _=>False)
 | _,_=>False) .mk) .mk:=propext Iff.rfl
theorem MX (x i:SX) (K:V->View->Prop):wI P (.jy x i) T H K=eO (x.at T) (λv=>sC (asNat (i.at T)) (λo=>match v,o with
  | .val (.string s),some q=>sC (gF s)[q]? (λo=>match o with
   | some c=>K (.val (.int .u8 c)) H
   | none=>False) .mk
  | _,_=>False) .mk) .mk:=by
 simp only[wI,sC,eO]
 generalize x.at T=v
 generalize asNat (i.at T)=o
 cases v with
 | val u =>
  cases u with
  | string s =>
   cases o with
   | none=>rfl
   | some q =>
    simp only[gF,aav]
    cases h:s.data.toList[q]? with
    | none=>simp
    | some e=>simp
  | _=>rfl
 | _=>rfl
theorem TH (x:SX) (K:V->View->Prop):wI P (.not x) T H K=eO (x.at T) (λv=>match v with
 | .val (.bool t)=>K (.val (.bool (!t))) H
 | _=>False) .mk:=propext Iff.rfl
theorem T9 (eq:Bool) (k:Nat) (x y:SX) (K:V->View->Prop):wI P (.nil eq k x y) T H K=sC (D7 (fV k (x.at T)) (fV k (y.at T))) (λo=>match o with
 | some b=>K (.val (.bool (if eq=true then b else !b))) H
 | none=>False) .mk:=propext Iff.rfl
theorem NY (x y:SX) (K:V->View->Prop):wI P (.beq true x y) T H K=eO (x.at T) (λv=>eO (y.at T) (λv'=>match v,v' with
 | .val (.bool a),.val (.bool b)=>K (.val (.bool (a == b))) H
 | _,_=>False) .mk) .mk:=propext Iff.rfl
theorem N3 (x y:SX) (K:V->View->Prop):wI P (.beq false x y) T H K=eO (x.at T) (λv=>eO (y.at T) (λv'=>match v,v' with
 | .val (.bool a),.val (.bool b)=>K (.val (.bool (a != b))) H
 | _,_=>False) .mk) .mk:=propext Iff.rfl
theorem To (x y:SX) (K:V->View->Prop):wI P (.mm true x y) T H K=eO (x.at T) (λv=>eO (y.at T) (λv'=>match v,v' with
 | .val (.int k a),.val (.int _ b)=>K (.val (.int k (if b > a then b else a))) H
 | _,_=>False) .mk) .mk:=propext Iff.rfl
theorem QL (x y:SX) (K:V->View->Prop):wI P (.mm false x y) T H K=eO (x.at T) (λv=>eO (y.at T) (λv'=>match v,v' with
 | .val (.int k a),.val (.int _ b)=>K (.val (.int k (if b < a then b else a))) H
 | _,_=>False) .mk) .mk:=propext Iff.rfl
theorem N5 (k:IntKind) (x:SX) (K:V->View->Prop):wI P (.conv k x) T H K=eO (x.at T) (λv=>match v with
 | .val (.int _ a)=>K (.val (.int k (k.wrap a))) H
 | _=>False) .mk:=propext Iff.rfl
theorem L0 (n k:Nat) (o:di):View.set H n o k=if k=n then o else H k:=id rfl
theorem KZ (z:List V) (parts:List (Nat × Nat × SX)) (K:V->View->Prop):wI P (.build z parts) T H K=sC (ox z (parts.map λp=>(p.1,p.2.1,p.2.2.at T))) (λo=>match o with
 | some cs=>K (.agg cs) H
 | none=>False) .mk:=propext Iff.rfl
theorem Ip (len sz:Nat) (z:List V) (parts:List (Nat × SX)) (K:V->View->Prop):wI P (.bW len sz z parts) T H K=sC (ng sz (List.replicate len z) (parts.map λp=>(p.1,p.2.at T))) (λo=>match o with
 | some es=>∀ n,H n=.dead->K (.sl n 0 len sz) (H.set n (.arr sz es))
 | none=>False) .mk:=propext Iff.rfl
theorem LA (sz:Nat) (x:SX) (lo hi:Option SX) (K:V->View->Prop):wI P (.slice sz x lo hi) T H K=sC (dO sz (x.at T) (lo.map (SX.at T)) (hi.map (SX.at T))) (λo=>match o with
 | some (v,.none,_)=>K v H
 | _=>False) .mk:=propext Iff.rfl
theorem Og (sz bytes:Nat) (z:List V) (l c:SX) (K:V->View->Prop):wI P (.make sz bytes z l c) T H K=sC (asNat (l.at T)) (λa=>sC (asNat (c.at T)) (λb=>match a,b with
 | some l,some c=>(l<=c/\c < aD/\bytes * c < aD)/\(c=0->K (.emp 2) H)/\(c≠0->∀ n,H n=.dead->K (.sl n 0 l sz) (H.set n (.arr sz (List.replicate l z))))
 | _,_=>False) .mk) .mk:=propext Iff.rfl
def oy (sz bytes:Nat) (x:V) (xs:List (List V)) (H:View) (K:V->View->Prop) (_:cO (H,K)):Prop:=if xs.isEmpty=true then (match x with
  | .emp k=>K (.emp k) H
  | .ep=>K .ep H
  | .aE es=>K (.aE es) H
  | .sl a b c d=>K (.sl a b c d) H
  | _=>False)
 else (xs.all λe=>e.length == sz && e.all aR)=true/\(match x with
  | .emp _=>(xs.length * bytes < aD/\xs.length < aD)/\∀ n,H n=.dead->K (.sl n 0 xs.length sz) (H.set n (.arr sz xs))
  | .sl id off len esz=>match H id with
   | .arr _ es=>(off+len<=es.length/\esz=sz/\(len+xs.length) * bytes < aD/\len+xs.length < aD) /\
    ∀ n,H n=.dead->K (.sl n 0 (len+xs.length) esz) ((H.set id .dead).set n (.arr esz ((es.drop off).take len ++ xs)))
   | _=>False
  | _=>False)
theorem TM (sz bytes:Nat) (x y:SX) (K:V->View->Prop):wI P (.app sz bytes x y) T H K=sC (bQ H (y.at T)) (λo=>match o with
 | some (xs,_)=>oy sz bytes (x.at T) xs H K .mk
 | none=>False) .mk:=propext Iff.rfl
theorem BX (sz bytes k:Nat) (xs:List (List V)) (K:V->View->Prop) (w:cO (H,K)) (a:xs.isEmpty=false):oy sz bytes (.emp k) xs H K w=((xs.all λe=>e.length == sz && e.all aR)=true/\(xs.length * bytes < aD/\xs.length < aD)/\∀ n,H n=.dead->K (.sl n 0 xs.length sz) (H.set n (.arr sz xs))):=by
 unfold oy;rw[aat (by rw[a];simp)]
theorem zr (sz bytes id off len esz:Nat) (xs:List (List V)) (K:V->View->Prop) (w:cO (H,K)) (a:xs.isEmpty=false):oy sz bytes (.sl id off len esz) xs H K w=((xs.all λe=>e.length == sz && e.all aR)=true/\JS (H id) (λo=>match o with
  | .arr _ es=>(off+len<=es.length/\esz=sz/\(len+xs.length) * bytes < aD/\len+xs.length < aD) /\
   ∀ n,H n=.dead->K (.sl n 0 (len+xs.length) esz) ((H.set id .dead).set n (.arr esz ((es.drop off).take len ++ xs)))
  | _=>False) .mk):=by
 unfold oy JS;rw[aat (by rw[a];simp)]
theorem ud (id off len esz z:Nat) (es:List (List V)) (hH:H id=.arr z es) (hl:off+(len+1)<=es.length):bQ H (.sl id off (len+1) esz)=some ((es.drop off).take (len+1),[id]):=by
 simp only[bQ,hH];rw[aaw hl]
theorem Dk (es:List (List V)):bQ H (.aE es)=some (es,[]):=id rfl
theorem xC (k:Nat):bQ H (.emp k)=some ([],[]):=id rfl
theorem MO (x:SX) (K:V->View->Prop):wI P (.GN x) T H K=eO (x.at T) (λv=>match v with
 | .aE es=>sC (mE es) (λo=>match o with
  | some l=>K (.val (.string ⟨l.toArray⟩)) H
  | none=>False) .mk
 | _=>False) .mk:=propext Iff.rfl
theorem No (x:SX) (K:V->View->Prop):wI P (.iq x) T H K=eO (x.at T) (λv=>match v with
 | .val (.string s)=>K (.aE (iG s)) H
 | _=>False) .mk:=propext Iff.rfl
def km (P:Program) (op:Op) (ty:TypeId) (T:Env) (H:View) (K:V->View->Prop) (_:cO (T,H,K)):Prop:=wI P (.old op ty) T H K
theorem Sz (op:Op) (ty:TypeId) (K:V->View->Prop):wI P (.old op ty) T H K=km P op ty T H K .mk:=propext Iff.rfl
theorem SM (t:Nat):ev T (.tmp t)=T t:=id rfl
theorem K1 (v:Value):ev T (.const v)=gC v:=id rfl
theorem Re (t:Nat):(SX.tmp t).at T=T t:=id rfl
theorem Q6 (v:V):(SX.val v).at T=v:=id rfl
theorem iX (d t:Nat) (v:V):(T.put (some d) v) t=if t=d then v else T t:=id rfl
theorem Lx (v:V):T.put none v=T:=id rfl
theorem KB (vs:List V) (t:Nat):nj vs t=vs.getD t .any:=id rfl
theorem E6 (e:List V) (j:Nat) (K:V->Prop):kN none e j K=(j < e.length/\K (e.getD j .any)):=propext Iff.rfl
theorem Fo (n:Nat) (e:List V) (j:Nat) (K:V->Prop):kN (some n) e j K=(j+n<=e.length/\K (.agg ((e.drop j).take n))):=propext Iff.rfl
theorem Ew (a b:Prop):Di .normal a b=a:=propext Iff.rfl
theorem La (i:Nat) (a b:Prop):Di (.exit i) a b=b:=propext Iff.rfl
theorem MP (a b:Prop):Di .ret a b=b:=propext Iff.rfl
theorem A4 (i:Nat):sy i .normal=.normal:=id rfl
theorem Hv (i:Nat):sy i .ret=.ret:=id rfl
theorem FD (i j:Nat):sy i (.exit j)=if j=i then .normal else .exit j:=by simp only[sy]
theorem NU (acc:List V) (K:List V->Prop):Gg T H [] acc K=K acc:=propext Iff.rfl
theorem Lq (r:SR) (l:List SR) (acc:List V) (K:List V->Prop):Gg T H (r :: l) acc K=wR T H r λv=>Gg T H l (acc ++ [v]) K:=propext Iff.rfl
theorem Ue (t:Nat) (K:V->Prop):wR T H (.tmp t) K=K (T t):=propext Iff.rfl
theorem Oh (t:Nat) (sz:Option Nat) (K:V->Prop):wR T H (.cell t sz) K=eO (T t) (λv=>match v with
 | .ptr id i j=>JS (H id) (λo=>match o with
  | .arr _ es=>i < es.length/\FI (es.getD i []) (λe=>kN sz e j K) .mk
  | _=>False) .mk
 | .aH e j=>kN sz e j K
 | _=>False) .mk:=propext Iff.rfl
theorem Hl (t:Nat) (b:Bool):sd (.tmp t) b T=T.put (some t) (.val (.bool b)):=id rfl
theorem Hh (v:V) (b:Bool):sd (.val v) b T=T:=id rfl
theorem RV:(Exit.ret=Exit.ret∨Exit.ret=Exit.normal)=True:=by simp
theorem Io:(Exit.normal=Exit.ret∨Exit.normal=Exit.normal)=True:=by simp
end
section
variable {P:Program} {T:Env} {H:View}
theorem aS.intro {c:SC} {Q:Exit->Env->View->Prop} {v:cO (T,H,Q)} (I:Nat->Env->View->Prop) (k:Nat) (d:I k T H)
  (hs:∀ k T H,I k T H->wS P c T H λe a H'=>Di e (∃ b,b < k/\I b a H') (Q e a H')):aS P c T H Q v:=by
 simp only[aS,wS]
 exact⟨I,⟨k,d⟩,hs⟩
theorem ay.pure {q:Bool} {f:FuncId} {vs:List V} {K:V->View->Prop} {v:cO (H,K)} {t:V} (b:az P f vs t) (hk:K t H) (a:dW P f=true:=by kernel_rfl):ay P q f vs H K v:=by
 unfold ay
 cases q with
 | true=>exact b.Pr a hk
 | false =>
  refine⟨a,?_⟩
  rintro h rfl
  exact⟨t,h,cd.ij b h,.refl _,hk⟩
theorem ay.dr {f:FuncId} {vs:List V} {K:V->View->Prop} {v:cO (H,K)} (a:av P f vs H K):ay P false f vs H K v:=a
theorem Hr:aG.view []=λ_=>di.dead:=by funext id;simp[aG.view]
theorem az.of {f:FuncId} {vs:List V} {t:V} (b:∀ v∈vs,Tree v) (h:av P f vs (λ_=>.dead) λr H'=>∀ a:aG,a.view=H'->Fr a r t):az P f vs t:=by
 obtain⟨r,a,c,_,d⟩:=h.2 [] Hr
 exact az.yX b c (d a rfl)
theorem wrap64 {x:Int} (h1 : -9223372036854775808<=x) (d:x<=9223372036854775807):IntKind.wrap .i64 x=x:=by
 unfold IntKind.wrap
 have a:(2:Int) ^ IntKind.i64.bits=18446744073709551616:=by rfl
 have b:(2:Int) ^ (IntKind.i64.bits - 1)=9223372036854775808:=by rfl
 have c:IntKind.i64.signed=true:=by rfl
 simp only[a,b,c,abE,aaE]
 split <;> omega
theorem IK {k:IntKind} {i:Int} (h:0<=i):asNat (.val (.int k i))=some i.toNat:=by simp[asNat,h]
end
theorem HK (v:Value):V.cells (.val v)=[.val v]:=id rfl
theorem CW (v:Value):aR (.val v)=true:=id rfl
theorem HS (k:Nat):V.cells (.emp k)=[.emp k]:=id rfl
theorem Cw (k:Nat):aR (.emp k)=true:=id rfl
theorem Hz  : V.cells .ep=[.ep]:=id rfl
theorem Od  : aR .ep=true:=id rfl
theorem IW (es:List (List V)):V.cells (.aE es)=[.aE es]:=id rfl
theorem M8 (es:List (List V)):aR (.aE es)=true:=id rfl
theorem J5 (a b c d:Nat):V.cells (.sl a b c d)=[.sl a b c d]:=id rfl
theorem Ui (a b c d:Nat):aR (.sl a b c d)=true:=id rfl
theorem IF (a b c:Nat):V.cells (.ptr a b c)=[.ptr a b c]:=id rfl
theorem Oc (a b c:Nat):aR (.ptr a b c)=true:=id rfl
theorem F1 (e:List V) (j:Nat):V.cells (.aH e j)=[.aH e j]:=id rfl
theorem J3 (e:List V) (j:Nat):aR (.aH e j)=true:=id rfl
theorem K5 (a:Nat):V.cells (.mp a)=[.mp a]:=id rfl
theorem Q4 (a:Nat):aR (.mp a)=true:=id rfl
theorem Ke (f:FuncId) (a b:List V):V.cells (.fn f a b)=[.fn f a b]:=id rfl
theorem QI (f:FuncId) (a b:List V):aR (.fn f a b)=true:=id rfl
theorem HD (cs:List V):V.cells (.agg cs)=cs:=id rfl
theorem MJ (k:Nat):cU (.emp k)=some 0:=id rfl
theorem NR:cU .ep=some 0:=id rfl
theorem MR (es:List (List V)):cU (.aE es)=some es.length:=id rfl
theorem Sf (a b c d:Nat):cU (.sl a b c d)=some c:=id rfl
abbrev Zl {p:Prop} (_:p):Prop:=p
theorem Wy (P:Program) (T:Env) (H:View) (a:SC) (Q:Exit->Env->View->Prop):wS P (ae [a]) T H Q=wS P a T H Q:=by rw[ae]
theorem Wh (P:Program) (T:Env) (H:View) (a b:SC) (l:List SC) (Q:Exit->Env->View->Prop):wS P (ae (a :: b :: l)) T H Q=wS P (.seq a (ae (b :: l))) T H Q:=by rw[ae]
abbrev Wr:Prop:=Zl (And.intro @Wy <| And.intro @Wh <| And.intro @WD <| And.intro @M7 <| And.intro @IS <| And.intro @E8 <| And.intro @Ev <| And.intro @M0 <| And.intro @Kv <| And.intro @Sv <|
 And.intro @Nn <| And.intro @Lk <| And.intro @N8 <| And.intro @Sd <| And.intro @KG <| And.intro @KQ <| And.intro @MH <| And.intro @FM <| And.intro @Cu <| And.intro @Fp <| And.intro @HF <| And.intro @Lu <| And.intro @FB <|
 And.intro @MN <| And.intro @MF <| And.intro @KF <| And.intro @MI <|
 And.intro @NT <| And.intro @Kl <| And.intro @Dt <| And.intro @B0 <|
 And.intro @Oy <| And.intro @Ki <| And.intro @Wg <| And.intro @MY <| And.intro @Kn <|
 And.intro @TE <| And.intro @M6 <| And.intro @Qw <| And.intro @TY <|
 And.intro @LW <| And.intro @Nj <| And.intro @Lh <| And.intro @LU <|
 And.intro @Nl <| And.intro @MK <| And.intro @LX <| And.intro @RQ <|
 And.intro @Nc <| And.intro @J1 <| And.intro @Qu <| And.intro @Tz <|
 And.intro @MG <| And.intro @JE <| And.intro @Wv <| And.intro @R5 <| And.intro @MX <|
 And.intro @TH <| And.intro @T9 <| And.intro @NY <| And.intro @N3 <|
 And.intro @To <| And.intro @QL <| And.intro @N5 <| And.intro @MO <|
 And.intro @No <| And.intro @KZ <| And.intro @Ip <| And.intro @LA <|
 And.intro @Og <| And.intro @TM <| And.intro @Sz <| And.intro @SM <| And.intro @K1 <| And.intro @Re <| And.intro @Q6 <|
 And.intro @iX <| And.intro @Lx <| And.intro @KB <| And.intro @E6 <|
 And.intro @Fo <| And.intro @Ew <| And.intro @La <| And.intro @MP <|
 And.intro @A4 <| And.intro @Hv <| And.intro @FD <| And.intro @NU <|
 And.intro @Lq <| And.intro @Ue <| And.intro @Oh <| And.intro @Hl @Hh)
theorem wr:Wr:=⟨@Wy,@Wh,@WD,@M7,@IS,@E8,@Ev,@M0,@Kv,@Sv,@Nn,@Lk,@N8,@Sd,@KG,@KQ,@MH,@FM,@Cu,@Fp,@HF,@Lu,@FB,@MN,@MF,@KF,@MI,@NT,@Kl,@Dt,@B0,@Oy,@Ki,@Wg,@MY,@Kn,@TE,@M6,@Qw,@TY,@LW,@Nj,@Lh,@LU,@Nl,@MK,@LX,@RQ,@Nc,@J1,@Qu,@Tz,@MG,@JE,@Wv,@R5,@MX,@TH,@T9,@NY,@N3,@To,@QL,@N5,@MO,@No,@KZ,@Ip,@LA,@Og,@TM,@Sz,@SM,@K1,@Re,@Q6,@iX,@Lx,@KB,@E6,@Fo,@Ew,@La,@MP,@A4,@Hv,@FD,@NU,@Lq,@Ue,@Oh,@Hl,@Hh⟩
theorem S8:z8 []=.bD []:=id rfl
theorem Uf (v:V):z8 [v]=v:=id rfl
theorem QU (v w:V) (l:List V):z8 (v :: w :: l)=.bD (v :: w :: l):=id rfl
theorem Wi (n:Nat):iW n=.val (.int .i64 n):=id rfl
theorem LB (e:List V) (j:Nat) (cs:List V):gu e j cs=e.take j ++ cs ++ e.drop (j+cs.length):=id rfl
theorem K6 (z:List V):ox z []=some z:=id rfl
theorem Le (z:List V) (o n:Nat) (x:V) (r:List (Nat × Nat × V)):ox z ((o,n,x) :: r)=if x.cells.length=n/\o+n<=z.length/\x.cells.all aR=true then ox (gu z o x.cells) r else none:=by rw[ox]
theorem MS (k:Nat) (z:List (List V)):ng k z []=some z:=by rw[ng]
theorem ND (k:Nat) (z:List (List V)) (i:Nat) (x:V) (r:List (Nat × V)):ng k z ((i,x) :: r)=if x.cells.length=k/\i < z.length/\x.cells.all aR=true then ng k (z.set i x.cells) r else none:=by rw[ng]
theorem Qy (b:Bool):D7 (some true) (some b)=some b:=id rfl
theorem Rv (b:Bool):D7 (some b) (some true)=some b:=by cases b <;> rfl
section
variable (k:IntKind) (a b:Int)
theorem NO:jo .add k a b=some (.int k (k.wrap (a+b))):=id rfl
theorem On:jo .sub k a b=some (.int k (k.wrap (a - b))):=id rfl
theorem Nk:jo .mul k a b=some (.int k (k.wrap (a * b))):=id rfl
theorem OJ:jo .quo k a b=if b=0 then none else some (.int k (k.wrap (a.tdiv b))):=id rfl
theorem Nb:jo .rem k a b=if b=0 then none else some (.int k (a.tmod b)):=id rfl
theorem NK:jo .eql k a b=some (.bool (a == b)):=id rfl
theorem Na:jo .neq k a b=some (.bool (a != b)):=id rfl
theorem Nx:jo .lss k a b=some (.bool (a < b)):=id rfl
theorem Nr:jo .leq k a b=some (.bool (a<=b)):=id rfl
theorem Nu:jo .gtr k a b=some (.bool (a > b)):=id rfl
theorem Oa:jo .geq k a b=some (.bool (a≥b)):=id rfl
theorem Su:jo .or k a b=some (.int k (k.wrap (BitVec.ofInt k.bits a ||| BitVec.ofInt k.bits b).toNat)):=id rfl
theorem OI:jo .and k a b=some (.int k (k.wrap (BitVec.ofInt k.bits a &&& BitVec.ofInt k.bits b).toNat)):=id rfl
theorem EG:jo .andNot k a b=some (.int k (k.wrap (BitVec.ofInt k.bits a &&& ~~~(BitVec.ofInt k.bits b)).toNat)):=id rfl
end
theorem Rm:fV 0 (.emp 1)=some true:=id rfl
theorem S9:fV 0 (.emp 2)=some false:=id rfl
theorem NI:fV 0 .ep=some false:=id rfl
theorem Sg (a b n c:Nat):fV 0 (.sl a b (n+1) c)=some false:=id rfl
theorem NG (e:List V) (l:List (List V)):fV 0 (.aE (e :: l))=some false:=id rfl
theorem N1 (a b c:Nat):fV 1 (.ptr a b c)=some false:=id rfl
theorem LS (e:List V) (j:Nat):fV 1 (.aH e j)=some false:=id rfl
theorem Qz (a:Nat):fV 2 (.mp a)=some false:=id rfl
theorem TB (f:FuncId) (a b:List V):fV 3 (.fn f a b)=some false:=id rfl
theorem TT:fV 1 (.val (.pointer none))=some true:=id rfl
theorem RM:fV 2 (.val (.map none))=some true:=id rfl
theorem R8:fV 3 (.val .nilFunc)=some true:=id rfl
abbrev Wq:Prop:=Zl (And.intro @S8 <| And.intro @Uf <| And.intro @QU <| And.intro @Wi <| And.intro @LB <| And.intro @K6 <| And.intro @Le <| And.intro @MS <| And.intro @ND <| And.intro @Qy <| And.intro @Rv <| And.intro @NO <| And.intro @On <| And.intro @Nk <| And.intro @OJ <| And.intro @Nb <| And.intro @NK <| And.intro @Na <| And.intro @Nx <| And.intro @Nr <| And.intro @Nu <| And.intro @Oa <| And.intro @Su <| And.intro @OI <| And.intro @EG <| And.intro @Rm <| And.intro @S9 <| And.intro @NI <| And.intro @Sg <| And.intro @NG <| And.intro @N1 <| And.intro @LS <| And.intro @Qz <| And.intro @TB <| And.intro @TT <| And.intro @RM <| And.intro @R8 <| And.intro @eq_self.{1} <| And.intro @ne_eq.{1} <| And.intro @implies_true.{1} <| And.intro @implies_true.{0} <| And.intro @decide_true <| And.intro @decide_false <| And.intro @OD <| And.intro @CU <| And.intro @zt <| And.intro @LD <| And.intro @Lm <| And.intro @Kd <| And.intro @Nt <| And.intro @Rs <| And.intro @RX <| And.intro @QA <| And.intro @OE <| And.intro @NS <| And.intro @ML <| And.intro @HK <| And.intro @CW <| And.intro @HS <| And.intro @Cw <| And.intro @Hz <| And.intro @Od <| And.intro @IW <| And.intro @M8 <| And.intro @J5 <| And.intro @Ui <| And.intro @IF <| And.intro @Oc <| And.intro @F1 <| And.intro @J3 <| And.intro @K5 <| And.intro @Q4 <| And.intro @Ke <| And.intro @QI <| And.intro @HD <| And.intro @MJ <| And.intro @NR <| And.intro @MR <| And.intro @Sf <| And.intro @true_or <| And.intro @or_true <| And.intro @or_false <| And.intro @false_or <|
 And.intro @Zg <| And.intro @MV <| And.intro @NW <| And.intro @Nz <|
 And.intro @Ol <| And.intro @Rc <| And.intro @Oq <| And.intro @KI <|
 And.intro @Td <| And.intro @Rf <| And.intro @Nw <| And.intro @OG <|
 And.intro @N9 <| And.intro @MT <| And.intro @Li <| And.intro @Kh <|
 And.intro @Iw <| And.intro @Ni <| And.intro @List.getD_cons_zero.{0} <| And.intro @List.getD_cons_succ.{0} <|
 And.intro @List.length_cons.{0} <| And.intro @List.length_nil.{0} <| And.intro @List.length_map.{0,0} <| And.intro @wrap64 <|
 And.intro @true_and <| And.intro @and_true <| And.intro @and_self <| And.intro @aaE <|
 And.intro @abW <| And.intro @List.all_cons.{0} <| And.intro @List.all_nil.{0} <| And.intro @Bool.and_self <|
 And.intro @List.nil_append.{0} <| And.intro @List.cons_append.{0} <| And.intro @aby <| And.intro @IK <|
 And.intro @aaN <| And.intro @RV <| And.intro @Io <| And.intro @bne_iff_ne.{0} <|
 And.intro @beq_iff_eq.{0} <| And.intro @Bool.not_eq_true <| And.intro @acE <| And.intro @Bool.not_false <|
 And.intro @List.append_nil.{0} <| And.intro @List.map_cons.{0,0} <| And.intro @List.map_nil.{0,0} <| And.intro @Bool.true_eq_false <|
 And.intro @aaU <| And.intro @false_implies <| And.intro @true_implies <| And.intro @Bool.not_not <|
 And.intro @List.drop_zero.{0} <| And.intro @L0 <| And.intro @List.set_cons_zero.{0} <| And.intro @List.set_cons_succ.{0} <|
 And.intro @List.drop_nil.{0} <| And.intro @ack <| And.intro @List.replicate_zero.{0} <| And.intro @List.replicate_succ.{0} <|
 And.intro @Dk <| And.intro @xC <| And.intro @BX <| And.intro @zr <|
 And.intro @List.isEmpty_cons.{0} <| And.intro @Option.map_none.{0,0} <| And.intro @Option.map_some.{0,0} <| And.intro @Nat.succ_ne_zero <|
 And.intro @List.take_succ_cons.{0} <| And.intro @List.take_zero.{0} <| And.intro @List.drop_succ_cons.{0} <| And.intro @bne_eq_false_iff_eq.{0} <|
 And.intro @beq_eq_false_iff_ne.{0} <| And.intro @not_true_eq_false <| And.intro @not_false_eq_true @Decidable.not_not)
theorem wq:Wq:=⟨@S8,@Uf,@QU,@Wi,@LB,@K6,@Le,@MS,@ND,@Qy,@Rv,@NO,@On,@Nk,@OJ,@Nb,@NK,@Na,@Nx,@Nr,@Nu,@Oa,@Su,@OI,@EG,@Rm,@S9,@NI,@Sg,@NG,@N1,@LS,@Qz,@TB,@TT,@RM,@R8,@eq_self,@ne_eq,@implies_true,@implies_true,@decide_true,@decide_false,@OD,@CU,@zt,@LD,@Lm,@Kd,@Nt,@Rs,@RX,@QA,@OE,@NS,@ML,@HK,@CW,@HS,@Cw,@Hz,@Od,@IW,@M8,@J5,@Ui,@IF,@Oc,@F1,@J3,@K5,@Q4,@Ke,@QI,@HD,@MJ,@NR,@MR,@Sf,@true_or,@or_true,@or_false,@false_or,@Zg,@MV,@NW,@Nz,@Ol,@Rc,@Oq,@KI,@Td,@Rf,@Nw,@OG,@N9,@MT,@Li,@Kh,@Iw,@Ni,@abD,@aci,@aaK,@aa2,@aaA,@wrap64,@true_and,@and_true,@and_self,@aaE,@abW,@abP,@List.all_nil,@Bool.and_self,@abF,@aa9,@aby,@IK,@aaN,@RV,@Io,@acy,@abH,@Bool.not_eq_true,@acE,@Bool.not_false,@abI,@aaW,@ab3,@Bool.true_eq_false,@aaU,@false_implies,@true_implies,@Bool.not_not,@abO,@L0,@List.set_cons_zero,@List.set_cons_succ,@List.drop_nil,@ack,@List.replicate_zero,@List.replicate_succ,@Dk,@xC,@BX,@zr,@List.isEmpty_cons,@Option.map_none,@aaz,@Nat.succ_ne_zero,@ach,@List.take_zero,@List.drop_succ_cons,@bne_eq_false_iff_eq,@beq_eq_false_iff_ne,@not_true_eq_false,@not_false_eq_true,@Decidable.not_not⟩
inductive Ea:V->Prop
 | val (v:Value):Ea (.val v)
 | bD (cs:List V):(∀ i,i < cs.length->∃ v,cs.getD i .any=.val v)->Ea (.bD cs)
theorem V7 {Z d:Nat->Prop} {μ μ':Mu} {hp b:Array Obj} {t:V} {x:Value} (e:Ea t) (h:aB Z μ hp t x):aB d μ' b t x:=by
 cases e with
 | val=>cases h with | val _ a=>exact .val _ a
 | bD cs f =>
  cases h with
  | bD _ c h1 g =>
   refine .bD _ _ h1 λi hi=>?_
   have:=g i hi
   obtain⟨v,a⟩:=f i hi
   rw[a] at this ⊢
   generalize c.getD i undef=y at this ⊢
   cases this with | val _ a=>exact .val _ a
theorem cd.borrow {P:Program} {f:FuncId} {d vs:List V} {t:V} {h:aG} (p:az P f d t) (q:Ea t) (hl:d.length=vs.length)
  (j:∀ i,i < vs.length->Fr h (vs.getD i .any) (d.getD i .any)):cd P f vs h t h:=by
 refine⟨aaD _,λZ μ F w xs c hr k=>?_⟩
 have l:gX (λb=>Z b∨ko μ b) μ w.heap d xs:=⟨by rw[hl,c.1],λi hi=>FO hr (j i (by omega)) (c.2 i (by omega))⟩
 have m:∀ b,(Z b∨ko μ b)->b < w.heap.size:=by
  rintro b (a | ⟨id,o,s,a⟩)
  .exact hr.dd b a
  .exact hr.lt _ _ _ _ a
 refine(p _ μ w xs l m).mono ?_
 rintro e w' ⟨x,v,rfl,r,hs,y,u,g⟩
 have hm:iY Z Z μ μ w.heap w'.heap:=⟨λ_ h=>h,λb a=>g b (hr.dd b a) (λx=>x),λ_ _ h=>h,g.sZ⟩
 exact⟨x,Z,μ,rfl,V7 q (r μ),⟨λid=>(hr.obj id).mono hm rfl (λb o s n=>g b (hr.lt _ _ _ _ n) (λx=>x)),hr.inj,λid b o s n=>aa3 (hr.lt _ _ _ _ n) hs.size,λb a=>aa3 (hr.dd b a) hs.size,hr.iR⟩,
  ⟨hs,hm,λb a _=>g b a (λx=>x),λb a=>.inl a,λ_ _ _ _ h=>.inl h⟩,λ_ _=>rfl⟩
def ew (H:View) (v t:V):Prop:=∀ h:aG,h.view=H->Fr h v t
theorem ew.tree {H:View} {v:V} (h:Tree v):ew H v v:=λ_ _=>.tree _ h
theorem ew.sl {H:View} {id off len esz z:Nat} {es:List (List V)} (hH:H id=.arr z es) (hle:off+len<=es.length) (c:∀ e∈es,∀ v∈e,Tree v) :
  ew H (.sl id off len esz) (.aE ((es.drop off).take len)):=by
 rintro h rfl
 have b:∀ i,i < len->((es.drop off).take len).getD i []=es.getD (off+i) []:=λi hi=>by
  simp[aaq,ab6,hi]
 refine .sl id off len esz z es _ hH hle (by simp;omega) (λi hi=>by rw[b i hi]) (λi j hi a=>?_)
 rw[b i hi] at a ⊢
 refine .tree _ ?_
 have h1:off+i < es.length:=by omega
 have d:es.getD (off+i) []=es[off+i]:=by simp[aaq,h1]
 rw[d] at a ⊢
 have f:(es[off+i]).getD j .any=(es[off+i])[j]:=by simp[aaq,a]
 rw[f]
 exact c _ (aaC _) _ (aaC _)
theorem ay.borrow {P:Program} {q:Bool} {f:FuncId} {H:View} {vs c:List V} {K:V->View->Prop} {v:cO (H,K)} {t:V} (d:az P f c t) (a:dW P f=true) (g:Ea t) (hl:c.length=vs.length)
  (b:∀ i,i < vs.length->ew H (vs.getD i .any) (c.getD i .any)) (hk:K t H):ay P q f vs H K v:=by
 unfold ay
 cases q with
 | true=>exact⟨a,λh e=>⟨t,h,cd.borrow d g hl (λi hi=>b i hi h e),λ_ _=>rfl,e ▸ hk⟩⟩
 | false =>
  refine⟨a,?_⟩
  rintro h rfl
  exact⟨t,h,cd.borrow d g hl (λi hi=>b i hi h rfl),.refl _,hk⟩
abbrev gi (x:Int):V:=.val (.int .i64 x)
abbrev gb (x:Bool):V:=.val (.bool x)
abbrev gs (x:ByteArray):V:=.val (.string x)
theorem mixed:(Tryz.prog).follows .mixedOrders=true:=by kernel_rfl
def encI (l:List Int):V:=.aE (l.map λx=>[gi x])
def bO (l:List Bool):V:=.aE (l.map λx=>[gb x])
theorem fa (l:List Int):Tree (encI l):=by
 refine .aE _ λi j hi a=>?_
 simp only[aaA] at hi
 simp[aaq,hi] at a ⊢
 subst a
 exact .val _
def aK {α:Type} (l:List α):Prop:=l.length < 4611686018427387904
def pV:SC :=
 ae [ae [ab [aa 11 5,aa 12 0,aM 13 12,aQ 14 .lss 11 13],bS 14 (.exit 0)],.block 1 (ae [ab [aa 17 0,aa 18 5,aI 19 1 17 18,aj 20 19,aa 21 1,aa 22 5,aI 23 1 21 22,aj 24 23,aQ 25 .neq 20 24],bf 25 (ae [ab [bw 4 false],.ret])]),ab [aa 15 5,aF 16 .add 15 1,aa 5 16]]
def tc:SF:=⟨ae [ab [bw 4 false],ae [ab [aa 6 0,aM 7 6,aa 8 1,aM 9 8,aQ 10 .neq 7 9],bf 10 (ae [ab [bw 4 false],.ret])],ae [ab [aT 5 0],bX 0 pV],ab [bw 4 true],.ret],
 [.tmp 4],26⟩
theorem xE:aO Tryz.prog 37 []=some tc:=by kernel_rfl
theorem Xj {α:Type} [BEq α] [LawfulBEq α] {a b:List α} (h:a.length≠b.length):(a == b)=false:=by
 simp only[beq_eq_false_iff_ne];intro e;exact h (by rw[e])
theorem Xq (a b:List Int) (j:aK a) (H:View):av Tryz.prog 37 [encI a,encI b] H λr H'=>r=gb (a == b)/\H'=H:=by
 refine av.of mixed xE ?_
 unfold aK at j
 simp(disch:=omega)only[↓wr,seval,wq,tc,encI]
 apply ah.ne<;>intro h
 .simp(disch:=omega)only[↓wr,seval,wq]
  rw[Xj (by omega)]
 .simp(disch:=omega)only[↓wr,seval,wq]
  refine aS.intro (λk T H'=>∃ i:Nat,i+k=a.length/\a.take i=b.take i/\T 0=encI a/\T 1=encI b/\T 5=gi i/\H'=H) a.length ?_ ?_
  .exact⟨0,by omega,by simp,rfl,rfl,rfl,rfl⟩
  .rintro k T H' ⟨i,hk,hi,c,h1,d,rfl⟩
   simp(disch:=omega)only[↓wr,seval,wq,pV,c,h1,d,encI]
   apply ah.dec<;>intro l
   .have f:a[i]?=some (a[i]'(by omega)):=aar (by omega)
    have g:b[i]?=some (b[i]'(by omega)):=aar (by omega)
    simp(disch:=omega)only[↓wr,seval,wq,c,h1,d,encI,aav,f,g,aaz]
    apply ah.ne<;>intro hd
    .simp(disch:=omega)only[↓wr,seval,wq]
     have:(a == b)=false:=by
      simp only[beq_eq_false_iff_ne];rintro rfl;exact hd rfl
     rw[this]
    .simp(disch:=omega)only[↓wr,seval,wq,c,h1,d,encI]
     refine⟨k - 1,by omega,i+1,by omega,?_,rfl⟩
     rw[aaQ,aaQ,hi,f,g,hd]
   .simp(disch:=omega)only[↓wr,seval,wq,c,h1,d,encI]
    have:a=b:=by
     have e:i=a.length:=by omega
     rw[aaJ (by omega),aaJ (by omega)] at hi
     exact hi
    rw[this];simp
theorem W5 (a b:List Int) (c:aK a):az Tryz.prog 37 [encI a,encI b] (gb (a == b)) :=
 az.of (by simp[fa]) ((Xq a b c _).mono λr H' h d _=>by rw[h.1];exact .tree _ (.val _))
theorem iP (l:List Bool):Tree (bO l):=by
 refine .aE _ λi j hi a=>?_
 simp only[aaA] at hi
 simp[aaq,hi] at a ⊢
 subst a
 exact .val _
end Gv
