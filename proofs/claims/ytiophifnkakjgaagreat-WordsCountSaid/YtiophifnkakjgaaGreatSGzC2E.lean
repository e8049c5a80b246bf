/-
  Part 5 of the proof: what the machine does and what the functions answer.
  Conditions: those that each lemma names.
-/
import Derived.Test.YtiophifnkakjgaaGreatProg
import Derived.KernelRfl
import Derived.Test.YtiophifnkakjgaaGreatSGzC2D
set_option linter.unusedSimpArgs false
set_option linter.unusedVariables false
set_option maxRecDepth 100000
set_option maxHeartbeats 20000000
namespace Gv
open Go Go.Proofs
section
variable {P:Program} {n:Nat} {all:List Oper}
theorem KE (h:aw):h.view h.length=.dead:=by simp[aw.view,OH]
theorem Nj {o:Oper} {T:Env} {h:aw} {s:SI} {K:V->View->Prop} (g:bT n all T o=some true) (i:∀ v au rd,sI P s T h.view h.length=some (v,au,rd)->bo P o T h.view h.length=some (v,au,rd)) (hw:wI P s T h.view K) :
  ∃ v d rd wr,ct P n all o T h v d rd wr false/\fN h d/\K v d.view/\iw (qg P s) rd wr false h.length d.length:=by
 obtain⟨v,au,rd,e,hk⟩:=Nr hw (KE h)
 have f:=i _ _ _ e
 have a:∀ id,id∈au.wr->h.view id≠.dead:=λid b=>(j0 f id b).1
 refine⟨v,au.apply h,rd,au.wr,.op g f,?_,?_,?_,?_⟩
 .intro id b c
  rw[iG a]
  cases au with
  | none=>exact c
  | new o=>simp only[aM.view,View.set];rw[OK (by omega)];exact c
  | dP k o =>
   simp only[aM.view,View.set]
   rw[OK (by rintro rfl;exact a id (by simp[aM.wr]) c)];exact c
  | cF k o =>
   simp only[aM.view,View.set]
   rw[OK (by omega)]
   split
   .rfl
   .exact c
 .rw[iG (λid b=>(j0 f id b).1)];exact hk
 .intro j
  obtain⟨rfl,rfl⟩:=(oW e).1 j
  exact⟨rfl,rfl,rfl,rfl⟩
 .intro h1
  rcases Pn (qg P s) 1 with l | l
  .obtain⟨rfl,rfl⟩:=(oW e).1 (by omega);rfl
  .exact(oW e).2 (by omega)
theorem D8 {P:Program} {fr:Bool} {s:SI} {T:Env} {H:View} {n:Nat} {v:V} {au:aM} {rd:List Nat} (h:sI P (uM P fr s) T H n=some (v,au,rd)):sI P s T H n=some (v,au,rd):=by
 unfold uM at h
 split at h
 .split at h
  .exact Kv h
  .exact h
 .split at h
  .rename_i a
   simp only[OO] at a
   exact LM a.2 h
  .exact h
 .exact h
theorem vO (P:Program) (a:Fz) (o:Oper) :
  (∃ f args b,o.op=.call { callee:=.value f,args:=args,argTypes:=b }/\(jQ P a o=.call (SX.of f) (args.toList.map SX.of)∨jQ P a o=.vu (SX.of f) (args.toList.map SX.of))) ∨
  (∃ t x,o.op=.box t x/\jQ P a o=.op (.gg (SX.of x)))∨(∃ s d x,o.op=.convert s d x/\rq P s d=true/\jQ P a o=.op (.ej (SX.of x)))∨jQ P a o=.op (uM P a.fr (comp P o)):=by
 unfold jQ
 split
 .rename_i f args b e
  refine .inl ⟨f,args,b,e,?_⟩
  by_cases g:(match o.dst with | some d=>a.l.contains (200000+d) | none=>false)=true
  .exact .inr (OM g)
  .exact .inl (OK g)
 .rename_i t x e
  by_cases c:(match o.dst with | some d=>a.l.contains d | none=>false)=true
  .exact .inr (.inl ⟨t,x,e,OM c⟩)
  .refine .inr (.inr (.inr ?_))
   refine(OK c).trans ?_
   simp only[comp,e,uM]
 .rename_i s d x e
  by_cases c:((match o.dst with | some d=>a.l.contains d | none=>false) && rq P s d)=true
  .exact .inr (.inr (.inl ⟨s,d,x,e,by simp only[OO] at c;exact c.2,OM c⟩))
  .exact .inr (.inr (.inr (OK c)))
 .exact .inr (.inr (.inr rfl))
theorem ct.len {o:Oper} {T:Env} {h a:aw} {v:V} {rd wr:List Nat} {call:Bool} (st:ct P n all o T h v a rd wr call):h.length<=a.length:=by
 cases st with
 | skip=>exact OR _
 | op _ _=>rename_i au _ _ ;cases au <;> simp[aM.apply]
 | gg _ _ _=>exact OR _
 | ej _ _ _ _ _ _=>exact OR _
 | call _ _ _ _ b _ _=>exact b.1
theorem LZ {q:Fz} {o:Oper} {T:Env} {h:aw} {quiet:Bool} {K:V->View->Prop} (l:bT n all T o=some true) (hw:wB P quiet (jQ P q o) T h.view K) :
  ∃ v b rd wr call,ct P n all o T h v b rd wr call/\fN h b/\K v b.view/\iw (fK P quiet (jQ P q o)) rd wr call h.length b.length:=by
 rcases vO P q o with ⟨f,args,C,k,j | j⟩ | ⟨t,x,k,j⟩ | ⟨s,d,x,k,u,j⟩ | j
 rotate_left
 .rw[j] at hw ⊢
  simp only[wB] at hw
  split at hw
  .rename_i g first cap m
   rw[xC] at hw
   rw[SX.bB] at m
   obtain⟨c,i⟩:=hw
   obtain⟨r,b,hr,hold,hk⟩:=i h rfl
   refine⟨r,b,[],[],true,.call l k m c hr (λid a _=>hold id a) (λid a=>by simp at a),λid a w=>(hold id a).trans w,hk,?_,?_⟩
   .intro p;simp[fK] at p
   .intro _;rfl
  .exact hw.elim
 rotate_right
 .rw[j] at hw ⊢
  simp only[wB] at hw
  split at hw
  .rename_i g first cap m
   rw[xC] at hw
   rw[SX.bB] at m
   split at hw
   .rename_i y
    obtain⟨c,i⟩:=hw
    obtain⟨r,b,hr,hold,hk⟩:=i h rfl
    refine⟨r,b,[],[],true,.call l k m c hr (λid a _=>hold id a) (λid a=>by simp at a),λid a w=>(hold id a).trans w,hk,?_,?_⟩
    .intro p;simp[fK,y] at p
    .intro _;rfl
   .rename_i y
    obtain⟨c,i⟩:=hw
    obtain⟨r,b,hr,z,hk⟩:=i h rfl
    refine⟨r,b,[],List.range h.length,true,.call l k m c hr (λid a D=>?_) (λid a=>by simpa using a),z,hk,K4 (by simp[fK,y])⟩
    exact absurd (by simpa using a) D
  .exact hw.elim
 .rw[j] at hw ⊢
  simp only[wB,wI,SX.bB] at hw
  exact⟨_,h,[],[],false,.gg l k hw.1,.refl _,hw.2,λ_=>⟨rfl,rfl,rfl,rfl⟩,λ_=>rfl⟩
 .rw[j] at hw ⊢
  simp only[wB,wI,SX.bB] at hw
  obtain⟨e,h1,A,B⟩:=vE u
  split at hw
  .rename_i st E
   exact⟨_,h,[],[],false,.ej l k h1 A B E,.refl _,hw,λ_=>⟨rfl,rfl,rfl,rfl⟩,λ_=>rfl⟩
  .exact hw.elim
 .rw[j] at hw ⊢
  obtain⟨v,b,rd,wr,h1,p,A,B⟩:=Nj (s:=uM P q.fr (comp P o)) l (λv au rd F=>Ee (D8 F)) hw
  exact⟨v,b,rd,wr,false,h1,p,A,B⟩
def ed (P:Program) (quiet:Bool) (l:List SO) (recs:List Rec):Prop :=
 l.length=recs.length/\∀ (i:Nat) (s:SO) (r:Rec),l[i]?=some s->recs[i]?=some r->iw (fK P quiet s.b) r.rd r.wr r.call r.lo r.hi
theorem ed.nil {quiet:Bool} : ed P quiet [] []:=⟨rfl,λi s r h=>by simp at h⟩
theorem ed.cons {quiet:Bool} {l:List SO} {a:List Rec} {s:SO} {r:Rec} (h:ed P quiet l a) (hr:iw (fK P quiet s.b) r.rd r.wr r.call r.lo r.hi):ed P quiet (s :: l) (r :: a):=by
 refine⟨by simp[h.1],λi e f d c=>?_⟩
 cases i with
 | zero=>simp at d c;subst d c;exact hr
 | succ i=>exact h.2 i e f (by simpa using d) (by simpa using c)
theorem ed.append {quiet:Bool} {l d:List SO} {b a:List Rec} (h:ed P quiet l b) (e:ed P quiet d a):ed P quiet (l ++ d) (b ++ a):=by
 refine⟨by simp[h.1,e.1],λi s r c hr=>?_⟩
 by_cases hi:i < l.length
 .rw[O6 hi] at c
  rw[O6 (h.1 ▸ hi)] at hr
  exact h.2 i s r c hr
 .rw[Ph (by omega)] at c
  rw[Ph (by have:=h.1;omega)] at hr
  exact e.2 (i - l.length) s r c (by rw[h.1];exact hr)
theorem qb {a:Fz} {o:Oper} {s:SO} (h:AW P n all a o=some s):oH n o=true/\s.dst=o.dst/\s.b=jQ P a o/\rQ n all o=some s.guard:=by
 unfold AW at h
 split at h
 .rename_i c
  simp only[OQ] at h
  obtain⟨g,d,rfl⟩:=h
  exact⟨c,rfl,rfl,d⟩
 .simp at h
theorem xW {o:Oper} {T:Env} (h:rQ n all o=some none):bT n all T o=some true:=by
 unfold rQ at h
 unfold bT
 split at h
 .rename_i a;rw[a]
 .split at h
  .split at h
   .simp at h
   .simp at h
  .simp at h
theorem iS {o:Oper} {T:Env} {d:Nat} {want:Bool} (h:rQ n all o=some (some (d,want))) :
  (∀ b,T d=.val (.bool b)->bT n all T o=some (b == want))/\(T d=.aU []->bT n all T o=some false):=by
 unfold rQ at h
 unfold bT
 split at h
 .simp at h
 .rename_i j w e
  rw[e]
  split at h
  .rename_i g f
   split at h
   .rename_i a
    simp at h
    obtain⟨rfl,rfl⟩:=h
    simp only[f,a,if_true]
    exact⟨λb c=>by rw[c],λc=>by rw[c]⟩
   .simp at h
  .simp at h
theorem iU {a:Fz} {os:List Oper} (h:b6 P n all a os=some []):os=[]:=by
 cases os with
 | nil=>rfl
 | cons o r =>
  simp only[b6] at h
  split at h <;> simp at h
theorem jq {a:Fz} {os:List Oper} {s:SO} {l:List SO} (h:b6 P n all a os=some (s :: l)):∃ o r,os=o :: r/\AW P n all a o=some s/\b6 P n all a r=some l:=by
 cases os with
 | nil=>simp[b6] at h
 | cons o r =>
  simp only[b6] at h
  split at h
  .rename_i c d h1 b
   simp at h
   obtain⟨rfl,rfl⟩:=h
   exact⟨o,r,rfl,h1,b⟩
  .simp at h
theorem nP {d:Fz} : ∀ {l c:List SO} {os:List Oper},b6 P n all d os=some (l ++ c)->∃ a b,os=a ++ b/\b6 P n all d a=some l/\b6 P n all d b=some c
 | [],c,os,h=>⟨[],os,rfl,rfl,h⟩
 | s :: l,c,os,h=>by
  obtain⟨o,r,rfl,h1,e⟩:=jq h
  obtain⟨a,b,rfl,f,g⟩:=nP e
  exact⟨o :: a,b,rfl,by simp[b6,h1,f],g⟩
theorem Tr.append {a b:List Oper} {T c d:Env} {h h1 e:aw} {f g:List Rec} (x:Tr P n all a T h f c h1) (y:Tr P n all b c h1 g d e):Tr P n all (a ++ b) T h (f ++ g) d e:=by
 induction x with
 | nil=>exact y
 | cons st i _ j=>exact .cons st i (j y)
theorem we {T:Env} {d:Nat} {v:V} (h:T d=v):T.put (some d) v=T:=by
 funext t
 simp only[Env.put]
 split
 .rename_i e;subst e;exact h.symm
 .rfl
theorem Bb {E:Fz} {quiet:Bool} {K:Env->View->Prop} (g:Option (Nat × Bool)):∀ (l:List (Option Nat × SB)) (os:List Oper) (T:Env) (h:aw),
  b6 P n all E os=some (l.map λ(d,b)=>⟨d,g,b⟩)->(∀ d w,g=some (d,w)->T d=.val (.bool w)/\(l.all λx=>x.1 != some d)=true)->ug P quiet l T h.view K ->
  ∃ a m j,Tr P n all os T h a m j/\(fN h j/\h.length<=j.length)/\K m j.view/\ed P quiet (l.map λ(d,b)=>⟨d,g,b⟩) a
 | [],os,T,h,q,s,hw=>by
  have:=iU q;subst this
  exact⟨[],T,h,.nil,⟨.refl _,OR _⟩,hw,.nil⟩
 | (d,b) :: l,os,T,h,q,s,hw=>by
  obtain⟨o,r,rfl,h1,F⟩:=jq q
  obtain⟨G,k,f,i⟩:=qb h1
  simp only at k f i
  have u:bT n all T o=some true:=by
   cases g with
   | none=>exact xW i
   | some p =>
    obtain⟨y,w⟩:=p
    have:=(iS (T:=T) i).1 w (s y w rfl).1
    rw[this];simp
  simp only[ug] at hw
  rw[f] at hw
  obtain⟨v,j,rd,wr,call,st,z,hk,H⟩:=LZ u hw
  obtain⟨a,m,A,D,c,B,C⟩:=Bb g l r (T.put d v) j F (λy w e=>by
   have:=s y w e
   simp only[PH,OO,QD,ne_eq] at this
   refine⟨?_,this.2.2⟩
   rw[<-this.1]
   cases d with
   | none=>rfl
   | some t=>simp only[Env.put];rw[OK];intro e;subst e;exact this.2.1 rfl) hk
  rw[k] at D
  have hlen:=st.len
  exact⟨_,m,A,.cons st G D,⟨z.trans c.1 hlen,Pp hlen c.2⟩,B,C.cons (by rw[f];exact H)⟩
theorem y0 {v:Fz} {quiet:Bool} (d:Nat) (w:Bool) (h:aw):∀ (l:List (Option Nat × SB)) (os:List Oper) (T:Env),
  b6 P n all v os=some (l.map λ(c,b)=>⟨c,some (d,w),b⟩)->(T d=.val (.bool !w)∨T d=.aU [])->(l.all λx=>x.1 != some d)=true ->
  ∃ a,Tr P n all os T h a (fE l T) h/\ed P quiet (l.map λ(c,b)=>⟨c,some (d,w),b⟩) a
 | [],os,T,k,f,j=>by
  have:=iU k;subst this
  exact⟨[],.nil,.nil⟩
 | (c,b) :: l,os,T,k,f,j=>by
  obtain⟨o,r,rfl,h1,y⟩:=jq k
  obtain⟨m,g,p,i⟩:=qb h1
  simp only at g p i
  have q:bT n all T o=some false:=by
   rcases f with f | f
   .rw[(iS (T:=T) i).1 _ f];cases w <;> rfl
   .exact(iS (T:=T) i).2 f
  simp only[PH,OO,QD,ne_eq] at j
  obtain⟨a,u,s⟩:=y0 d w h l r (T.put c (.aU [])) y (by
   have:(T.put c (.aU [])) d=T d:=by
    cases c with
    | none=>rfl
    | some t=>simp only[Env.put];rw[OK];intro e;subst e;exact j.1 rfl
   rw[this];exact f) j.2
  rw[g] at u
  refine⟨_,?_,s.cons (r:=⟨[],[],false,h.length,h.length⟩) ⟨λ_=>⟨rfl,rfl,rfl,rfl⟩,λ_=>rfl⟩⟩
  have:=Tr.cons (.skip q) m u
  rw[fE,g]
  exact this
theorem Ng {p:Fz} {quiet:Bool} {K:Env->View->Prop} {g:SG} {os:List Oper} {T:Env} {h:aw} (f:b6 P n all p os=some g.flat) (c:pU g=true) (hw:wG P quiet g T h.view K) :
  ∃ a o k,Tr P n all os T h a o k/\(fN h k/\h.length<=k.length)/\K o k.view/\ed P quiet g.flat a:=by
 unfold wG at hw
 unfold SG.flat at f ⊢
 unfold pU at c
 split at hw
 .rename_i l
  rw[l] at f ⊢
  exact Bb none g.ops os T h f (λd w e=>by simp at e) hw
 .rename_i d want l
  rw[l] at f c ⊢
  simp only at c
  split at hw
  .rename_i b j
   by_cases e:b=want
   .subst e
    have:=hw.1 rfl
    rw[we j] at this
    exact Bb (some (d,b)) g.ops os T h f (λq w e=>by simp at e;obtain⟨rfl,rfl⟩:=e;exact⟨j,c⟩) this
   .have e':b = !want:=by cases b <;> cases want <;> simp_all
    have:=hw.2 e'
    subst e'
    rw[we j] at this
    obtain⟨a,m,i⟩:=y0 (quiet:=quiet) d want h g.ops os T f (.inl j) c
    exact⟨a,_,h,m,⟨.refl _,OR _⟩,this,i⟩
  .rename_i j
   obtain⟨a,m,i⟩:=y0 (quiet:=quiet) d want h g.ops os T f (.inr j) c
   exact⟨a,_,h,m,⟨.refl _,OR _⟩,hw,i⟩
  .exact hw.elim
theorem uG {s:Fz} {quiet:Bool} {K:Env->View->Prop} : ∀ (gs:List SG) (os:List Oper) (T:Env) (h:aw),b6 P n all s os=some (hD gs)->gs.all pU=true->te P quiet gs T h.view K ->
  ∃ c r e,Tr P n all os T h c r e/\(fN h e/\h.length<=e.length)/\K r e.view/\ed P quiet (hD gs) c
 | [],os,T,h,f,_,hw=>by
  have:=iU f;subst this
  exact⟨[],T,h,.nil,⟨.refl _,OR _⟩,hw,.nil⟩
 | g :: gs,os,T,h,f,d,hw=>by
  simp only[hD,Pa,List.flatten_cons] at f ⊢
  simp only[PH,OO] at d
  obtain⟨a,b,rfl,h1,t⟩:=nP f
  obtain⟨w,u,i,j,st1,k,l⟩:=Ng h1 d.1 hw
  obtain⟨x,v,m,o,st2,p,q⟩:=uG gs b u i t d.2 k
  exact⟨_,v,m,j.append o,⟨st1.1.trans st2.1 st1.2,Pp st1.2 st2.2⟩,p,l.append q⟩
theorem Tr.at_ {os:List Oper} {T g:Env} {h j:aw} {b:List Rec} (k:Tr P n all os T h b g j):∀ (i:Nat) (o:Oper),os[i]?=some o ->
  ∃ c h1 v e rd wr call a,b[i]?=some ⟨rd,wr,call,h1.length,e.length⟩/\ct P n all o c h1 v e rd wr call/\h.length<=h1.length/\Tr P n all (os.drop (i+1)) (c.put o.dst v) e a g j/\(∀ m,a[m]?=b[i+1+m]?) /\
   (∀ t,(∀ l∈os.take i,l.dst≠some t)->c t=T t):=by
 induction k with
 | nil=>intro i o hi;simp at hi
 | @cons o0 rest T g h h1 j v rd wr call b st D k s =>
  intro i o hi
  cases i with
  | zero =>
   simp at hi;subst hi
   exact⟨T,h,v,h1,rd,wr,call,b,rfl,st,OR _,by simpa using k,λm=>by rw[show 0+1+m=m+1 by omega,Pq],λt _=>rfl⟩
  | succ i =>
   simp at hi
   obtain⟨c,e,v2,u,p,MU,call2,a,w,x,y,z,A,B⟩:=s i o hi
   have hlen:h.length<=h1.length:=by
    cases st with
    | skip=>exact OR _
    | op _ _=>rename_i au _ _;cases au <;> simp[aM.apply]
    | gg _ _ _=>exact OR _
    | ej _ _ _ _ _ _=>exact OR _
    | call _ _ _ _ C _ _=>exact C.1
   refine⟨c,e,v2,u,p,MU,call2,a,by simpa using w,x,Pp hlen y,by simpa using z,λm=>?_,λt q=>?_⟩
   .rw[A,show i+1+1+m=(i+1+m)+1 by omega,Pq]
   .simp only[List.take_succ_cons,O1] at q
    rw[B t λl r=>q l (.inr r)]
    have:=q o0 (.inl rfl)
    cases f:o0.dst with
    | none=>rfl
    | some d=>simp only[Env.put];rw[OK];rintro rfl;exact this f
theorem GG {o:Oper} {T:Env} {h g:aw} {v:V} {rd wr:List Nat} {call:Bool} (st:ct P n all o T h v g rd wr call) (b:xb o=true) (i:o.guard=none):v=.ptr h.length 0 0:=by
 unfold xb at b
 have d:bT n all T o=some true:=by unfold bT;rw[i]
 cases st with
 | skip f=>rw[d] at f;simp at f
 | op _ a =>
  split at b
  .rename_i e c
   simp only[bo,c] at a
   split at a
   .unfold iY at a
    split at a
    .simp at a;exact a.1.symm
    .simp at a
   .simp at a
  .simp at b
 | gg _ c _=>rw[c] at b;simp at b
 | ej _ c _ _ _ _=>rw[c] at b;simp at b
 | call _ c _ _ _ _ _=>rw[c] at b;simp at b
theorem GA {o:Oper} {T:Env} {h g:aw} {v:V} {rd wr:List Nat} {call:Bool} {t id i j:Nat} (st:ct P n all o T h v g rd wr call) (c:hZ o=some t) (k:T t=.ptr id i j):wr=[id]/\call=false:=by
 unfold hZ at c
 split at c
 .rename_i ty l x d m
  simp at c;subst c
  have e:bT n all T o=some true:=by unfold bT;rw[m]
  cases st with
  | skip f=>rw[e] at f;simp at f
  | op _ b =>
   have p:ev T (.tmp l)=.ptr id i j:=k
   simp only[bo,d,p,nz] at b
   split at b
   .split at b
    .simp only[OJ,OL] at b
     obtain⟨_,he,_⟩:=b
     rw[<-he];exact⟨rfl,rfl⟩
    .simp at b
   .simp at b
  | gg _ a _=>rw[d] at a;simp at a
  | ej _ a _ _ _ _=>rw[d] at a;simp at a
  | call _ a _ _ _ _ _=>rw[d] at a;simp at a
 .simp at c
theorem Hl {o:Oper} {T:Env} {h g:aw} {v:V} {rd wr:List Nat} {call:Bool} (st:ct P n all o T h v g rd wr call) (d:ze o=true):wr=[]/\call=false/\∀ id,id∈rd->id < h.length:=by
 unfold ze at d
 cases st with
 | skip _=>exact⟨rfl,rfl,λid c=>by simp at c⟩
 | op _ b =>
  split at d
  .rename_i e a f
   simp only[bo,f,jM] at b
   split at b
   .rename_i id i j l
    split at b
    .rename_i z es hH
     split at b
     .simp only[OQ] at b
      obtain⟨_,_,b⟩:=b
      simp at b
      obtain⟨_,rfl,rfl⟩:=b
      refine⟨rfl,rfl,λk c=>?_⟩
      simp at c;subst c
      exact fC (by rw[hH];simp)
     .simp at b
    .simp at b
   .simp only[OQ] at b
    obtain⟨_,_,b⟩:=b
    simp at b
    obtain⟨_,rfl,rfl⟩:=b
    exact⟨rfl,rfl,λid c=>by simp at c⟩
   .simp at b
  .simp at d
 | gg _ f _=>rw[f] at d;simp at d
 | ej _ f _ _ _ _=>rw[f] at d;simp at d
 | call _ f _ _ _ _ _=>rw[f] at d;simp at d
theorem r6 {T G:Env} {h H:aw} {e:List Rec} (I:Tr P n all all T h e G H) {i k:Nat} {a b:Rec} (hp:u9 all i k=true) (g:e[i]?=some a) (J:e[k]?=some b):lq a b:=by
 unfold u9 at hp
 split at hp
 .rename_i K L l m
  rw[OO] at hp
  obtain⟨M,hp⟩:=hp
  split at hp
  .rename_i t o
   rw[List.any_eq_true] at hp
   obtain⟨j,N,hp⟩:=hp
   rw[Pm] at N
   rw[OO,OT] at hp
   obtain⟨O,c⟩:=hp
   unfold MZ at c
   split at c
   .rename_i Q p
    simp only[OO,PB,O7,QD,ne_eq,Option.isNone_iff_eq_none] at c
    obtain⟨⟨⟨R,S⟩,U⟩,V⟩:=c
    obtain⟨T1,h1,v1,W,X,NB,c1,q,D,E,e3,Y,Z,_⟩:=I.at_ i K l
    obtain⟨Tj,r,vj,a1,a6,a7,cj,s,f1,f2,f3,f4,f5,_⟩:=Y.at_ (j - (i+1)) Q (by rw[Qc,show i+1+(j - (i+1))=j by omega];exact p)
    have u:(all.drop (i+1)).drop (j - (i+1)+1)=all.drop (j+1):=by rw[List.drop_drop];congr 1;omega
    rw[u] at f4
    obtain⟨Tk,v,vk,w,x,y,ck,z,g1,g2,g3,_,_,g6⟩:=f4.at_ (k - (j+1)) L (by rw[Qc,show j+1+(k - (j+1))=k by omega];exact m)
    rw[g] at D
    have A:=(Qr D)
    have f:e[k]?=some ⟨x,y,ck,v.length,w.length⟩:=by
     rw[<-g1,f5,Z];congr 1;omega
    rw[J] at f
    have f:=Qr f
    have hv:=GG f2 U S
    have B:Tk t=.ptr r.length 0 0:=by
     rw[g6 t λo' C=>V o' C,R,hv]
     simp[Env.put]
    obtain⟨s1,s2⟩:=GA g2 o B
    obtain⟨F,l2,l3⟩:=Hl E M
    rw[A,f]
    have hlen:h1.length<=W.length:=by
     cases E with
     | skip=>exact OR _
     | op _ _=>rename_i au _ _;cases au <;> simp[aM.apply]
     | gg _ _ _=>exact OR _
     | ej _ _ _ _ _ _=>exact OR _
     | call _ _ _ _ g _ _=>exact g.1
    refine⟨λid d=>by simp[F] at d,λid d=>?_,λhc=>by simp[l2] at hc,λ_=>F,λid d=>?_⟩
    .simp only[s1,PU] at d
     subst d
     intro hr
     have:=l3 _ hr
     omega
    .simp only[s1,PU] at d
     subst d
     simp only
     omega
   .simp at c
  .simp at hp
 .simp at hp
theorem Kc {ls:List Nat} {d:List Rec} {T t:Env} {hp g:aw} (u:Tr P n all all T hp d t g) (h:AX all ls=true) (y:ls.length=d.length) (hr:∀ (i x:Nat) (r:Rec),ls[i]?=some x->d[i]?=some r->iw x r.rd r.wr r.call r.lo r.hi):qM all d:=by
 intro i k a b j l m v
 have hi:i < d.length:=(OV.1 l).1
 have hk:k < d.length:=(OV.1 m).1
 unfold AX at h
 simp only[O7] at h
 have h1:=h (ls[i]'(by omega),i) (by rw[Py];simp[OI (show i < ls.length by omega)])
  (ls[k]'(by omega),k) (by rw[Py];simp[OI (show k < ls.length by omega)])
 have q:=hr i _ a (OI (by omega)) l
 have s:=hr k _ b (OI (by omega)) m
 simp only[j,decide_true,Qy,v,Qn,Qi,PB,OO,OT] at h1
 rcases h1 with ((h1 | h1) | h1) | h1
 .obtain⟨f,e,o,w⟩:=q.1 h1
  exact⟨λid c=>by simp[e] at c,λid _=>by simp[f],λp=>by simp[o] at p,λ_=>e,λid _ z=>by omega⟩
 .obtain⟨f,e,o,w⟩:=s.1 h1
  exact⟨λid _=>by simp[f],λid c=>by simp[e] at c,λ_=>e,λp=>by simp[o] at p,λid c=>by simp[e] at c⟩
 .have f:=q.2 h1.1
  have e:=s.2 h1.2
  exact⟨λid c=>by simp[f] at c,λid c=>by simp[e] at c,λ_=>e,λ_=>f,λid c=>by simp[e] at c⟩
 .exact r6 u h1 l m
theorem Tr.keep {os:List Oper} {T c:Env} {h e:aw} {a:List Rec} (f:Tr P n all os T h a c e) {t:Nat} (g:∀ o∈os,o.dst≠some t):c t=T t:=by
 induction f with
 | nil=>rfl
 | @cons o0 rest T c h h1 e v rd wr call a st k f i =>
  rw[i λo j=>g o (by simp[j])]
  have:=g o0 (by simp)
  cases b:o0.dst with
  | none=>rfl
  | some d=>simp only[Env.put];rw[OK];rintro rfl;exact this b
theorem se {o:Oper} {T:Env} {h g:aw} {v:V} {rd wr:List Nat} {call:Bool} {t:Nat} (st:ct P n all o T h v g rd wr call) (d:oT o=some t):wr=[]/\call=false/\g.length=h.length/\∀ id,id∈rd->∃ i j,T t=.ptr id i j:=by
 unfold oT at d
 split at d
 .rename_i e m f
  simp at d;subst d
  cases st with
  | skip _=>exact⟨rfl,rfl,rfl,λid c=>by simp at c⟩
  | op _ a =>
   simp only[bo,f,jM] at a
   split at a
   .rename_i id i j k
    split at a
    .split at a
     .simp only[OQ] at a
      obtain⟨_,_,a⟩:=a
      simp at a
      obtain⟨_,rfl,rfl⟩:=a
      refine⟨rfl,rfl,rfl,λl c=>?_⟩
      simp at c;subst c
      exact⟨i,j,k⟩
     .simp at a
    .simp at a
   .simp only[OQ] at a
    obtain⟨_,_,a⟩:=a
    simp at a
    obtain⟨_,rfl,rfl⟩:=a
    exact⟨rfl,rfl,rfl,λid c=>by simp at c⟩
   .simp at a
  | gg _ b _=>rw[f] at b;simp at b
  | ej _ b _ _ _ _=>rw[f] at b;simp at b
  | call _ b _ _ _ _ _=>rw[f] at b;simp at b
 .simp at d
theorem sB {i t:Nat} (h:stays all i t=true):∀ o∈all.drop i,o.dst≠some t:=by
 intro o a
 have:=O7.1 h o a
 simpa using this
theorem wM {a:List (Nat × Nat)} {T:Env} {K:Prop} (b:uQ a T K):∀ p∈a,fv (T p.1) (T p.2):=by
 induction a with
 | nil=>intro p hp;simp at hp
 | cons q l c =>
  intro p hp
  rcases O1.1 hp with rfl | hp
  .exact b.1
  .exact c b.2 p hp
theorem uQ.rest {a:List (Nat × Nat)} {T:Env} {K:Prop} (b:uQ a T K):K:=by
 induction a with
 | nil=>exact b
 | cons q l c=>exact c b.2
theorem nk {T l:Env} {h m:aw} {a:List Rec} (p:Tr P n all all T h a l m) {i t:Nat} {o:Oper} (j:all[i]?=some o) (q:stays all i t=true) {r:Rec} (hr:a[i]?=some r) :
  ∃ e h1 v f,ct P n all o e h1 v f r.rd r.wr r.call/\r.lo=h1.length/\r.hi=f.length/\e t=l t:=by
 obtain⟨e,h1,v,f,rd,wr,call,k,g,s,x,u,y,z⟩:=p.at_ i o j
 rw[hr] at g
 have g:=Qr g
 subst g
 refine⟨e,h1,v,f,s,rfl,rfl,?_⟩
 have hk:=sB q
 have hi:i < all.length:=(OV.1 j).1
 have b:all[i]=o:=(OV.1 j).2
 rw[Qa hi,b] at hk
 rw[u.keep λw b=>hk w (by simp[b])]
 have:=hk o (by simp)
 cases c:o.dst with
 | none=>rfl
 | some d=>simp only[Env.put];rw[OK];rintro rfl;exact this c
theorem u6 {i a b j c d:Nat} (h:fv (.ptr i a b) (.ptr j c d)):i≠j:=h
theorem x3 {i a b j c d e:Nat} (h:fv (.ptr i a b) (.sl j c d e)):i≠j:=h
theorem oQ {o:Oper} {T:Env} {h q:aw} {v:V} {rd wr:List Nat} {call:Bool} {t:Nat} (st:ct P n all o T h v q rd wr call) (g:mn o=some t) :
  call=false/\∀ id,id∈wr->(∃ i j,T t=.ptr id i j)∨∃ a b c,T t=.sl id a b c:=by
 unfold mn at g
 split at g
 .rename_i w m
  simp at g;subst g
  unfold hZ at m
  split at m
  .rename_i ty t2 x k r
   simp at m;subst m
   cases st with
   | skip _=>exact⟨rfl,λid f=>by simp at f⟩
   | op _ d =>
    simp only[bo,k,nz] at d
    split at d
    .rename_i id i j p
     split at d
     .split at d
      .simp only[OJ,OL] at d
       obtain⟨_,he,_⟩:=d
       rw[<-he]
       refine⟨rfl,λl f=>?_⟩
       simp[aM.wr] at f;subst f
       exact .inl ⟨i,j,p⟩
      .simp at d
     .simp at d
    .simp at d
   | gg _ e _=>rw[k] at e;simp at e
   | ej _ e _ _ _ _=>rw[k] at e;simp at e
   | call _ e _ _ _ _ _=>rw[k] at e;simp at e
  .simp at m
 .unfold Is at g
  split at g
  .rename_i args s k r
   split at g
   .rename_i t2 y u
    simp at g;subst g
    cases st with
    | skip _=>exact⟨rfl,λid f=>by simp at f⟩
    | op _ d =>
     simp only[bo,k,u] at d
     split at d
     .unfold kG at d
      split at d
      .split at d
       .simp at d
       .split at d
        .split at d <;> first | (simp only[OJ,OL] at d;obtain⟨_,he,_⟩:=d;rw[<-he];exact⟨rfl,λl f=>by simp[aM.wr] at f⟩) | simp at d
        .split at d
         .simp at d
         .split at d
          .split at d
           .simp only[OJ,OL] at d
            obtain⟨_,he,_⟩:=d
            rw[<-he];exact⟨rfl,λl f=>by simp[aM.wr] at f⟩
           .simp at d
          .rename_i id off len esz p
           split at d
           .split at d
            .simp only[OJ,OL] at d
             obtain⟨_,he,_⟩:=d
             rw[<-he]
             refine⟨rfl,λl f=>?_⟩
             simp[aM.wr] at f;subst f
             exact .inr ⟨off,len,esz,p⟩
            .simp at d
           .simp at d
          .simp at d
      .simp at d
     .split at d
      .unfold sO at d
       repeat' (split at d)
       all_goals first | (simp only[OJ,OL] at d;obtain⟨_,he,_⟩:=d;rw[<-he];exact⟨rfl,λl f=>by simp[aM.wr] at f⟩) | simp at d
      .simp at d
    | gg _ e _=>rw[k] at e;simp at e
    | ej _ e _ _ _ _=>rw[k] at e;simp at e
    | call _ e _ _ _ _ _=>rw[k] at e;simp at e
   .simp at g
  .simp at g
theorem J9 {o:Oper} {T:Env} {h g:aw} {v:V} {rd wr:List Nat} {call:Bool} (st:ct P n all o T h v g rd wr call) (b:Cr o=true):rd=[]/\wr=[]/\call=false:=by
 unfold Cr at b
 cases st with
 | skip _=>exact⟨rfl,rfl,rfl⟩
 | op _ a =>
  split at b
  .rename_i ty len parts c
   simp only[bo,c,e9] at a
   have key:∀ {x:Option (V × aM × List Nat)} {e:aM},x=some (v,e,rd)->(∀ y,x=some y->y.2.1.wr=[]/\y.2.2=[])->rd=[]/\e.wr=[]:=λf d=>⟨(d _ f).2,(d _ f).1⟩
   obtain⟨i,k2⟩:=key a (by
    intro y d
    repeat' (first | (split at d)|(simp only[OJ] at d;subst d;exact⟨rfl,rfl⟩)|(simp at d;done)))
   exact⟨i,k2,rfl⟩
  .rename_i e c
   simp only[bo,c] at a
   split at a
   .unfold iY at a
    split at a
    .simp only[OJ,OL] at a
     obtain⟨_,he,hr⟩:=a
     rw[<-he,<-hr];exact⟨rfl,rfl,rfl⟩
    .simp at a
   .simp at a
  .simp at b
 | gg _ c _=>rw[c] at b;simp at b
 | ej _ c _ _ _ _=>rw[c] at b;simp at b
 | call _ c _ _ _ _ _=>rw[c] at b;simp at b
theorem ry {o:Oper} {t:Nat} (h:hZ o=some t):mn o=some t:=by unfold mn;rw[h]
theorem HI {T w:Env} {h Q:aw} {l:List Rec} (u:Tr P n all all T h l w Q) {i k:Nat} {a b:Rec} {p:Nat × Nat} (hp:xQ all i k=some p) (j:fv (w p.1) (w p.2)) (N:l[i]?=some a) (O:l[k]?=some b):lq a b:=by
 unfold xQ at hp
 split at hp
 .rename_i Z ob q r
  split at hp
  .rename_i s t x y
   split at hp
   .rename_i g
    simp only[OO] at g
    simp at hp;subst hp
    obtain⟨z,A,R,B,C,D,E,F⟩:=nk u q g.1 N
    obtain⟨Tb,G,S,H,I,_,_,J⟩:=nk u r g.2 O
    obtain⟨o,K,U,L⟩:=se C x
    have j:fv (z s) (Tb t):=by rw[F,J];exact j
    refine⟨λid f=>by simp[o] at f,λid f hr=>?_,λv=>by simp[K] at v,λ_=>o,λid _ hx=>by omega⟩
    obtain⟨V,W,M⟩:=L id hr
    rw[M] at j
    rcases (oQ I (ry y)).2 id f with ⟨c,d,m⟩ | ⟨c,d,e,m⟩
    .rw[m] at j;exact u6 j rfl
    .rw[m] at j;exact x3 j rfl
   .simp at hp
  .split at hp
   .rename_i t s y x
    split at hp
    .rename_i g
     simp only[OO] at g
     simp at hp;subst hp
     obtain⟨z,A,R,B,C,D,E,F⟩:=nk u q g.1 N
     obtain⟨Tb,G,S,H,I,X,Y,J⟩:=nk u r g.2 O
     obtain⟨o,K,U,L⟩:=se I x
     have j:fv (Tb s) (z t):=by rw[F,J];exact j
     refine⟨λid f hr=>?_,λid f=>by simp[o] at f,λv=>o,λv=>by simp[K] at v,λid f=>by simp[o] at f⟩
     obtain⟨V,W,M⟩:=L id hr
     rw[M] at j
     rcases (oQ C (ry y)).2 id f with ⟨c,d,m⟩ | ⟨c,d,e,m⟩
     .rw[m] at j;exact u6 j rfl
     .rw[m] at j;exact x3 j rfl
    .simp at hp
   .simp at hp
 .simp at hp
theorem F8 {T w:Env} {h Q:aw} {l:List Rec} (u:Tr P n all all T h l w Q) {i k:Nat} {a b:Rec} {p:Nat × Nat} (hp:zd all i k=some p) (j:fv (w p.1) (w p.2)) (N:l[i]?=some a) (O:l[k]?=some b):lq a b:=by
 unfold zd at hp
 split at hp
 .rename_i Z ob q r
  split at hp
  .rename_i s t x y
   split at hp
   .rename_i g
    simp only[OO] at g
    simp at hp;subst hp
    obtain⟨z,A,R,B,C,D,E,F⟩:=nk u q g.1 N
    obtain⟨Tb,G,S,H,I,_,_,J⟩:=nk u r g.2 O
    obtain⟨o,K,U,L⟩:=se C x
    have j:fv (z s) (Tb t):=by rw[F,J];exact j
    refine⟨λid f=>by simp[o] at f,λid f hr=>?_,λv=>by simp[K] at v,λ_=>o,λid _ hx=>by omega⟩
    obtain⟨V,W,M⟩:=L id hr
    rw[M] at j
    rcases (oQ I y).2 id f with ⟨c,d,m⟩ | ⟨c,d,e,m⟩
    .rw[m] at j;exact u6 j rfl
    .rw[m] at j;exact x3 j rfl
   .simp at hp
  .split at hp
   .rename_i t s y x
    split at hp
    .rename_i g
     simp only[OO] at g
     simp at hp;subst hp
     obtain⟨z,A,R,B,C,D,E,F⟩:=nk u q g.1 N
     obtain⟨Tb,G,S,H,I,X,Y,J⟩:=nk u r g.2 O
     obtain⟨o,K,U,L⟩:=se I x
     have j:fv (Tb s) (z t):=by rw[F,J];exact j
     refine⟨λid f hr=>?_,λid f=>by simp[o] at f,λv=>o,λv=>by simp[K] at v,λid f=>by simp[o] at f⟩
     obtain⟨V,W,M⟩:=L id hr
     rw[M] at j
     rcases (oQ C y).2 id f with ⟨c,d,m⟩ | ⟨c,d,e,m⟩
     .rw[m] at j;exact u6 j rfl
     .rw[m] at j;exact x3 j rfl
    .simp at hp
   .simp at hp
 .simp at hp
theorem IC {l:List (Nat × Nat)} {a:List (Nat × Nat)} (h:x7 all l=some a):∀ q∈l,∃ p∈a,xQ all q.1 q.2=some p:=by
 induction l generalizing a with
 | nil=>intro q b;simp at b
 | cons x r d =>
  obtain⟨i,k⟩:=x
  simp only[x7] at h
  split at h
  .rename_i p j h1 f
   simp at h;subst h
   intro q b
   rcases O1.1 b with rfl | b
   .exact⟨p,by simp,h1⟩
   .obtain⟨g,c,e⟩:=d f q b
    exact⟨g,by simp[c],e⟩
  .simp at h
theorem Fu {l:List (Nat × Nat)} {a:List (Nat × Nat)} (h:qX all l=some a):∀ q∈l,∃ f,(∀ p∈f,p∈a)/\vy all q.1 q.2=some f:=by
 induction l generalizing a with
 | nil=>intro q b;simp at b
 | cons x r g =>
  obtain⟨i,k⟩:=x
  simp only[qX] at h
  split at h
  .rename_i p n h1 j
   simp at h;subst h
   intro q b
   rcases O1.1 b with rfl | b
   .exact⟨p,λx c=>by simp[c],h1⟩
   .obtain⟨m,d,e⟩:=g j q b
    exact⟨m,λx c=>by simp[d x c],e⟩
  .simp at h
theorem GW {H:View} {x:V} {xs:List (List V)} {rd:List Nat} (h:bD H x=some (xs,rd)):∀ id,id∈rd->∃ a b c,x=.sl id a b c:=by
 unfold bD at h
 split at h
 .simp at h;obtain⟨_,rfl⟩:=h;intro id d;simp at d
 .simp at h;obtain⟨_,rfl⟩:=h;intro id d;simp at d
 .simp at h;obtain⟨_,rfl⟩:=h;intro id d;simp at d
 .simp at h;obtain⟨_,rfl⟩:=h;intro id d;simp at d
 .split at h
  .split at h
   .simp at h
    obtain⟨_,rfl⟩:=h
    intro id d
    simp at d;subst d
    exact⟨_,_,_,rfl⟩
   .simp at h
  .simp at h
 .simp at h;obtain⟨_,rfl⟩:=h;intro id d;simp at d
 .simp at h
theorem BZ {o:Oper} {T:Env} {h s:aw} {v:V} {rd wr:List Nat} {call:Bool} {t y d:Nat} (st:ct P n all o T h v s rd wr call) (l:vz o=some (t,y,d)) :
  call=false/\(∀ id,id∈wr->∃ a b c,T t=.sl id a b c)/\(∀ id,id∈rd->(∃ a b c,T t=.sl id a b c)∨∃ a b c,T y=.sl id a b c)/\(h.length < s.length->∃ a b c,v=.sl h.length a b c)/\s.length<=h.length+1/\o.dst=some d:=by
 unfold vz at l
 split at l
 .rename_i args A B r E m
  split at l
  .rename_i t2 C D
   simp at l
   obtain⟨rfl,rfl,rfl⟩:=l
   cases st with
   | skip _=>exact⟨rfl,λid g=>by simp at g,λid g=>by simp at g,λh=>by omega,by omega,m⟩
   | op _ f =>
    simp only[bo,r,D] at f
    have w:∀ {x:V} {i:aM} {k:List Nat},some (x,aM.none,([]:List Nat))=some (v,i,k)->false=false/\(∀ id,id∈i.wr->∃ a b c,T t2=.sl id a b c)/\(∀ id,id∈k->(∃ a b c,T t2=.sl id a b c)∨∃ a b c,T C=.sl id a b c)/\(h.length < (i.apply h).length->∃ a b c,v=.sl h.length a b c)/\(i.apply h).length<=h.length+1/\o.dst=some B:=by
     intro x i k e
     simp only[OJ,OL] at e
     obtain⟨_,rfl,rfl⟩:=e
     exact⟨rfl,λid g=>by simp[aM.wr] at g,λid g=>by simp at g,λh=>by simp[aM.apply] at h,by simp[aM.apply],m⟩
    split at f
    .unfold kG at f
     split at f
     .rename_i e xs k _ u
      have p:=GW u
      split at f
      .simp at f
      .split at f
       .split at f <;> first | exact w f | simp at f
       .split at f
        .simp at f
        .split at f
         .split at f
          .simp only[OJ,OL] at f
           obtain⟨rfl,rfl,rfl⟩:=f
           exact⟨rfl,λid g=>by simp[aM.wr] at g,λid g=>.inr (p id g),λ_=>⟨_,_,_,rfl⟩,by simp[aM.apply],m⟩
          .simp at f
         .rename_i id off len esz z
          split at f
          .split at f
           .simp only[OJ,OL] at f
            obtain⟨rfl,rfl,rfl⟩:=f
            refine⟨rfl,λq g=>?_,λq g=>?_,λ_=>⟨_,_,_,rfl⟩,by simp[aM.apply],m⟩
            .simp[aM.wr] at g;subst g
             exact⟨off,len,esz,z⟩
            .rcases O1.1 g with rfl | g
             .exact .inl ⟨off,len,esz,z⟩
             .exact .inr (p q g)
           .simp at f
          .simp at f
         .simp at f
     .simp at f
    .split at f
     .unfold sO at f
      split at f
      .split at f
       .split at f
        .exact w f
        .split at f
         .simp only[OJ,OL] at f
          obtain⟨rfl,rfl,rfl⟩:=f
          exact⟨rfl,λid g=>by simp[aM.wr] at g,λid g=>by simp at g,λ_=>⟨_,_,_,rfl⟩,by simp[aM.apply],m⟩
         .simp at f
       .simp at f
      .simp at f
     .simp at f
   | gg _ j _=>rw[r] at j;simp at j
   | ej _ j _ _ _ _=>rw[r] at j;simp at j
   | call _ j _ _ _ _ _=>rw[r] at j;simp at j
  .simp at l
 .simp at l
theorem Jh {T j:Env} {h q:aw} {a:List Rec} (s:Tr P n all all T h a j q) {i:Nat} {o:Oper} (k:all[i]?=some o) {r:Rec} (hr:a[i]?=some r) :
  ∃ e h1 v f,ct P n all o e h1 v f r.rd r.wr r.call/\r.lo=h1.length/\r.hi=f.length/\(∀ t,stays all i t=true->e t=j t)/\∀ d,o.dst=some d->stays all (i+1) d=true->j d=v:=by
 obtain⟨e,h1,v,f,rd,wr,call,l,g,u,y,p,z,A⟩:=s.at_ i o k
 rw[hr] at g
 have g:=Qr g
 subst g
 refine⟨e,h1,v,f,u,rfl,rfl,λt m=>?_,λd w m=>?_⟩
 .have hk:=sB m
  have hi:i < all.length:=(OV.1 k).1
  have b:all[i]=o:=(OV.1 k).2
  rw[Qa hi,b] at hk
  rw[p.keep λx b=>hk x (by simp[b])]
  have:=hk o (by simp)
  cases c:o.dst with
  | none=>rfl
  | some d=>simp only[Env.put];rw[OK];rintro rfl;exact this c
 .rw[p.keep (sB m),w]
  simp[Env.put]
theorem uw {i a b c j d e f:Nat} (h:fv (.sl i a b c) (.sl j d e f)):i≠j:=h
theorem Fx {T r:Env} {h E:aw} {c:List Rec} (A:Tr P n all all T h c r E) {i k:Nat} {a b:Rec} {B:List (Nat × Nat)} (hp:yO all i k=some B) (o:∀ p∈B,fv (r p.1) (r p.2)) (F:c[i]?=some a) (G:c[k]?=some b):lq a b:=by
 unfold yO at hp
 split at hp
 .rename_i oa ob s u
  split at hp
  .rename_i t y d g C d' h1 H
   split at hp
   .rename_i l
    simp only[OO] at l
    obtain⟨⟨⟨⟨s1,s2⟩,I⟩,v⟩,J⟩:=l
    simp at hp;subst hp
    have j:=o (t,g) (by simp)
    have a2:=o (t,C) (by simp)
    have a3:=o (g,y) (by simp)
    have a4:=o (d,g) (by simp)
    simp only at j a2 a3 a4
    obtain⟨Ta,w,va,K,L,M,N,x,z⟩:=Jh A s F
    obtain⟨Tb,O,vb,Q,R,_,_,q,_⟩:=Jh A u G
    obtain⟨S,U,V,W,p5,X⟩:=BZ L h1
    obtain⟨Y,D,Z,_⟩:=BZ R H
    have z:=z d X I
    rw[<-x t s1,<-q g v] at j
    rw[<-x t s1,<-q C J] at a2
    rw[<-q g v,<-x y s2] at a3
    rw[z,<-q g v] at a4
    refine⟨λid f hr=>?_,λid f hr=>?_,λm=>by rw[S] at m;simp at m,λm=>by rw[Y] at m;simp at m,λid f hx=>?_⟩
    .obtain⟨_,_,_,e⟩:=U id f
     rcases Z id hr with ⟨_,_,_,e'⟩ | ⟨_,_,_,e'⟩
     .rw[e,e'] at j;exact uw j rfl
     .rw[e,e'] at a2;exact uw a2 rfl
    .obtain⟨_,_,_,e⟩:=D id f
     rcases V id hr with ⟨_,_,_,e'⟩ | ⟨_,_,_,e'⟩
     .rw[e',e] at j;exact uw j rfl
     .rw[e,e'] at a3;exact uw a3 rfl
    .obtain⟨_,_,_,e⟩:=D id f
     obtain⟨_,_,_,e'⟩:=W (by omega)
     have:id=w.length:=by omega
     subst this
     rw[e,e'] at a4;exact uw a4 rfl
   .simp at hp
  .simp at hp
 .simp at hp
theorem FP {T d:Env} {h m:aw} {c:List Rec} (e:Tr P n all all T h c d m) {i k:Nat} {a b:Rec} {f:List (Nat × Nat)} (hp:vy all i k=some f) (g:∀ p∈f,fv (d p.1) (d p.2)) (j:c[i]?=some a) (l:c[k]?=some b):lq a b:=by
 unfold vy at hp
 split at hp
 .rename_i p h1
  simp at hp;subst hp
  exact F8 e h1 (g p (by simp)) j l
 .exact Fx e hp g j l
theorem J4 {ls:List Nat} {d:List Rec} {T o:Env} {hp q:aw} {j:List (Nat × Nat)} (v:Tr P n all all T hp d o q) (h:x7 all (iA all ls)=some j) (z:∀ p∈j,fv (o p.1) (o p.2)) (D:ls.length=d.length)
  (hr:∀ (i x:Nat) (r:Rec),ls[i]?=some x->d[i]?=some r->iw x r.rd r.wr r.call r.lo r.hi):qM all d:=by
 intro i k a b s l m A
 have hi:i < d.length:=(OV.1 l).1
 have hk:k < d.length:=(OV.1 m).1
 have w:=hr i _ a (OI (by omega)) l
 have y:=hr k _ b (OI (by omega)) m
 have B:(ls[i]'(by omega),i)∈ls.zipIdx:=by rw[Py];simp[OI (show i < ls.length by omega)]
 have mk:(ls[k]'(by omega),k)∈ls.zipIdx:=by rw[Py];simp[OI (show k < ls.length by omega)]
 by_cases h1:uT all (ls[i]'(by omega)) i (ls[k]'(by omega)) k=true
 .unfold uT at h1
  simp only[s,decide_true,Qy,A,Qn,Qi,PB,OO,OT] at h1
  rcases h1 with ((h1 | h1) | h1) | h1
  .obtain⟨g,f,t,C⟩:=w.1 h1
   exact⟨λid c=>by simp[f] at c,λid _=>by simp[g],λu=>by simp[t] at u,λ_=>f,λid _ E=>by omega⟩
  .obtain⟨g,f,t,C⟩:=y.1 h1
   exact⟨λid _=>by simp[g],λid c=>by simp[f] at c,λ_=>f,λu=>by simp[t] at u,λid c=>by simp[f] at c⟩
  .have g:=w.2 h1.1
   have f:=y.2 h1.2
   exact⟨λid c=>by simp[g] at c,λid c=>by simp[f] at c,λ_=>f,λ_=>g,λid c=>by simp[f] at c⟩
  .exact r6 v h1 l m
 .have hm:(i,k)∈iA all ls:=by
   unfold iA
   rw[List.mem_flatMap]
   refine⟨_,B,?_⟩
   rw[Qp]
   exact⟨_,mk,by simp only;rw[OK h1]⟩
  obtain⟨p,hp,e⟩:=IC h (i,k) hm
  exact HI v e (z p hp) l m
theorem zO {P:Program} {t:TypeId} {id:Nat} {q:V} {ok:Bool} {H1 a:View} (h:H1 id=a id):dG P t (.mp id) q ok H1=dG P t (.mp id) q ok a:=by
 unfold dG
 simp only[h]
theorem FA {P:Program} {t:TypeId} {id:Nat} {q:V} {H1 a:View} (h:H1 id=a id):cM P t (.mp id) q H1=cM P t (.mp id) q a:=by
 cases hm:cU P t with
 | none=>simp only[cM,hm]
 | some x=>simp only[cM,hm,h]
theorem JP {P:Program} {t:TypeId} {id:Nat} {q:V} {H:View} {v:V} {au:aM} {rd:List Nat} (h:dG P t (.mp id) q false H=some (v,au,rd)):au=.none/\rd=[id]:=by
 simp only[dG,Pb,if_false] at h
 repeat' (first | (simp only[OJ,OL] at h;exact⟨h.2.1.symm,h.2.2.symm⟩)|(split at h)|(simp at h;done))
theorem H8 {P:Program} {t:TypeId} {id:Nat} {q:V} {H:View} {v:V} {au:aM} {rd:List Nat} (h:cM P t (.mp id) q H=some (v,au,rd)):∃ obj,au=.dP id obj:=by
 cases hm:cU P t with
 | none=>simp[cM,hm] at h
 | some x =>
  simp only[cM,hm] at h
  repeat' (first | (simp only[OJ,OL] at h;exact⟨_,h.2.1.symm⟩)|(split at h)|(simp at h;done))
theorem Bh {o:Oper} {T:Env} {h f:aw} {v:V} {rd wr:List Nat} {call:Bool} (st:ct P n all o T h v f rd wr call) (i:bT n all T o=some true) (j:∀ e x,o.op≠.box e x) (k:∀ s d x,o.op≠.convert s d x) (l:∀ c,o.op≠.call c) :
  ∃ au,bo P o T h.view h.length=some (v,au,rd)/\f=au.apply h/\wr=au.wr/\call=false:=by
 cases st with
 | skip g=>rw[i] at g;simp at g
 | op _ b=>exact⟨_,b,rfl,rfl,rfl⟩
 | gg _ a _=>exact absurd a (j _ _)
 | ej _ a _ _ _ _=>exact absurd a (k _ _ _)
 | call _ a _ _ _ _ _=>exact absurd a (l _)
theorem LI {a:List Rec} {f:Nat->Env} {b:Nat->aw} {vs:Nat->V} (d:wH P n all a f b vs) (i:a.length=all.length) {k:Nat} (hk:k<=all.length) (hw:∀ j r,j < k->a[j]?=some r->r.wr=[]) :
  ∀ j,j<=k->(b 0).length<=(b j).length/\∀ id,id < (b 0).length->(b j).view id=(b 0).view id:=by
 intro j
 induction j with
 | zero=>intro _;exact⟨OR _,λ_ _=>rfl⟩
 | succ j g =>
  intro l
  obtain⟨e,h⟩:=g (by omega)
  obtain⟨st,_,_,_,_⟩:=d j all[j] (a[j]'(by omega)) (OI (by omega)) (OI (by omega))
  refine⟨Pp e (qm st),λid c=>?_⟩
  rw[oN st (O0 c e) (by rw[hw j _ (by omega) (OI (by omega))];simp)]
  exact h id c
theorem mJ {a:List Rec} {b:Nat->Env} {e:Nat->aw} {vs:Nat->V} (c:wH P n all a b e vs) (m:a.length=all.length) {i t:Nat} (h:stays all i t=true):∀ j,i<=j->j<=all.length->b j t=b i t:=by
 intro j d f
 refine vw (vs:=vs) (N:=all.length) (λk o hk=>?_) rfl i j d f λk o h1 p g=>sB h o (by
  rw[List.mem_iff_getElem?]
  exact⟨k - i,by rw[Qc,show i+(k - i)=k by omega];exact g⟩)
 have l:k < all.length:=(OV.1 hk).1
 exact(c k o (a[k]'(by omega)) hk (OI (by omega))).2.2.1
theorem By {ls:List Nat} {d:List Rec} {T I:Env} {hp bx:aw} {W:List (Nat × Nat)} {tp:Option (Nat × Nat)} (tr:Tr P n all all T hp d I bx) (h:qX all (A3 all ls tp)=some W) (hA:∀ p∈W,fv (I p.1) (I p.2)) (hl:ls.length=d.length)
  (hr:∀ (i x:Nat) (r:Rec),ls[i]?=some x->d[i]?=some r->iw x r.rd r.wr r.call r.lo r.hi) (X:∀ p,tp=some p->∃ D,AV all ls p.1 p.2=some D/\C6 P D.1 (I D.2.1) (I D.2.2) hp.view):Fw P n all d T I hp:=by
 have main:∀ i k a b,i < k->d[i]?=some a->d[k]?=some b->ordered (dN all []) i k=false->tp≠some (i,k)->lq a b:=by
  intro i k a b K V S ho b0
  have hi:i < d.length:=(OV.1 V).1
  have hk:k < d.length:=(OV.1 S).1
  have la:=hr i _ a (OI (by omega)) V
  have lb:=hr k _ b (OI (by omega)) S
  have mi:(ls[i]'(by omega),i)∈ls.zipIdx:=by rw[Py];simp[OI (show i < ls.length by omega)]
  have mk:(ls[k]'(by omega),k)∈ls.zipIdx:=by rw[Py];simp[OI (show k < ls.length by omega)]
  by_cases h1:uT all (ls[i]'(by omega)) i (ls[k]'(by omega)) k=true
  .unfold uT at h1
   simp only[K,decide_true,Qy,ho,Qn,Qi,PB,OO,OT] at h1
   rcases h1 with ((h1 | h1) | h1) | h1
   .obtain⟨y,s,Y,e4⟩:=la.1 h1
    exact⟨λid c=>by simp[s] at c,λid _=>by simp[y],λZ=>by simp[Y] at Z,λ_=>s,λid _ hx=>by omega⟩
   .obtain⟨y,s,Y,e4⟩:=lb.1 h1
    exact⟨λid _=>by simp[y],λid c=>by simp[s] at c,λ_=>s,λZ=>by simp[Y] at Z,λid c=>by simp[s] at c⟩
   .have y:=la.2 h1.1
    have s:=lb.2 h1.2
    exact⟨λid c=>by simp[y] at c,λid c=>by simp[s] at c,λ_=>s,λ_=>y,λid c=>by simp[s] at c⟩
   .exact r6 tr h1 V S
  .have hm:(i,k)∈iA all ls:=by
    unfold iA
    rw[List.mem_flatMap]
    refine⟨_,mi,?_⟩
    rw[Qp]
    exact⟨_,mk,by simp only;rw[OK h1]⟩
   by_cases hn:newAt all k=true
   .unfold newAt at hn
    split at hn
    .rename_i ob L
     obtain⟨T1,da,v,J,rd,wr,call,b1,y,s,_⟩:=tr.at_ k ob L
     rw[S] at y
     have y:=Qr y
     subst y
     obtain⟨n1,n2,n3⟩:=J9 s hn
     exact⟨λid _=>by simp[n1],λid c=>by simp[n2] at c,λ_=>n2,λZ=>by simp[n3] at Z,λid c=>by simp[n2] at c⟩
    .simp at hn
   .obtain⟨p,hp,e⟩:=Fu h (i,k) (by
     unfold A3
     rw[PC]
     refine⟨hm,?_⟩
     simp only[OO,Qz,QD,ne_eq]
     exact⟨by simpa using hn,b0⟩)
    exact FP tr e (λq hq=>hA q (hp q hq)) V S
 cases tp with
 | none=>exact qM.Ny λi k a b h1 J h3 h4=>main i k a b h1 J h3 h4 (by simp)
 | some p =>
  obtain⟨i0,C⟩:=p
  obtain⟨D,f,u⟩:=X _ rfl
  intro M hs vs db N a1 E w i
  by_cases hi:i=i0
  .subst hi
   refine⟨some C,λk a b h1 J h3 h4 h5=>main i k a b h1 J h3 h4 (λe=>h5 (by simp at e;rw[e])),λk a b o hk V S ho=>?_⟩
   simp at hk;subst hk
   unfold AV at f
   simp only at f
   split at f
   .rename_i oa ob O L
    rw[ho] at O
    have O:=Qr O
    subst O
    split at f
    .rename_i t m q t' m' q' l z b2 b3
     split at f
     .rename_i F
      simp only[OO,PB,OT,O7,Pm] at F
      obtain⟨⟨⟨⟨⟨⟨⟨⟨rfl,rfl⟩,rfl⟩,s1⟩,s2⟩,s3⟩,s4⟩,K⟩,U⟩:=F
      simp only[OJ] at f
      subst f
      simp only at u
      have b4:C < all.length:=(OV.1 L).1
      have b5:∀ j r,j < C->d[j]?=some r->r.wr=[]:=λj r hj b7=>by
       have h1:=U j hj
       have a6:j < ls.length:=by omega
       rw[OH,OI a6] at h1
       exact(hr j _ r (OI a6) b7).2 h1
      have G:=LI w E (Nat.le_of_lt b4) b5
      have em:∀ j,i<=j->j<=all.length->M j m=I m:=λj h1 J=>by
       rw[<-a1,mJ w E s1 j h1 J,mJ w E s1 all.length (by omega) (OR _)]
      have eq:∀ j,i<=j->j<=all.length->M j q=I q:=λj h1 J=>by
       rw[<-a1,mJ w E s2 j h1 J,mJ w E s2 all.length (by omega) (OR _)]
      obtain⟨b8,_,_,cc,cf⟩:=w i o a ho V
      obtain⟨ch,_,_,_,_⟩:=w C ob b L S
      have gi:bT n all (M i) o=some true:=by unfold bT;rw[b2]
      have gk:bT n all (M C) ob=some true:=by unfold bT;rw[b3]
      unfold C6 at u
      split at u
      .rename_i id c
       obtain⟨⟨dj,c0,H⟩,u⟩:=u
       have Q:id < hp.length:=fC (by rw[H];simp)
       have a7:(hs C).view id=hp.view id:=by rw[(G C (OR _)).2 id (by rw[N];exact Q),N]
       have a8:(hs i).view id=hp.view id:=by rw[(G i (Nat.le_of_lt K)).2 id (by rw[N];exact Q),N]
       obtain⟨c3,A,cj,ck,cu⟩:=Bh b8 gi (by rw[l];simp) (by rw[l];simp) (by rw[l];simp)
       obtain⟨c4,B,cv,cC,dm⟩:=Bh ch gk (by rw[z];simp) (by rw[z];simp) (by rw[z];simp)
       simp only[bo,l] at A
       simp only[bo,z] at B
       have y:ev (M i) (.tmp m)=.mp id:=(em i (OR _) (by omega)).trans c
       have s:ev (M i) (.tmp q)=I q:=eq i (OR _) (by omega)
       have Y:ev (M C) (.tmp m)=.mp id:=(em C (by omega) (by omega)).trans c
       have e4:ev (M C) (.tmp q)=I q:=eq C (by omega) (by omega)
       rw[y,s] at A
       rw[Y,e4,FA a7] at B
       obtain⟨l1,l2⟩:=JP A
       obtain⟨obj,l3⟩:=H8 B
       subst l1 l3
       have cN:(hs (C+1)).view id=obj:=by
        rw[cv,iG (λds R=>by
         simp only[aM.wr,PU] at R
         subst R
         rw[a7,H];simp)]
        simp[aM.view,View.set]
       refine⟨K,ck,cu,by rw[cc,cf,cj];rfl,λg hg cS=>?_⟩
       have bl:id < (hs i).length:=fC (by rw[a8,H];simp)
       have bn:g.view id=(hp.view.set id obj) id:=by
        rw[cS id bl,cC,OM (by simp[aM.wr]),cN]
        simp[View.set]
       have cV:=u _ _ _ B
       have bs:bo P o (M i) g.view g.length=some (vs i,.none,a.rd):=by
        simp only[bo,l]
        rw[y,s,zO bn,cV,<-zO a8]
        exact A
       exact .op gi bs
      .exact u.elim
     .simp at f
    .simp at f
   .simp at f
  .exact⟨none,λk a b h1 J h3 h4 _=>main i k a b h1 J h3 h4 (λe=>hi (by simp at e;exact e.1.symm)),λk a b o h1=>by simp at h1⟩
theorem JS (hm:P.follows .mixedOrders=true) {p:Fz} {id:Nat} {ops:Array Oper} {q:SC} {T:Env} {h:aw} {Q:Exit->Env->View->Prop} (a:yF P n p ops.toList=some q) (hw:wS P q T h.view Q) :
  ∃ e g d,bK P n (.region id ops true) T h e g d/\(fN h d/\h.length<=d.length)/\Q e g d.view:=by
 unfold yF at a
 split at a
 .simp at a
 .rename_i l v
  split at a
  .simp at a
  .rename_i b
   have b:(group l).all pU=true:=by simpa using b
   have j:b6 P n ops.toList p ops.toList=some (hD (group l)):=by rw[eo];exact v
   split at a
   .rename_i w
    simp only[OQ] at a
    obtain⟨y,k,rfl⟩:=a
    obtain⟨f,g,d,t,m,hk,c⟩:=uG (group l) ops.toList T h j b hw
    rw[eo] at c
    refine⟨.normal,g,d,?_,m,hk.rest⟩
    have o:qM ops.toList f:=J4 t k (wM hk) (by simpa using c.1) (λi x r u hr=>by
     simp only[ON,OQ] at u
     obtain⟨s,z,rfl⟩:=u
     exact c.2 i s r z hr)
    simpa using uh hm (id:=id) t w o
   .simp at a
theorem JT (hm:P.follows .mixedOrders=true) {A:Fz} {id:Nat} {ops:Array Oper} {B:SC} {T:Env} {h:aw} {Q:Exit->Env->View->Prop} (b:ye P n A ops.toList=some B) (hw:wS P B T h.view Q) :
  ∃ e k d,bK P n (.region id ops true) T h e k d/\(fN h d/\h.length<=d.length)/\Q e k d.view:=by
 unfold ye at b
 split at b
 .simp at b
 .rename_i l D
  split at b
  .simp at b
  .rename_i c
   have c:(group l).all pU=true:=by simpa using c
   have m:b6 P n ops.toList A ops.toList=some (hD (group l)):=by rw[eo];exact D
   split at b
   .rename_i C
    split at b
    .simp only[OQ] at b
     obtain⟨v,f,rfl⟩:=b
     obtain⟨o,k,d,q,g,hk,a⟩:=uG (group l) ops.toList T h m c hw
     rw[eo] at a
     refine⟨.normal,k,d,?_,g,hk.rest⟩
     have j:=By q f (wM hk) (by simpa using a.1) (λi x r t hr=>by
      simp only[ON,OQ] at t
      obtain⟨s,w,rfl⟩:=t
      exact a.2 i s r w hr) (λp hp=>by simp at hp)
     simpa using sf hm (id:=id) q C j
    .rename_i p hp
     split at b
     .rename_i y z
      simp only[OQ] at b
      obtain⟨v,f,rfl⟩:=b
      obtain⟨o,k,d,q,g,hk,a⟩:=uG (group l) ops.toList T h m c hw
      rw[eo] at a
      refine⟨.normal,k,d,?_,g,hk.2.rest⟩
      have j:=By q f (wM hk.2) (by simpa using a.1) (λi x r t hr=>by
       simp only[ON,OQ] at t
       obtain⟨s,w,rfl⟩:=t
       exact a.2 i s r w hr) (λE u=>by
        simp only[OJ] at u
        subst u
        exact⟨y,z,hk.1⟩)
      simpa using sf hm (id:=id) q C j
     .simp at b
   .simp at b
theorem pF (hm:P.follows .mixedOrders=true) {u:Fz} {id:Nat} {ops:Array Oper} {draw quiet:Bool} {v:SC} {T:Env} {h:aw} {Q:Exit->Env->View->Prop} (a:oR P n u ops.toList draw quiet=some v) (hw:wS P v T h.view Q) :
  ∃ e d c,bK P n (.region id ops draw) T h e d c/\(fN h c/\h.length<=c.length)/\Q e d c.view:=by
 unfold oR at a
 split at a
 .simp at a
 .rename_i l y
  split at a
  .simp at a
  .rename_i f
   have f:(group l).all pU=true:=by simpa using f
   have m:b6 P n ops.toList u ops.toList=some (hD (group l)):=by rw[eo];exact y
   have key:te P quiet (group l) T h.view (Q .normal)->(draw=true->jo ops.toList=true/\AX ops.toList (l.map λs=>fK P quiet s.b)=true) ->
     ∃ e d c,bK P n (.region id ops draw) T h e d c/\(fN h c/\h.length<=c.length)/\Q e d c.view:=by
    intro hw o
    obtain⟨j,d,c,p,q,hk,g⟩:=uG (group l) ops.toList T h m f hw
    rw[eo] at g
    refine⟨.normal,d,c,?_,q,hk⟩
    cases k:draw with
    | false=>simpa using Bk (id:=id) p
    | true =>
     obtain⟨h1,z⟩:=o k
     have t:qM ops.toList j:=Kc p z (by simpa using g.1) (λi x r w hr=>by
      simp only[ON,OQ] at w
      obtain⟨s,A,rfl⟩:=w
      exact g.2 i s r A hr)
     simpa using uh hm (id:=id) p h1 t
   split at a
   .rename_i k
    split at a
    .rename_i B
     simp at a;subst a
     exact key hw (λ_=>by simpa using B)
    .simp at a
   .rename_i k
    simp at a;subst a
    exact key hw (λe=>absurd e k)
theorem du {a b:Option SC} {c:SC} (h:orElse' a b=some c):a=some c∨b=some c:=by
 cases a with
 | none=>exact .inr h
 | some x=>exact .inl h
theorem Js (hm:P.follows .mixedOrders=true) {k:List Nat} {id:Nat} {ops:Array Oper} {draw:Bool} {i:SC} {T:Env} {h:aw} {Q:Exit->Env->View->Prop} (c:xL P n k ops.toList draw=some i) (hw:wS P i T h.view Q) :
  ∃ e j b,bK P n (.region id ops draw) T h e j b/\(fN h b/\h.length<=b.length)/\Q e j b.view:=by
 unfold xL at c
 rcases du c with h1 | h1
 .exact pF hm h1 hw
 .clear c
  split at h1
  .rename_i l
   subst l
   rcases du h1 with a | h1
   .split at a
    .exact JT hm a hw
    .simp at a
   rcases du h1 with a | h1
   .split at a
    .exact pF hm a hw
    .simp at a
   rcases du h1 with d | d
   .exact JS hm d hw
   .rcases du d with f | f
    .exact pF hm f hw
    .rcases du f with g | g
     .exact pF hm g hw
     .exact pF hm g hw
  .simp at h1
theorem zS {e:Exit} {a b:Prop} (h:vZ e a b):(e=.normal/\a)∨(e≠.normal/\b):=by
 cases e with
 | normal=>exact .inl ⟨rfl,h⟩
 | _=>exact .inr ⟨by simp,h⟩
def oM (P:Program) (n:Nat) (fz:List Nat) (c:Code):Prop:=∀ sc:SC,bP P n fz c=some sc->∀ (T:Env) (h:aw) (Q:Exit->Env->View->Prop),wS P sc T h.view Q ->
 ∃ e T' h',bK P n c T h e T' h'/\(fN h h'/\h.length<=h'.length)/\Q e T' h'.view
theorem AA {b:List Nat} : oM P n b .skip:=by
 intro c a T h Q hw;simp[bP] at a;subst a;exact⟨_,T,h,.skip,⟨.refl _,OR _⟩,hw⟩
theorem BU {g:List Nat} {x y:Code} (i:oM P n g x) (j:oM P n g y):oM P n g (.seq x y):=by
 intro u c T h Q hw
 simp only[bP] at c
 split at c
 .rename_i a b h1 q
  simp at c;subst c
  simp only[wS] at hw
  obtain⟨e,o,d,p,st1,f⟩:=i a h1 T h _ hw
  rcases zS f with ⟨rfl,f⟩ | ⟨k,f⟩
  .obtain⟨r,s,l,t,st2,m⟩:=j b q o d _ f
   exact⟨r,s,l,p.seq t,⟨st1.1.trans st2.1 st1.2,Pp st1.2 st2.2⟩,m⟩
  .exact⟨e,o,d,p.D3 k,st1,f⟩
 .simp at c
theorem kK {b:Fz} {ops:List Oper} {draw quiet:Bool} {a:SC} (h:oR P n b ops draw quiet=some a) (l:Nat):kW a l=none:=by
 unfold oR at h
 repeat' (first | (simp only[OJ] at h;subst h;rfl)|(split at h)|(simp at h;done))
theorem Gh {b:Fz} {ops:List Oper} {a:SC} (h:yF P n b ops=some a) (l:Nat):kW a l=none:=by
 unfold yF at h
 repeat' (first | (simp only[OQ] at h;obtain⟨_,_,rfl⟩:=h;rfl)|(split at h)|(simp at h;done))
theorem Gs {b:Fz} {ops:List Oper} {a:SC} (h:ye P n b ops=some a) (l:Nat):kW a l=none:=by
 unfold ye at h
 repeat' (first | (simp only[OQ] at h;obtain⟨_,_,rfl⟩:=h;rfl)|(split at h)|(simp at h;done))
theorem FG {f:List Nat} {ops:List Oper} {draw:Bool} {e:SC} (h:xL P n f ops draw=some e) (l:Nat):kW e l=none:=by
 unfold xL at h
 rcases du h with h1 | h1
 .exact kK h1 l
 .split at h1
  .rcases du h1 with a | h1
   .split at a
    .exact Gs a l
    .simp at a
   rcases du h1 with a | h1
   .split at a
    .exact kK a l
    .simp at a
   rcases du h1 with b | b
   .exact Gh b l
   .rcases du b with c | c
    .exact kK c l
    .rcases du c with d | d
     .exact kK d l
     .exact kK d l
  .simp at h1
theorem HG {j:List Nat} : ∀ (c:Code) (f:SC),bP P n j c=some f->∀ l,match findLabel c l with
  | some rest=>∃ r,kW f l=some r/\bP P n j rest=some r
  | none=>kW f l=none:=by
 intro c
 induction c with
 | seq x y h i =>
  intro f d l
  simp only[bP] at d
  split at d
  .rename_i a b h1 k
   simp at d;subst d
   have g:=h a h1 l
   have p:=i b k l
   simp only[findLabel,kW]
   cases m:findLabel x l with
   | some rx =>
    rw[m] at g
    obtain⟨r,q,s⟩:=g
    exact⟨.seq r b,by rw[q],by simp only[bP,s,k]⟩
   | none =>
    rw[m] at g
    simp only at g ⊢
    rw[g]
    exact p
  .simp at d
 | label o =>
  intro f d l
  simp[bP] at d;subst d
  simp only[findLabel,kW]
  by_cases e:(o == l)=true
  .rw[OM e];exact⟨.skip,by rw[OM e],by simp[bP]⟩
  .rw[OK e];simp only;rw[OK e]
 | region id ops draw=>intro f d l;simp only[bP] at d;simp only[findLabel];exact FG d l
 | cond x y z _ _ =>
  intro f d l
  simp only[bP] at d
  split at d
  .simp at d;subst d;rfl
  .simp at d
 | block id c _=>intro f d l;simp only[bP,OQ] at d;obtain⟨_,_,rfl⟩:=d;rfl
 | loop c _=>intro f d l;simp only[bP,OQ] at d;obtain⟨_,_,rfl⟩:=d;rfl
 | scope c _ =>
  intro f d l
  simp only[bP] at d
  split at d
  .split at d
   .simp only[OQ] at d;obtain⟨_,_,rfl⟩:=d;rfl
   .simp at d
  .simp at d
 | skip=>intro f d l;simp[bP] at d;subst d;rfl
 | exit id=>intro f d l;simp[bP] at d;subst d;rfl
 | ret=>intro f d l;simp[bP] at d;subst d;rfl
 | goto o=>intro f d l;simp[bP] at d;subst d;rfl
 | _=>intro f d;simp[bP] at d
theorem FR {v:List Nat} {c:Code} (F:oM P n v c) (hr:∀ l rest,findLabel c l=some rest->oM P n v rest):oM P n v (.scope c):=by
 intro J d T h Q hw
 simp only[bP] at d
 split at d
 .rename_i a h1
  split at d
  .rename_i l L
   simp only[OQ] at d
   obtain⟨r,w,rfl⟩:=d
   have j:=HG c a h1 l
   cases m:findLabel c l with
   | none=>rw[m] at j;simp only at j;rw[j] at w;simp at w
   | some rest =>
    rw[m] at j
    obtain⟨M,t,o⟩:=j
    rw[w] at t
    have t:=Qr t
    subst t
    simp only[wS] at hw
    obtain⟨I,K,x,y⟩:=hw
    have go:∀ k T (h:aw),I k T h.view->∃ e E u,oK P n c rest T h e E u/\(fN h u/\h.length<=u.length)/\Q e E u.view:=by
     intro k
     induction k using Nat.strongRecOn with
     | ind k z =>
      intro T h G
      obtain⟨e,p,b,q,st1,s⟩:=hr l rest m r o T h _ (y k T h.view G)
      cases e with
      | goto H =>
       obtain⟨rfl,A,B,f⟩:=s
       obtain⟨o,C,g,D,st2,i⟩:=z A B p b f
       exact⟨o,C,g,oK.jump q m D,⟨st1.1.trans st2.1 st1.2,Pp st1.2 st2.2⟩,i⟩
      | _=>exact⟨_,p,b,.out q rfl,st1,s⟩
    obtain⟨e,p,b,q,st1,s⟩:=F a h1 T h _ x
    cases e with
    | goto H =>
     obtain⟨rfl,A,_,f⟩:=s
     obtain⟨o,C,g,D,st2,i⟩:=go A p b f
     exact⟨o,C,g,.scope (oK.jump q m D),⟨st1.1.trans st2.1 st1.2,Pp st1.2 st2.2⟩,i⟩
    | _=>exact⟨_,p,b,.scope (.out q rfl),st1,s⟩
  .simp at d
 .simp at d
theorem JY (hm:P.follows .mixedOrders=true) {E:List Nat} : ∀ c:Code,oM P n E c/\∀ l rest,findLabel c l=some rest->oM P n E rest:=by
 intro c
 induction c with
 | skip=>exact⟨AA,λl rest h=>by simp[findLabel] at h⟩
 | region id ops draw=>exact⟨λp d T h Q hw=>Js hm d hw,λl rest h=>by simp[findLabel] at h⟩
 | seq x y o g =>
  refine⟨BU o.1 g.1,λl rest h=>?_⟩
  simp only[findLabel] at h
  split at h
  .rename_i r hr
   simp only[OJ] at h;subst h
   exact BU (o.2 _ _ hr) g.1
  .exact g.2 _ _ h
 | cond c x y o g =>
  refine⟨?_,λl rest h=>by simp[findLabel] at h⟩
  intro p d T h Q hw
  simp only[bP] at d
  split at d
  .rename_i a b h1 H
   simp at d;subst d
   simp only[wS] at hw
   split at hw
   .rename_i t u
    have F:qj (SX.of c) t T=T:=by
     unfold qj
     split
     .rename_i k hk
      rw[hk] at u
      exact we u
     .rfl
    rw[SX.bB] at u
    cases t with
    | true =>
     have:=hw.1 rfl
     rw[F] at this
     obtain⟨e,j,f,m,st,i⟩:=o.1 a h1 T h Q this
     exact⟨e,j,f,.cond u m,st,i⟩
    | false =>
     have:=hw.2 rfl
     rw[F] at this
     obtain⟨e,j,f,m,st,i⟩:=g.1 b H T h Q this
     exact⟨e,j,f,.cond u m,st,i⟩
   .exact hw.elim
  .simp at d
 | block id c s =>
  refine⟨?_,λl rest h=>by simp[findLabel] at h⟩
  intro p d T h Q hw
  simp only[bP,OQ] at d
  obtain⟨a,h1,rfl⟩:=d
  simp only[wS] at hw
  obtain⟨e,j,f,m,st,i⟩:=s.1 a h1 T h _ hw
  exact⟨_,j,f,m.block,st,i⟩
 | loop c s =>
  refine⟨?_,λl rest h=>by simp[findLabel] at h⟩
  intro p d T h Q hw
  simp only[bP,OQ] at d
  obtain⟨a,h1,rfl⟩:=d
  simp only[wS] at hw
  obtain⟨I,⟨k,hk⟩,q⟩:=hw
  have go:∀ k T (h:aw),I k T h.view->∃ e j f,mC P n c T h e j f/\(fN h f/\h.length<=f.length)/\Q e j f.view:=by
   intro k
   induction k using Nat.strongRecOn with
   | ind k w =>
    intro T h J
    obtain⟨e,G,v,m,st1,i⟩:=s.1 a h1 T h _ (q k T h.view J)
    rcases zS i with ⟨rfl,K,z,A⟩ | ⟨B,i⟩
    .obtain⟨L,M,C,N,st2,D⟩:=w K z G v A
     exact⟨L,M,C,.step m N,⟨st1.1.trans st2.1 st1.2,Pp st1.2 st2.2⟩,D⟩
    .exact⟨e,G,v,.out m B,st1,i⟩
  obtain⟨e,j,f,m,st,i⟩:=go k T h hk
  exact⟨e,j,f,.loop m,st,i⟩
 | exit id=>exact⟨λp d T h Q hw=>by simp[bP] at d;subst d;exact⟨_,T,h,.exit,⟨.refl _,OR _⟩,hw⟩,λl rest h=>by simp[findLabel] at h⟩
 | ret=>exact⟨λp d T h Q hw=>by simp[bP] at d;subst d;exact⟨_,T,h,.ret,⟨.refl _,OR _⟩,hw⟩,λl rest h=>by simp[findLabel] at h⟩
 | label O=>exact⟨λp d T h Q hw=>by simp[bP] at d;subst d;exact⟨_,T,h,.label,⟨.refl _,OR _⟩,hw⟩,λl rest h=>by
   simp only[findLabel] at h
   split at h
   .simp only[OJ] at h;subst h;exact AA
   .simp at h⟩
 | goto O=>exact⟨λp d T h Q hw=>by simp[bP] at d;subst d;exact⟨_,T,h,.goto,⟨.refl _,OR _⟩,hw⟩,λl rest h=>by simp[findLabel] at h⟩
 | scope c s=>exact⟨FR s.1 s.2,λl rest h=>by simp[findLabel] at h⟩
 | _=>exact⟨λp d=>by simp[bP] at d,λl rest h=>by simp[findLabel] at h⟩
theorem Nc (hm:P.follows .mixedOrders=true) {f:List Nat} (c:Code) (b:SC) (g:bP P n f c=some b) (T:Env) (h:aw) (Q:Exit->Env->View->Prop) (hw:wS P b T h.view Q) :
 ∃ e d a,bK P n c T h e d a/\(fN h a/\h.length<=a.length)/\Q e d a.view:=(JY hm c).1 b g T h Q hw
theorem Nh {T:Env} {h:aw} {r:ResultVar} {l:List SR} {rest:List ResultVar} (b:dR P (r :: rest)=some l):∃ s c,l=s :: c/\dR P rest=some c/\∀ K:V->Prop,wR T h.view s K->∃ v,px P T h r=some v/\K v:=by
 cases r with
 | tmp t =>
  simp only[dR,OQ] at b
  obtain⟨c,h1,rfl⟩:=b
  exact⟨.tmp t,c,rfl,h1,λK hk=>⟨_,rfl,hk⟩⟩
 | cell a t =>
  simp only[dR] at b
  split at b
  .rename_i k c h1 m
   simp at b;subst b
   refine⟨.cell a k,c,rfl,m,λK hk=>?_⟩
   simp only[wR] at hk
   simp only[px,jM,sZ h1]
   split at hk
   .rename_i id i j d
    split at hk
    .rename_i es hH
     obtain⟨f,hk⟩:=hk
     obtain⟨v,g,hk⟩:=l6 hk
     exact⟨v,by rw[d];simp only[hH];rw[OM f,g];rfl,hk⟩
    .exact hk.elim
   .rename_i e j d
    obtain⟨v,g,hk⟩:=l6 hk
    exact⟨v,by rw[d];simp only;rw[g];rfl,hk⟩
   .exact hk.elim
  .simp at b
theorem IX {T:Env} {h:aw} {K:List V->Prop} : ∀ (rs:List ResultVar) (l:List SR) (acc:List V),dR P rs=some l->yh T h.view l acc K->∃ vs,jy P T h rs=some vs/\K (acc ++ vs)
 | [],l,acc,a,hw=>by simp[dR] at a;subst a;exact⟨[],rfl,by simpa [yh] using hw⟩
 | r :: rest,l,acc,a,hw=>by
  obtain⟨s,c,rfl,h1,d⟩:=Nh (T:=T) (h:=h) a
  simp only[yh] at hw
  obtain⟨v,e,hk⟩:=d _ hw
  obtain⟨vs,b,hk⟩:=IX rest c (acc ++ [v]) h1 hk
  exact⟨v :: vs,by simp[jy,e,b],by simpa using hk⟩
def wF (P:Program) (F:SF) (vs:List V) (H:View) (K:V->View->Prop):Prop :=
 vs.length<=F.n/\wS P F.code (iK vs) H λe T' H'=>(e=.ret∨e=.normal)/\yh T' H' F.res [] λl=>K (sX l) H'
theorem an.of (hm:P.follows .mixedOrders=true) {f:FuncId} {j:List Nat} {F:SF} (b:aE P f j=some F) {vs:List V} {H:View} {K:V->View->Prop} (hw:wF P F vs H K):an P f vs H K:=by
 unfold aE at b
 split at b
 .rename_i fn g
  split at b
  .rename_i c k
   split at b
   .rename_i m rs h1 n o
    simp at b;subst b
    refine⟨o,?_⟩
    rintro h rfl
    obtain⟨e,r,p,q,st,he,hr⟩:=Nc hm c m h1 _ h _ hw.2
    obtain⟨d,i,hk⟩:=IX _ _ [] n hr
    refine⟨sX d,p,bu.Ev g k hw.1 q he ?_,st.1,by simpa using hk⟩
    unfold Gx
    rw[i]
    cases d with
    | nil=>rfl
    | cons a l=>cases l <;> rfl
   .simp at b
  .simp at b
 .simp at b
theorem an.mono {f:FuncId} {vs:List V} {H:View} {K c:V->View->Prop} (h:an P f vs H K) (hk:∀ r H',K r H'->c r H'):an P f vs H c :=
 ⟨h.1,λd e=>let ⟨r,g,a,s,b⟩:=h.2 d e; ⟨r,g,a,s,hk _ _ b⟩⟩
theorem ar.Gj {f:FuncId} {vs:List V} {H:View} {t:V} {K:V->View->Prop} (h:ar P f vs t) (a:bX P f=true) (hk:K t H):yD P f vs H K :=
 ⟨a,λb e=>⟨t,b,bu.j7 h b,λ_ _=>rfl,e ▸ hk⟩⟩
theorem an.Gj {f:FuncId} {vs:List V} {H:View} {K:V->View->Prop} (h:an P f vs H λr H'=>(∀ id,H id≠.dead->H' id=H id)/\K r H'):yD P f vs H K :=
 ⟨h.1,λc e=>by
  obtain⟨r,g,i,st,d,hk⟩:=h.2 c e
  refine⟨r,g,i,λid a=>?_,hk⟩
  by_cases b:c.view id=.dead
  .rw[b];exact st id a b
  .rw[<-e] at d;exact d id b⟩
end
inductive bL {α:Type} (x:α):Type where
 | mk
def dL (s:ByteArray):List Int:=s.data.toList.map λb=>(b.toNat:Int)
theorem c6 (s:ByteArray):s.size=(dL s).length:=by rw[dL,OX,bsize]
def aP (P:Program) (c:SC) (T:Env) (H:View) (Q:Exit->Env->View->Prop) (_:bL (T,H,Q)):Prop:=wS P (.loop c) T H Q
def MT (P:Program) (l:Nat) (c r:SC) (T:Env) (H:View) (Q:Exit->Env->View->Prop) (_:bL (T,H,Q)):Prop:=wS P (.scope l c r) T H Q
def aj (P:Program) (quiet:Bool) (f:FuncId) (vs:List V) (H:View) (K:V->View->Prop) (_:bL (H,K)):Prop :=
 if quiet then yD P f vs H K else an P f vs H K
def yk {α:Type} (v:α) (F:α->Prop) (_:bL F):Prop:=F v
def cD (v:V) (F:V->Prop) (_:bL F):Prop:=F v
def A7 (o:bp) (F:bp->Prop) (_:bL F):Prop:=F o
def nv {α:Type} (o:Option α) (F:Option α->Prop) (_:bL F):Prop:=F o
def ag (b:Bool) (A B:Prop) (_:bL (A,B)):Prop:=(b=true->A)/\(b=false->B)
theorem NF {α:Type} (v:α) (F:α->Prop) (w:bL F):yk v F w=F v:=propext Iff.rfl
section
variable (F:V->Prop) (w:bL F)
theorem E2 (v:Value):cD (.val v) F w=F (.val v):=propext Iff.rfl
theorem Fg (k:Nat):cD (.emp k) F w=F (.emp k):=propext Iff.rfl
theorem Fj:cD .dn F w=F .dn:=propext Iff.rfl
theorem D7 (es:List (List V)):cD (.aX es) F w=F (.aX es):=propext Iff.rfl
theorem Je (a b c d:Nat):cD (.sl a b c d) F w=F (.sl a b c d):=propext Iff.rfl
theorem E7 (a b c:Nat):cD (.ptr a b c) F w=F (.ptr a b c):=propext Iff.rfl
theorem BF (e:List V) (j:Nat):cD (.aC e j) F w=F (.aC e j):=propext Iff.rfl
theorem IS (a:Nat):cD (.mp a) F w=F (.mp a):=propext Iff.rfl
theorem Hf (f:FuncId) (a b:List V):cD (.fn f a b) F w=F (.fn f a b):=propext Iff.rfl
theorem DW (cs:List V):cD (.agg cs) F w=F (.agg cs):=propext Iff.rfl
theorem EV (cs:List V):cD (.aU cs) F w=F (.aU cs):=propext Iff.rfl
end
theorem DS (F:bp->Prop) (w:bL F) (k:Nat) (es:List (List V)):A7 (.arr k es) F w=F (.arr k es):=propext Iff.rfl
theorem DP (F:bp->Prop) (w:bL F) (es:List (V × V × Nat)) (k:Nat):A7 (.map es k) F w=F (.map es k):=propext Iff.rfl
theorem BS {α:Type} (F:Option α->Prop) (w:bL F) (x:α):nv (some x) F w=F (some x):=propext Iff.rfl
theorem CN (A B:Prop) (w:bL (A,B)):ag true A B w=A:=by simp[ag]
theorem AE (A B:Prop) (w:bL (A,B)):ag false A B w=B:=by simp[ag]
theorem Em (b:Bool) (A B:Prop) (w:bL (A,B)):ag (!b) A B w=ag b B A .mk:=by cases b <;> simp[ag]
theorem ag.split {b:Bool} {A B:Prop} {w:bL (A,B)} (h1:b=true->A) (a:b=false->B):ag b A B w:=⟨h1,a⟩
theorem ag.dec {p:Prop} [Decidable p] {A B:Prop} {w:bL (A,B)} (h1:p->A) (a:¬ p->B):ag (decide p) A B w:=⟨λh=>h1 (by simpa using h),λh=>a (by simpa using h)⟩
theorem ag.eq {a b:Int} {A B:Prop} {w:bL (A,B)} (h1:a=b->A) (c:¬ a=b->B):ag (a == b) A B w:=⟨λh=>h1 (by simpa using h),λh=>c (by simpa using h)⟩
theorem ag.ne {a b:Int} {A B:Prop} {w:bL (A,B)} (h1:¬ a=b->A) (c:a=b->B):ag (a != b) A B w:=⟨λh=>h1 (by simpa using h),λh=>c (by simpa using h)⟩
section
variable (P:Program) (T:Env) (H:View)
theorem K6 (F:SF) (vs:List V) (K:V->View->Prop):wF P F vs H K=(vs.length<=F.n/\wS P F.code (iK vs) H λe a H'=>(e=.ret∨e=.normal)/\yh a H' F.res [] λl=>yk (sX l) (λv=>K v H') .mk):=propext Iff.rfl
theorem En (Q:Exit->Env->View->Prop):wS P .skip T H Q=Q .normal T H:=propext Iff.rfl
theorem zE (q:Bool) (gs:List SG) (Q:Exit->Env->View->Prop):wS P (.region q gs) T H Q=te P q gs T H (Q .normal):=propext Iff.rfl
theorem xo (a:List (Nat × Nat)) (gs:List SG) (Q:Exit->Env->View->Prop):wS P (.rj a gs) T H Q=te P false gs T H (λb H'=>uQ a b (Q .normal b H')):=propext Iff.rfl
theorem xh (a:Nat × Nat × Nat) (b:List (Nat × Nat)) (gs:List SG) (Q:Exit->Env->View->Prop):wS P (.vn a b gs) T H Q=te P false gs T H (λc H'=>C6 P a.1 (c a.2.1) (c a.2.2) H/\uQ b c (Q .normal c H')):=propext Iff.rfl
theorem EY (K:Prop):uQ [] T K=K:=propext Iff.rfl
theorem CV (a b:Nat) (l:List (Nat × Nat)) (K:Prop):uQ ((a,b) :: l) T K=(fv (T a) (T b)/\uQ l T K):=propext Iff.rfl
theorem EB (i j k a b c:Nat):fv (.ptr i j k) (.ptr a b c)=(i≠a):=propext Iff.rfl
theorem DO (i j k a b c d:Nat):fv (.ptr i j k) (.sl a b c d)=(i≠a):=propext Iff.rfl
theorem B0 (i j k e:Nat):fv (.ptr i j k) (.emp e)=True:=id rfl
theorem Cx (i j k:Nat):fv (.ptr i j k) .dn=True:=id rfl
theorem Cm (i j k:Nat) (es:List (List V)):fv (.ptr i j k) (.aX es)=True:=id rfl
theorem DT (a b c d e f g h:Nat):fv (.sl a b c d) (.sl e f g h)=(a≠e):=propext Iff.rfl
theorem GK (a b c d e:Nat):fv (.sl a b c d) (.emp e)=True:=id rfl
theorem Ha (a b c d:Nat):fv (.sl a b c d) .dn=True:=id rfl
theorem Hd (a b c d:Nat) (es:List (List V)):fv (.sl a b c d) (.aX es)=True:=id rfl
theorem E9 (k:Nat) (v:V):fv (.emp k) v=True:=by cases v <;> rfl
theorem ET (v:V):fv .dn v=True:=by cases v <;> rfl
theorem Ey (es:List (List V)) (v:V):fv (.aX es) v=True:=by cases v <;> rfl
theorem BK (e:List V) (j:Nat) (v:V):fv (.aC e j) v=True:=by cases v <;> rfl
theorem HT (x y:SC) (Q:Exit->Env->View->Prop):wS P (.seq x y) T H Q=wS P x T H λe a H'=>vZ e (wS P y a H' Q) (Q e a H'):=propext Iff.rfl
theorem EF (c:SX) (x y:SC) (Q:Exit->Env->View->Prop):wS P (.cond c x y) T H Q=cD (c.at T) (λv=>match v with
 | .val (.bool b)=>ag b (wS P x (qj c true T) H Q) (wS P y (qj c false T) H Q) .mk
 | _=>False) .mk:=propext Iff.rfl
theorem C3 (id:Nat) (c:SC) (Q:Exit->Env->View->Prop):wS P (.block id c) T H Q=wS P c T H λe=>Q (mF id e):=propext Iff.rfl
theorem D9 (id:Nat) (Q:Exit->Env->View->Prop):wS P (.exit id) T H Q=Q (.exit id) T H:=propext Iff.rfl
theorem IV (Q:Exit->Env->View->Prop):wS P .ret T H Q=Q .ret T H:=propext Iff.rfl
theorem Bn (l:Nat) (c r:SC) (Q:Exit->Env->View->Prop):wS P (.scope l c r) T H Q=MT P l c r T H Q .mk:=propext Iff.rfl
theorem CL (l:Nat) (Q:Exit->Env->View->Prop):wS P (.label l) T H Q=Q .normal T H:=propext Iff.rfl
theorem Ej (l:Nat) (Q:Exit->Env->View->Prop):wS P (.goto l) T H Q=Q (.goto l) T H:=propext Iff.rfl
theorem yH (l c:Nat) (a b:Prop):ve l (.goto c) a b=(c=l/\a):=propext Iff.rfl
theorem uv (l:Nat) (a b:Prop):ve l .normal a b=b:=propext Iff.rfl
theorem xj (l i:Nat) (a b:Prop):ve l (.exit i) a b=b:=propext Iff.rfl
theorem zW (l:Nat) (a b:Prop):ve l .ret a b=b:=propext Iff.rfl
theorem Bw (l:Nat) (a b:Prop):vZ (.goto l) a b=b:=propext Iff.rfl
theorem yC (i l:Nat):mF i (.goto l)=.goto l:=id rfl
theorem Ed (c:SC) (Q:Exit->Env->View->Prop):wS P (.loop c) T H Q=aP P c T H Q .mk:=propext Iff.rfl
theorem Ew (q:Bool) (K:Env->View->Prop):te P q [] T H K=K T H:=propext Iff.rfl
theorem BD (q:Bool) (g:SG) (r:List SG) (K:Env->View->Prop):te P q (g :: r) T H K=wG P q g T H λa H'=>te P q r a H' K:=propext Iff.rfl
theorem DJ (q:Bool) (ops:List (Option Nat × SB)) (K:Env->View->Prop):wG P q ⟨none,ops⟩ T H K=ug P q ops T H K:=propext Iff.rfl
theorem E3 (q:Bool) (d:Nat) (ops:List (Option Nat × SB)) (K:Env->View->Prop):wG P q ⟨some (d,true),ops⟩ T H K=cD (T d) (λv=>match v with
 | .val (.bool b)=>ag b (ug P q ops (T.put (some d) (.val (.bool true))) H K) (K (fE ops (T.put (some d) (.val (.bool false)))) H) .mk
 | .aU []=>K (fE ops T) H
 | _=>False) .mk:=propext Iff.rfl
theorem Bq (q:Bool) (d:Nat) (ops:List (Option Nat × SB)) (K:Env->View->Prop):wG P q ⟨some (d,false),ops⟩ T H K=cD (T d) (λv=>match v with
  | .val (.bool b)=>ag b (K (fE ops (T.put (some d) (.val (.bool true)))) H) (ug P q ops (T.put (some d) (.val (.bool false))) H K) .mk
  | .aU []=>K (fE ops T) H
  | _=>False) .mk:=by
 simp only[wG,cD]
 generalize T d=v
 cases v with
 | val x=>cases x <;> simp[ag,and_comm]
 | aU l=>cases l <;> simp
 | _=>simp
theorem vM:fE [] T=T:=id rfl
theorem uu (d:Option Nat) (b:SB) (r:List (Option Nat × SB)):fE ((d,b) :: r) T=fE r (T.put d (.aU [])):=id rfl
theorem DZ (q:Bool) (K:Env->View->Prop):ug P q [] T H K=K T H:=propext Iff.rfl
theorem Cc (q:Bool) (d:Option Nat) (b:SB) (r:List (Option Nat × SB)) (K:Env->View->Prop):ug P q ((d,b) :: r) T H K=wB P q b T H λv H'=>yk v (λa=>ug P q r (T.put d a) H' K) .mk:=propext Iff.rfl
theorem K8 (q:Bool) (s:SI) (K:V->View->Prop):wB P q (.op s) T H K=wI P s T H K:=propext Iff.rfl
theorem E5 (q:Bool) (f:SX) (args:List SX) (K:V->View->Prop):wB P q (.call f args) T H K=cD (f.at T) (λv=>match v with
 | .fn g first cap=>aj P q g (first ++ args.map (SX.at T) ++ cap) H K .mk
 | _=>False) .mk:=propext Iff.rfl
theorem Cp (q:Bool) (f:SX) (args:List SX) (K:V->View->Prop):wB P q (.vu f args) T H K=cD (f.at T) (λv=>match v with
 | .fn g first cap=>aj P true g (first ++ args.map (SX.at T) ++ cap) H K .mk
 | _=>False) .mk:=propext Iff.rfl
theorem Iy (x:SX) (K:V->View->Prop):wI P (.cF x) T H K=K (x.at T) H:=propext Iff.rfl
theorem Fc (c a b:SX) (K:V->View->Prop):wI P (.pick c a b) T H K=cD (c.at T) (λv=>match v with
  | .val (.bool t)=>ag t (K (a.at T) H) (K (b.at T) H) .mk
  | _=>False) .mk:=by
 simp only[wI,cD]
 generalize c.at T=v
 cases v with
 | val x =>
  cases x with
  | bool t=>cases t <;> simp[ag]
  | _=>simp
 | _=>simp
theorem IF (x:SX) (K:V->View->Prop):wI P (.box x) T H K=cD (x.at T) (λv=>v.cells.all aD=true/\yk v.cells (λcs=>∀ n,H n=.dead->K (.ptr n 0 0) (H.set n (.arr cs.length [cs]))) .mk) .mk:=propext Iff.rfl
theorem Hv (x:SX) (K:V->View->Prop):wI P (.gg x) T H K=cD (x.at T) (λv=>v.cells.all aD=true/\yk v.cells (λcs=>K (.aC cs 0) H) .mk) .mk:=propext Iff.rfl
theorem Cb (z:List V) (K:V->View->Prop):wI P (.alloc z) T H K=(z.all aD=true/\∀ n,H n=.dead->K (.ptr n 0 0) (H.set n (.arr z.length [z]))):=propext Iff.rfl
theorem DE (sz:Option Nat) (a:SX) (K:V->View->Prop):wI P (.load sz a) T H K=cD (a.at T) (λv=>match v with
 | .ptr id i j=>A7 (H id) (λo=>match o with
  | .arr _ es=>i < es.length/\yk (es.getD i []) (λe=>gE sz e j λv=>K v H) .mk
  | _=>False) .mk
 | .aC e j=>gE sz e j λv=>K v H
 | _=>False) .mk:=propext Iff.rfl
theorem A6 (sz:Option Nat) (a:SX) (K:V->View->Prop):wI P (.vh sz a) T H K=cD (a.at T) (λv=>match v with
 | .aC e j=>gE sz e j λv=>K v H
 | _=>False) .mk:=propext Iff.rfl
theorem Cn (sz:Nat) (a x:SX) (K:V->View->Prop):wI P (.store sz a x) T H K=cD (a.at T) (λv=>match v with
 | .ptr id i j=>A7 (H id) (λo=>match o with
  | .arr esz es=>yk (x.at T).cells (λcs=>(i < es.length/\cs.length=sz/\j+cs.length<=esz/\cs.all aD=true) /\
   yk (es.set i (dE (es.getD i []) j cs)) (λes'=>K .any (H.set id (.arr esz es'))) .mk) .mk
  | _=>False) .mk
 | _=>False) .mk:=propext Iff.rfl
theorem D6 (x:SX) (K:V->View->Prop):wI P (.wC x) T H K=cD (x.at T) (λv=>match v with
 | .ptr id i j=>K (.ptr id i j) H
 | .aC e j=>K (.aC e j) H
 | .fn f a b=>K (.fn f a b) H
 | _=>False) .mk:=propext Iff.rfl
theorem D4 (off:Nat) (x:SX) (K:V->View->Prop):wI P (.addr off x) T H K=cD (x.at T) (λv=>match v with
 | .ptr id i j=>K (.ptr id i (j+off)) H
 | .aC e j=>K (.aC e (j+off)) H
 | _=>False) .mk:=propext Iff.rfl
theorem CQ (off:Nat) (sz:Option Nat) (x:SX) (K:V->View->Prop):wI P (.field off sz x) T H K=cD (x.at T) (λv=>match v with
 | .agg cs=>gE sz cs off λv=>K v H
 | _=>False) .mk:=propext Iff.rfl
theorem GU (sz:Nat) (x i:SX) (K:V->View->Prop):wI P (.idx sz x i) T H K=nv (asNat (i.at T)) (λo=>match o with
  | none=>False
  | some q=>cD (x.at T) (λv=>match v with
   | .sl id off len esz=>(q < len/\esz=sz)/\K (.ptr id (off+q) 0) H
   | .aX es=>nv es[q]? (λo=>match o with
    | some e=>e.length=sz/\K (.aC e 0) H
    | none=>False) .mk
   | _=>False) .mk) .mk:=by
 simp only[wI,nv,cD]
 cases asNat (i.at T) with
 | none=>rfl
 | some q =>
  simp only
  cases x.at T with
  | aX es =>
   simp only
   cases h:es[q]? with
   | none=>simp
   | some e=>simp
  | _=>rfl
theorem Er (f:FuncId) (first cap:List SX) (K:V->View->Prop):wI P (.sH f first cap) T H K=K (.fn f (first.map (SX.at T)) (cap.map (SX.at T))) H:=propext Iff.rfl
theorem CD (K:V->View->Prop):wI P .sA T H K=(∀ n,H n=.dead->K (.mp n) (H.set n (.map [] 0))):=propext Iff.rfl
theorem Ix (i:Nat) (x:SX) (K:V->View->Prop):wI P (.ext i x) T H K=cD (x.at T) (λv=>match v with
 | .aU vs=>i < vs.length/\K (vs.getD i .any) H
 | _=>False) .mk:=propext Iff.rfl
theorem GP (x:SX) (K:V->View->Prop):wI P (.len x) T H K=nv (dh (x.at T)) (λo=>match o with
 | some n=>K (bz n) H
 | none=>False) .mk:=propext Iff.rfl
theorem Eh (x:SX) (K:V->View->Prop):wI P (.mf x) T H K=cD (x.at T) (λv=>match v with
 | .val (.string s)=>K (bz s.size) H
 | _=>False) .mk:=propext Iff.rfl
theorem B4 (op:BinOp) (x y:SX) (K:V->View->Prop):wI P (.arith op x y) T H K=cD (x.at T) (λv=>cD (y.at T) (λc=>match v,c with
 | .val (.int k a),.val (.int d b)=>k=d/\nv (eV op k a b) (λo=>match o with | some v=>K (.val v) H | none=>False) .mk
 | _,_=>False) .mk) .mk:=propext Iff.rfl
theorem La (l:Bool) (x y:SX) (K:V->View->Prop):wI P (.sh l x y) T H K=cD (x.at T) (λv=>cD (y.at T) (λc=>match v,c with
 | .val (.int k a),.val (.int _ b)=>0<=b/\K (.val (.int k (Fv l k a b))) H
 | _,_=>False) .mk) .mk:=propext Iff.rfl
theorem HK (op:BinOp) (x y:SX) (K:V->View->Prop):wI P (.tN op x y) T H K=cD (x.at T) (λv=>cD (y.at T) (λc=>match v,c with
 | .val (.string a),.val (.string b)=>(match op with
  | .eql=>K (.val (.bool (gD a b))) H
  | .neq=>K (.val (.bool (!gD a b))) H
  | _=>False)
 | _,_=>False) .mk) .mk:=propext Iff.rfl
theorem DQ (x i:SX) (K:V->View->Prop):wI P (.ff x i) T H K=cD (x.at T) (λv=>nv (asNat (i.at T)) (λo=>match v,o with
  | .val (.string s),some q=>nv (dL s)[q]? (λo=>match o with
   | some c=>K (.val (.int .u8 c)) H
   | none=>False) .mk
  | _,_=>False) .mk) .mk:=by
 simp only[wI,nv,cD]
 generalize x.at T=v
 generalize asNat (i.at T)=o
 cases v with
 | val u =>
  cases u with
  | string s =>
   cases o with
   | none=>rfl
   | some q =>
    simp only[dL,ON]
    cases h:s.data.toList[q]? with
    | none=>simp
    | some e=>simp
  | _=>rfl
 | _=>rfl
theorem Jm (x:SX) (K:V->View->Prop):wI P (.not x) T H K=cD (x.at T) (λv=>match v with
 | .val (.bool t)=>K (.val (.bool (!t))) H
 | _=>False) .mk:=propext Iff.rfl
theorem GR (eq:Bool) (k:Nat) (x y:SX) (K:V->View->Prop):wI P (.nil eq k x y) T H K=nv (wc (dq k (x.at T)) (dq k (y.at T))) (λo=>match o with
 | some b=>K (.val (.bool (if eq=true then b else !b))) H
 | none=>False) .mk:=propext Iff.rfl
theorem Ez (x y:SX) (K:V->View->Prop):wI P (.beq true x y) T H K=cD (x.at T) (λv=>cD (y.at T) (λc=>match v,c with
 | .val (.bool a),.val (.bool b)=>K (.val (.bool (a == b))) H
 | _,_=>False) .mk) .mk:=propext Iff.rfl
theorem DR (x y:SX) (K:V->View->Prop):wI P (.beq false x y) T H K=cD (x.at T) (λv=>cD (y.at T) (λc=>match v,c with
 | .val (.bool a),.val (.bool b)=>K (.val (.bool (a != b))) H
 | _,_=>False) .mk) .mk:=propext Iff.rfl
theorem Jq (x y:SX) (K:V->View->Prop):wI P (.mm true x y) T H K=cD (x.at T) (λv=>cD (y.at T) (λc=>match v,c with
 | .val (.int k a),.val (.int _ b)=>K (.val (.int k (if b > a then b else a))) H
 | _,_=>False) .mk) .mk:=propext Iff.rfl
theorem Hn (x y:SX) (K:V->View->Prop):wI P (.mm false x y) T H K=cD (x.at T) (λv=>cD (y.at T) (λc=>match v,c with
 | .val (.int k a),.val (.int _ b)=>K (.val (.int k (if b < a then b else a))) H
 | _,_=>False) .mk) .mk:=propext Iff.rfl
theorem D5 (k:IntKind) (x:SX) (K:V->View->Prop):wI P (.conv k x) T H K=cD (x.at T) (λv=>match v with
 | .val (.int _ a)=>K (.val (.int k (k.wrap a))) H
 | _=>False) .mk:=propext Iff.rfl
theorem A9 (n k:Nat) (o:bp):View.set H n o k=if k=n then o else H k:=id rfl
theorem BI (z:List V) (parts:List (Nat × Nat × SX)) (K:V->View->Prop):wI P (.build z parts) T H K=nv (jn z (parts.map λp=>(p.1,p.2.1,p.2.2.at T))) (λo=>match o with
 | some cs=>K (.agg cs) H
 | none=>False) .mk:=propext Iff.rfl
theorem zt (len sz:Nat) (z:List V) (parts:List (Nat × SX)) (K:V->View->Prop):wI P (.bM len sz z parts) T H K=nv (iR sz (List.replicate len z) (parts.map λp=>(p.1,p.2.at T))) (λo=>match o with
 | some es=>∀ n,H n=.dead->K (.sl n 0 len sz) (H.set n (.arr sz es))
 | none=>False) .mk:=propext Iff.rfl
theorem B7 (sz:Nat) (x:SX) (lo hi:Option SX) (K:V->View->Prop):wI P (.slice sz x lo hi) T H K=nv (np sz (x.at T) (lo.map (SX.at T)) (hi.map (SX.at T))) (λo=>match o with
 | some (v,.none,_)=>K v H
 | _=>False) .mk:=propext Iff.rfl
theorem Es (sz bytes:Nat) (z:List V) (l c:SX) (K:V->View->Prop):wI P (.make sz bytes z l c) T H K=nv (asNat (l.at T)) (λa=>nv (asNat (c.at T)) (λb=>match a,b with
 | some l,some c=>(l<=c/\c < aB/\bytes * c < aB)/\(c=0->K (.emp 2) H)/\(c≠0->∀ n,H n=.dead->K (.sl n 0 l sz) (H.set n (.arr sz (List.replicate l z))))
 | _,_=>False) .mk) .mk:=propext Iff.rfl
def ow (sz bytes:Nat) (x:V) (xs:List (List V)) (H:View) (K:V->View->Prop) (_:bL (H,K)):Prop:=if xs.isEmpty=true then (match x with
  | .emp k=>K (.emp k) H
  | .dn=>K .dn H
  | .aX es=>K (.aX es) H
  | .sl a b c d=>K (.sl a b c d) H
  | _=>False)
 else (xs.all λe=>e.length == sz && e.all aD)=true/\(match x with
  | .emp _=>(xs.length * bytes < aB/\xs.length < aB)/\∀ n,H n=.dead->K (.sl n 0 xs.length sz) (H.set n (.arr sz xs))
  | .sl id off len esz=>match H id with
   | .arr _ es=>(off+len<=es.length/\esz=sz/\(len+xs.length) * bytes < aB/\len+xs.length < aB) /\
    ∀ n,H n=.dead->K (.sl n 0 (len+xs.length) esz) ((H.set id .dead).set n (.arr esz ((es.drop off).take len ++ xs)))
   | _=>False
  | _=>False)
theorem I4 (sz bytes:Nat) (x y:SX) (K:V->View->Prop):wI P (.app sz bytes x y) T H K=nv (bD H (y.at T)) (λo=>match o with
 | some (xs,_)=>ow sz bytes (x.at T) xs H K .mk
 | none=>False) .mk:=propext Iff.rfl
theorem ur (sz bytes k:Nat) (xs:List (List V)) (K:V->View->Prop) (w:bL (H,K)) (a:xs.isEmpty=false):ow sz bytes (.emp k) xs H K w=((xs.all λe=>e.length == sz && e.all aD)=true/\(xs.length * bytes < aB/\xs.length < aB)/\∀ n,H n=.dead->K (.sl n 0 xs.length sz) (H.set n (.arr sz xs))):=by
 unfold ow;rw[OK (by rw[a];simp)]
theorem w8 (sz bytes id off len esz:Nat) (xs:List (List V)) (K:V->View->Prop) (w:bL (H,K)) (a:xs.isEmpty=false):ow sz bytes (.sl id off len esz) xs H K w=((xs.all λe=>e.length == sz && e.all aD)=true/\A7 (H id) (λo=>match o with
  | .arr _ es=>(off+len<=es.length/\esz=sz/\(len+xs.length) * bytes < aB/\len+xs.length < aB) /\
   ∀ n,H n=.dead->K (.sl n 0 (len+xs.length) esz) ((H.set id .dead).set n (.arr esz ((es.drop off).take len ++ xs)))
  | _=>False) .mk):=by
 unfold ow A7;rw[OK (by rw[a];simp)]
theorem GD (id off len esz z:Nat) (es:List (List V)) (hH:H id=.arr z es) (a:off+(len+1)<=es.length):bD H (.sl id off (len+1) esz)=some ((es.drop off).take (len+1),[id]):=by
 simp only[bD,hH];rw[OM a]
theorem vV (es:List (List V)):bD H (.aX es)=some (es,[]):=id rfl
theorem vC (k:Nat):bD H (.emp k)=some ([],[]):=id rfl
theorem E4 (x:SX) (K:V->View->Prop):wI P (.zi x) T H K=cD (x.at T) (λv=>match v with
 | .aX es=>nv (nj es) (λo=>match o with
  | some l=>K (.val (.string ⟨l.toArray⟩)) H
  | none=>False) .mk
 | _=>False) .mk:=propext Iff.rfl
theorem DD (x:SX) (K:V->View->Prop):wI P (.ej x) T H K=cD (x.at T) (λv=>match v with
 | .val (.string s)=>K (.aX (eC s)) H
 | _=>False) .mk:=propext Iff.rfl
def oD (P:Program) (op:Op) (ty:TypeId) (T:Env) (H:View) (K:V->View->Prop) (_:bL (T,H,K)):Prop:=wI P (.old op ty) T H K
theorem Jk (op:Op) (ty:TypeId) (K:V->View->Prop):wI P (.old op ty) T H K=oD P op ty T H K .mk:=propext Iff.rfl
theorem IY (t:Nat):ev T (.tmp t)=T t:=id rfl
theorem Cv (v:Value):ev T (.const v)=dJ v:=id rfl
theorem HF (t:Nat):(SX.tmp t).at T=T t:=id rfl
theorem Jc (v:V):(SX.val v).at T=v:=id rfl
theorem Ef (d t:Nat) (v:V):(T.put (some d) v) t=if t=d then v else T t:=id rfl
theorem Bm (v:V):T.put none v=T:=id rfl
theorem CZ (vs:List V) (t:Nat):iK vs t=vs.getD t .any:=id rfl
theorem yg (e:List V) (j:Nat) (K:V->Prop):gE none e j K=(j < e.length/\K (e.getD j .any)):=propext Iff.rfl
theorem xU (n:Nat) (e:List V) (j:Nat) (K:V->Prop):gE (some n) e j K=(j+n<=e.length/\K (.agg ((e.drop j).take n))):=propext Iff.rfl
theorem yr (a b:Prop):vZ .normal a b=a:=propext Iff.rfl
theorem BX (i:Nat) (a b:Prop):vZ (.exit i) a b=b:=propext Iff.rfl
theorem Fq (a b:Prop):vZ .ret a b=b:=propext Iff.rfl
theorem uj (i:Nat):mF i .normal=.normal:=id rfl
theorem zF (i:Nat):mF i .ret=.ret:=id rfl
theorem xn (i j:Nat):mF i (.exit j)=if j=i then .normal else .exit j:=by simp only[mF]
theorem Ff (acc:List V) (K:List V->Prop):yh T H [] acc K=K acc:=propext Iff.rfl
theorem Bi (r:SR) (l:List SR) (acc:List V) (K:List V->Prop):yh T H (r :: l) acc K=wR T H r λv=>yh T H l (acc ++ [v]) K:=propext Iff.rfl
theorem IL (t:Nat) (K:V->Prop):wR T H (.tmp t) K=K (T t):=propext Iff.rfl
theorem Fh (t:Nat) (sz:Option Nat) (K:V->Prop):wR T H (.cell t sz) K=cD (T t) (λv=>match v with
 | .ptr id i j=>A7 (H id) (λo=>match o with
  | .arr _ es=>i < es.length/\yk (es.getD i []) (λe=>gE sz e j K) .mk
  | _=>False) .mk
 | .aC e j=>gE sz e j K
 | _=>False) .mk:=propext Iff.rfl
theorem zQ (t:Nat) (b:Bool):qj (.tmp t) b T=T.put (some t) (.val (.bool b)):=id rfl
theorem zr (v:V) (b:Bool):qj (.val v) b T=T:=id rfl
theorem G1:(Exit.ret=Exit.ret∨Exit.ret=Exit.normal)=True:=by simp
theorem zD:(Exit.normal=Exit.ret∨Exit.normal=Exit.normal)=True:=by simp
end
section
variable {P:Program} {T:Env} {H:View}
theorem aP.intro {c:SC} {Q:Exit->Env->View->Prop} {v:bL (T,H,Q)} (I:Nat->Env->View->Prop) (k:Nat) (d:I k T H)
  (f:∀ k T H,I k T H->wS P c T H λe a H'=>vZ e (∃ b,b < k/\I b a H') (Q e a H')):aP P c T H Q v:=by
 simp only[aP,wS]
 exact⟨I,⟨k,d⟩,f⟩
theorem aj.pure {q:Bool} {f:FuncId} {vs:List V} {K:V->View->Prop} {v:bL (H,K)} {t:V} (b:ar P f vs t) (hk:K t H) (a:bX P f=true:=by kernel_rfl):aj P q f vs H K v:=by
 unfold aj
 cases q with
 | true=>exact b.Gj a hk
 | false =>
  refine⟨a,?_⟩
  rintro h rfl
  exact⟨t,h,bu.j7 b h,.refl _,hk⟩
theorem aj.dd {f:FuncId} {vs:List V} {K:V->View->Prop} {v:bL (H,K)} (a:an P f vs H K):aj P false f vs H K v:=a
theorem z6:aw.view []=λ_=>bp.dead:=by funext id;simp[aw.view]
theorem ar.of {f:FuncId} {vs:List V} {t:V} (b:∀ v∈vs,Tree v) (h:an P f vs (λ_=>.dead) λr H'=>∀ a:aw,a.view=H'->Fr a r t):ar P f vs t:=by
 obtain⟨r,a,c,_,d⟩:=h.2 [] z6
 exact ar.sd b c (d a rfl)
theorem wrap64 {x:Int} (h1 : -9223372036854775808<=x) (d:x<=9223372036854775807):IntKind.wrap .i64 x=x:=by
 unfold IntKind.wrap
 have a:(2:Int) ^ IntKind.i64.bits=18446744073709551616:=by rfl
 have b:(2:Int) ^ (IntKind.i64.bits - 1)=9223372036854775808:=by rfl
 have c:IntKind.i64.signed=true:=by rfl
 simp only[a,b,c,Pz,OT]
 split <;> omega
theorem zH {k:IntKind} {i:Int} (h:0<=i):asNat (.val (.int k i))=some i.toNat:=by simp[asNat,h]
end
theorem Af (v:Value):V.cells (.val v)=[.val v]:=id rfl
theorem zg (v:Value):aD (.val v)=true:=id rfl
theorem zZ (k:Nat):V.cells (.emp k)=[.emp k]:=id rfl
theorem Ep (k:Nat):aD (.emp k)=true:=id rfl
theorem zK  : V.cells .dn=[.dn]:=id rfl
theorem Fa  : aD .dn=true:=id rfl
theorem zR (es:List (List V)):V.cells (.aX es)=[.aX es]:=id rfl
theorem DH (es:List (List V)):aD (.aX es)=true:=id rfl
theorem BQ (a b c d:Nat):V.cells (.sl a b c d)=[.sl a b c d]:=id rfl
theorem Hp (a b c d:Nat):aD (.sl a b c d)=true:=id rfl
theorem zy (a b c:Nat):V.cells (.ptr a b c)=[.ptr a b c]:=id rfl
theorem Eb (a b c:Nat):aD (.ptr a b c)=true:=id rfl
theorem xi (e:List V) (j:Nat):V.cells (.aC e j)=[.aC e j]:=id rfl
theorem BT (e:List V) (j:Nat):aD (.aC e j)=true:=id rfl
theorem CK (a:Nat):V.cells (.mp a)=[.mp a]:=id rfl
theorem Ib (a:Nat):aD (.mp a)=true:=id rfl
theorem BE (f:FuncId) (a b:List V):V.cells (.fn f a b)=[.fn f a b]:=id rfl
theorem Hq (f:FuncId) (a b:List V):aD (.fn f a b)=true:=id rfl
theorem An (cs:List V):V.cells (.agg cs)=cs:=id rfl
theorem DX (k:Nat):dh (.emp k)=some 0:=id rfl
theorem EU:dh .dn=some 0:=id rfl
theorem E8 (es:List (List V)):dh (.aX es)=some es.length:=id rfl
theorem Ic (a b c d:Nat):dh (.sl a b c d)=some c:=id rfl
abbrev Nv {p:Prop} (_:p):Prop:=p
theorem Ld (P:Program) (T:Env) (H:View) (a:SC) (Q:Exit->Env->View->Prop):wS P (ae [a]) T H Q=wS P a T H Q:=by rw[ae]
theorem Lk (P:Program) (T:Env) (H:View) (a b:SC) (l:List SC) (Q:Exit->Env->View->Prop):wS P (ae (a :: b :: l)) T H Q=wS P (.seq a (ae (b :: l))) T H Q:=by rw[ae]
abbrev Wr:Prop:=Nv (And.intro @Ld <| And.intro @Lk <| And.intro @K6 <| And.intro @En <| And.intro @zE <| And.intro @xo <| And.intro @xh <| And.intro @EY <| And.intro @CV <| And.intro @HT <|
 And.intro @EF <| And.intro @C3 <| And.intro @D9 <| And.intro @IV <| And.intro @Bn <| And.intro @CL <| And.intro @Ej <| And.intro @yH <| And.intro @uv <| And.intro @xj <| And.intro @zW <| And.intro @Bw <| And.intro @yC <|
 And.intro @Ed <| And.intro @Ew <| And.intro @BD <| And.intro @DJ <|
 And.intro @E3 <| And.intro @Bq <| And.intro @vM <| And.intro @uu <|
 And.intro @DZ <| And.intro @Cc <| And.intro @K8 <| And.intro @E5 <| And.intro @Cp <|
 And.intro @Iy <| And.intro @Fc <| And.intro @IF <| And.intro @Hv <|
 And.intro @Cb <| And.intro @DE <| And.intro @A6 <| And.intro @Cn <|
 And.intro @D6 <| And.intro @D4 <| And.intro @CQ <| And.intro @GU <|
 And.intro @Er <| And.intro @CD <| And.intro @Ix <| And.intro @GP <|
 And.intro @Eh <| And.intro @B4 <| And.intro @La <| And.intro @HK <| And.intro @DQ <|
 And.intro @Jm <| And.intro @GR <| And.intro @Ez <| And.intro @DR <|
 And.intro @Jq <| And.intro @Hn <| And.intro @D5 <| And.intro @E4 <|
 And.intro @DD <| And.intro @BI <| And.intro @zt <| And.intro @B7 <|
 And.intro @Es <| And.intro @I4 <| And.intro @Jk <| And.intro @IY <| And.intro @Cv <| And.intro @HF <| And.intro @Jc <|
 And.intro @Ef <| And.intro @Bm <| And.intro @CZ <| And.intro @yg <|
 And.intro @xU <| And.intro @yr <| And.intro @BX <| And.intro @Fq <|
 And.intro @uj <| And.intro @zF <| And.intro @xn <| And.intro @Ff <|
 And.intro @Bi <| And.intro @IL <| And.intro @Fh <| And.intro @zQ @zr)
theorem wr:Wr:=⟨@Ld,@Lk,@K6,@En,@zE,@xo,@xh,@EY,@CV,@HT,@EF,@C3,@D9,@IV,@Bn,@CL,@Ej,@yH,@uv,@xj,@zW,@Bw,@yC,@Ed,@Ew,@BD,@DJ,@E3,@Bq,@vM,@uu,@DZ,@Cc,@K8,@E5,@Cp,@Iy,@Fc,@IF,@Hv,@Cb,@DE,@A6,@Cn,@D6,@D4,@CQ,@GU,@Er,@CD,@Ix,@GP,@Eh,@B4,@La,@HK,@DQ,@Jm,@GR,@Ez,@DR,@Jq,@Hn,@D5,@E4,@DD,@BI,@zt,@B7,@Es,@I4,@Jk,@IY,@Cv,@HF,@Jc,@Ef,@Bm,@CZ,@yg,@xU,@yr,@BX,@Fq,@uj,@zF,@xn,@Ff,@Bi,@IL,@Fh,@zQ,@zr⟩
theorem G9:sX []=.aU []:=id rfl
theorem Io (v:V):sX [v]=v:=id rfl
theorem H9 (v w:V) (l:List V):sX (v :: w :: l)=.aU (v :: w :: l):=id rfl
theorem Lb (n:Nat):bz n=.val (.int .i64 n):=id rfl
theorem Bj (e:List V) (j:Nat) (cs:List V):dE e j cs=e.take j ++ cs ++ e.drop (j+cs.length):=id rfl
theorem BY (z:List V):jn z []=some z:=id rfl
theorem Bo (z:List V) (o n:Nat) (x:V) (r:List (Nat × Nat × V)):jn z ((o,n,x) :: r)=if x.cells.length=n/\o+n<=z.length/\x.cells.all aD=true then jn (dE z o x.cells) r else none:=by rw[jn]
theorem DU (k:Nat) (z:List (List V)):iR k z []=some z:=by rw[iR]
theorem DL (k:Nat) (z:List (List V)) (i:Nat) (x:V) (r:List (Nat × V)):iR k z ((i,x) :: r)=if x.cells.length=k/\i < z.length/\x.cells.all aD=true then iR k (z.set i x.cells) r else none:=by rw[iR]
theorem I1 (b:Bool):wc (some true) (some b)=some b:=id rfl
theorem ID (b:Bool):wc (some b) (some true)=some b:=by cases b <;> rfl
section
variable (k:IntKind) (a b:Int)
theorem DN:eV .add k a b=some (.int k (k.wrap (a+b))):=id rfl
theorem EI:eV .sub k a b=some (.int k (k.wrap (a - b))):=id rfl
theorem EZ:eV .mul k a b=some (.int k (k.wrap (a * b))):=id rfl
theorem DI:eV .quo k a b=if b=0 then none else some (.int k (k.wrap (a.tdiv b))):=id rfl
theorem EC:eV .rem k a b=if b=0 then none else some (.int k (a.tmod b)):=id rfl
theorem ED:eV .eql k a b=some (.bool (a == b)):=id rfl
theorem Fe:eV .neq k a b=some (.bool (a != b)):=id rfl
theorem EE:eV .lss k a b=some (.bool (a < b)):=id rfl
theorem DM:eV .leq k a b=some (.bool (a<=b)):=id rfl
theorem Fp:eV .gtr k a b=some (.bool (a > b)):=id rfl
theorem DB:eV .geq k a b=some (.bool (a≥b)):=id rfl
theorem Ij:eV .or k a b=some (.int k (k.wrap (BitVec.ofInt k.bits a ||| BitVec.ofInt k.bits b).toNat)):=id rfl
theorem Eg:eV .and k a b=some (.int k (k.wrap (BitVec.ofInt k.bits a &&& BitVec.ofInt k.bits b).toNat)):=id rfl
theorem xR:eV .andNot k a b=some (.int k (k.wrap (BitVec.ofInt k.bits a &&& ~~~(BitVec.ofInt k.bits b)).toNat)):=id rfl
end
theorem G8:dq 0 (.emp 1)=some true:=id rfl
theorem Il:dq 0 (.emp 2)=some false:=id rfl
theorem D1:dq 0 .dn=some false:=id rfl
theorem Iv (a b n c:Nat):dq 0 (.sl a b (n+1) c)=some false:=id rfl
theorem EX (e:List V) (l:List (List V)):dq 0 (.aX (e :: l))=some false:=id rfl
theorem DA (a b c:Nat):dq 1 (.ptr a b c)=some false:=id rfl
theorem B5 (e:List V) (j:Nat):dq 1 (.aC e j)=some false:=id rfl
theorem He (a:Nat):dq 2 (.mp a)=some false:=id rfl
theorem Hr (f:FuncId) (a b:List V):dq 3 (.fn f a b)=some false:=id rfl
theorem GO:dq 1 (.val (.pointer none))=some true:=id rfl
theorem GY:dq 2 (.val (.map none))=some true:=id rfl
theorem H6:dq 3 (.val .nilFunc)=some true:=id rfl
abbrev Wq:Prop:=Nv (And.intro @G9 <| And.intro @Io <| And.intro @H9 <| And.intro @Lb <| And.intro @Bj <| And.intro @BY <| And.intro @Bo <| And.intro @DU <| And.intro @DL <| And.intro @I1 <| And.intro @ID <| And.intro @DN <| And.intro @EI <| And.intro @EZ <| And.intro @DI <| And.intro @EC <| And.intro @ED <| And.intro @Fe <| And.intro @EE <| And.intro @DM <| And.intro @Fp <| And.intro @DB <| And.intro @Ij <| And.intro @Eg <| And.intro @xR <| And.intro @G8 <| And.intro @Il <| And.intro @D1 <| And.intro @Iv <| And.intro @EX <| And.intro @DA <| And.intro @B5 <| And.intro @He <| And.intro @Hr <| And.intro @GO <| And.intro @GY <| And.intro @H6 <| And.intro @eq_self.{1} <| And.intro @ne_eq.{1} <| And.intro @implies_true.{1} <| And.intro @implies_true.{0} <| And.intro @decide_true <| And.intro @decide_false <| And.intro @EB <| And.intro @DO <| And.intro @B0 <| And.intro @Cx <| And.intro @Cm <| And.intro @BK <| And.intro @DT <| And.intro @GK <| And.intro @Ha <| And.intro @Hd <| And.intro @E9 <| And.intro @ET <| And.intro @Ey <| And.intro @Af <| And.intro @zg <| And.intro @zZ <| And.intro @Ep <| And.intro @zK <| And.intro @Fa <| And.intro @zR <| And.intro @DH <| And.intro @BQ <| And.intro @Hp <| And.intro @zy <| And.intro @Eb <| And.intro @xi <| And.intro @BT <| And.intro @CK <| And.intro @Ib <| And.intro @BE <| And.intro @Hq <| And.intro @An <| And.intro @DX <| And.intro @EU <| And.intro @E8 <| And.intro @Ic <| And.intro @true_or <| And.intro @or_true <| And.intro @or_false <| And.intro @false_or <|
 And.intro @NF <| And.intro @E2 <| And.intro @Fg <| And.intro @Fj <|
 And.intro @D7 <| And.intro @Je <| And.intro @E7 <| And.intro @BF <|
 And.intro @IS <| And.intro @Hf <| And.intro @DW <| And.intro @EV <|
 And.intro @DS <| And.intro @DP <| And.intro @BS <| And.intro @CN <|
 And.intro @AE <| And.intro @Em <| And.intro @List.getD_cons_zero.{0} <| And.intro @List.getD_cons_succ.{0} <|
 And.intro @List.length_cons.{0} <| And.intro @List.length_nil.{0} <| And.intro @List.length_map.{0,0} <| And.intro @wrap64 <|
 And.intro @true_and <| And.intro @and_true <| And.intro @and_self <| And.intro @OT <|
 And.intro @Qt <| And.intro @List.all_cons.{0} <| And.intro @List.all_nil.{0} <| And.intro @Bool.and_self <|
 And.intro @List.nil_append.{0} <| And.intro @List.cons_append.{0} <| And.intro @PA <| And.intro @zH <|
 And.intro @PJ <| And.intro @G1 <| And.intro @zD <| And.intro @bne_iff_ne.{0} <|
 And.intro @beq_iff_eq.{0} <| And.intro @Bool.not_eq_true <| And.intro @Qy <| And.intro @Bool.not_false <|
 And.intro @List.append_nil.{0} <| And.intro @List.map_cons.{0,0} <| And.intro @List.map_nil.{0,0} <| And.intro @Bool.true_eq_false <|
 And.intro @Pb <| And.intro @false_implies <| And.intro @true_implies <| And.intro @Bool.not_not <|
 And.intro @List.drop_zero.{0} <| And.intro @A9 <| And.intro @List.set_cons_zero.{0} <| And.intro @List.set_cons_succ.{0} <|
 And.intro @List.drop_nil.{0} <| And.intro @Qd <| And.intro @List.replicate_zero.{0} <| And.intro @List.replicate_succ.{0} <|
 And.intro @vV <| And.intro @vC <| And.intro @ur <| And.intro @w8 <|
 And.intro @List.isEmpty_cons.{0} <| And.intro @Option.map_none.{0,0} <| And.intro @Option.map_some.{0,0} <| And.intro @Nat.succ_ne_zero <|
 And.intro @List.take_succ_cons.{0} <| And.intro @List.take_zero.{0} <| And.intro @List.drop_succ_cons.{0} <| And.intro @bne_eq_false_iff_eq.{0} <|
 And.intro @beq_eq_false_iff_ne.{0} <| And.intro @not_true_eq_false <| And.intro @not_false_eq_true @Decidable.not_not)
theorem wq:Wq:=⟨@G9,@Io,@H9,@Lb,@Bj,@BY,@Bo,@DU,@DL,@I1,@ID,@DN,@EI,@EZ,@DI,@EC,@ED,@Fe,@EE,@DM,@Fp,@DB,@Ij,@Eg,@xR,@G8,@Il,@D1,@Iv,@EX,@DA,@B5,@He,@Hr,@GO,@GY,@H6,@eq_self,@ne_eq,@implies_true,@implies_true,@decide_true,@decide_false,@EB,@DO,@B0,@Cx,@Cm,@BK,@DT,@GK,@Ha,@Hd,@E9,@ET,@Ey,@Af,@zg,@zZ,@Ep,@zK,@Fa,@zR,@DH,@BQ,@Hp,@zy,@Eb,@xi,@BT,@CK,@Ib,@BE,@Hq,@An,@DX,@EU,@E8,@Ic,@true_or,@or_true,@or_false,@false_or,@NF,@E2,@Fg,@Fj,@D7,@Je,@E7,@BF,@IS,@Hf,@DW,@EV,@DS,@DP,@BS,@CN,@AE,@Em,@PY,@P8,@OY,@Pc,@OX,@wrap64,@true_and,@and_true,@and_self,@OT,@Qt,@PH,@List.all_nil,@Bool.and_self,@PK,@PD,@PA,@zH,@PJ,@G1,@zD,@QD,@PB,@Bool.not_eq_true,@Qy,@Bool.not_false,@List.append_nil,@Pa,@PQ,@Bool.true_eq_false,@Pb,@false_implies,@true_implies,@Bool.not_not,@List.drop_zero,@A9,@List.set_cons_zero,@List.set_cons_succ,@List.drop_nil,@Qd,@List.replicate_zero,@List.replicate_succ,@vV,@vC,@ur,@w8,@List.isEmpty_cons,@Option.map_none,@OU,@Nat.succ_ne_zero,@List.take_succ_cons,@List.take_zero,@List.drop_succ_cons,@bne_eq_false_iff_eq,@beq_eq_false_iff_ne,@not_true_eq_false,@not_false_eq_true,@Decidable.not_not⟩
inductive wJ:V->Prop
 | val (v:Value):wJ (.val v)
 | aU (cs:List V):(∀ i,i < cs.length->∃ v,cs.getD i .any=.val v)->wJ (.aU cs)
theorem Kb {Z d:Nat->Prop} {μ μ':Mu} {hp b:Array Obj} {t:V} {x:Value} (e:wJ t) (h:aq Z μ hp t x):aq d μ' b t x:=by
 cases e with
 | val=>cases h with | val _ a=>exact .val _ a
 | aU cs f =>
  cases h with
  | aU _ c h1 g =>
   refine .aU _ _ h1 λi hi=>?_
   have:=g i hi
   obtain⟨v,a⟩:=f i hi
   rw[a] at this ⊢
   generalize c.getD i undef=y at this ⊢
   cases this with | val _ a=>exact .val _ a
theorem bu.borrow {P:Program} {f:FuncId} {d vs:List V} {t:V} {h:aw} (q:ar P f d t) (r:wJ t) (u:d.length=vs.length)
  (j:∀ i,i < vs.length->Fr h (vs.getD i .any) (d.getD i .any)):bu P f vs h t h:=by
 refine⟨OR _,λZ μ F w xs c hr k=>?_⟩
 have l:er (λb=>Z b∨fW μ b) μ w.heap d xs:=⟨by rw[u,c.1],λi hi=>yd hr (j i (by omega)) (c.2 i (by omega))⟩
 have m:∀ b,(Z b∨fW μ b)->b < w.heap.size:=by
  rintro b (a | ⟨id,o,s,a⟩)
  .exact hr.bE b a
  .exact hr.lt _ _ _ _ a
 refine(q _ μ w xs l m).mono ?_
 rintro e w' ⟨x,z,rfl,v,n,A,y,g⟩
 have hm:eL Z Z μ μ w.heap w'.heap:=⟨λ_ h=>h,λb a=>g b (hr.bE b a) (λx=>x),λ_ _ h=>h,g.mP⟩
 exact⟨x,Z,μ,rfl,Kb r (v μ),⟨λid=>(hr.obj id).mono hm rfl (λb o s p=>g b (hr.lt _ _ _ _ p) (λx=>x)),hr.inj,λid b o s p=>O0 (hr.lt _ _ _ _ p) n.size,λb a=>O0 (hr.bE b a) n.size,hr.eU⟩,
  ⟨n,hm,λb a _=>g b a (λx=>x),λb a=>.inl a,λ_ _ _ _ h=>.inl h⟩,λ_ _=>rfl⟩
def ey (H:View) (v t:V):Prop:=∀ h:aw,h.view=H->Fr h v t
theorem ey.tree {H:View} {v:V} (h:Tree v):ey H v v:=λ_ _=>.tree _ h
theorem ey.sl {H:View} {id off len esz z:Nat} {es:List (List V)} (hH:H id=.arr z es) (hle:off+len<=es.length) (c:∀ e∈es,∀ v∈e,Tree v) :
  ey H (.sl id off len esz) (.aX ((es.drop off).take len)):=by
 rintro h rfl
 have b:∀ i,i < len->((es.drop off).take len).getD i []=es.getD (off+i) []:=λi hi=>by
  simp[OH,PT,hi]
 refine .sl id off len esz z es _ hH hle (by simp;omega) (λi hi=>by rw[b i hi]) (λi j hi a=>?_)
 rw[b i hi] at a ⊢
 refine .tree _ ?_
 have h1:off+i < es.length:=by omega
 have d:es.getD (off+i) []=es[off+i]:=by simp[OH,h1]
 rw[d] at a ⊢
 have f:(es[off+i]).getD j .any=(es[off+i])[j]:=by simp[OH,a]
 rw[f]
 exact c _ (OW _) _ (OW _)
theorem aj.borrow {P:Program} {q:Bool} {f:FuncId} {H:View} {vs c:List V} {K:V->View->Prop} {v:bL (H,K)} {t:V} (d:ar P f c t) (a:bX P f=true) (g:wJ t) (j:c.length=vs.length)
  (b:∀ i,i < vs.length->ey H (vs.getD i .any) (c.getD i .any)) (hk:K t H):aj P q f vs H K v:=by
 unfold aj
 cases q with
 | true=>exact⟨a,λh e=>⟨t,h,bu.borrow d g j (λi hi=>b i hi h e),λ_ _=>rfl,e ▸ hk⟩⟩
 | false =>
  refine⟨a,?_⟩
  rintro h rfl
  exact⟨t,h,bu.borrow d g j (λi hi=>b i hi h rfl),.refl _,hk⟩
abbrev gi (x:Int):V:=.val (.int .i64 x)
abbrev gb (x:Bool):V:=.val (.bool x)
abbrev gs (x:ByteArray):V:=.val (.string x)
theorem mixed:(Tryz.prog).follows .mixedOrders=true:=by kernel_rfl
def encI (l:List Int):V:=.aX (l.map λx=>[gi x])
def bh (l:List Bool):V:=.aX (l.map λx=>[gb x])
theorem dU (l:List Int):Tree (encI l):=by
 refine .aX _ λi j hi a=>?_
 simp only[OX] at hi
 simp[OH,hi] at a ⊢
 subst a
 exact .val _
def aG {α:Type} (l:List α):Prop:=l.length < 4611686018427387904
def lf:SC :=
 ae [ae [ab [aa 11 5,aa 12 0,aR 13 12,aV 14 .lss 11 13],bH 14 (.exit 0)],.block 1 (ae [ab [aa 17 0,aa 18 5,aW 19 1 17 18,ak 20 19,aa 21 1,aa 22 5,aW 23 1 21 22,ak 24 23,aV 25 .neq 20 24],bc 25 (ae [ab [bb 4 false],.ret])]),ab [aa 15 5,ax 16 .add 15 1,aa 5 16]]
def mW:SF:=⟨ae [ab [bb 4 false],ae [ab [aa 6 0,aR 7 6,aa 8 1,aR 9 8,aV 10 .neq 7 9],bc 10 (ae [ab [bb 4 false],.ret])],ae [ab [aN 5 0],bJ 0 lf],ab [bb 4 true],.ret],
 [.tmp 4],26⟩
theorem rp:aE Tryz.prog 26 []=some mW:=by kernel_rfl
theorem EO {α:Type} [BEq α] [LawfulBEq α] {a b:List α} (h:a.length≠b.length):(a == b)=false:=by
 simp only[beq_eq_false_iff_ne];intro e;exact h (by rw[e])
theorem L9 (a b:List Int) (l:aG a) (H:View):an Tryz.prog 26 [encI a,encI b] H λr H'=>r=gb (a == b)/\H'=H:=by
 refine an.of mixed rp ?_
 unfold aG at l
 simp(disch:=omega)only[↓wr,seval,wq,mW,encI]
 apply ag.ne<;>intro h
 .simp(disch:=omega)only[↓wr,seval,wq]
  rw[EO (by omega)]
 .simp(disch:=omega)only[↓wr,seval,wq]
  refine aP.intro (λk T H'=>∃ i:Nat,i+k=a.length/\a.take i=b.take i/\T 0=encI a/\T 1=encI b/\T 5=gi i/\H'=H) a.length ?_ ?_
  .exact⟨0,by omega,by simp,rfl,rfl,rfl,rfl⟩
  .rintro k T H' ⟨i,hk,hi,c,h1,d,rfl⟩
   simp(disch:=omega)only[↓wr,seval,wq,lf,c,h1,d,encI]
   apply ag.dec<;>intro m
   .have g:a[i]?=some (a[i]'(by omega)):=OI (by omega)
    have j:b[i]?=some (b[i]'(by omega)):=OI (by omega)
    simp(disch:=omega)only[↓wr,seval,wq,c,h1,d,encI,ON,g,j,OU]
    apply ag.ne<;>intro f
    .simp(disch:=omega)only[↓wr,seval,wq]
     have:(a == b)=false:=by
      simp only[beq_eq_false_iff_ne];rintro rfl;exact f rfl
     rw[this]
    .simp(disch:=omega)only[↓wr,seval,wq,c,h1,d,encI]
     refine⟨k - 1,by omega,i+1,by omega,?_,rfl⟩
     rw[Pe,Pe,hi,g,j,f]
   .simp(disch:=omega)only[↓wr,seval,wq,c,h1,d,encI]
    have:a=b:=by
     have e:i=a.length:=by omega
     rw[O8 (by omega),O8 (by omega)] at hi
     exact hi
    rw[this];simp
theorem Fm (a b:List Int) (c:aG a):ar Tryz.prog 26 [encI a,encI b] (gb (a == b)) :=
 ar.of (by simp[dU]) ((L9 a b c _).mono λr H' h d _=>by rw[h.1];exact .tree _ (.val _))
theorem gv (l:List Bool):Tree (bh l):=by
 refine .aX _ λi j hi a=>?_
 simp only[OX] at hi
 simp[OH,hi] at a ⊢
 subst a
 exact .val _
end Gv
