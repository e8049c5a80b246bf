/-
  Part 5 of the proof: what the machine does and what the functions answer.
  Conditions: those that each lemma names.
-/
import Derived.Test.YtiophifnkakjgaaGreatProg
import Derived.KernelRfl
import Derived.Test.YtiophifnkakjgaaGreatSGzB9D
set_option linter.unusedSimpArgs false
set_option linter.unusedVariables false
set_option maxRecDepth 100000
set_option maxHeartbeats 20000000
namespace Gv
open Go Go.Proofs
section
variable {P:Program} {n:Nat} {all:List Oper}
theorem QZ (h:aD):h.view h.length=.dead:=by simp[aD.view,Vp]
theorem TO {o:Oper} {T:Env} {h:aD} {s:SI} {K:V->View->Prop} (g:dy n all T o=some true) (i:∀ v eff rd,sI P s T h.view h.length=some (v,eff,rd)->cd P o T h.view h.length=some (v,eff,rd)) (hw:wI P s T h.view K) :
  ∃ v d rd wr,dQ P n all o T h v d rd wr false/\jh h d/\K v d.view/\kM (tO P s) rd wr false h.length d.length:=by
 obtain⟨v,eff,rd,e,hk⟩:=TY hw (QZ h)
 have f:=i _ _ _ e
 have a:∀ id,id∈eff.wr->h.view id≠.dead:=λid b=>(mU f id b).1
 refine⟨v,eff.apply h,rd,eff.wr,.op g f,?_,?_,?_,?_⟩
 .intro id b c
  rw[lj a]
  cases eff with
  | none=>exact c
  | new o=>simp only[bq.view,View.set];rw[Vs (by omega)];exact c
  | fe k o =>
   simp only[bq.view,View.set]
   rw[Vs (by rintro rfl;exact a id (by simp[bq.wr]) c)];exact c
  | eU k o =>
   simp only[bq.view,View.set]
   rw[Vs (by omega)]
   split
   .rfl
   .exact c
 .rw[lj (λid b=>(mU f id b).1)];exact hk
 .intro j
  obtain⟨rfl,rfl⟩:=(si e).1 j
  exact⟨rfl,rfl,rfl,rfl⟩
 .intro h1
  rcases VT (tO P s) 1 with l | l
  .obtain⟨rfl,rfl⟩:=(si e).1 (by omega);rfl
  .exact(si e).2 (by omega)
theorem JR {P:Program} {fr:Bool} {s:SI} {T:Env} {H:View} {n:Nat} {v:V} {eff:bq} {rd:List Nat} (h:sI P (xY P fr s) T H n=some (v,eff,rd)):sI P s T H n=some (v,eff,rd):=by
 unfold xY at h
 split at h
 .split at h
  .exact Px h
  .exact h
 .split at h
  .rename_i a
   simp only[VD] at a
   exact RQ a.2 h
  .exact h
 .exact h
theorem z7 (P:Program) (a:Fz) (o:Oper) :
  (∃ f args b,o.op=.call { callee:=.value f,args:=args,argTypes:=b }/\(mF P a o=.call (SX.of f) (args.toList.map SX.of)∨mF P a o=.tG (SX.of f) (args.toList.map SX.of))) ∨
  (∃ t x,o.op=.box t x/\mF P a o=.op (.jw (SX.of x)))∨(∃ s d x,o.op=.convert s d x/\vg P s d=true/\mF P a o=.op (.gg (SX.of x)))∨mF P a o=.op (xY P a.fr (comp P o)):=by
 unfold mF
 split
 .rename_i f args b e
  refine .inl ⟨f,args,b,e,?_⟩
  by_cases g:(match o.dst with | some d=>a.l.contains (200000+d) | none=>false)=true
  .exact .inr (Vu g)
  .exact .inl (Vs g)
 .rename_i t x e
  by_cases c:(match o.dst with | some d=>a.l.contains d | none=>false)=true
  .exact .inr (.inl ⟨t,x,e,Vu c⟩)
  .refine .inr (.inr (.inr ?_))
   refine(Vs c).trans ?_
   simp only[comp,e,xY]
 .rename_i s d x e
  by_cases c:((match o.dst with | some d=>a.l.contains d | none=>false) && vg P s d)=true
  .exact .inr (.inr (.inl ⟨s,d,x,e,by simp only[VD] at c;exact c.2,Vu c⟩))
  .exact .inr (.inr (.inr (Vs c)))
 .exact .inr (.inr (.inr rfl))
theorem dQ.len {o:Oper} {T:Env} {h a:aD} {v:V} {rd wr:List Nat} {call:Bool} (st:dQ P n all o T h v a rd wr call):h.length<=a.length:=by
 cases st with
 | skip=>exact VA _
 | op _ _=>rename_i eff _ _ ;cases eff <;> simp[bq.apply]
 | jw _ _ _=>exact VA _
 | gg _ _ _ _ _ _=>exact VA _
 | call _ _ _ _ b _ _=>exact b.1
theorem Sx {q:Fz} {o:Oper} {T:Env} {h:aD} {quiet:Bool} {K:V->View->Prop} (l:dy n all T o=some true) (hw:wB P quiet (mF P q o) T h.view K) :
  ∃ v b rd wr call,dQ P n all o T h v b rd wr call/\jh h b/\K v b.view/\kM (ja P quiet (mF P q o)) rd wr call h.length b.length:=by
 rcases z7 P q o with ⟨f,args,C,k,j | j⟩ | ⟨t,x,k,j⟩ | ⟨s,d,x,k,u,j⟩ | j
 rotate_left
 .rw[j] at hw ⊢
  simp only[wB] at hw
  split at hw
  .rename_i g first cap m
   rw[CC] at hw
   rw[SX.cO] at m
   obtain⟨c,i⟩:=hw
   obtain⟨r,b,hr,hold,hk⟩:=i h rfl
   refine⟨r,b,[],[],true,.call l k m c hr (λid a _=>hold id a) (λid a=>by simp at a),λid a w=>(hold id a).trans w,hk,?_,?_⟩
   .intro p;simp[ja] at p
   .intro _;rfl
  .exact hw.elim
 rotate_right
 .rw[j] at hw ⊢
  simp only[wB] at hw
  split at hw
  .rename_i g first cap m
   rw[CC] at hw
   rw[SX.cO] at m
   split at hw
   .rename_i y
    obtain⟨c,i⟩:=hw
    obtain⟨r,b,hr,hold,hk⟩:=i h rfl
    refine⟨r,b,[],[],true,.call l k m c hr (λid a _=>hold id a) (λid a=>by simp at a),λid a w=>(hold id a).trans w,hk,?_,?_⟩
    .intro p;simp[ja,y] at p
    .intro _;rfl
   .rename_i y
    obtain⟨c,i⟩:=hw
    obtain⟨r,b,hr,z,hk⟩:=i h rfl
    refine⟨r,b,[],List.range h.length,true,.call l k m c hr (λid a D=>?_) (λid a=>by simpa using a),z,hk,Rb (by simp[ja,y])⟩
    exact absurd (by simpa using a) D
  .exact hw.elim
 .rw[j] at hw ⊢
  simp only[wB,wI,SX.cO] at hw
  exact⟨_,h,[],[],false,.jw l k hw.1,.refl _,hw.2,λ_=>⟨rfl,rfl,rfl,rfl⟩,λ_=>rfl⟩
 .rw[j] at hw ⊢
  simp only[wB,wI,SX.cO] at hw
  obtain⟨e,h1,A,B⟩:=Aj u
  split at hw
  .rename_i st E
   exact⟨_,h,[],[],false,.gg l k h1 A B E,.refl _,hw,λ_=>⟨rfl,rfl,rfl,rfl⟩,λ_=>rfl⟩
  .exact hw.elim
 .rw[j] at hw ⊢
  obtain⟨v,b,rd,wr,h1,p,A,B⟩:=TO (s:=xY P q.fr (comp P o)) l (λv eff rd F=>Ka (JR F)) hw
  exact⟨v,b,rd,wr,false,h1,p,A,B⟩
def fV (P:Program) (quiet:Bool) (l:List SO) (recs:List Rec):Prop :=
 l.length=recs.length/\∀ (i:Nat) (s:SO) (r:Rec),l[i]?=some s->recs[i]?=some r->kM (ja P quiet s.b) r.rd r.wr r.call r.lo r.hi
theorem fV.nil {quiet:Bool} : fV P quiet [] []:=⟨rfl,λi s r h=>by simp at h⟩
theorem fV.cons {quiet:Bool} {l:List SO} {a:List Rec} {s:SO} {r:Rec} (h:fV P quiet l a) (hr:kM (ja P quiet s.b) r.rd r.wr r.call r.lo r.hi):fV P quiet (s :: l) (r :: a):=by
 refine⟨by simp[h.1],λi e f d c=>?_⟩
 cases i with
 | zero=>simp at d c;subst d c;exact hr
 | succ i=>exact h.2 i e f (by simpa using d) (by simpa using c)
theorem fV.append {quiet:Bool} {l d:List SO} {b a:List Rec} (h:fV P quiet l b) (e:fV P quiet d a):fV P quiet (l ++ d) (b ++ a):=by
 refine⟨by simp[h.1,e.1],λi s r c hr=>?_⟩
 by_cases hi:i < l.length
 .rw[VZ hi] at c
  rw[VZ (h.1 ▸ hi)] at hr
  exact h.2 i s r c hr
 .rw[Wg (by omega)] at c
  rw[Wg (by have:=h.1;omega)] at hr
  exact e.2 (i - l.length) s r c (by rw[h.1];exact hr)
theorem tL {a:Fz} {o:Oper} {s:SO} (h:Fx P n all a o=some s):r5 n o=true/\s.dst=o.dst/\s.b=mF P a o/\vu n all o=some s.guard:=by
 unfold Fx at h
 split at h
 .rename_i c
  simp only[Vy] at h
  obtain⟨g,d,rfl⟩:=h
  exact⟨c,rfl,rfl,d⟩
 .simp at h
theorem B4 {o:Oper} {T:Env} (h:vu n all o=some none):dy n all T o=some true:=by
 unfold vu at h
 unfold dy
 split at h
 .rename_i a;rw[a]
 .split at h
  .split at h
   .simp at h
   .simp at h
  .simp at h
theorem lA {o:Oper} {T:Env} {d:Nat} {want:Bool} (h:vu n all o=some (some (d,want))) :
  (∀ b,T d=.val (.bool b)->dy n all T o=some (b == want))/\(T d=.aY []->dy n all T o=some false):=by
 unfold vu at h
 unfold dy
 split at h
 .simp at h
 .rename_i j w e
  rw[e]
  split at h
  .rename_i g f
   split at h
   .rename_i a
    simp at h
    obtain⟨rfl,rfl⟩:=h
    simp only[f,a,if_true]
    exact⟨λb c=>by rw[c],λc=>by rw[c]⟩
   .simp at h
  .simp at h
theorem lk {a:Fz} {os:List Oper} (h:dF P n all a os=some []):os=[]:=by
 cases os with
 | nil=>rfl
 | cons o r =>
  simp only[dF] at h
  split at h <;> simp at h
theorem lZ {a:Fz} {os:List Oper} {s:SO} {l:List SO} (h:dF P n all a os=some (s :: l)):∃ o r,os=o :: r/\Fx P n all a o=some s/\dF P n all a r=some l:=by
 cases os with
 | nil=>simp[dF] at h
 | cons o r =>
  simp only[dF] at h
  split at h
  .rename_i c d h1 b
   simp at h
   obtain⟨rfl,rfl⟩:=h
   exact⟨o,r,rfl,h1,b⟩
  .simp at h
theorem rB {d:Fz} : ∀ {l c:List SO} {os:List Oper},dF P n all d os=some (l ++ c)->∃ a b,os=a ++ b/\dF P n all d a=some l/\dF P n all d b=some c
 | [],c,os,h=>⟨[],os,rfl,rfl,h⟩
 | s :: l,c,os,h=>by
  obtain⟨o,r,rfl,h1,e⟩:=lZ h
  obtain⟨a,b,rfl,f,g⟩:=rB e
  exact⟨o :: a,b,rfl,by simp[dF,h1,f],g⟩
theorem Tr.append {a b:List Oper} {T c d:Env} {h h1 e:aD} {f g:List Rec} (x:Tr P n all a T h f c h1) (y:Tr P n all b c h1 g d e):Tr P n all (a ++ b) T h (f ++ g) d e:=by
 induction x with
 | nil=>exact y
 | cons st i _ j=>exact .cons st i (j y)
theorem AO {T:Env} {d:Nat} {v:V} (h:T d=v):T.put (some d) v=T:=by
 funext t
 simp only[Env.put]
 split
 .rename_i e;subst e;exact h.symm
 .rfl
theorem F9 {E:Fz} {quiet:Bool} {K:Env->View->Prop} (g:Option (Nat × Bool)):∀ (l:List (Option Nat × SB)) (os:List Oper) (T:Env) (h:aD),
  dF P n all E os=some (l.map λ(d,b)=>⟨d,g,b⟩)->(∀ d w,g=some (d,w)->T d=.val (.bool w)/\(l.all λx=>x.1 != some d)=true)->yV P quiet l T h.view K ->
  ∃ a m j,Tr P n all os T h a m j/\(jh h j/\h.length<=j.length)/\K m j.view/\fV P quiet (l.map λ(d,b)=>⟨d,g,b⟩) a
 | [],os,T,h,q,s,hw=>by
  have:=lk q;subst this
  exact⟨[],T,h,.nil,⟨.refl _,VA _⟩,hw,.nil⟩
 | (d,b) :: l,os,T,h,q,s,hw=>by
  obtain⟨o,r,rfl,h1,F⟩:=lZ q
  obtain⟨G,k,f,i⟩:=tL h1
  simp only at k f i
  have u:dy n all T o=some true:=by
   cases g with
   | none=>exact B4 i
   | some p =>
    obtain⟨y,w⟩:=p
    have:=(lA (T:=T) i).1 w (s y w rfl).1
    rw[this];simp
  simp only[yV] at hw
  rw[f] at hw
  obtain⟨v,j,rd,wr,call,st,z,hk,H⟩:=Sx u hw
  obtain⟨a,m,A,D,c,B,C⟩:=F9 g l r (T.put d v) j F (λy w e=>by
   have:=s y w e
   simp only[WR,VD,bne_iff_ne,ne_eq] at this
   refine⟨?_,this.2.2⟩
   rw[<-this.1]
   cases d with
   | none=>rfl
   | some t=>simp only[Env.put];rw[Vs];intro e;subst e;exact this.2.1 rfl) hk
  rw[k] at D
  have hlen:=st.len
  exact⟨_,m,A,.cons st G D,⟨z.trans c.1 hlen,Wf hlen c.2⟩,B,C.cons (by rw[f];exact H)⟩
theorem DQ {v:Fz} {quiet:Bool} (d:Nat) (w:Bool) (h:aD):∀ (l:List (Option Nat × SB)) (os:List Oper) (T:Env),
  dF P n all v os=some (l.map λ(c,b)=>⟨c,some (d,w),b⟩)->(T d=.val (.bool !w)∨T d=.aY [])->(l.all λx=>x.1 != some d)=true ->
  ∃ a,Tr P n all os T h a (iB l T) h/\fV P quiet (l.map λ(c,b)=>⟨c,some (d,w),b⟩) a
 | [],os,T,k,f,j=>by
  have:=lk k;subst this
  exact⟨[],.nil,.nil⟩
 | (c,b) :: l,os,T,k,f,j=>by
  obtain⟨o,r,rfl,h1,y⟩:=lZ k
  obtain⟨m,g,p,i⟩:=tL h1
  simp only at g p i
  have q:dy n all T o=some false:=by
   rcases f with f | f
   .rw[(lA (T:=T) i).1 _ f];cases w <;> rfl
   .exact(lA (T:=T) i).2 f
  simp only[WR,VD,bne_iff_ne,ne_eq] at j
  obtain⟨a,u,s⟩:=DQ d w h l r (T.put c (.aY [])) y (by
   have:(T.put c (.aY [])) d=T d:=by
    cases c with
    | none=>rfl
    | some t=>simp only[Env.put];rw[Vs];intro e;subst e;exact j.1 rfl
   rw[this];exact f) j.2
  rw[g] at u
  refine⟨_,?_,s.cons (r:=⟨[],[],false,h.length,h.length⟩) ⟨λ_=>⟨rfl,rfl,rfl,rfl⟩,λ_=>rfl⟩⟩
  have:=Tr.cons (.skip q) m u
  rw[iB,g]
  exact this
theorem TW {p:Fz} {quiet:Bool} {K:Env->View->Prop} {g:SG} {os:List Oper} {T:Env} {h:aD} (f:dF P n all p os=some g.flat) (c:tS g=true) (hw:wG P quiet g T h.view K) :
  ∃ a o k,Tr P n all os T h a o k/\(jh h k/\h.length<=k.length)/\K o k.view/\fV P quiet g.flat a:=by
 unfold wG at hw
 unfold SG.flat at f ⊢
 unfold tS at c
 split at hw
 .rename_i l
  rw[l] at f ⊢
  exact F9 none g.ops os T h f (λd w e=>by simp at e) hw
 .rename_i d want l
  rw[l] at f c ⊢
  simp only at c
  split at hw
  .rename_i b j
   by_cases e:b=want
   .subst e
    have:=hw.1 rfl
    rw[AO j] at this
    exact F9 (some (d,b)) g.ops os T h f (λq w e=>by simp at e;obtain⟨rfl,rfl⟩:=e;exact⟨j,c⟩) this
   .have e':b = !want:=by cases b <;> cases want <;> simp_all
    have:=hw.2 e'
    subst e'
    rw[AO j] at this
    obtain⟨a,m,i⟩:=DQ (quiet:=quiet) d want h g.ops os T f (.inl j) c
    exact⟨a,_,h,m,⟨.refl _,VA _⟩,this,i⟩
  .rename_i j
   obtain⟨a,m,i⟩:=DQ (quiet:=quiet) d want h g.ops os T f (.inr j) c
   exact⟨a,_,h,m,⟨.refl _,VA _⟩,hw,i⟩
  .exact hw.elim
theorem yy {s:Fz} {quiet:Bool} {K:Env->View->Prop} : ∀ (gs:List SG) (os:List Oper) (T:Env) (h:aD),dF P n all s os=some (kG gs)->gs.all tS=true->xk P quiet gs T h.view K ->
  ∃ c r e,Tr P n all os T h c r e/\(jh h e/\h.length<=e.length)/\K r e.view/\fV P quiet (kG gs) c
 | [],os,T,h,f,_,hw=>by
  have:=lk f;subst this
  exact⟨[],T,h,.nil,⟨.refl _,VA _⟩,hw,.nil⟩
 | g :: gs,os,T,h,f,d,hw=>by
  simp only[kG,VX,List.flatten_cons] at f ⊢
  simp only[WR,VD] at d
  obtain⟨a,b,rfl,h1,t⟩:=rB f
  obtain⟨w,u,i,j,st1,k,l⟩:=TW h1 d.1 hw
  obtain⟨x,v,m,o,st2,p,q⟩:=yy gs b u i t d.2 k
  exact⟨_,v,m,j.append o,⟨st1.1.trans st2.1 st1.2,Wf st1.2 st2.2⟩,p,l.append q⟩
theorem Tr.at_ {os:List Oper} {T g:Env} {h j:aD} {b:List Rec} (k:Tr P n all os T h b g j):∀ (i:Nat) (o:Oper),os[i]?=some o ->
  ∃ c h1 v e rd wr call a,b[i]?=some ⟨rd,wr,call,h1.length,e.length⟩/\dQ P n all o c h1 v e rd wr call/\h.length<=h1.length/\Tr P n all (os.drop (i+1)) (c.put o.dst v) e a g j/\(∀ m,a[m]?=b[i+1+m]?) /\
   (∀ t,(∀ l∈os.take i,l.dst≠some t)->c t=T t):=by
 induction k with
 | nil=>intro i o hi;simp at hi
 | @cons o0 rest T g h h1 j v rd wr call b st D k s =>
  intro i o hi
  cases i with
  | zero =>
   simp at hi;subst hi
   exact⟨T,h,v,h1,rd,wr,call,b,rfl,st,VA _,by simpa using k,λm=>by rw[show 0+1+m=m+1 by omega,V6],λt _=>rfl⟩
  | succ i =>
   simp at hi
   obtain⟨c,e,v2,u,p,TJ,call2,a,w,x,y,z,A,B⟩:=s i o hi
   have hlen:h.length<=h1.length:=by
    cases st with
    | skip=>exact VA _
    | op _ _=>rename_i eff _ _;cases eff <;> simp[bq.apply]
    | jw _ _ _=>exact VA _
    | gg _ _ _ _ _ _=>exact VA _
    | call _ _ _ _ C _ _=>exact C.1
   refine⟨c,e,v2,u,p,TJ,call2,a,by simpa using w,x,Wf hlen y,by simpa using z,λm=>?_,λt q=>?_⟩
   .rw[A,show i+1+1+m=(i+1+m)+1 by omega,V6]
   .simp only[List.take_succ_cons,VJ] at q
    rw[B t λl r=>q l (.inr r)]
    have:=q o0 (.inl rfl)
    cases f:o0.dst with
    | none=>rfl
    | some d=>simp only[Env.put];rw[Vs];rintro rfl;exact this f
theorem Lv {o:Oper} {T:Env} {h g:aD} {v:V} {rd wr:List Nat} {call:Bool} (st:dQ P n all o T h v g rd wr call) (b:AI o=true) (i:o.guard=none):v=.ptr h.length 0 0:=by
 unfold AI at b
 have d:dy n all T o=some true:=by unfold dy;rw[i]
 cases st with
 | skip f=>rw[d] at f;simp at f
 | op _ a =>
  split at b
  .rename_i e c
   simp only[cd,c] at a
   split at a
   .unfold lW at a
    split at a
    .simp at a;exact a.1.symm
    .simp at a
   .simp at a
  .simp at b
 | jw _ c _=>rw[c] at b;simp at b
 | gg _ c _ _ _ _=>rw[c] at b;simp at b
 | call _ c _ _ _ _ _=>rw[c] at b;simp at b
theorem KT {o:Oper} {T:Env} {h g:aD} {v:V} {rd wr:List Nat} {call:Bool} {t id i j:Nat} (st:dQ P n all o T h v g rd wr call) (c:kS o=some t) (k:T t=.ptr id i j):wr=[id]/\call=false:=by
 unfold kS at c
 split at c
 .rename_i ty l x d m
  simp at c;subst c
  have e:dy n all T o=some true:=by unfold dy;rw[m]
  cases st with
  | skip f=>rw[e] at f;simp at f
  | op _ b =>
   have p:ev T (.tmp l)=.ptr id i j:=k
   simp only[cd,d,p,rm] at b
   split at b
   .split at b
    .simp only[Vr,Vv] at b
     obtain⟨_,he,_⟩:=b
     rw[<-he];exact⟨rfl,rfl⟩
    .simp at b
   .simp at b
  | jw _ a _=>rw[d] at a;simp at a
  | gg _ a _ _ _ _=>rw[d] at a;simp at a
  | call _ a _ _ _ _ _=>rw[d] at a;simp at a
 .simp at c
theorem MJ {o:Oper} {T:Env} {h g:aD} {v:V} {rd wr:List Nat} {call:Bool} (st:dQ P n all o T h v g rd wr call) (d:Dy o=true):wr=[]/\call=false/\∀ id,id∈rd->id < h.length:=by
 unfold Dy at d
 cases st with
 | skip _=>exact⟨rfl,rfl,λid c=>by simp at c⟩
 | op _ b =>
  split at d
  .rename_i e a f
   simp only[cd,f,mH] at b
   split at b
   .rename_i id i j l
    split at b
    .rename_i z es hH
     split at b
     .simp only[Vy] at b
      obtain⟨_,_,b⟩:=b
      simp at b
      obtain⟨_,rfl,rfl⟩:=b
      refine⟨rfl,rfl,λk c=>?_⟩
      simp at c;subst c
      exact ij (by rw[hH];simp)
     .simp at b
    .simp at b
   .simp only[Vy] at b
    obtain⟨_,_,b⟩:=b
    simp at b
    obtain⟨_,rfl,rfl⟩:=b
    exact⟨rfl,rfl,λid c=>by simp at c⟩
   .simp at b
  .simp at d
 | jw _ f _=>rw[f] at d;simp at d
 | gg _ f _ _ _ _=>rw[f] at d;simp at d
 | call _ f _ _ _ _ _=>rw[f] at d;simp at d
theorem wh {T G:Env} {h H:aD} {e:List Rec} (I:Tr P n all all T h e G H) {i k:Nat} {a b:Rec} (hp:zw all i k=true) (g:e[i]?=some a) (J:e[k]?=some b):oG a b:=by
 unfold zw at hp
 split at hp
 .rename_i K L l m
  rw[VD] at hp
  obtain⟨M,hp⟩:=hp
  split at hp
  .rename_i t o
   rw[W5] at hp
   obtain⟨j,N,hp⟩:=hp
   rw[Wy] at N
   rw[VD,VH] at hp
   obtain⟨O,c⟩:=hp
   unfold SY at c
   split at c
   .rename_i Q p
    simp only[VD,Wn,VU,bne_iff_ne,ne_eq,Option.isNone_iff_eq_none] at c
    obtain⟨⟨⟨R,S⟩,U⟩,V⟩:=c
    obtain⟨T1,h1,v1,W,X,Ul,c1,q,D,E,e3,Y,Z,_⟩:=I.at_ i K l
    obtain⟨Tj,r,vj,ab,an,aq,cj,s,f1,f2,f3,f4,f5,_⟩:=Y.at_ (j - (i+1)) Q (by rw[Xu,show i+1+(j - (i+1))=j by omega];exact p)
    have u:(all.drop (i+1)).drop (j - (i+1)+1)=all.drop (j+1):=by rw[List.drop_drop];congr 1;omega
    rw[u] at f4
    obtain⟨Tk,v,vk,w,x,y,ck,z,g1,g2,g3,_,_,g6⟩:=f4.at_ (k - (j+1)) L (by rw[Xu,show j+1+(k - (j+1))=k by omega];exact m)
    rw[g] at D
    have A:=(Xw D)
    have f:e[k]?=some ⟨x,y,ck,v.length,w.length⟩:=by
     rw[<-g1,f5,Z];congr 1;omega
    rw[J] at f
    have f:=Xw f
    have hv:=Lv f2 U S
    have B:Tk t=.ptr r.length 0 0:=by
     rw[g6 t λo' C=>V o' C,R,hv]
     simp[Env.put]
    obtain⟨s1,s2⟩:=KT g2 o B
    obtain⟨F,l2,l3⟩:=MJ E M
    rw[A,f]
    have hlen:h1.length<=W.length:=by
     cases E with
     | skip=>exact VA _
     | op _ _=>rename_i eff _ _;cases eff <;> simp[bq.apply]
     | jw _ _ _=>exact VA _
     | gg _ _ _ _ _ _=>exact VA _
     | call _ _ _ _ g _ _=>exact g.1
    refine⟨λid d=>by simp[F] at d,λid d=>?_,λhc=>by simp[l2] at hc,λ_=>F,λid d=>?_⟩
    .simp only[s1,Wu] at d
     subst d
     intro hr
     have:=l3 _ hr
     omega
    .simp only[s1,Wu] at d
     subst d
     simp only
     omega
   .simp at c
  .simp at hp
 .simp at hp
theorem Qx {ls:List Nat} {d:List Rec} {T t:Env} {hp g:aD} (u:Tr P n all all T hp d t g) (h:FD all ls=true) (y:ls.length=d.length) (hr:∀ (i x:Nat) (r:Rec),ls[i]?=some x->d[i]?=some r->kM x r.rd r.wr r.call r.lo r.hi):tZ all d:=by
 intro i k a b j l m v
 have hi:i < d.length:=(VC.1 l).1
 have hk:k < d.length:=(VC.1 m).1
 unfold FD at h
 simp only[VU] at h
 have h1:=h (ls[i]'(by omega),i) (by rw[Wk];simp[Vq (show i < ls.length by omega)])
  (ls[k]'(by omega),k) (by rw[Wk];simp[Vq (show k < ls.length by omega)])
 have q:=hr i _ a (Vq (by omega)) l
 have s:=hr k _ b (Vq (by omega)) m
 simp only[j,decide_true,Xq,v,Xy,Xb,Wn,VD,VH] at h1
 rcases h1 with ((h1 | h1) | h1) | h1
 .obtain⟨f,e,o,w⟩:=q.1 h1
  exact⟨λid c=>by simp[e] at c,λid _=>by simp[f],λp=>by simp[o] at p,λ_=>e,λid _ z=>by omega⟩
 .obtain⟨f,e,o,w⟩:=s.1 h1
  exact⟨λid _=>by simp[f],λid c=>by simp[e] at c,λ_=>e,λp=>by simp[o] at p,λid c=>by simp[e] at c⟩
 .have f:=q.2 h1.1
  have e:=s.2 h1.2
  exact⟨λid c=>by simp[f] at c,λid c=>by simp[e] at c,λ_=>e,λ_=>f,λid c=>by simp[e] at c⟩
 .exact wh u h1 l m
theorem Tr.keep {os:List Oper} {T c:Env} {h e:aD} {a:List Rec} (f:Tr P n all os T h a c e) {t:Nat} (g:∀ o∈os,o.dst≠some t):c t=T t:=by
 induction f with
 | nil=>rfl
 | @cons o0 rest T c h h1 e v rd wr call a st k f i =>
  rw[i λo j=>g o (by simp[j])]
  have:=g o0 (by simp)
  cases b:o0.dst with
  | none=>rfl
  | some d=>simp only[Env.put];rw[Vs];rintro rfl;exact this b
theorem wM {o:Oper} {T:Env} {h g:aD} {v:V} {rd wr:List Nat} {call:Bool} {t:Nat} (st:dQ P n all o T h v g rd wr call) (d:sj o=some t):wr=[]/\call=false/\g.length=h.length/\∀ id,id∈rd->∃ i j,T t=.ptr id i j:=by
 unfold sj at d
 split at d
 .rename_i e m f
  simp at d;subst d
  cases st with
  | skip _=>exact⟨rfl,rfl,rfl,λid c=>by simp at c⟩
  | op _ a =>
   simp only[cd,f,mH] at a
   split at a
   .rename_i id i j k
    split at a
    .split at a
     .simp only[Vy] at a
      obtain⟨_,_,a⟩:=a
      simp at a
      obtain⟨_,rfl,rfl⟩:=a
      refine⟨rfl,rfl,rfl,λl c=>?_⟩
      simp at c;subst c
      exact⟨i,j,k⟩
     .simp at a
    .simp at a
   .simp only[Vy] at a
    obtain⟨_,_,a⟩:=a
    simp at a
    obtain⟨_,rfl,rfl⟩:=a
    exact⟨rfl,rfl,rfl,λid c=>by simp at c⟩
   .simp at a
  | jw _ b _=>rw[f] at b;simp at b
  | gg _ b _ _ _ _=>rw[f] at b;simp at b
  | call _ b _ _ _ _ _=>rw[f] at b;simp at b
 .simp at d
theorem vO {i t:Nat} (h:stays all i t=true):∀ o∈all.drop i,o.dst≠some t:=by
 intro o a
 have:=VU.1 h o a
 simpa using this
theorem Au {a:List (Nat × Nat)} {T:Env} {K:Prop} (b:yq a T K):∀ p∈a,iZ (T p.1) (T p.2):=by
 induction a with
 | nil=>intro p hp;simp at hp
 | cons q l c =>
  intro p hp
  rcases VJ.1 hp with rfl | hp
  .exact b.1
  .exact c b.2 p hp
theorem yq.rest {a:List (Nat × Nat)} {T:Env} {K:Prop} (b:yq a T K):K:=by
 induction a with
 | nil=>exact b
 | cons q l c=>exact c b.2
theorem qI {T l:Env} {h m:aD} {a:List Rec} (p:Tr P n all all T h a l m) {i t:Nat} {o:Oper} (j:all[i]?=some o) (q:stays all i t=true) {r:Rec} (hr:a[i]?=some r) :
  ∃ e h1 v f,dQ P n all o e h1 v f r.rd r.wr r.call/\r.lo=h1.length/\r.hi=f.length/\e t=l t:=by
 obtain⟨e,h1,v,f,rd,wr,call,k,g,s,x,u,y,z⟩:=p.at_ i o j
 rw[hr] at g
 have g:=Xw g
 subst g
 refine⟨e,h1,v,f,s,rfl,rfl,?_⟩
 have hk:=vO q
 have hi:i < all.length:=(VC.1 j).1
 have b:all[i]=o:=(VC.1 j).2
 rw[Wl hi,b] at hk
 rw[u.keep λw b=>hk w (by simp[b])]
 have:=hk o (by simp)
 cases c:o.dst with
 | none=>rfl
 | some d=>simp only[Env.put];rw[Vs];rintro rfl;exact this c
theorem zx {i a b j c d:Nat} (h:iZ (.ptr i a b) (.ptr j c d)):i≠j:=h
theorem BL {i a b j c d e:Nat} (h:iZ (.ptr i a b) (.sl j c d e)):i≠j:=h
theorem rP {o:Oper} {T:Env} {h q:aD} {v:V} {rd wr:List Nat} {call:Bool} {t:Nat} (st:dQ P n all o T h v q rd wr call) (g:pR o=some t) :
  call=false/\∀ id,id∈wr->(∃ i j,T t=.ptr id i j)∨∃ a b c,T t=.sl id a b c:=by
 unfold pR at g
 split at g
 .rename_i w m
  simp at g;subst g
  unfold kS at m
  split at m
  .rename_i ty t2 x k r
   simp at m;subst m
   cases st with
   | skip _=>exact⟨rfl,λid f=>by simp at f⟩
   | op _ d =>
    simp only[cd,k,rm] at d
    split at d
    .rename_i id i j p
     split at d
     .split at d
      .simp only[Vr,Vv] at d
       obtain⟨_,he,_⟩:=d
       rw[<-he]
       refine⟨rfl,λl f=>?_⟩
       simp[bq.wr] at f;subst f
       exact .inl ⟨i,j,p⟩
      .simp at d
     .simp at d
    .simp at d
   | jw _ e _=>rw[k] at e;simp at e
   | gg _ e _ _ _ _=>rw[k] at e;simp at e
   | call _ e _ _ _ _ _=>rw[k] at e;simp at e
  .simp at m
 .unfold MV at g
  split at g
  .rename_i args s k r
   split at g
   .rename_i t2 y u
    simp at g;subst g
    cases st with
    | skip _=>exact⟨rfl,λid f=>by simp at f⟩
    | op _ d =>
     simp only[cd,k,u] at d
     split at d
     .unfold nt at d
      split at d
      .split at d
       .simp at d
       .split at d
        .split at d <;> first | (simp only[Vr,Vv] at d;obtain⟨_,he,_⟩:=d;rw[<-he];exact⟨rfl,λl f=>by simp[bq.wr] at f⟩) | simp at d
        .split at d
         .simp at d
         .split at d
          .split at d
           .simp only[Vr,Vv] at d
            obtain⟨_,he,_⟩:=d
            rw[<-he];exact⟨rfl,λl f=>by simp[bq.wr] at f⟩
           .simp at d
          .rename_i id off len esz p
           split at d
           .split at d
            .simp only[Vr,Vv] at d
             obtain⟨_,he,_⟩:=d
             rw[<-he]
             refine⟨rfl,λl f=>?_⟩
             simp[bq.wr] at f;subst f
             exact .inr ⟨off,len,esz,p⟩
            .simp at d
           .simp at d
          .simp at d
      .simp at d
     .split at d
      .unfold rS at d
       repeat' (split at d)
       all_goals first | (simp only[Vr,Vv] at d;obtain⟨_,he,_⟩:=d;rw[<-he];exact⟨rfl,λl f=>by simp[bq.wr] at f⟩) | simp at d
      .simp at d
    | jw _ e _=>rw[k] at e;simp at e
    | gg _ e _ _ _ _=>rw[k] at e;simp at e
    | call _ e _ _ _ _ _=>rw[k] at e;simp at e
   .simp at g
  .simp at g
theorem QU {o:Oper} {T:Env} {h g:aD} {v:V} {rd wr:List Nat} {call:Bool} (st:dQ P n all o T h v g rd wr call) (b:Ia o=true):rd=[]/\wr=[]/\call=false:=by
 unfold Ia at b
 cases st with
 | skip _=>exact⟨rfl,rfl,rfl⟩
 | op _ a =>
  split at b
  .rename_i ty len parts c
   simp only[cd,c,ib] at a
   have key:∀ {x:Option (V × bq × List Nat)} {e:bq},x=some (v,e,rd)->(∀ y,x=some y->y.2.1.wr=[]/\y.2.2=[])->rd=[]/\e.wr=[]:=λf d=>⟨(d _ f).2,(d _ f).1⟩
   obtain⟨i,k2⟩:=key a (by
    intro y d
    repeat' (first | (split at d)|(simp only[Vr] at d;subst d;exact⟨rfl,rfl⟩)|(simp at d;done)))
   exact⟨i,k2,rfl⟩
  .rename_i e c
   simp only[cd,c] at a
   split at a
   .unfold lW at a
    split at a
    .simp only[Vr,Vv] at a
     obtain⟨_,he,hr⟩:=a
     rw[<-he,<-hr];exact⟨rfl,rfl,rfl⟩
    .simp at a
   .simp at a
  .simp at b
 | jw _ c _=>rw[c] at b;simp at b
 | gg _ c _ _ _ _=>rw[c] at b;simp at b
 | call _ c _ _ _ _ _=>rw[c] at b;simp at b
theorem uJ {o:Oper} {t:Nat} (h:kS o=some t):pR o=some t:=by unfold pR;rw[h]
theorem Ni {T w:Env} {h Q:aD} {l:List Rec} (u:Tr P n all all T h l w Q) {i k:Nat} {a b:Rec} {p:Nat × Nat} (hp:BG all i k=some p) (j:iZ (w p.1) (w p.2)) (N:l[i]?=some a) (O:l[k]?=some b):oG a b:=by
 unfold BG at hp
 split at hp
 .rename_i Z ob q r
  split at hp
  .rename_i s t x y
   split at hp
   .rename_i g
    simp only[VD] at g
    simp at hp;subst hp
    obtain⟨z,A,R,B,C,D,E,F⟩:=qI u q g.1 N
    obtain⟨Tb,G,S,H,I,_,_,J⟩:=qI u r g.2 O
    obtain⟨o,K,U,L⟩:=wM C x
    have j:iZ (z s) (Tb t):=by rw[F,J];exact j
    refine⟨λid f=>by simp[o] at f,λid f hr=>?_,λv=>by simp[K] at v,λ_=>o,λid _ hx=>by omega⟩
    obtain⟨V,W,M⟩:=L id hr
    rw[M] at j
    rcases (rP I (uJ y)).2 id f with ⟨c,d,m⟩ | ⟨c,d,e,m⟩
    .rw[m] at j;exact zx j rfl
    .rw[m] at j;exact BL j rfl
   .simp at hp
  .split at hp
   .rename_i t s y x
    split at hp
    .rename_i g
     simp only[VD] at g
     simp at hp;subst hp
     obtain⟨z,A,R,B,C,D,E,F⟩:=qI u q g.1 N
     obtain⟨Tb,G,S,H,I,X,Y,J⟩:=qI u r g.2 O
     obtain⟨o,K,U,L⟩:=wM I x
     have j:iZ (Tb s) (z t):=by rw[F,J];exact j
     refine⟨λid f hr=>?_,λid f=>by simp[o] at f,λv=>o,λv=>by simp[K] at v,λid f=>by simp[o] at f⟩
     obtain⟨V,W,M⟩:=L id hr
     rw[M] at j
     rcases (rP C (uJ y)).2 id f with ⟨c,d,m⟩ | ⟨c,d,e,m⟩
     .rw[m] at j;exact zx j rfl
     .rw[m] at j;exact BL j rfl
    .simp at hp
   .simp at hp
 .simp at hp
theorem LA {T w:Env} {h Q:aD} {l:List Rec} (u:Tr P n all all T h l w Q) {i k:Nat} {a b:Rec} {p:Nat × Nat} (hp:DM all i k=some p) (j:iZ (w p.1) (w p.2)) (N:l[i]?=some a) (O:l[k]?=some b):oG a b:=by
 unfold DM at hp
 split at hp
 .rename_i Z ob q r
  split at hp
  .rename_i s t x y
   split at hp
   .rename_i g
    simp only[VD] at g
    simp at hp;subst hp
    obtain⟨z,A,R,B,C,D,E,F⟩:=qI u q g.1 N
    obtain⟨Tb,G,S,H,I,_,_,J⟩:=qI u r g.2 O
    obtain⟨o,K,U,L⟩:=wM C x
    have j:iZ (z s) (Tb t):=by rw[F,J];exact j
    refine⟨λid f=>by simp[o] at f,λid f hr=>?_,λv=>by simp[K] at v,λ_=>o,λid _ hx=>by omega⟩
    obtain⟨V,W,M⟩:=L id hr
    rw[M] at j
    rcases (rP I y).2 id f with ⟨c,d,m⟩ | ⟨c,d,e,m⟩
    .rw[m] at j;exact zx j rfl
    .rw[m] at j;exact BL j rfl
   .simp at hp
  .split at hp
   .rename_i t s y x
    split at hp
    .rename_i g
     simp only[VD] at g
     simp at hp;subst hp
     obtain⟨z,A,R,B,C,D,E,F⟩:=qI u q g.1 N
     obtain⟨Tb,G,S,H,I,X,Y,J⟩:=qI u r g.2 O
     obtain⟨o,K,U,L⟩:=wM I x
     have j:iZ (Tb s) (z t):=by rw[F,J];exact j
     refine⟨λid f hr=>?_,λid f=>by simp[o] at f,λv=>o,λv=>by simp[K] at v,λid f=>by simp[o] at f⟩
     obtain⟨V,W,M⟩:=L id hr
     rw[M] at j
     rcases (rP C y).2 id f with ⟨c,d,m⟩ | ⟨c,d,e,m⟩
     .rw[m] at j;exact zx j rfl
     .rw[m] at j;exact BL j rfl
    .simp at hp
   .simp at hp
 .simp at hp
theorem Oa {l:List (Nat × Nat)} {a:List (Nat × Nat)} (h:BM all l=some a):∀ q∈l,∃ p∈a,BG all q.1 q.2=some p:=by
 induction l generalizing a with
 | nil=>intro q b;simp at b
 | cons x r d =>
  obtain⟨i,k⟩:=x
  simp only[BM] at h
  split at h
  .rename_i p j h1 f
   simp at h;subst h
   intro q b
   rcases VJ.1 b with rfl | b
   .exact⟨p,by simp,h1⟩
   .obtain⟨g,c,e⟩:=d f q b
    exact⟨g,by simp[c],e⟩
  .simp at h
theorem KX {l:List (Nat × Nat)} {a:List (Nat × Nat)} (h:uR all l=some a):∀ q∈l,∃ f,(∀ p∈f,p∈a)/\zg all q.1 q.2=some f:=by
 induction l generalizing a with
 | nil=>intro q b;simp at b
 | cons x r g =>
  obtain⟨i,k⟩:=x
  simp only[uR] at h
  split at h
  .rename_i p n h1 j
   simp at h;subst h
   intro q b
   rcases VJ.1 b with rfl | b
   .exact⟨p,λx c=>by simp[c],h1⟩
   .obtain⟨m,d,e⟩:=g j q b
    exact⟨m,λx c=>by simp[d x c],e⟩
  .simp at h
theorem MF {H:View} {x:V} {xs:List (List V)} {rd:List Nat} (h:bC H x=some (xs,rd)):∀ id,id∈rd->∃ a b c,x=.sl id a b c:=by
 unfold bC at h
 split at h
 .simp at h;obtain⟨_,rfl⟩:=h;intro id d;simp at d
 .simp at h;obtain⟨_,rfl⟩:=h;intro id d;simp at d
 .simp at h;obtain⟨_,rfl⟩:=h;intro id d;simp at d
 .simp at h;obtain⟨_,rfl⟩:=h;intro id d;simp at d
 .split at h
  .split at h
   .simp at h
    obtain⟨_,rfl⟩:=h
    intro id d
    simp at d;subst d
    exact⟨_,_,_,rfl⟩
   .simp at h
  .simp at h
 .simp at h;obtain⟨_,rfl⟩:=h;intro id d;simp at d
 .simp at h
theorem GD {o:Oper} {T:Env} {h s:aD} {v:V} {rd wr:List Nat} {call:Bool} {t y d:Nat} (st:dQ P n all o T h v s rd wr call) (l:zm o=some (t,y,d)) :
  call=false/\(∀ id,id∈wr->∃ a b c,T t=.sl id a b c)/\(∀ id,id∈rd->(∃ a b c,T t=.sl id a b c)∨∃ a b c,T y=.sl id a b c)/\(h.length < s.length->∃ a b c,v=.sl h.length a b c)/\s.length<=h.length+1/\o.dst=some d:=by
 unfold zm at l
 split at l
 .rename_i args z A r D m
  split at l
  .rename_i t2 B C
   simp at l
   obtain⟨rfl,rfl,rfl⟩:=l
   cases st with
   | skip _=>exact⟨rfl,λid g=>by simp at g,λid g=>by simp at g,λh=>by omega,by omega,m⟩
   | op _ f =>
    simp only[cd,r,C] at f
    have w:∀ {v':V} {i:bq} {k:List Nat},some (v',bq.none,([]:List Nat))=some (v,i,k)->false=false/\(∀ id,id∈i.wr->∃ a b c,T t2=.sl id a b c)/\(∀ id,id∈k->(∃ a b c,T t2=.sl id a b c)∨∃ a b c,T B=.sl id a b c)/\(h.length < (i.apply h).length->∃ a b c,v=.sl h.length a b c)/\(i.apply h).length<=h.length+1/\o.dst=some A:=by
     intro v' i k e
     simp only[Vr,Vv] at e
     obtain⟨_,rfl,rfl⟩:=e
     exact⟨rfl,λid g=>by simp[bq.wr] at g,λid g=>by simp at g,λh=>by simp[bq.apply] at h,by simp[bq.apply],m⟩
    split at f
    .unfold nt at f
     split at f
     .rename_i e xs k _ u
      have p:=MF u
      split at f
      .simp at f
      .split at f
       .split at f <;> first | exact w f | simp at f
       .split at f
        .simp at f
        .split at f
         .split at f
          .simp only[Vr,Vv] at f
           obtain⟨rfl,rfl,rfl⟩:=f
           exact⟨rfl,λid g=>by simp[bq.wr] at g,λid g=>.inr (p id g),λ_=>⟨_,_,_,rfl⟩,by simp[bq.apply],m⟩
          .simp at f
         .rename_i id off len esz x
          split at f
          .split at f
           .simp only[Vr,Vv] at f
            obtain⟨rfl,rfl,rfl⟩:=f
            refine⟨rfl,λq g=>?_,λq g=>?_,λ_=>⟨_,_,_,rfl⟩,by simp[bq.apply],m⟩
            .simp[bq.wr] at g;subst g
             exact⟨off,len,esz,x⟩
            .rcases VJ.1 g with rfl | g
             .exact .inl ⟨off,len,esz,x⟩
             .exact .inr (p q g)
           .simp at f
          .simp at f
         .simp at f
     .simp at f
    .split at f
     .unfold rS at f
      split at f
      .split at f
       .split at f
        .exact w f
        .split at f
         .simp only[Vr,Vv] at f
          obtain⟨rfl,rfl,rfl⟩:=f
          exact⟨rfl,λid g=>by simp[bq.wr] at g,λid g=>by simp at g,λ_=>⟨_,_,_,rfl⟩,by simp[bq.apply],m⟩
         .simp at f
       .simp at f
      .simp at f
     .simp at f
   | jw _ j _=>rw[r] at j;simp at j
   | gg _ j _ _ _ _=>rw[r] at j;simp at j
   | call _ j _ _ _ _ _=>rw[r] at j;simp at j
  .simp at l
 .simp at l
theorem OO {T j:Env} {h q:aD} {a:List Rec} (s:Tr P n all all T h a j q) {i:Nat} {o:Oper} (k:all[i]?=some o) {r:Rec} (hr:a[i]?=some r) :
  ∃ e h1 v f,dQ P n all o e h1 v f r.rd r.wr r.call/\r.lo=h1.length/\r.hi=f.length/\(∀ t,stays all i t=true->e t=j t)/\∀ d,o.dst=some d->stays all (i+1) d=true->j d=v:=by
 obtain⟨e,h1,v,f,rd,wr,call,l,g,u,y,p,z,A⟩:=s.at_ i o k
 rw[hr] at g
 have g:=Xw g
 subst g
 refine⟨e,h1,v,f,u,rfl,rfl,λt m=>?_,λd w m=>?_⟩
 .have hk:=vO m
  have hi:i < all.length:=(VC.1 k).1
  have b:all[i]=o:=(VC.1 k).2
  rw[Wl hi,b] at hk
  rw[p.keep λx b=>hk x (by simp[b])]
  have:=hk o (by simp)
  cases c:o.dst with
  | none=>rfl
  | some d=>simp only[Env.put];rw[Vs];rintro rfl;exact this c
 .rw[p.keep (vO m),w]
  simp[Env.put]
theorem yl {i a b c j d e f:Nat} (h:iZ (.sl i a b c) (.sl j d e f)):i≠j:=h
theorem L7 {T r:Env} {h E:aD} {c:List Rec} (A:Tr P n all all T h c r E) {i k:Nat} {a b:Rec} {B:List (Nat × Nat)} (hp:Du all i k=some B) (o:∀ p∈B,iZ (r p.1) (r p.2)) (F:c[i]?=some a) (G:c[k]?=some b):oG a b:=by
 unfold Du at hp
 split at hp
 .rename_i oa ob s u
  split at hp
  .rename_i t y d g C d' h1 H
   split at hp
   .rename_i l
    simp only[VD] at l
    obtain⟨⟨⟨⟨s1,s2⟩,I⟩,v⟩,J⟩:=l
    simp at hp;subst hp
    have j:=o (t,g) (by simp)
    have a2:=o (t,C) (by simp)
    have a3:=o (g,y) (by simp)
    have a4:=o (d,g) (by simp)
    simp only at j a2 a3 a4
    obtain⟨Ta,w,va,K,L,M,N,x,z⟩:=OO A s F
    obtain⟨Tb,O,vb,Q,R,_,_,q,_⟩:=OO A u G
    obtain⟨S,U,V,W,p5,X⟩:=GD L h1
    obtain⟨Y,D,Z,_⟩:=GD R H
    have z:=z d X I
    rw[<-x t s1,<-q g v] at j
    rw[<-x t s1,<-q C J] at a2
    rw[<-q g v,<-x y s2] at a3
    rw[z,<-q g v] at a4
    refine⟨λid f hr=>?_,λid f hr=>?_,λm=>by rw[S] at m;simp at m,λm=>by rw[Y] at m;simp at m,λid f hx=>?_⟩
    .obtain⟨_,_,_,e⟩:=U id f
     rcases Z id hr with ⟨_,_,_,e'⟩ | ⟨_,_,_,e'⟩
     .rw[e,e'] at j;exact yl j rfl
     .rw[e,e'] at a2;exact yl a2 rfl
    .obtain⟨_,_,_,e⟩:=D id f
     rcases V id hr with ⟨_,_,_,e'⟩ | ⟨_,_,_,e'⟩
     .rw[e',e] at j;exact yl j rfl
     .rw[e,e'] at a3;exact yl a3 rfl
    .obtain⟨_,_,_,e⟩:=D id f
     obtain⟨_,_,_,e'⟩:=W (by omega)
     have:id=w.length:=by omega
     subst this
     rw[e,e'] at a4;exact yl a4 rfl
   .simp at hp
  .simp at hp
 .simp at hp
theorem LW {T d:Env} {h m:aD} {c:List Rec} (e:Tr P n all all T h c d m) {i k:Nat} {a b:Rec} {f:List (Nat × Nat)} (hp:zg all i k=some f) (g:∀ p∈f,iZ (d p.1) (d p.2)) (j:c[i]?=some a) (l:c[k]?=some b):oG a b:=by
 unfold zg at hp
 split at hp
 .rename_i p h1
  simp at hp;subst hp
  exact LA e h1 (g p (by simp)) j l
 .exact L7 e hp g j l
theorem QB {ls:List Nat} {d:List Rec} {T o:Env} {hp q:aD} {j:List (Nat × Nat)} (v:Tr P n all all T hp d o q) (h:BM all (kN all ls)=some j) (z:∀ p∈j,iZ (o p.1) (o p.2)) (D:ls.length=d.length)
  (hr:∀ (i x:Nat) (r:Rec),ls[i]?=some x->d[i]?=some r->kM x r.rd r.wr r.call r.lo r.hi):tZ all d:=by
 intro i k a b s l m A
 have hi:i < d.length:=(VC.1 l).1
 have hk:k < d.length:=(VC.1 m).1
 have w:=hr i _ a (Vq (by omega)) l
 have y:=hr k _ b (Vq (by omega)) m
 have B:(ls[i]'(by omega),i)∈ls.zipIdx:=by rw[Wk];simp[Vq (show i < ls.length by omega)]
 have mk:(ls[k]'(by omega),k)∈ls.zipIdx:=by rw[Wk];simp[Vq (show k < ls.length by omega)]
 by_cases h1:yC all (ls[i]'(by omega)) i (ls[k]'(by omega)) k=true
 .unfold yC at h1
  simp only[s,decide_true,Xq,A,Xy,Xb,Wn,VD,VH] at h1
  rcases h1 with ((h1 | h1) | h1) | h1
  .obtain⟨g,f,t,C⟩:=w.1 h1
   exact⟨λid c=>by simp[f] at c,λid _=>by simp[g],λu=>by simp[t] at u,λ_=>f,λid _ E=>by omega⟩
  .obtain⟨g,f,t,C⟩:=y.1 h1
   exact⟨λid _=>by simp[g],λid c=>by simp[f] at c,λ_=>f,λu=>by simp[t] at u,λid c=>by simp[f] at c⟩
  .have g:=w.2 h1.1
   have f:=y.2 h1.2
   exact⟨λid c=>by simp[g] at c,λid c=>by simp[f] at c,λ_=>f,λ_=>g,λid c=>by simp[f] at c⟩
  .exact wh v h1 l m
 .have hm:(i,k)∈kN all ls:=by
   unfold kN
   rw[List.mem_flatMap]
   refine⟨_,B,?_⟩
   rw[WH]
   exact⟨_,mk,by simp only;rw[Vs h1]⟩
  obtain⟨p,hp,e⟩:=Oa h (i,k) hm
  exact Ni v e (z p hp) l m
theorem DV {P:Program} {t:TypeId} {id:Nat} {q:V} {ok:Bool} {H1 a:View} (h:H1 id=a id):fc P t (.mp id) q ok H1=fc P t (.mp id) q ok a:=by
 unfold fc
 simp only[h]
theorem Lf {P:Program} {t:TypeId} {id:Nat} {q:V} {H1 a:View} (h:H1 id=a id):en P t (.mp id) q H1=en P t (.mp id) q a:=by
 cases hm:er P t with
 | none=>simp only[en,hm]
 | some x=>simp only[en,hm,h]
theorem PA {P:Program} {t:TypeId} {id:Nat} {q:V} {H:View} {v:V} {eff:bq} {rd:List Nat} (h:fc P t (.mp id) q false H=some (v,eff,rd)):eff=.none/\rd=[id]:=by
 simp only[fc,VR,if_false] at h
 repeat' (first | (simp only[Vr,Vv] at h;exact⟨h.2.1.symm,h.2.2.symm⟩)|(split at h)|(simp at h;done))
theorem MY {P:Program} {t:TypeId} {id:Nat} {q:V} {H:View} {v:V} {eff:bq} {rd:List Nat} (h:en P t (.mp id) q H=some (v,eff,rd)):∃ obj,eff=.fe id obj:=by
 cases hm:er P t with
 | none=>simp[en,hm] at h
 | some x =>
  simp only[en,hm] at h
  repeat' (first | (simp only[Vr,Vv] at h;exact⟨_,h.2.1.symm⟩)|(split at h)|(simp at h;done))
theorem GL {o:Oper} {T:Env} {h f:aD} {v:V} {rd wr:List Nat} {call:Bool} (st:dQ P n all o T h v f rd wr call) (i:dy n all T o=some true) (j:∀ e x,o.op≠.box e x) (k:∀ s d x,o.op≠.convert s d x) (l:∀ c,o.op≠.call c) :
  ∃ eff,cd P o T h.view h.length=some (v,eff,rd)/\f=eff.apply h/\wr=eff.wr/\call=false:=by
 cases st with
 | skip g=>rw[i] at g;simp at g
 | op _ b=>exact⟨_,b,rfl,rfl,rfl⟩
 | jw _ a _=>exact absurd a (j _ _)
 | gg _ a _ _ _ _=>exact absurd a (k _ _ _)
 | call _ a _ _ _ _ _=>exact absurd a (l _)
theorem RE {a:List Rec} {f:Nat->Env} {b:Nat->aD} {vs:Nat->V} (d:An P n all a f b vs) (i:a.length=all.length) {k:Nat} (hk:k<=all.length) (hw:∀ j r,j < k->a[j]?=some r->r.wr=[]) :
  ∀ j,j<=k->(b 0).length<=(b j).length/\∀ id,id < (b 0).length->(b j).view id=(b 0).view id:=by
 intro j
 induction j with
 | zero=>intro _;exact⟨VA _,λ_ _=>rfl⟩
 | succ j g =>
  intro l
  obtain⟨e,h⟩:=g (by omega)
  obtain⟨st,_,_,_,_⟩:=d j all[j] (a[j]'(by omega)) (Vq (by omega)) (Vq (by omega))
  refine⟨Wf e (tU st),λid c=>?_⟩
  rw[rX st (VY c e) (by rw[hw j _ (by omega) (Vq (by omega))];simp)]
  exact h id c
theorem qd {a:List Rec} {b:Nat->Env} {e:Nat->aD} {vs:Nat->V} (c:An P n all a b e vs) (m:a.length=all.length) {i t:Nat} (h:stays all i t=true):∀ j,i<=j->j<=all.length->b j t=b i t:=by
 intro j d f
 refine zf (vs:=vs) (N:=all.length) (λk o hk=>?_) rfl i j d f λk o h1 p g=>vO h o (by
  rw[List.mem_iff_getElem?]
  exact⟨k - i,by rw[Xu,show i+(k - i)=k by omega];exact g⟩)
 have l:k < all.length:=(VC.1 hk).1
 exact(c k o (a[k]'(by omega)) hk (Vq (by omega))).2.2.1
theorem Gi {ls:List Nat} {d:List Rec} {T I:Env} {hp a8:aD} {W:List (Nat × Nat)} {tp:Option (Nat × Nat)} (tr:Tr P n all all T hp d I a8) (h:uR all (FJ all ls tp)=some W) (hA:∀ p∈W,iZ (I p.1) (I p.2)) (hl:ls.length=d.length)
  (hr:∀ (i x:Nat) (r:Rec),ls[i]?=some x->d[i]?=some r->kM x r.rd r.wr r.call r.lo r.hi) (X:∀ p,tp=some p->∃ D,Fu all ls p.1 p.2=some D/\Ho P D.1 (I D.2.1) (I D.2.2) hp.view):KU P n all d T I hp:=by
 have main:∀ i k a b,i < k->d[i]?=some a->d[k]?=some b->ordered (fE all []) i k=false->tp≠some (i,k)->oG a b:=by
  intro i k a b K V S ho bd
  have hi:i < d.length:=(VC.1 V).1
  have hk:k < d.length:=(VC.1 S).1
  have la:=hr i _ a (Vq (by omega)) V
  have lb:=hr k _ b (Vq (by omega)) S
  have mi:(ls[i]'(by omega),i)∈ls.zipIdx:=by rw[Wk];simp[Vq (show i < ls.length by omega)]
  have mk:(ls[k]'(by omega),k)∈ls.zipIdx:=by rw[Wk];simp[Vq (show k < ls.length by omega)]
  by_cases h1:yC all (ls[i]'(by omega)) i (ls[k]'(by omega)) k=true
  .unfold yC at h1
   simp only[K,decide_true,Xq,ho,Xy,Xb,Wn,VD,VH] at h1
   rcases h1 with ((h1 | h1) | h1) | h1
   .obtain⟨y,s,Y,e4⟩:=la.1 h1
    exact⟨λid c=>by simp[s] at c,λid _=>by simp[y],λZ=>by simp[Y] at Z,λ_=>s,λid _ hx=>by omega⟩
   .obtain⟨y,s,Y,e4⟩:=lb.1 h1
    exact⟨λid _=>by simp[y],λid c=>by simp[s] at c,λ_=>s,λZ=>by simp[Y] at Z,λid c=>by simp[s] at c⟩
   .have y:=la.2 h1.1
    have s:=lb.2 h1.2
    exact⟨λid c=>by simp[y] at c,λid c=>by simp[s] at c,λ_=>s,λ_=>y,λid c=>by simp[s] at c⟩
   .exact wh tr h1 V S
  .have hm:(i,k)∈kN all ls:=by
    unfold kN
    rw[List.mem_flatMap]
    refine⟨_,mi,?_⟩
    rw[WH]
    exact⟨_,mk,by simp only;rw[Vs h1]⟩
   by_cases hn:newAt all k=true
   .unfold newAt at hn
    split at hn
    .rename_i ob L
     obtain⟨T1,cI,v,J,rd,wr,call,bl,y,s,_⟩:=tr.at_ k ob L
     rw[S] at y
     have y:=Xw y
     subst y
     obtain⟨n1,n2,n3⟩:=QU s hn
     exact⟨λid _=>by simp[n1],λid c=>by simp[n2] at c,λ_=>n2,λZ=>by simp[n3] at Z,λid c=>by simp[n2] at c⟩
    .simp at hn
   .obtain⟨p,hp,e⟩:=KX h (i,k) (by
     unfold FJ
     rw[Wx]
     refine⟨hm,?_⟩
     simp only[VD,Xn,bne_iff_ne,ne_eq]
     exact⟨by simpa using hn,bd⟩)
    exact LW tr e (λq hq=>hA q (hp q hq)) V S
 cases tp with
 | none=>exact tZ.Uk λi k a b h1 J h3 h4=>main i k a b h1 J h3 h4 (by simp)
 | some p =>
  obtain⟨i0,C⟩:=p
  obtain⟨D,f,u⟩:=X _ rfl
  intro M hs vs cN N ab E w i
  by_cases hi:i=i0
  .subst hi
   refine⟨some C,λk a b h1 J h3 h4 h5=>main i k a b h1 J h3 h4 (λe=>h5 (by simp at e;rw[e])),λk a b o hk V S ho=>?_⟩
   simp at hk;subst hk
   unfold Fu at f
   simp only at f
   split at f
   .rename_i oa ob O L
    rw[ho] at O
    have O:=Xw O
    subst O
    split at f
    .rename_i t m q t' m' q' l z bn br
     split at f
     .rename_i F
      simp only[VD,Wn,VH,VU,Wy] at F
      obtain⟨⟨⟨⟨⟨⟨⟨⟨rfl,rfl⟩,rfl⟩,s1⟩,s2⟩,s3⟩,s4⟩,K⟩,U⟩:=F
      simp only[Vr] at f
      subst f
      simp only at u
      have bs:C < all.length:=(VC.1 L).1
      have bx:∀ j r,j < C->d[j]?=some r->r.wr=[]:=λj r hj b0=>by
       have h1:=U j hj
       have an:j < ls.length:=by omega
       rw[Vp,Vq an] at h1
       exact(hr j _ r (Vq an) b0).2 h1
      have G:=RE w E (Nat.le_of_lt bs) bx
      have em:∀ j,i<=j->j<=all.length->M j m=I m:=λj h1 J=>by
       rw[<-ab,qd w E s1 j h1 J,qd w E s1 all.length (by omega) (VA _)]
      have eq:∀ j,i<=j->j<=all.length->M j q=I q:=λj h1 J=>by
       rw[<-ab,qd w E s2 j h1 J,qd w E s2 all.length (by omega) (VA _)]
      obtain⟨b1,_,_,b2,b7⟩:=w i o a ho V
      obtain⟨b8,_,_,_,_⟩:=w C ob b L S
      have gi:dy n all (M i) o=some true:=by unfold dy;rw[bn]
      have gk:dy n all (M C) ob=some true:=by unfold dy;rw[br]
      unfold Ho at u
      split at u
      .rename_i id c
       obtain⟨⟨cS,c0,H⟩,u⟩:=u
       have Q:id < hp.length:=ij (by rw[H];simp)
       have aq:(hs C).view id=hp.view id:=by rw[(G C (VA _)).2 id (by rw[N];exact Q),N]
       have ar:(hs i).view id=hp.view id:=by rw[(G i (Nat.le_of_lt K)).2 id (by rw[N];exact Q),N]
       obtain⟨cA,A,b9,cc,cf⟩:=GL b1 gi (by rw[l];simp) (by rw[l];simp) (by rw[l];simp)
       obtain⟨cC,B,ch,cj,cV⟩:=GL b8 gk (by rw[z];simp) (by rw[z];simp) (by rw[z];simp)
       simp only[cd,l] at A
       simp only[cd,z] at B
       have y:ev (M i) (.tmp m)=.mp id:=(em i (VA _) (by omega)).trans c
       have s:ev (M i) (.tmp q)=I q:=eq i (VA _) (by omega)
       have Y:ev (M C) (.tmp m)=.mp id:=(em C (by omega) (by omega)).trans c
       have e4:ev (M C) (.tmp q)=I q:=eq C (by omega) (by omega)
       rw[y,s] at A
       rw[Y,e4,Lf aq] at B
       obtain⟨l1,l2⟩:=PA A
       obtain⟨obj,l3⟩:=MY B
       subst l1 l3
       have ck:(hs (C+1)).view id=obj:=by
        rw[ch,lj (λc3 R=>by
         simp only[bq.wr,Wu] at R
         subst R
         rw[aq,H];simp)]
        simp[bq.view,View.set]
       refine⟨K,cc,cf,by rw[b2,b7,b9];rfl,λg hg cu=>?_⟩
       have a1:id < (hs i).length:=ij (by rw[ar,H];simp)
       have a6:g.view id=(hp.view.set id obj) id:=by
        rw[cu id a1,cj,Vu (by simp[bq.wr]),ck]
        simp[View.set]
       have cv:=u _ _ _ B
       have a7:cd P o (M i) g.view g.length=some (vs i,.none,a.rd):=by
        simp only[cd,l]
        rw[y,s,DV a6,cv,<-DV ar]
        exact A
       exact .op gi a7
      .exact u.elim
     .simp at f
    .simp at f
   .simp at f
  .exact⟨none,λk a b h1 J h3 h4 _=>main i k a b h1 J h3 h4 (λe=>hi (by simp at e;exact e.1.symm)),λk a b o h1=>by simp at h1⟩
theorem PH (hm:P.follows .mixedOrders=true) {p:Fz} {id:Nat} {ops:Array Oper} {q:SC} {T:Env} {h:aD} {Q:Exit->Env->View->Prop} (a:Bc P n p ops.toList=some q) (hw:wS P q T h.view Q) :
  ∃ e g d,c8 P n (.region id ops true) T h e g d/\(jh h d/\h.length<=d.length)/\Q e g d.view:=by
 unfold Bc at a
 split at a
 .simp at a
 .rename_i l v
  split at a
  .simp at a
  .rename_i b
   have b:(group l).all tS=true:=by simpa using b
   have j:dF P n ops.toList p ops.toList=some (kG (group l)):=by rw[gB];exact v
   split at a
   .rename_i w
    simp only[Vy] at a
    obtain⟨y,k,rfl⟩:=a
    obtain⟨f,g,d,t,m,hk,c⟩:=yy (group l) ops.toList T h j b hw
    rw[gB] at c
    refine⟨.normal,g,d,?_,m,hk.rest⟩
    have o:tZ ops.toList f:=QB t k (Au hk) (by simpa using c.1) (λi x r u hr=>by
     simp only[Vt,Vy] at u
     obtain⟨s,z,rfl⟩:=u
     exact c.2 i s r z hr)
    simpa using yG hm (id:=id) t w o
   .simp at a
theorem Qu (hm:P.follows .mixedOrders=true) {A:Fz} {id:Nat} {ops:Array Oper} {B:SC} {T:Env} {h:aD} {Q:Exit->Env->View->Prop} (b:Bj P n A ops.toList=some B) (hw:wS P B T h.view Q) :
  ∃ e k d,c8 P n (.region id ops true) T h e k d/\(jh h d/\h.length<=d.length)/\Q e k d.view:=by
 unfold Bj at b
 split at b
 .simp at b
 .rename_i l D
  split at b
  .simp at b
  .rename_i c
   have c:(group l).all tS=true:=by simpa using c
   have m:dF P n ops.toList A ops.toList=some (kG (group l)):=by rw[gB];exact D
   split at b
   .rename_i C
    split at b
    .simp only[Vy] at b
     obtain⟨v,f,rfl⟩:=b
     obtain⟨o,k,d,q,g,hk,a⟩:=yy (group l) ops.toList T h m c hw
     rw[gB] at a
     refine⟨.normal,k,d,?_,g,hk.rest⟩
     have j:=Gi q f (Au hk) (by simpa using a.1) (λi x r t hr=>by
      simp only[Vt,Vy] at t
      obtain⟨s,w,rfl⟩:=t
      exact a.2 i s r w hr) (λp hp=>by simp at hp)
     simpa using wP hm (id:=id) q C j
    .rename_i p hp
     split at b
     .rename_i y z
      simp only[Vy] at b
      obtain⟨v,f,rfl⟩:=b
      obtain⟨o,k,d,q,g,hk,a⟩:=yy (group l) ops.toList T h m c hw
      rw[gB] at a
      refine⟨.normal,k,d,?_,g,hk.2.rest⟩
      have j:=Gi q f (Au hk.2) (by simpa using a.1) (λi x r t hr=>by
       simp only[Vt,Vy] at t
       obtain⟨s,w,rfl⟩:=t
       exact a.2 i s r w hr) (λE u=>by
        simp only[Vr] at u
        subst u
        exact⟨y,z,hk.1⟩)
      simpa using wP hm (id:=id) q C j
     .simp at b
   .simp at b
theorem sU (hm:P.follows .mixedOrders=true) {u:Fz} {id:Nat} {ops:Array Oper} {draw quiet:Bool} {v:SC} {T:Env} {h:aD} {Q:Exit->Env->View->Prop} (a:rR P n u ops.toList draw quiet=some v) (hw:wS P v T h.view Q) :
  ∃ e d c,c8 P n (.region id ops draw) T h e d c/\(jh h c/\h.length<=c.length)/\Q e d c.view:=by
 unfold rR at a
 split at a
 .simp at a
 .rename_i l y
  split at a
  .simp at a
  .rename_i f
   have f:(group l).all tS=true:=by simpa using f
   have m:dF P n ops.toList u ops.toList=some (kG (group l)):=by rw[gB];exact y
   have key:xk P quiet (group l) T h.view (Q .normal)->(draw=true->l8 ops.toList=true/\FD ops.toList (l.map λs=>ja P quiet s.b)=true) ->
     ∃ e d c,c8 P n (.region id ops draw) T h e d c/\(jh h c/\h.length<=c.length)/\Q e d c.view:=by
    intro hw o
    obtain⟨j,d,c,p,q,hk,g⟩:=yy (group l) ops.toList T h m f hw
    rw[gB] at g
    refine⟨.normal,d,c,?_,q,hk⟩
    cases k:draw with
    | false=>simpa using HI (id:=id) p
    | true =>
     obtain⟨h1,z⟩:=o k
     have t:tZ ops.toList j:=Qx p z (by simpa using g.1) (λi x r w hr=>by
      simp only[Vt,Vy] at w
      obtain⟨s,A,rfl⟩:=w
      exact g.2 i s r A hr)
     simpa using yG hm (id:=id) p h1 t
   split at a
   .rename_i k
    split at a
    .rename_i B
     simp at a;subst a
     exact key hw (λ_=>by simpa using B)
    .simp at a
   .rename_i k
    simp at a;subst a
    exact key hw (λe=>absurd e k)
theorem fk {a b:Option SC} {c:SC} (h:orElse' a b=some c):a=some c∨b=some c:=by
 cases a with
 | none=>exact .inr h
 | some x=>exact .inl h
theorem NC (hm:P.follows .mixedOrders=true) {k:List Nat} {id:Nat} {ops:Array Oper} {draw:Bool} {i:SC} {T:Env} {h:aD} {Q:Exit->Env->View->Prop} (c:Bg P n k ops.toList draw=some i) (hw:wS P i T h.view Q) :
  ∃ e j b,c8 P n (.region id ops draw) T h e j b/\(jh h b/\h.length<=b.length)/\Q e j b.view:=by
 unfold Bg at c
 rcases fk c with h1 | h1
 .exact sU hm h1 hw
 .clear c
  split at h1
  .rename_i l
   subst l
   rcases fk h1 with a | h1
   .split at a
    .exact Qu hm a hw
    .simp at a
   rcases fk h1 with a | h1
   .split at a
    .exact sU hm a hw
    .simp at a
   rcases fk h1 with d | d
   .exact PH hm d hw
   .rcases fk d with f | f
    .exact sU hm f hw
    .rcases fk f with g | g
     .exact sU hm g hw
     .exact sU hm g hw
  .simp at h1
theorem E8 {e:Exit} {a b:Prop} (h:zT e a b):(e=.normal/\a)∨(e≠.normal/\b):=by
 cases e with
 | normal=>exact .inl ⟨rfl,h⟩
 | _=>exact .inr ⟨by simp,h⟩
def rY (P:Program) (n:Nat) (fz:List Nat) (c:Code):Prop:=∀ sc:SC,di P n fz c=some sc->∀ (T:Env) (h:aD) (Q:Exit->Env->View->Prop),wS P sc T h.view Q ->
 ∃ e T' h',c8 P n c T h e T' h'/\(jh h h'/\h.length<=h'.length)/\Q e T' h'.view
theorem EZ {b:List Nat} : rY P n b .skip:=by
 intro c a T h Q hw;simp[di] at a;subst a;exact⟨_,T,h,.skip,⟨.refl _,VA _⟩,hw⟩
theorem Im {g:List Nat} {x y:Code} (i:rY P n g x) (j:rY P n g y):rY P n g (.seq x y):=by
 intro u c T h Q hw
 simp only[di] at c
 split at c
 .rename_i a b h1 q
  simp at c;subst c
  simp only[wS] at hw
  obtain⟨e,o,d,p,st1,f⟩:=i a h1 T h _ hw
  rcases E8 f with ⟨rfl,f⟩ | ⟨k,f⟩
  .obtain⟨r,s,l,t,st2,m⟩:=j b q o d _ f
   exact⟨r,s,l,p.seq t,⟨st1.1.trans st2.1 st1.2,Wf st1.2 st2.2⟩,m⟩
  .exact⟨e,o,d,p.Kr k,st1,f⟩
 .simp at c
theorem oe {b:Fz} {ops:List Oper} {draw quiet:Bool} {a:SC} (h:rR P n b ops draw quiet=some a) (l:Nat):n0 a l=none:=by
 unfold rR at h
 repeat' (first | (simp only[Vr] at h;subst h;rfl)|(split at h)|(simp at h;done))
theorem Lg {b:Fz} {ops:List Oper} {a:SC} (h:Bc P n b ops=some a) (l:Nat):n0 a l=none:=by
 unfold Bc at h
 repeat' (first | (simp only[Vy] at h;obtain⟨_,_,rfl⟩:=h;rfl)|(split at h)|(simp at h;done))
theorem Ll {b:Fz} {ops:List Oper} {a:SC} (h:Bj P n b ops=some a) (l:Nat):n0 a l=none:=by
 unfold Bj at h
 repeat' (first | (simp only[Vy] at h;obtain⟨_,_,rfl⟩:=h;rfl)|(split at h)|(simp at h;done))
theorem Lw {f:List Nat} {ops:List Oper} {draw:Bool} {e:SC} (h:Bg P n f ops draw=some e) (l:Nat):n0 e l=none:=by
 unfold Bg at h
 rcases fk h with h1 | h1
 .exact oe h1 l
 .split at h1
  .rcases fk h1 with a | h1
   .split at a
    .exact Ll a l
    .simp at a
   rcases fk h1 with a | h1
   .split at a
    .exact oe a l
    .simp at a
   rcases fk h1 with b | b
   .exact Lg b l
   .rcases fk b with c | c
    .exact oe c l
    .rcases fk c with d | d
     .exact oe d l
     .exact oe d l
  .simp at h1
theorem Nl {j:List Nat} : ∀ (c:Code) (f:SC),di P n j c=some f->∀ l,match findLabel c l with
  | some rest=>∃ r,n0 f l=some r/\di P n j rest=some r
  | none=>n0 f l=none:=by
 intro c
 induction c with
 | seq x y h i =>
  intro f d l
  simp only[di] at d
  split at d
  .rename_i a b h1 k
   simp at d;subst d
   have g:=h a h1 l
   have p:=i b k l
   simp only[findLabel,n0]
   cases m:findLabel x l with
   | some rx =>
    rw[m] at g
    obtain⟨r,q,s⟩:=g
    exact⟨.seq r b,by rw[q],by simp only[di,s,k]⟩
   | none =>
    rw[m] at g
    simp only at g ⊢
    rw[g]
    exact p
  .simp at d
 | label o =>
  intro f d l
  simp[di] at d;subst d
  simp only[findLabel,n0]
  by_cases e:(o == l)=true
  .rw[Vu e];exact⟨.skip,by rw[Vu e],by simp[di]⟩
  .rw[Vs e];simp only;rw[Vs e]
 | region id ops draw=>intro f d l;simp only[di] at d;simp only[findLabel];exact Lw d l
 | cond x y z _ _ =>
  intro f d l
  simp only[di] at d
  split at d
  .simp at d;subst d;rfl
  .simp at d
 | block id c _=>intro f d l;simp only[di,Vy] at d;obtain⟨_,_,rfl⟩:=d;rfl
 | loop c _=>intro f d l;simp only[di,Vy] at d;obtain⟨_,_,rfl⟩:=d;rfl
 | scope c _ =>
  intro f d l
  simp only[di] at d
  split at d
  .split at d
   .simp only[Vy] at d;obtain⟨_,_,rfl⟩:=d;rfl
   .simp at d
  .simp at d
 | skip=>intro f d l;simp[di] at d;subst d;rfl
 | exit id=>intro f d l;simp[di] at d;subst d;rfl
 | ret=>intro f d l;simp[di] at d;subst d;rfl
 | goto o=>intro f d l;simp[di] at d;subst d;rfl
 | _=>intro f d;simp[di] at d
theorem L9 {v:List Nat} {c:Code} (F:rY P n v c) (hr:∀ l rest,findLabel c l=some rest->rY P n v rest):rY P n v (.scope c):=by
 intro J d T h Q hw
 simp only[di] at d
 split at d
 .rename_i a h1
  split at d
  .rename_i l L
   simp only[Vy] at d
   obtain⟨r,w,rfl⟩:=d
   have j:=Nl c a h1 l
   cases m:findLabel c l with
   | none=>rw[m] at j;simp only at j;rw[j] at w;simp at w
   | some rest =>
    rw[m] at j
    obtain⟨M,t,o⟩:=j
    rw[w] at t
    have t:=Xw t
    subst t
    simp only[wS] at hw
    obtain⟨I,K,x,y⟩:=hw
    have go:∀ k T (h:aD),I k T h.view->∃ e E u,rO P n c rest T h e E u/\(jh h u/\h.length<=u.length)/\Q e E u.view:=by
     intro k
     induction k using Nat.strongRecOn with
     | ind k z =>
      intro T h G
      obtain⟨e,p,b,q,st1,s⟩:=hr l rest m r o T h _ (y k T h.view G)
      cases e with
      | goto H =>
       obtain⟨rfl,A,B,f⟩:=s
       obtain⟨o,C,g,D,st2,i⟩:=z A B p b f
       exact⟨o,C,g,rO.jump q m D,⟨st1.1.trans st2.1 st1.2,Wf st1.2 st2.2⟩,i⟩
      | _=>exact⟨_,p,b,.out q rfl,st1,s⟩
    obtain⟨e,p,b,q,st1,s⟩:=F a h1 T h _ x
    cases e with
    | goto H =>
     obtain⟨rfl,A,_,f⟩:=s
     obtain⟨o,C,g,D,st2,i⟩:=go A p b f
     exact⟨o,C,g,.scope (rO.jump q m D),⟨st1.1.trans st2.1 st1.2,Wf st1.2 st2.2⟩,i⟩
    | _=>exact⟨_,p,b,.scope (.out q rfl),st1,s⟩
  .simp at d
 .simp at d
theorem Qi (hm:P.follows .mixedOrders=true) {E:List Nat} : ∀ c:Code,rY P n E c/\∀ l rest,findLabel c l=some rest->rY P n E rest:=by
 intro c
 induction c with
 | skip=>exact⟨EZ,λl rest h=>by simp[findLabel] at h⟩
 | region id ops draw=>exact⟨λp d T h Q hw=>NC hm d hw,λl rest h=>by simp[findLabel] at h⟩
 | seq x y o g =>
  refine⟨Im o.1 g.1,λl rest h=>?_⟩
  simp only[findLabel] at h
  split at h
  .rename_i r hr
   simp only[Vr] at h;subst h
   exact Im (o.2 _ _ hr) g.1
  .exact g.2 _ _ h
 | cond c x y o g =>
  refine⟨?_,λl rest h=>by simp[findLabel] at h⟩
  intro p d T h Q hw
  simp only[di] at d
  split at d
  .rename_i a b h1 H
   simp at d;subst d
   simp only[wS] at hw
   split at hw
   .rename_i t u
    have F:tA (SX.of c) t T=T:=by
     unfold tA
     split
     .rename_i k hk
      rw[hk] at u
      exact AO u
     .rfl
    rw[SX.cO] at u
    cases t with
    | true =>
     have:=hw.1 rfl
     rw[F] at this
     obtain⟨e,j,f,m,st,i⟩:=o.1 a h1 T h Q this
     exact⟨e,j,f,.cond u m,st,i⟩
    | false =>
     have:=hw.2 rfl
     rw[F] at this
     obtain⟨e,j,f,m,st,i⟩:=g.1 b H T h Q this
     exact⟨e,j,f,.cond u m,st,i⟩
   .exact hw.elim
  .simp at d
 | block id c s =>
  refine⟨?_,λl rest h=>by simp[findLabel] at h⟩
  intro p d T h Q hw
  simp only[di,Vy] at d
  obtain⟨a,h1,rfl⟩:=d
  simp only[wS] at hw
  obtain⟨e,j,f,m,st,i⟩:=s.1 a h1 T h _ hw
  exact⟨_,j,f,m.block,st,i⟩
 | loop c s =>
  refine⟨?_,λl rest h=>by simp[findLabel] at h⟩
  intro p d T h Q hw
  simp only[di,Vy] at d
  obtain⟨a,h1,rfl⟩:=d
  simp only[wS] at hw
  obtain⟨I,⟨k,hk⟩,q⟩:=hw
  have go:∀ k T (h:aD),I k T h.view->∃ e j f,qi P n c T h e j f/\(jh h f/\h.length<=f.length)/\Q e j f.view:=by
   intro k
   induction k using Nat.strongRecOn with
   | ind k w =>
    intro T h J
    obtain⟨e,G,v,m,st1,i⟩:=s.1 a h1 T h _ (q k T h.view J)
    rcases E8 i with ⟨rfl,K,z,A⟩ | ⟨B,i⟩
    .obtain⟨L,M,C,N,st2,D⟩:=w K z G v A
     exact⟨L,M,C,.step m N,⟨st1.1.trans st2.1 st1.2,Wf st1.2 st2.2⟩,D⟩
    .exact⟨e,G,v,.out m B,st1,i⟩
  obtain⟨e,j,f,m,st,i⟩:=go k T h hk
  exact⟨e,j,f,.loop m,st,i⟩
 | exit id=>exact⟨λp d T h Q hw=>by simp[di] at d;subst d;exact⟨_,T,h,.exit,⟨.refl _,VA _⟩,hw⟩,λl rest h=>by simp[findLabel] at h⟩
 | ret=>exact⟨λp d T h Q hw=>by simp[di] at d;subst d;exact⟨_,T,h,.ret,⟨.refl _,VA _⟩,hw⟩,λl rest h=>by simp[findLabel] at h⟩
 | label O=>exact⟨λp d T h Q hw=>by simp[di] at d;subst d;exact⟨_,T,h,.label,⟨.refl _,VA _⟩,hw⟩,λl rest h=>by
   simp only[findLabel] at h
   split at h
   .simp only[Vr] at h;subst h;exact EZ
   .simp at h⟩
 | goto O=>exact⟨λp d T h Q hw=>by simp[di] at d;subst d;exact⟨_,T,h,.goto,⟨.refl _,VA _⟩,hw⟩,λl rest h=>by simp[findLabel] at h⟩
 | scope c s=>exact⟨L9 s.1 s.2,λl rest h=>by simp[findLabel] at h⟩
 | _=>exact⟨λp d=>by simp[di] at d,λl rest h=>by simp[findLabel] at h⟩
theorem TZ (hm:P.follows .mixedOrders=true) {f:List Nat} (c:Code) (b:SC) (g:di P n f c=some b) (T:Env) (h:aD) (Q:Exit->Env->View->Prop) (hw:wS P b T h.view Q) :
 ∃ e d a,c8 P n c T h e d a/\(jh h a/\h.length<=a.length)/\Q e d a.view:=(Qi hm c).1 b g T h Q hw
theorem Ud {T:Env} {h:aD} {r:ResultVar} {l:List SR} {rest:List ResultVar} (b:fJ P (r :: rest)=some l):∃ s c,l=s :: c/\fJ P rest=some c/\∀ K:V->Prop,wR T h.view s K->∃ v,sL P T h r=some v/\K v:=by
 cases r with
 | tmp t =>
  simp only[fJ,Vy] at b
  obtain⟨c,h1,rfl⟩:=b
  exact⟨.tmp t,c,rfl,h1,λK hk=>⟨_,rfl,hk⟩⟩
 | cell a t =>
  simp only[fJ] at b
  split at b
  .rename_i k c h1 m
   simp at b;subst b
   refine⟨.cell a k,c,rfl,m,λK hk=>?_⟩
   simp only[wR] at hk
   simp only[sL,mH,wA h1]
   split at hk
   .rename_i id i j d
    split at hk
    .rename_i es hH
     obtain⟨f,hk⟩:=hk
     obtain⟨v,g,hk⟩:=p7 hk
     exact⟨v,by rw[d];simp only[hH];rw[Vu f,g];rfl,hk⟩
    .exact hk.elim
   .rename_i e j d
    obtain⟨v,g,hk⟩:=p7 hk
    exact⟨v,by rw[d];simp only;rw[g];rfl,hk⟩
   .exact hk.elim
  .simp at b
theorem Nw {T:Env} {h:aD} {K:List V->Prop} : ∀ (rs:List ResultVar) (l:List SR) (acc:List V),fJ P rs=some l->Ci T h.view l acc K->∃ vs,mc P T h rs=some vs/\K (acc ++ vs)
 | [],l,acc,a,hw=>by simp[fJ] at a;subst a;exact⟨[],rfl,by simpa [Ci] using hw⟩
 | r :: rest,l,acc,a,hw=>by
  obtain⟨s,c,rfl,h1,d⟩:=Ud (T:=T) (h:=h) a
  simp only[Ci] at hw
  obtain⟨v,e,hk⟩:=d _ hw
  obtain⟨vs,b,hk⟩:=Nw rest c (acc ++ [v]) h1 hk
  exact⟨v :: vs,by simp[mc,e,b],by simpa using hk⟩
def wF (P:Program) (F:SF) (vs:List V) (H:View) (K:V->View->Prop):Prop :=
 vs.length<=F.n/\wS P F.code (ly vs) H λe T' H'=>(e=.ret∨e=.normal)/\Ci T' H' F.res [] λl=>K (wu l) H'
theorem aw.of (hm:P.follows .mixedOrders=true) {f:FuncId} {j:List Nat} {F:SF} (b:aM P f j=some F) {vs:List V} {H:View} {K:V->View->Prop} (hw:wF P F vs H K):aw P f vs H K:=by
 unfold aM at b
 split at b
 .rename_i fn g
  split at b
  .rename_i c k
   split at b
   .rename_i m rs h1 n o
    simp at b;subst b
    refine⟨o,?_⟩
    rintro h rfl
    obtain⟨e,r,p,q,st,he,hr⟩:=TZ hm c m h1 _ h _ hw.2
    obtain⟨d,i,hk⟩:=Nw _ _ [] n hr
    refine⟨wu d,p,bK.JH g k hw.1 q he ?_,st.1,by simpa using hk⟩
    unfold K8
    rw[i]
    cases d with
    | nil=>rfl
    | cons a l=>cases l <;> rfl
   .simp at b
  .simp at b
 .simp at b
theorem aw.mono {f:FuncId} {vs:List V} {H:View} {K c:V->View->Prop} (h:aw P f vs H K) (hk:∀ r H',K r H'->c r H'):aw P f vs H c :=
 ⟨h.1,λd e=>let ⟨r,g,a,s,b⟩:=h.2 d e; ⟨r,g,a,s,hk _ _ b⟩⟩
theorem aB.LP {f:FuncId} {vs:List V} {H:View} {t:V} {K:V->View->Prop} (h:aB P f vs t) (a:dD P f=true) (hk:K t H):CN P f vs H K :=
 ⟨a,λb e=>⟨t,b,bK.gh h b,λ_ _=>rfl,e ▸ hk⟩⟩
theorem aw.LP {f:FuncId} {vs:List V} {H:View} {K:V->View->Prop} (h:aw P f vs H λr H'=>(∀ id,H id≠.dead->H' id=H id)/\K r H'):CN P f vs H K :=
 ⟨h.1,λc e=>by
  obtain⟨r,g,i,st,d,hk⟩:=h.2 c e
  refine⟨r,g,i,λid a=>?_,hk⟩
  by_cases b:c.view id=.dead
  .rw[b];exact st id a b
  .rw[<-e] at d;exact d id b⟩
end
inductive cL {α:Type} (x:α):Type where
 | mk
def fH (s:ByteArray):List Int:=s.data.toList.map λb=>(b.toNat:Int)
theorem eR (s:ByteArray):s.size=(fH s).length:=by rw[fH,Vx,bsize]
def aR (P:Program) (c:SC) (T:Env) (H:View) (Q:Exit->Env->View->Prop) (_:cL (T,H,Q)):Prop:=wS P (.loop c) T H Q
def Tl (P:Program) (l:Nat) (c r:SC) (T:Env) (H:View) (Q:Exit->Env->View->Prop) (_:cL (T,H,Q)):Prop:=wS P (.scope l c r) T H Q
def ax (P:Program) (quiet:Bool) (f:FuncId) (vs:List V) (H:View) (K:V->View->Prop) (_:cL (H,K)):Prop :=
 if quiet then CN P f vs H K else aw P f vs H K
def Cr {α:Type} (v:α) (F:α->Prop) (_:cL F):Prop:=F v
def dV (v:V) (F:V->Prop) (_:cL F):Prop:=F v
def G4 (o:c7) (F:c7->Prop) (_:cL F):Prop:=F o
def rp {α:Type} (o:Option α) (F:Option α->Prop) (_:cL F):Prop:=F o
def aj (b:Bool) (A B:Prop) (_:cL (A,B)):Prop:=(b=true->A)/\(b=false->B)
theorem Uh {α:Type} (v:α) (F:α->Prop) (w:cL F):Cr v F w=F v:=propext Iff.rfl
section
variable (F:V->Prop) (w:cL F)
theorem Kq (v:Value):dV (.val v) F w=F (.val v):=propext Iff.rfl
theorem Ky (k:Nat):dV (.emp k) F w=F (.emp k):=propext Iff.rfl
theorem KG:dV .dO F w=F .dO:=propext Iff.rfl
theorem Kk (es:List (List V)):dV (.aW es) F w=F (.aW es):=propext Iff.rfl
theorem Oh (a b c d:Nat):dV (.sl a b c d) F w=F (.sl a b c d):=propext Iff.rfl
theorem KC (a b c:Nat):dV (.ptr a b c) F w=F (.ptr a b c):=propext Iff.rfl
theorem FL (e:List V) (j:Nat):dV (.aJ e j) F w=F (.aJ e j):=propext Iff.rfl
theorem Pf (a:Nat):dV (.mp a) F w=F (.mp a):=propext Iff.rfl
theorem O9 (f:FuncId) (a b:List V):dV (.fn f a b) F w=F (.fn f a b):=propext Iff.rfl
theorem Kn (cs:List V):dV (.agg cs) F w=F (.agg cs):=propext Iff.rfl
theorem I1 (cs:List V):dV (.aY cs) F w=F (.aY cs):=propext Iff.rfl
end
theorem JA (F:c7->Prop) (w:cL F) (k:Nat) (es:List (List V)):G4 (.arr k es) F w=F (.arr k es):=propext Iff.rfl
theorem I2 (F:c7->Prop) (w:cL F) (es:List (V × V × Nat)) (k:Nat):G4 (.map es k) F w=F (.map es k):=propext Iff.rfl
theorem GG {α:Type} (F:Option α->Prop) (w:cL F) (x:α):rp (some x) F w=F (some x):=propext Iff.rfl
theorem Ii (A B:Prop) (w:cL (A,B)):aj true A B w=A:=by simp[aj]
theorem EU (A B:Prop) (w:cL (A,B)):aj false A B w=B:=by simp[aj]
theorem Jh (b:Bool) (A B:Prop) (w:cL (A,B)):aj (!b) A B w=aj b B A .mk:=by cases b <;> simp[aj]
theorem aj.split {b:Bool} {A B:Prop} {w:cL (A,B)} (h1:b=true->A) (a:b=false->B):aj b A B w:=⟨h1,a⟩
theorem aj.dec {p:Prop} [Decidable p] {A B:Prop} {w:cL (A,B)} (h1:p->A) (a:¬ p->B):aj (decide p) A B w:=⟨λh=>h1 (by simpa using h),λh=>a (by simpa using h)⟩
theorem aj.eq {a b:Int} {A B:Prop} {w:cL (A,B)} (h1:a=b->A) (c:¬ a=b->B):aj (a == b) A B w:=⟨λh=>h1 (by simpa using h),λh=>c (by simpa using h)⟩
theorem aj.ne {a b:Int} {A B:Prop} {w:cL (A,B)} (h1:¬ a=b->A) (c:a=b->B):aj (a != b) A B w:=⟨λh=>h1 (by simpa using h),λh=>c (by simpa using h)⟩
section
variable (P:Program) (T:Env) (H:View)
theorem Rh (F:SF) (vs:List V) (K:V->View->Prop):wF P F vs H K=(vs.length<=F.n/\wS P F.code (ly vs) H λe a H'=>(e=.ret∨e=.normal)/\Ci a H' F.res [] λl=>Cr (wu l) (λv=>K v H') .mk):=propext Iff.rfl
theorem Jn (Q:Exit->Env->View->Prop):wS P .skip T H Q=Q .normal T H:=propext Iff.rfl
theorem D4 (q:Bool) (gs:List SG) (Q:Exit->Env->View->Prop):wS P (.region q gs) T H Q=xk P q gs T H (Q .normal):=propext Iff.rfl
theorem A4 (a:List (Nat × Nat)) (gs:List SG) (Q:Exit->Env->View->Prop):wS P (.uZ a gs) T H Q=xk P false gs T H (λb H'=>yq a b (Q .normal b H')):=propext Iff.rfl
theorem BX (a:Nat × Nat × Nat) (b:List (Nat × Nat)) (gs:List SG) (Q:Exit->Env->View->Prop):wS P (.zE a b gs) T H Q=xk P false gs T H (λc H'=>Ho P a.1 (c a.2.1) (c a.2.2) H/\yq b c (Q .normal c H')):=propext Iff.rfl
theorem KA (K:Prop):yq [] T K=K:=propext Iff.rfl
theorem GA (a b:Nat) (l:List (Nat × Nat)) (K:Prop):yq ((a,b) :: l) T K=(iZ (T a) (T b)/\yq l T K):=propext Iff.rfl
theorem Jl (i j k a b c:Nat):iZ (.ptr i j k) (.ptr a b c)=(i≠a):=propext Iff.rfl
theorem Jx (i j k a b c d:Nat):iZ (.ptr i j k) (.sl a b c d)=(i≠a):=propext Iff.rfl
theorem Hb (i j k e:Nat):iZ (.ptr i j k) (.emp e)=True:=id rfl
theorem G7 (i j k:Nat):iZ (.ptr i j k) .dO=True:=id rfl
theorem GV (i j k:Nat) (es:List (List V)):iZ (.ptr i j k) (.aW es)=True:=id rfl
theorem Ku (a b c d e f g h:Nat):iZ (.sl a b c d) (.sl e f g h)=(a≠e):=propext Iff.rfl
theorem OA (a b c d e:Nat):iZ (.sl a b c d) (.emp e)=True:=id rfl
theorem NZ (a b c d:Nat):iZ (.sl a b c d) .dO=True:=id rfl
theorem Mt (a b c d:Nat) (es:List (List V)):iZ (.sl a b c d) (.aW es)=True:=id rfl
theorem KB (k:Nat) (v:V):iZ (.emp k) v=True:=by cases v <;> rfl
theorem J0 (v:V):iZ .dO v=True:=by cases v <;> rfl
theorem Kt (es:List (List V)) (v:V):iZ (.aW es) v=True:=by cases v <;> rfl
theorem Gt (e:List V) (j:Nat) (v:V):iZ (.aJ e j) v=True:=by cases v <;> rfl
theorem NH (x y:SC) (Q:Exit->Env->View->Prop):wS P (.seq x y) T H Q=wS P x T H λe a H'=>zT e (wS P y a H' Q) (Q e a H'):=propext Iff.rfl
theorem I8 (c:SX) (x y:SC) (Q:Exit->Env->View->Prop):wS P (.cond c x y) T H Q=dV (c.at T) (λv=>match v with
 | .val (.bool b)=>aj b (wS P x (tA c true T) H Q) (wS P y (tA c false T) H Q) .mk
 | _=>False) .mk:=propext Iff.rfl
theorem Ie (id:Nat) (c:SC) (Q:Exit->Env->View->Prop):wS P (.block id c) T H Q=wS P c T H λe=>Q (qo id e):=propext Iff.rfl
theorem I7 (id:Nat) (Q:Exit->Env->View->Prop):wS P (.exit id) T H Q=Q (.exit id) T H:=propext Iff.rfl
theorem OR (Q:Exit->Env->View->Prop):wS P .ret T H Q=Q .ret T H:=propext Iff.rfl
theorem FK (l:Nat) (c r:SC) (Q:Exit->Env->View->Prop):wS P (.scope l c r) T H Q=Tl P l c r T H Q .mk:=propext Iff.rfl
theorem Gr (l:Nat) (Q:Exit->Env->View->Prop):wS P (.label l) T H Q=Q .normal T H:=propext Iff.rfl
theorem KE (l:Nat) (Q:Exit->Env->View->Prop):wS P (.goto l) T H Q=Q (.goto l) T H:=propext Iff.rfl
theorem Co (l c:Nat) (a b:Prop):zG l (.goto c) a b=(c=l/\a):=propext Iff.rfl
theorem xW (l:Nat) (a b:Prop):zG l .normal a b=b:=propext Iff.rfl
theorem Cg (l i:Nat) (a b:Prop):zG l (.exit i) a b=b:=propext Iff.rfl
theorem Ev (l:Nat) (a b:Prop):zG l .ret a b=b:=propext Iff.rfl
theorem FR (l:Nat) (a b:Prop):zT (.goto l) a b=b:=propext Iff.rfl
theorem Bb (i l:Nat):qo i (.goto l)=.goto l:=id rfl
theorem IX (c:SC) (Q:Exit->Env->View->Prop):wS P (.loop c) T H Q=aR P c T H Q .mk:=propext Iff.rfl
theorem Kx (q:Bool) (K:Env->View->Prop):xk P q [] T H K=K T H:=propext Iff.rfl
theorem GM (q:Bool) (g:SG) (r:List SG) (K:Env->View->Prop):xk P q (g :: r) T H K=wG P q g T H λa H'=>xk P q r a H' K:=propext Iff.rfl
theorem Kw (q:Bool) (ops:List (Option Nat × SB)) (K:Env->View->Prop):wG P q ⟨none,ops⟩ T H K=yV P q ops T H K:=propext Iff.rfl
theorem Jp (q:Bool) (d:Nat) (ops:List (Option Nat × SB)) (K:Env->View->Prop):wG P q ⟨some (d,true),ops⟩ T H K=dV (T d) (λv=>match v with
 | .val (.bool b)=>aj b (yV P q ops (T.put (some d) (.val (.bool true))) H K) (K (iB ops (T.put (some d) (.val (.bool false)))) H) .mk
 | .aY []=>K (iB ops T) H
 | _=>False) .mk:=propext Iff.rfl
theorem Ge (q:Bool) (d:Nat) (ops:List (Option Nat × SB)) (K:Env->View->Prop):wG P q ⟨some (d,false),ops⟩ T H K=dV (T d) (λv=>match v with
  | .val (.bool b)=>aj b (K (iB ops (T.put (some d) (.val (.bool true)))) H) (yV P q ops (T.put (some d) (.val (.bool false))) H K) .mk
  | .aY []=>K (iB ops T) H
  | _=>False) .mk:=by
 simp only[wG,dV]
 generalize T d=v
 cases v with
 | val x=>cases x <;> simp[aj,and_comm]
 | aY l=>cases l <;> simp
 | _=>simp
theorem zQ:iB [] T=T:=id rfl
theorem yc (d:Option Nat) (b:SB) (r:List (Option Nat × SB)):iB ((d,b) :: r) T=iB r (T.put d (.aY [])):=id rfl
theorem Ks (q:Bool) (K:Env->View->Prop):yV P q [] T H K=K T H:=propext Iff.rfl
theorem GB (q:Bool) (d:Option Nat) (b:SB) (r:List (Option Nat × SB)) (K:Env->View->Prop):yV P q ((d,b) :: r) T H K=wB P q b T H λv H'=>Cr v (λv'=>yV P q r (T.put d v') H' K) .mk:=propext Iff.rfl
theorem Rf (q:Bool) (s:SI) (K:V->View->Prop):wB P q (.op s) T H K=wI P s T H K:=propext Iff.rfl
theorem Kd (q:Bool) (f:SX) (args:List SX) (K:V->View->Prop):wB P q (.call f args) T H K=dV (f.at T) (λv=>match v with
 | .fn g first cap=>ax P q g (first ++ args.map (SX.at T) ++ cap) H K .mk
 | _=>False) .mk:=propext Iff.rfl
theorem Hd (q:Bool) (f:SX) (args:List SX) (K:V->View->Prop):wB P q (.tG f args) T H K=dV (f.at T) (λv=>match v with
 | .fn g first cap=>ax P true g (first ++ args.map (SX.at T) ++ cap) H K .mk
 | _=>False) .mk:=propext Iff.rfl
theorem NR (x:SX) (K:V->View->Prop):wI P (.eU x) T H K=K (x.at T) H:=propext Iff.rfl
theorem Jf (c a b:SX) (K:V->View->Prop):wI P (.pick c a b) T H K=dV (c.at T) (λv=>match v with
  | .val (.bool t)=>aj t (K (a.at T) H) (K (b.at T) H) .mk
  | _=>False) .mk:=by
 simp only[wI,dV]
 generalize c.at T=v
 cases v with
 | val x =>
  cases x with
  | bool t=>cases t <;> simp[aj]
  | _=>simp
 | _=>simp
theorem MG (x:SX) (K:V->View->Prop):wI P (.box x) T H K=dV (x.at T) (λv=>v.cells.all aH=true/\Cr v.cells (λcs=>∀ n,H n=.dead->K (.ptr n 0 0) (H.set n (.arr cs.length [cs]))) .mk) .mk:=propext Iff.rfl
theorem Nv (x:SX) (K:V->View->Prop):wI P (.jw x) T H K=dV (x.at T) (λv=>v.cells.all aH=true/\Cr v.cells (λcs=>K (.aJ cs 0) H) .mk) .mk:=propext Iff.rfl
theorem Hv (z:List V) (K:V->View->Prop):wI P (.alloc z) T H K=(z.all aH=true/\∀ n,H n=.dead->K (.ptr n 0 0) (H.set n (.arr z.length [z]))):=propext Iff.rfl
theorem Jr (sz:Option Nat) (a:SX) (K:V->View->Prop):wI P (.load sz a) T H K=dV (a.at T) (λv=>match v with
 | .ptr id i j=>G4 (H id) (λo=>match o with
  | .arr _ es=>i < es.length/\Cr (es.getD i []) (λe=>jX sz e j λv=>K v H) .mk
  | _=>False) .mk
 | .aJ e j=>jX sz e j λv=>K v H
 | _=>False) .mk:=propext Iff.rfl
theorem GC (sz:Option Nat) (a:SX) (K:V->View->Prop):wI P (.xg sz a) T H K=dV (a.at T) (λv=>match v with
 | .aJ e j=>jX sz e j λv=>K v H
 | _=>False) .mk:=propext Iff.rfl
theorem GK (sz:Nat) (a x:SX) (K:V->View->Prop):wI P (.store sz a x) T H K=dV (a.at T) (λv=>match v with
 | .ptr id i j=>G4 (H id) (λo=>match o with
  | .arr esz es=>Cr (x.at T).cells (λcs=>(i < es.length/\cs.length=sz/\j+cs.length<=esz/\cs.all aH=true) /\
   Cr (es.set i (fp (es.getD i []) j cs)) (λes'=>K .any (H.set id (.arr esz es'))) .mk) .mk
  | _=>False) .mk
 | _=>False) .mk:=propext Iff.rfl
theorem J2 (x:SX) (K:V->View->Prop):wI P (.AU x) T H K=dV (x.at T) (λv=>match v with
 | .ptr id i j=>K (.ptr id i j) H
 | .aJ e j=>K (.aJ e j) H
 | .fn f a b=>K (.fn f a b) H
 | _=>False) .mk:=propext Iff.rfl
theorem KD (off:Nat) (x:SX) (K:V->View->Prop):wI P (.addr off x) T H K=dV (x.at T) (λv=>match v with
 | .ptr id i j=>K (.ptr id i (j+off)) H
 | .aJ e j=>K (.aJ e (j+off)) H
 | _=>False) .mk:=propext Iff.rfl
theorem FU (off:Nat) (sz:Option Nat) (x:SX) (K:V->View->Prop):wI P (.field off sz x) T H K=dV (x.at T) (λv=>match v with
 | .agg cs=>jX sz cs off λv=>K v H
 | _=>False) .mk:=propext Iff.rfl
theorem Pm (sz:Nat) (x i:SX) (K:V->View->Prop):wI P (.idx sz x i) T H K=rp (asNat (i.at T)) (λo=>match o with
  | none=>False
  | some q=>dV (x.at T) (λv=>match v with
   | .sl id off len esz=>(q < len/\esz=sz)/\K (.ptr id (off+q) 0) H
   | .aW es=>rp es[q]? (λo=>match o with
    | some e=>e.length=sz/\K (.aJ e 0) H
    | none=>False) .mk
   | _=>False) .mk) .mk:=by
 simp only[wI,rp,dV]
 cases asNat (i.at T) with
 | none=>rfl
 | some q =>
  simp only
  cases x.at T with
  | aW es =>
   simp only
   cases h:es[q]? with
   | none=>simp
   | some e=>simp
  | _=>rfl
theorem JX (f:FuncId) (first cap:List SX) (K:V->View->Prop):wI P (.uq f first cap) T H K=K (.fn f (first.map (SX.at T)) (cap.map (SX.at T))) H:=propext Iff.rfl
theorem F8 (K:V->View->Prop):wI P .qq T H K=(∀ n,H n=.dead->K (.mp n) (H.set n (.map [] 0))):=propext Iff.rfl
theorem OU (i:Nat) (x:SX) (K:V->View->Prop):wI P (.ext i x) T H K=dV (x.at T) (λv=>match v with
 | .aY vs=>i < vs.length/\K (vs.getD i .any) H
 | _=>False) .mk:=propext Iff.rfl
theorem NM (x:SX) (K:V->View->Prop):wI P (.len x) T H K=rp (ct (x.at T)) (λo=>match o with
 | some n=>K (fO n) H
 | none=>False) .mk:=propext Iff.rfl
theorem Ki (x:SX) (K:V->View->Prop):wI P (.pM x) T H K=dV (x.at T) (λv=>match v with
 | .val (.string s)=>K (fO s.size) H
 | _=>False) .mk:=propext Iff.rfl
theorem Ib (op:BinOp) (x y:SX) (K:V->View->Prop):wI P (.arith op x y) T H K=dV (x.at T) (λv=>dV (y.at T) (λv'=>match v,v' with
 | .val (.int k a),.val (.int c b)=>k=c/\rp (hU op k a b) (λo=>match o with | some v=>K (.val v) H | none=>False) .mk
 | _,_=>False) .mk) .mk:=propext Iff.rfl
theorem Rx (l:Bool) (x y:SX) (K:V->View->Prop):wI P (.sh l x y) T H K=dV (x.at T) (λv=>dV (y.at T) (λv'=>match v,v' with
 | .val (.int k a),.val (.int _ b)=>0<=b/\K (.val (.int k (KJ l k a b))) H
 | _,_=>False) .mk) .mk:=propext Iff.rfl
theorem Ot (op:BinOp) (x y:SX) (K:V->View->Prop):wI P (.xl op x y) T H K=dV (x.at T) (λv=>dV (y.at T) (λv'=>match v,v' with
 | .val (.string a),.val (.string b)=>(match op with
  | .eql=>K (.val (.bool (jb a b))) H
  | .neq=>K (.val (.bool (!jb a b))) H
  | _=>False)
 | _,_=>False) .mk) .mk:=propext Iff.rfl
theorem Jg (x i:SX) (K:V->View->Prop):wI P (.iv x i) T H K=dV (x.at T) (λv=>rp (asNat (i.at T)) (λo=>match v,o with
  | .val (.string s),some q=>rp (fH s)[q]? (λo=>match o with
   | some c=>K (.val (.int .u8 c)) H
   | none=>False) .mk
  | _,_=>False) .mk) .mk:=by
 simp only[wI,rp,dV]
 generalize x.at T=v
 generalize asNat (i.at T)=o
 cases v with
 | val u =>
  cases u with
  | string s =>
   cases o with
   | none=>rfl
   | some q =>
    simp only[fH,Vt]
    cases h:s.data.toList[q]? with
    | none=>simp
    | some e=>simp
  | _=>rfl
 | _=>rfl
theorem NA (x:SX) (K:V->View->Prop):wI P (.not x) T H K=dV (x.at T) (λv=>match v with
 | .val (.bool t)=>K (.val (.bool (!t))) H
 | _=>False) .mk:=propext Iff.rfl
theorem Oi (eq:Bool) (k:Nat) (x y:SX) (K:V->View->Prop):wI P (.nil eq k x y) T H K=rp (AV (eX k (x.at T)) (eX k (y.at T))) (λo=>match o with
 | some b=>K (.val (.bool (if eq=true then b else !b))) H
 | none=>False) .mk:=propext Iff.rfl
theorem Jz (x y:SX) (K:V->View->Prop):wI P (.beq true x y) T H K=dV (x.at T) (λv=>dV (y.at T) (λv'=>match v,v' with
 | .val (.bool a),.val (.bool b)=>K (.val (.bool (a == b))) H
 | _,_=>False) .mk) .mk:=propext Iff.rfl
theorem Jb (x y:SX) (K:V->View->Prop):wI P (.beq false x y) T H K=dV (x.at T) (λv=>dV (y.at T) (λv'=>match v,v' with
 | .val (.bool a),.val (.bool b)=>K (.val (.bool (a != b))) H
 | _,_=>False) .mk) .mk:=propext Iff.rfl
theorem Ng (x y:SX) (K:V->View->Prop):wI P (.mm true x y) T H K=dV (x.at T) (λv=>dV (y.at T) (λv'=>match v,v' with
 | .val (.int k a),.val (.int _ b)=>K (.val (.int k (if b > a then b else a))) H
 | _,_=>False) .mk) .mk:=propext Iff.rfl
theorem MN (x y:SX) (K:V->View->Prop):wI P (.mm false x y) T H K=dV (x.at T) (λv=>dV (y.at T) (λv'=>match v,v' with
 | .val (.int k a),.val (.int _ b)=>K (.val (.int k (if b < a then b else a))) H
 | _,_=>False) .mk) .mk:=propext Iff.rfl
theorem Ji (k:IntKind) (x:SX) (K:V->View->Prop):wI P (.conv k x) T H K=dV (x.at T) (λv=>match v with
 | .val (.int _ a)=>K (.val (.int k (k.wrap a))) H
 | _=>False) .mk:=propext Iff.rfl
theorem Ha (n k:Nat) (o:c7):View.set H n o k=if k=n then o else H k:=id rfl
theorem GN (z:List V) (parts:List (Nat × Nat × SX)) (K:V->View->Prop):wI P (.build z parts) T H K=rp (mo z (parts.map λp=>(p.1,p.2.1,p.2.2.at T))) (λo=>match o with
 | some cs=>K (.agg cs) H
 | none=>False) .mk:=propext Iff.rfl
theorem Er (len sz:Nat) (z:List V) (parts:List (Nat × SX)) (K:V->View->Prop):wI P (.cg len sz z parts) T H K=rp (lH sz (List.replicate len z) (parts.map λp=>(p.1,p.2.at T))) (λo=>match o with
 | some es=>∀ n,H n=.dead->K (.sl n 0 len sz) (H.set n (.arr sz es))
 | none=>False) .mk:=propext Iff.rfl
theorem Ic (sz:Nat) (x:SX) (lo hi:Option SX) (K:V->View->Prop):wI P (.slice sz x lo hi) T H K=rp (cY sz (x.at T) (lo.map (SX.at T)) (hi.map (SX.at T))) (λo=>match o with
 | some (v,.none,_)=>K v H
 | _=>False) .mk:=propext Iff.rfl
theorem KF (sz bytes:Nat) (z:List V) (l c:SX) (K:V->View->Prop):wI P (.make sz bytes z l c) T H K=rp (asNat (l.at T)) (λa=>rp (asNat (c.at T)) (λb=>match a,b with
 | some l,some c=>(l<=c/\c < aC/\bytes * c < aC)/\(c=0->K (.emp 2) H)/\(c≠0->∀ n,H n=.dead->K (.sl n 0 l sz) (H.set n (.arr sz (List.replicate l z))))
 | _,_=>False) .mk) .mk:=propext Iff.rfl
def mz (sz bytes:Nat) (x:V) (xs:List (List V)) (H:View) (K:V->View->Prop) (_:cL (H,K)):Prop:=if xs.isEmpty=true then (match x with
  | .emp k=>K (.emp k) H
  | .dO=>K .dO H
  | .aW es=>K (.aW es) H
  | .sl a b c d=>K (.sl a b c d) H
  | _=>False)
 else (xs.all λe=>e.length == sz && e.all aH)=true/\(match x with
  | .emp _=>(xs.length * bytes < aC/\xs.length < aC)/\∀ n,H n=.dead->K (.sl n 0 xs.length sz) (H.set n (.arr sz xs))
  | .sl id off len esz=>match H id with
   | .arr _ es=>(off+len<=es.length/\esz=sz/\(len+xs.length) * bytes < aC/\len+xs.length < aC) /\
    ∀ n,H n=.dead->K (.sl n 0 (len+xs.length) esz) ((H.set id .dead).set n (.arr esz ((es.drop off).take len ++ xs)))
   | _=>False
  | _=>False)
theorem Nb (sz bytes:Nat) (x y:SX) (K:V->View->Prop):wI P (.app sz bytes x y) T H K=rp (bC H (y.at T)) (λo=>match o with
 | some (xs,_)=>mz sz bytes (x.at T) xs H K .mk
 | none=>False) .mk:=propext Iff.rfl
theorem tf (sz bytes k:Nat) (xs:List (List V)) (K:V->View->Prop) (w:cL (H,K)) (a:xs.isEmpty=false):mz sz bytes (.emp k) xs H K w=((xs.all λe=>e.length == sz && e.all aH)=true/\(xs.length * bytes < aC/\xs.length < aC)/\∀ n,H n=.dead->K (.sl n 0 xs.length sz) (H.set n (.arr sz xs))):=by
 unfold mz;rw[Vs (by rw[a];simp)]
theorem sR (sz bytes id off len esz:Nat) (xs:List (List V)) (K:V->View->Prop) (w:cL (H,K)) (a:xs.isEmpty=false):mz sz bytes (.sl id off len esz) xs H K w=((xs.all λe=>e.length == sz && e.all aH)=true/\G4 (H id) (λo=>match o with
  | .arr _ es=>(off+len<=es.length/\esz=sz/\(len+xs.length) * bytes < aC/\len+xs.length < aC) /\
   ∀ n,H n=.dead->K (.sl n 0 (len+xs.length) esz) ((H.set id .dead).set n (.arr esz ((es.drop off).take len ++ xs)))
  | _=>False) .mk):=by
 unfold mz G4;rw[Vs (by rw[a];simp)]
theorem jZ (id off len esz z:Nat) (es:List (List V)) (hH:H id=.arr z es) (a:off+(len+1)<=es.length):bC H (.sl id off (len+1) esz)=some ((es.drop off).take (len+1),[id]):=by
 simp only[bC,hH];rw[Vu a]
theorem mr (es:List (List V)):bC H (.aW es)=some (es,[]):=id rfl
theorem ud (k:Nat):bC H (.emp k)=some ([],[]):=id rfl
theorem Ja (x:SX) (K:V->View->Prop):wI P (.C5 x) T H K=dV (x.at T) (λv=>match v with
 | .aW es=>rp (kL es) (λo=>match o with
  | some l=>K (.val (.string ⟨l.toArray⟩)) H
  | none=>False) .mk
 | _=>False) .mk:=propext Iff.rfl
theorem Ju (x:SX) (K:V->View->Prop):wI P (.gg x) T H K=dV (x.at T) (λv=>match v with
 | .val (.string s)=>K (.aW (gG s)) H
 | _=>False) .mk:=propext Iff.rfl
def iO (P:Program) (op:Op) (ty:TypeId) (T:Env) (H:View) (K:V->View->Prop) (_:cL (T,H,K)):Prop:=wI P (.old op ty) T H K
theorem MQ (op:Op) (ty:TypeId) (K:V->View->Prop):wI P (.old op ty) T H K=iO P op ty T H K .mk:=propext Iff.rfl
theorem MP (t:Nat):ev T (.tmp t)=T t:=id rfl
theorem He (v:Value):ev T (.const v)=fy v:=id rfl
theorem OB (t:Nat):(SX.tmp t).at T=T t:=id rfl
theorem NU (v:V):(SX.val v).at T=v:=id rfl
theorem Kv (d t:Nat) (v:V):(T.put (some d) v) t=if t=d then v else T t:=id rfl
theorem HF (v:V):T.put none v=T:=id rfl
theorem FP (vs:List V) (t:Nat):ly vs t=vs.getD t .any:=id rfl
theorem BE (e:List V) (j:Nat) (K:V->Prop):jX none e j K=(j < e.length/\K (e.getD j .any)):=propext Iff.rfl
theorem Bd (n:Nat) (e:List V) (j:Nat) (K:V->Prop):jX (some n) e j K=(j+n<=e.length/\K (.agg ((e.drop j).take n))):=propext Iff.rfl
theorem B1 (a b:Prop):zT .normal a b=a:=propext Iff.rfl
theorem HT (i:Nat) (a b:Prop):zT (.exit i) a b=b:=propext Iff.rfl
theorem J9 (a b:Prop):zT .ret a b=b:=propext Iff.rfl
theorem y5 (i:Nat):qo i .normal=.normal:=id rfl
theorem EE (i:Nat):qo i .ret=.ret:=id rfl
theorem B8 (i j:Nat):qo i (.exit j)=if j=i then .normal else .exit j:=by simp only[qo]
theorem IY (acc:List V) (K:List V->Prop):Ci T H [] acc K=K acc:=propext Iff.rfl
theorem Gq (r:SR) (l:List SR) (acc:List V) (K:List V->Prop):Ci T H (r :: l) acc K=wR T H r λv=>Ci T H l (acc ++ [v]) K:=propext Iff.rfl
theorem Nu (t:Nat) (K:V->Prop):wR T H (.tmp t) K=K (T t):=propext Iff.rfl
theorem JC (t:Nat) (sz:Option Nat) (K:V->Prop):wR T H (.cell t sz) K=dV (T t) (λv=>match v with
 | .ptr id i j=>G4 (H id) (λo=>match o with
  | .arr _ es=>i < es.length/\Cr (es.getD i []) (λe=>jX sz e j K) .mk
  | _=>False) .mk
 | .aJ e j=>jX sz e j K
 | _=>False) .mk:=propext Iff.rfl
theorem Ec (t:Nat) (b:Bool):tA (.tmp t) b T=T.put (some t) (.val (.bool b)):=id rfl
theorem D2 (v:V) (b:Bool):tA (.val v) b T=T:=id rfl
theorem NO:(Exit.ret=Exit.ret∨Exit.ret=Exit.normal)=True:=by simp
theorem DW:(Exit.normal=Exit.ret∨Exit.normal=Exit.normal)=True:=by simp
end
section
variable {P:Program} {T:Env} {H:View}
theorem aR.intro {c:SC} {Q:Exit->Env->View->Prop} {v:cL (T,H,Q)} (I:Nat->Env->View->Prop) (k:Nat) (d:I k T H)
  (f:∀ k T H,I k T H->wS P c T H λe a H'=>zT e (∃ b,b < k/\I b a H') (Q e a H')):aR P c T H Q v:=by
 simp only[aR,wS]
 exact⟨I,⟨k,d⟩,f⟩
theorem ax.pure {q:Bool} {f:FuncId} {vs:List V} {K:V->View->Prop} {v:cL (H,K)} {t:V} (b:aB P f vs t) (hk:K t H) (a:dD P f=true:=by kernel_rfl):ax P q f vs H K v:=by
 unfold ax
 cases q with
 | true=>exact b.LP a hk
 | false =>
  refine⟨a,?_⟩
  rintro h rfl
  exact⟨t,h,bK.gh b h,.refl _,hk⟩
theorem ax.eA {f:FuncId} {vs:List V} {K:V->View->Prop} {v:cL (H,K)} (a:aw P f vs H K):ax P false f vs H K v:=a
theorem El:aD.view []=λ_=>c7.dead:=by funext id;simp[aD.view]
theorem aB.of {f:FuncId} {vs:List V} {t:V} (b:∀ v∈vs,Tree v) (h:aw P f vs (λ_=>.dead) λr H'=>∀ a:aD,a.view=H'->Fr a r t):aB P f vs t:=by
 obtain⟨r,a,c,_,d⟩:=h.2 [] El
 exact aB.v7 b c (d a rfl)
theorem wrap64 {x:Int} (h1 : -9223372036854775808<=x) (d:x<=9223372036854775807):IntKind.wrap .i64 x=x:=by
 unfold IntKind.wrap
 have a:(2:Int) ^ IntKind.i64.bits=18446744073709551616:=by rfl
 have b:(2:Int) ^ (IntKind.i64.bits - 1)=9223372036854775808:=by rfl
 have c:IntKind.i64.signed=true:=by rfl
 simp only[a,b,c,Wd,VH]
 split <;> omega
theorem Fa {k:IntKind} {i:Int} (h:0<=i):asNat (.val (.int k i))=some i.toNat:=by simp[asNat,h]
end
theorem Ff (v:Value):V.cells (.val v)=[.val v]:=id rfl
theorem zo (v:Value):aH (.val v)=true:=id rfl
theorem EC (k:Nat):V.cells (.emp k)=[.emp k]:=id rfl
theorem zC (k:Nat):aH (.emp k)=true:=id rfl
theorem Ep  : V.cells .dO=[.dO]:=id rfl
theorem JY  : aH .dO=true:=id rfl
theorem EY (es:List (List V)):V.cells (.aW es)=[.aW es]:=id rfl
theorem JT (es:List (List V)):aH (.aW es)=true:=id rfl
theorem Hw (a b c d:Nat):V.cells (.sl a b c d)=[.sl a b c d]:=id rfl
theorem Pa (a b c d:Nat):aH (.sl a b c d)=true:=id rfl
theorem D5 (a b c:Nat):V.cells (.ptr a b c)=[.ptr a b c]:=id rfl
theorem Kh (a b c:Nat):aH (.ptr a b c)=true:=id rfl
theorem A6 (e:List V) (j:Nat):V.cells (.aJ e j)=[.aJ e j]:=id rfl
theorem HH (e:List V) (j:Nat):aH (.aJ e j)=true:=id rfl
theorem Gw (a:Nat):V.cells (.mp a)=[.mp a]:=id rfl
theorem OZ (a:Nat):aH (.mp a)=true:=id rfl
theorem Ij (f:FuncId) (a b:List V):V.cells (.fn f a b)=[.fn f a b]:=id rfl
theorem Nh (f:FuncId) (a b:List V):aH (.fn f a b)=true:=id rfl
theorem Em (cs:List V):V.cells (.agg cs)=cs:=id rfl
theorem J1 (k:Nat):ct (.emp k)=some 0:=id rfl
theorem Jc:ct .dO=some 0:=id rfl
theorem J6 (es:List (List V)):ct (.aW es)=some es.length:=id rfl
theorem OM (a b c d:Nat):ct (.sl a b c d)=some c:=id rfl
abbrev Um {p:Prop} (_:p):Prop:=p
theorem Ry (P:Program) (T:Env) (H:View) (a:SC) (Q:Exit->Env->View->Prop):wS P (af [a]) T H Q=wS P a T H Q:=by rw[af]
theorem Rn (P:Program) (T:Env) (H:View) (a b:SC) (l:List SC) (Q:Exit->Env->View->Prop):wS P (af (a :: b :: l)) T H Q=wS P (.seq a (af (b :: l))) T H Q:=by rw[af]
abbrev Wr:Prop:=Um (And.intro @Ry <| And.intro @Rn <| And.intro @Rh <| And.intro @Jn <| And.intro @D4 <| And.intro @A4 <| And.intro @BX <| And.intro @KA <| And.intro @GA <| And.intro @NH <|
 And.intro @I8 <| And.intro @Ie <| And.intro @I7 <| And.intro @OR <| And.intro @FK <| And.intro @Gr <| And.intro @KE <| And.intro @Co <| And.intro @xW <| And.intro @Cg <| And.intro @Ev <| And.intro @FR <| And.intro @Bb <|
 And.intro @IX <| And.intro @Kx <| And.intro @GM <| And.intro @Kw <|
 And.intro @Jp <| And.intro @Ge <| And.intro @zQ <| And.intro @yc <|
 And.intro @Ks <| And.intro @GB <| And.intro @Rf <| And.intro @Kd <| And.intro @Hd <|
 And.intro @NR <| And.intro @Jf <| And.intro @MG <| And.intro @Nv <|
 And.intro @Hv <| And.intro @Jr <| And.intro @GC <| And.intro @GK <|
 And.intro @J2 <| And.intro @KD <| And.intro @FU <| And.intro @Pm <|
 And.intro @JX <| And.intro @F8 <| And.intro @OU <| And.intro @NM <|
 And.intro @Ki <| And.intro @Ib <| And.intro @Rx <| And.intro @Ot <| And.intro @Jg <|
 And.intro @NA <| And.intro @Oi <| And.intro @Jz <| And.intro @Jb <|
 And.intro @Ng <| And.intro @MN <| And.intro @Ji <| And.intro @Ja <|
 And.intro @Ju <| And.intro @GN <| And.intro @Er <| And.intro @Ic <|
 And.intro @KF <| And.intro @Nb <| And.intro @MQ <| And.intro @MP <| And.intro @He <| And.intro @OB <| And.intro @NU <|
 And.intro @Kv <| And.intro @HF <| And.intro @FP <| And.intro @BE <|
 And.intro @Bd <| And.intro @B1 <| And.intro @HT <| And.intro @J9 <|
 And.intro @y5 <| And.intro @EE <| And.intro @B8 <| And.intro @IY <|
 And.intro @Gq <| And.intro @Nu <| And.intro @JC <| And.intro @Ec @D2)
theorem wr:Wr:=⟨@Ry,@Rn,@Rh,@Jn,@D4,@A4,@BX,@KA,@GA,@NH,@I8,@Ie,@I7,@OR,@FK,@Gr,@KE,@Co,@xW,@Cg,@Ev,@FR,@Bb,@IX,@Kx,@GM,@Kw,@Jp,@Ge,@zQ,@yc,@Ks,@GB,@Rf,@Kd,@Hd,@NR,@Jf,@MG,@Nv,@Hv,@Jr,@GC,@GK,@J2,@KD,@FU,@Pm,@JX,@F8,@OU,@NM,@Ki,@Ib,@Rx,@Ot,@Jg,@NA,@Oi,@Jz,@Jb,@Ng,@MN,@Ji,@Ja,@Ju,@GN,@Er,@Ic,@KF,@Nb,@MQ,@MP,@He,@OB,@NU,@Kv,@HF,@FP,@BE,@Bd,@B1,@HT,@J9,@y5,@EE,@B8,@IY,@Gq,@Nu,@JC,@Ec,@D2⟩
theorem M7:wu []=.aY []:=id rfl
theorem Mj (v:V):wu [v]=v:=id rfl
theorem O3 (v w:V) (l:List V):wu (v :: w :: l)=.aY (v :: w :: l):=id rfl
theorem Q9 (n:Nat):fO n=.val (.int .i64 n):=id rfl
theorem GO (e:List V) (j:Nat) (cs:List V):fp e j cs=e.take j ++ cs ++ e.drop (j+cs.length):=id rfl
theorem Hm (z:List V):mo z []=some z:=id rfl
theorem G5 (z:List V) (o n:Nat) (x:V) (r:List (Nat × Nat × V)):mo z ((o,n,x) :: r)=if x.cells.length=n/\o+n<=z.length/\x.cells.all aH=true then mo (fp z o x.cells) r else none:=by rw[mo]
theorem JP (k:Nat) (z:List (List V)):lH k z []=some z:=by rw[lH]
theorem Js (k:Nat) (z:List (List V)) (i:Nat) (x:V) (r:List (Nat × V)):lH k z ((i,x) :: r)=if x.cells.length=k/\i < z.length/\x.cells.all aH=true then lH k (z.set i x.cells) r else none:=by rw[lH]
theorem N6 (b:Bool):AV (some true) (some b)=some b:=id rfl
theorem NL (b:Bool):AV (some b) (some true)=some b:=by cases b <;> rfl
section
variable (k:IntKind) (a b:Int)
theorem I4:hU .add k a b=some (.int k (k.wrap (a+b))):=id rfl
theorem Jd:hU .sub k a b=some (.int k (k.wrap (a - b))):=id rfl
theorem KH:hU .mul k a b=some (.int k (k.wrap (a * b))):=id rfl
theorem Kz:hU .quo k a b=if b=0 then none else some (.int k (k.wrap (a.tdiv b))):=id rfl
theorem Kl:hU .rem k a b=if b=0 then none else some (.int k (a.tmod b)):=id rfl
theorem JU:hU .eql k a b=some (.bool (a == b)):=id rfl
theorem I5:hU .neq k a b=some (.bool (a != b)):=id rfl
theorem J7:hU .lss k a b=some (.bool (a < b)):=id rfl
theorem Jj:hU .leq k a b=some (.bool (a<=b)):=id rfl
theorem Kb:hU .gtr k a b=some (.bool (a > b)):=id rfl
theorem Jt:hU .geq k a b=some (.bool (a≥b)):=id rfl
theorem Ol:hU .or k a b=some (.int k (k.wrap (BitVec.ofInt k.bits a ||| BitVec.ofInt k.bits b).toNat)):=id rfl
theorem JN:hU .and k a b=some (.int k (k.wrap (BitVec.ofInt k.bits a &&& BitVec.ofInt k.bits b).toNat)):=id rfl
theorem BY:hU .andNot k a b=some (.int k (k.wrap (BitVec.ofInt k.bits a &&& ~~~(BitVec.ofInt k.bits b)).toNat)):=id rfl
end
theorem MU:eX 0 (.emp 1)=some true:=id rfl
theorem NI:eX 0 (.emp 2)=some false:=id rfl
theorem Jw:eX 0 .dO=some false:=id rfl
theorem M0 (a b n c:Nat):eX 0 (.sl a b (n+1) c)=some false:=id rfl
theorem Kp (e:List V) (l:List (List V)):eX 0 (.aW (e :: l))=some false:=id rfl
theorem I6 (a b c:Nat):eX 1 (.ptr a b c)=some false:=id rfl
theorem HV (e:List V) (j:Nat):eX 1 (.aJ e j)=some false:=id rfl
theorem M1 (a:Nat):eX 2 (.mp a)=some false:=id rfl
theorem MT (f:FuncId) (a b:List V):eX 3 (.fn f a b)=some false:=id rfl
theorem N4:eX 1 (.val (.pointer none))=some true:=id rfl
theorem OH:eX 2 (.val (.map none))=some true:=id rfl
theorem NP:eX 3 (.val .nilFunc)=some true:=id rfl
abbrev Wq:Prop:=Um (And.intro @M7 <| And.intro @Mj <| And.intro @O3 <| And.intro @Q9 <| And.intro @GO <| And.intro @Hm <| And.intro @G5 <| And.intro @JP <| And.intro @Js <| And.intro @N6 <| And.intro @NL <| And.intro @I4 <| And.intro @Jd <| And.intro @KH <| And.intro @Kz <| And.intro @Kl <| And.intro @JU <| And.intro @I5 <| And.intro @J7 <| And.intro @Jj <| And.intro @Kb <| And.intro @Jt <| And.intro @Ol <| And.intro @JN <| And.intro @BY <| And.intro @MU <| And.intro @NI <| And.intro @Jw <| And.intro @M0 <| And.intro @Kp <| And.intro @I6 <| And.intro @HV <| And.intro @M1 <| And.intro @MT <| And.intro @N4 <| And.intro @OH <| And.intro @NP <| And.intro @eq_self.{1} <| And.intro @ne_eq.{1} <| And.intro @implies_true.{1} <| And.intro @implies_true.{0} <| And.intro @decide_true <| And.intro @decide_false <| And.intro @Jl <| And.intro @Jx <| And.intro @Hb <| And.intro @G7 <| And.intro @GV <| And.intro @Gt <| And.intro @Ku <| And.intro @OA <| And.intro @NZ <| And.intro @Mt <| And.intro @KB <| And.intro @J0 <| And.intro @Kt <| And.intro @Ff <| And.intro @zo <| And.intro @EC <| And.intro @zC <| And.intro @Ep <| And.intro @JY <| And.intro @EY <| And.intro @JT <| And.intro @Hw <| And.intro @Pa <| And.intro @D5 <| And.intro @Kh <| And.intro @A6 <| And.intro @HH <| And.intro @Gw <| And.intro @OZ <| And.intro @Ij <| And.intro @Nh <| And.intro @Em <| And.intro @J1 <| And.intro @Jc <| And.intro @J6 <| And.intro @OM <| And.intro @true_or <| And.intro @or_true <| And.intro @or_false <| And.intro @false_or <|
 And.intro @Uh <| And.intro @Kq <| And.intro @Ky <| And.intro @KG <|
 And.intro @Kk <| And.intro @Oh <| And.intro @KC <| And.intro @FL <|
 And.intro @Pf <| And.intro @O9 <| And.intro @Kn <| And.intro @I1 <|
 And.intro @JA <| And.intro @I2 <| And.intro @GG <| And.intro @Ii <|
 And.intro @EU <| And.intro @Jh <| And.intro @List.getD_cons_zero.{0} <| And.intro @List.getD_cons_succ.{0} <|
 And.intro @List.length_cons.{0} <| And.intro @List.length_nil.{0} <| And.intro @List.length_map.{0,0} <| And.intro @wrap64 <|
 And.intro @true_and <| And.intro @and_true <| And.intro @and_self <| And.intro @VH <|
 And.intro @WD <| And.intro @List.all_cons.{0} <| And.intro @List.all_nil.{0} <| And.intro @Bool.and_self <|
 And.intro @List.nil_append.{0} <| And.intro @List.cons_append.{0} <| And.intro @Wc <| And.intro @Fa <|
 And.intro @V2 <| And.intro @NO <| And.intro @DW <| And.intro @bne_iff_ne.{0} <|
 And.intro @beq_iff_eq.{0} <| And.intro @Bool.not_eq_true <| And.intro @Xq <| And.intro @Bool.not_false <|
 And.intro @List.append_nil.{0} <| And.intro @List.map_cons.{0,0} <| And.intro @List.map_nil.{0,0} <| And.intro @Bool.true_eq_false <|
 And.intro @VR <| And.intro @false_implies <| And.intro @true_implies <| And.intro @Bool.not_not <|
 And.intro @List.drop_zero.{0} <| And.intro @Ha <| And.intro @List.set_cons_zero.{0} <| And.intro @List.set_cons_succ.{0} <|
 And.intro @List.drop_nil.{0} <| And.intro @WZ <| And.intro @List.replicate_zero.{0} <| And.intro @List.replicate_succ.{0} <|
 And.intro @mr <| And.intro @ud <| And.intro @tf <| And.intro @sR <|
 And.intro @List.isEmpty_cons.{0} <| And.intro @Option.map_none.{0,0} <| And.intro @Option.map_some.{0,0} <| And.intro @Nat.succ_ne_zero <|
 And.intro @List.take_succ_cons.{0} <| And.intro @List.take_zero.{0} <| And.intro @List.drop_succ_cons.{0} <| And.intro @bne_eq_false_iff_eq.{0} <|
 And.intro @beq_eq_false_iff_ne.{0} <| And.intro @not_true_eq_false <| And.intro @not_false_eq_true @Decidable.not_not)
theorem wq:Wq:=⟨@M7,@Mj,@O3,@Q9,@GO,@Hm,@G5,@JP,@Js,@N6,@NL,@I4,@Jd,@KH,@Kz,@Kl,@JU,@I5,@J7,@Jj,@Kb,@Jt,@Ol,@JN,@BY,@MU,@NI,@Jw,@M0,@Kp,@I6,@HV,@M1,@MT,@N4,@OH,@NP,@eq_self,@ne_eq,@implies_true,@implies_true,@decide_true,@decide_false,@Jl,@Jx,@Hb,@G7,@GV,@Gt,@Ku,@OA,@NZ,@Mt,@KB,@J0,@Kt,@Ff,@zo,@EC,@zC,@Ep,@JY,@EY,@JT,@Hw,@Pa,@D5,@Kh,@A6,@HH,@Gw,@OZ,@Ij,@Nh,@Em,@J1,@Jc,@J6,@OM,@true_or,@or_true,@or_false,@false_or,@Uh,@Kq,@Ky,@KG,@Kk,@Oh,@KC,@FL,@Pf,@O9,@Kn,@I1,@JA,@I2,@GG,@Ii,@EU,@Jh,@Wm,@Xd,@Vz,@VS,@Vx,@wrap64,@true_and,@and_true,@and_self,@VH,@WD,@WR,@List.all_nil,@Bool.and_self,@Wi,@V4,@Wc,@Fa,@V2,@NO,@DW,@bne_iff_ne,@Wn,@Bool.not_eq_true,@Xq,@Bool.not_false,@WW,@VX,@W6,@Bool.true_eq_false,@VR,@false_implies,@true_implies,@Bool.not_not,@Ww,@Ha,@List.set_cons_zero,@List.set_cons_succ,@List.drop_nil,@WZ,@List.replicate_zero,@List.replicate_succ,@mr,@ud,@tf,@sR,@List.isEmpty_cons,@Option.map_none,@VE,@Nat.succ_ne_zero,@List.take_succ_cons,@List.take_zero,@Xs,@bne_eq_false_iff_eq,@beq_eq_false_iff_ne,@not_true_eq_false,@not_false_eq_true,@Decidable.not_not⟩
inductive yO:V->Prop
 | val (v:Value):yO (.val v)
 | aY (cs:List V):(∀ i,i < cs.length->∃ v,cs.getD i .any=.val v)->yO (.aY cs)
theorem Qr {Z d:Nat->Prop} {μ μ':Mu} {hp b:Array Obj} {t:V} {x:Value} (e:yO t) (h:ay Z μ hp t x):ay d μ' b t x:=by
 cases e with
 | val=>cases h with | val _ a=>exact .val _ a
 | aY cs f =>
  cases h with
  | aY _ c h1 g =>
   refine .aY _ _ h1 λi hi=>?_
   have:=g i hi
   obtain⟨v,a⟩:=f i hi
   rw[a] at this ⊢
   generalize c.getD i undef=y at this ⊢
   cases this with | val _ a=>exact .val _ a
theorem bK.borrow {P:Program} {f:FuncId} {d vs:List V} {t:V} {h:aD} (q:aB P f d t) (r:yO t) (u:d.length=vs.length)
  (j:∀ i,i < vs.length->Fr h (vs.getD i .any) (d.getD i .any)):bK P f vs h t h:=by
 refine⟨VA _,λZ μ F w xs c hr k=>?_⟩
 have l:fU (λb=>Z b∨jq μ b) μ w.heap d xs:=⟨by rw[u,c.1],λi hi=>BJ hr (j i (by omega)) (c.2 i (by omega))⟩
 have m:∀ b,(Z b∨jq μ b)->b < w.heap.size:=by
  rintro b (a | ⟨id,o,s,a⟩)
  .exact hr.cQ b a
  .exact hr.lt _ _ _ _ a
 refine(q _ μ w xs l m).mono ?_
 rintro e w' ⟨x,z,rfl,v,n,A,y,g⟩
 have hm:gT Z Z μ μ w.heap w'.heap:=⟨λ_ h=>h,λb a=>g b (hr.cQ b a) (λx=>x),λ_ _ h=>h,g.rf⟩
 exact⟨x,Z,μ,rfl,Qr r (v μ),⟨λid=>(hr.obj id).mono hm rfl (λb o s p=>g b (hr.lt _ _ _ _ p) (λx=>x)),hr.inj,λid b o s p=>VY (hr.lt _ _ _ _ p) n.size,λb a=>VY (hr.cQ b a) n.size,hr.gP⟩,
  ⟨n,hm,λb a _=>g b a (λx=>x),λb a=>.inl a,λ_ _ _ _ h=>.inl h⟩,λ_ _=>rfl⟩
def cn (H:View) (v t:V):Prop:=∀ h:aD,h.view=H->Fr h v t
theorem cn.tree {H:View} {v:V} (h:Tree v):cn H v v:=λ_ _=>.tree _ h
theorem cn.sl {H:View} {id off len esz z:Nat} {es:List (List V)} (hH:H id=.arr z es) (hle:off+len<=es.length) (c:∀ e∈es,∀ v∈e,Tree v) :
  cn H (.sl id off len esz) (.aW ((es.drop off).take len)):=by
 rintro h rfl
 have b:∀ i,i < len->((es.drop off).take len).getD i []=es.getD (off+i) []:=λi hi=>by
  simp[Vp,WT,hi]
 refine .sl id off len esz z es _ hH hle (by simp;omega) (λi hi=>by rw[b i hi]) (λi j hi a=>?_)
 rw[b i hi] at a ⊢
 refine .tree _ ?_
 have h1:off+i < es.length:=by omega
 have d:es.getD (off+i) []=es[off+i]:=by simp[Vp,h1]
 rw[d] at a ⊢
 have f:(es[off+i]).getD j .any=(es[off+i])[j]:=by simp[Vp,a]
 rw[f]
 exact c _ (Vw _) _ (Vw _)
theorem ax.borrow {P:Program} {q:Bool} {f:FuncId} {H:View} {vs c:List V} {K:V->View->Prop} {v:cL (H,K)} {t:V} (d:aB P f c t) (a:dD P f=true) (g:yO t) (j:c.length=vs.length)
  (b:∀ i,i < vs.length->cn H (vs.getD i .any) (c.getD i .any)) (hk:K t H):ax P q f vs H K v:=by
 unfold ax
 cases q with
 | true=>exact⟨a,λh e=>⟨t,h,bK.borrow d g j (λi hi=>b i hi h e),λ_ _=>rfl,e ▸ hk⟩⟩
 | false =>
  refine⟨a,?_⟩
  rintro h rfl
  exact⟨t,h,bK.borrow d g j (λi hi=>b i hi h rfl),.refl _,hk⟩
abbrev gi (x:Int):V:=.val (.int .i64 x)
abbrev gb (x:Bool):V:=.val (.bool x)
abbrev gs (x:ByteArray):V:=.val (.string x)
theorem mixed:(Tryz.prog).follows .mixedOrders=true:=by kernel_rfl
def encI (l:List Int):V:=.aW (l.map λx=>[gi x])
def b5 (l:List Bool):V:=.aW (l.map λx=>[gb x])
theorem bI (l:List Int):Tree (encI l):=by
 refine .aW _ λi j hi a=>?_
 simp only[Vx] at hi
 simp[Vp,hi] at a ⊢
 subst a
 exact .val _
def aI {α:Type} (l:List α):Prop:=l.length < 4611686018427387904
def oP:SC :=
 af [af [ae [aa 11 5,aa 12 0,aN 13 12,aS 14 .lss 11 13],bO 14 (.exit 0)],.block 1 (af [ae [aa 17 0,aa 18 5,aL 19 1 17 18,al 20 19,aa 21 1,aa 22 5,aL 23 1 21 22,al 24 23,aS 25 .neq 20 24],aZ 25 (af [ae [bm 4 false],.ret])]),ae [aa 15 5,aF 16 .add 15 1,aa 5 16]]
def qK:SF:=⟨af [ae [bm 4 false],af [ae [aa 6 0,aN 7 6,aa 8 1,aN 9 8,aS 10 .neq 7 9],aZ 10 (af [ae [bm 4 false],.ret])],af [ae [aP 5 0],bR 0 oP],ae [bm 4 true],.ret],
 [.tmp 4],26⟩
theorem u4:aM Tryz.prog 26 []=some qK:=by kernel_rfl
theorem RA {α:Type} [BEq α] [LawfulBEq α] {a b:List α} (h:a.length≠b.length):(a == b)=false:=by
 simp only[beq_eq_false_iff_ne];intro e;exact h (by rw[e])
theorem Sf (a b:List Int) (l:aI a) (H:View):aw Tryz.prog 26 [encI a,encI b] H λr H'=>r=gb (a == b)/\H'=H:=by
 refine aw.of mixed u4 ?_
 unfold aI at l
 simp(disch:=omega)only[↓wr,seval,wq,qK,encI]
 apply aj.ne<;>intro h
 .simp(disch:=omega)only[↓wr,seval,wq]
  rw[RA (by omega)]
 .simp(disch:=omega)only[↓wr,seval,wq]
  refine aR.intro (λk T H'=>∃ i:Nat,i+k=a.length/\a.take i=b.take i/\T 0=encI a/\T 1=encI b/\T 5=gi i/\H'=H) a.length ?_ ?_
  .exact⟨0,by omega,by simp,rfl,rfl,rfl,rfl⟩
  .rintro k T H' ⟨i,hk,hi,c,h1,d,rfl⟩
   simp(disch:=omega)only[↓wr,seval,wq,oP,c,h1,d,encI]
   apply aj.dec<;>intro m
   .have g:a[i]?=some (a[i]'(by omega)):=Vq (by omega)
    have j:b[i]?=some (b[i]'(by omega)):=Vq (by omega)
    simp(disch:=omega)only[↓wr,seval,wq,c,h1,d,encI,Vt,g,j,VE]
    apply aj.ne<;>intro f
    .simp(disch:=omega)only[↓wr,seval,wq]
     have:(a == b)=false:=by
      simp only[beq_eq_false_iff_ne];rintro rfl;exact f rfl
     rw[this]
    .simp(disch:=omega)only[↓wr,seval,wq,c,h1,d,encI]
     refine⟨k - 1,by omega,i+1,by omega,?_,rfl⟩
     rw[VP,VP,hi,g,j,f]
   .simp(disch:=omega)only[↓wr,seval,wq,c,h1,d,encI]
    have:a=b:=by
     have e:i=a.length:=by omega
     rw[VG (by omega),VG (by omega)] at hi
     exact hi
    rw[this];simp
theorem RX (a b:List Int) (c:aI a):aB Tryz.prog 26 [encI a,encI b] (gb (a == b)) :=
 aB.of (by simp[bI]) ((Sf a b c _).mono λr H' h d _=>by rw[h.1];exact .tree _ (.val _))
theorem iU (l:List Bool):Tree (b5 l):=by
 refine .aW _ λi j hi a=>?_
 simp only[Vx] at hi
 simp[Vp,hi] at a ⊢
 subst a
 exact .val _
end Gv
