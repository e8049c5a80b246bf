/-
  Part 5 of the proof: what the machine does and what the functions answer.
  Conditions: those that each lemma names.
-/
import Derived.Test.YtoamakccoedejaaGreatDoorProg
import Derived.KernelRfl
import Derived.Test.YtoamakccoedejaaGreatDoorSGjSD
set_option linter.unusedSimpArgs false
set_option linter.unusedVariables false
set_option maxRecDepth 100000
set_option maxHeartbeats 20000000
namespace Gv
open Go Go.Proofs
noncomputable abbrev aa:Program:=Tryz.prog
section
variable {P:Program} {n:Nat} {all:List Oper}
theorem CP (h:ah):h.view h.length=.dead:=by simp[ah.view,GQ]
theorem Fp {o:Oper} {T:Env} {h:ah} {s:SI} {K:V->View->Prop} (g:bw n all T o=some true) (i:∀v ag rd,sI P s T h.view h.length=some (v,ag,rd)->aP P o T h.view h.length=some (v,ag,rd)) (hw:wI P s T h.view K):
  ∃v d rd wr,bK P n all o T h v d rd wr false/\ey h d/\K v d.view/\eo (kK P s) rd wr false h.length d.length:=by
 obtain⟨v,ag,rd,e,j⟩:=FH hw (CP h)
 have f:=i _ _ _ e
 have a:∀id,id∈ag.wr->h.view id≠.dead:=λid b=>(gJ f id b).1
 refine⟨v,ag.apply h,rd,ag.wr,.op g f,?_,?_,?_,?_⟩
 .intro id b c
  rw[fX a]
  cases ag with
  | none=>exact c
  | new o=>simp only[az.view,View.set];rw[GV (by omega)];exact c
  | dp k o =>
   simp only[az.view,View.set]
   rw[GV (by rintro rfl;exact a id (by simp[az.wr]) c)];exact c
  | cU k o =>
   simp only[az.view,View.set]
   rw[GV (by omega)]
   split
   .rfl
   .exact c
 .rw[fX (λid b=>(gJ f id b).1)];exact j
 .intro l
  obtain⟨rfl,rfl⟩:=(jY e).1 l
  exact⟨rfl,rfl,rfl,rfl⟩
 .intro p
  rcases Ho (kK P s) 1 with m | m
  .obtain⟨rfl,rfl⟩:=(jY e).1 (by omega);rfl
  .exact(jY e).2 (by omega)
theorem xH {P:Program} {fr:Bool} {s:SI} {T:Env} {H:View} {n:Nat} {v:V} {ag:az} {rd:List Nat} (h:sI P (nr P fr s) T H n=some (v,ag,rd)):sI P s T H n=some (v,ag,rd):=by
 unfold nr at h
 split at h
 .split at h
  .exact Dd h
  .exact h
 .split at h
  .rename_i a
   simp only[G0] at a
   exact DN a.2 h
  .exact h
 .exact h
theorem oR (P:Program) (a:Fz) (o:Oper):
  (∃f args b,o.op=.call { callee:=.value f,args:=args,argTypes:=b }/\(gG P a o=.call (SX.of f) (args.toList.map SX.of)∨gG P a o=.oD (SX.of f) (args.toList.map SX.of))) ∨
  (∃t x,o.op=.box t x/\gG P a o=.op (.eN (SX.of x)))∨(∃s d x,o.op=.convert s d x/\lH P s d=true/\gG P a o=.op (.df (SX.of x)))∨gG P a o=.op (nr P a.fr (comp P o)):=by
 unfold gG
 split
 .rename_i f args b e
  refine .inl ⟨f,args,b,e,?_⟩
  by_cases g:(match o.dst with | some d=>a.l.contains (200000+d) | none=>false)=true
  .exact .inr (GZ g)
  .exact .inl (GV g)
 .rename_i t x e
  by_cases c:(match o.dst with | some d=>a.l.contains d | none=>false)=true
  .exact .inr (.inl ⟨t,x,e,GZ c⟩)
  .refine .inr (.inr (.inr ?_))
   refine(GV c).trans ?_
   simp only[comp,e,nr]
 .rename_i s d x e
  by_cases c:((match o.dst with | some d=>a.l.contains d | none=>false)&&lH P s d)=true
  .exact .inr (.inr (.inl ⟨s,d,x,e,by simp only[G0] at c;exact c.2,GZ c⟩))
  .exact .inr (.inr (.inr (GV c)))
 .exact .inr (.inr (.inr rfl))
theorem bK.len {o:Oper} {T:Env} {h a:ah} {v:V} {rd wr:List Nat} {call:Bool} (st:bK P n all o T h v a rd wr call):h.length<=a.length:=by
 cases st with
 | skip=>exact GX _
 | op _ _=>rename_i ag _ _ ;cases ag<;>simp[az.apply]
 | eN _ _ _=>exact GX _
 | df _ _ _ _ _ _=>exact GX _
 | call _ _ _ _ b _ _=>exact b.1
theorem Eb {u:Fz} {o:Oper} {T:Env} {h:ah} {quiet:Bool} {K:V->View->Prop} (l:bw n all T o=some true) (hw:wB P quiet (gG P u o) T h.view K):
  ∃v b rd wr call,bK P n all o T h v b rd wr call/\ey h b/\K v b.view/\eo (cX P quiet (gG P u o)) rd wr call h.length b.length:=by
 rcases oR P u o with ⟨f,args,E,k,j | j⟩ | ⟨t,x,k,j⟩ | ⟨s,d,x,k,w,j⟩ | j
 rotate_left
 .rw[j] at hw ⊢
  simp only[wB] at hw
  split at hw
  .rename_i g first cap m
   rw[pT] at hw
   rw[SX.aU] at m
   obtain⟨c,i⟩:=hw
   obtain⟨r,b,hr,hold,p⟩:=i h rfl
   refine⟨r,b,[],[],true,.call l k m c hr (λid a _=>hold id a) (λid a=>by simp at a),λid a y=>(hold id a).trans y,p,?_,?_⟩
   .intro q;simp[cX] at q
   .intro _;rfl
  .exact hw.elim
 rotate_right
 .rw[j] at hw ⊢
  simp only[wB] at hw
  split at hw
  .rename_i g first cap m
   rw[pT] at hw
   rw[SX.aU] at m
   split at hw
   .rename_i z
    obtain⟨c,i⟩:=hw
    obtain⟨r,b,hr,hold,p⟩:=i h rfl
    refine⟨r,b,[],[],true,.call l k m c hr (λid a _=>hold id a) (λid a=>by simp at a),λid a y=>(hold id a).trans y,p,?_,?_⟩
    .intro q;simp[cX,z] at q
    .intro _;rfl
   .rename_i z
    obtain⟨c,i⟩:=hw
    obtain⟨r,b,hr,A,p⟩:=i h rfl
    refine⟨r,b,[],List.range h.length,true,.call l k m c hr (λid a F=>?_) (λid a=>by simpa using a),A,p,Dp (by simp[cX,z])⟩
    exact absurd (by simpa using a) F
  .exact hw.elim
 .rw[j] at hw ⊢
  simp only[wB,wI,SX.aU] at hw
  exact⟨_,h,[],[],false,.eN l k hw.1,.refl _,hw.2,λ_=>⟨rfl,rfl,rfl,rfl⟩,λ_=>rfl⟩
 .rw[j] at hw ⊢
  simp only[wB,wI,SX.aU] at hw
  obtain⟨e,B,C,D⟩:=o8 w
  split at hw
  .rename_i st G
   exact⟨_,h,[],[],false,.df l k B C D G,.refl _,hw,λ_=>⟨rfl,rfl,rfl,rfl⟩,λ_=>rfl⟩
  .exact hw.elim
 .rw[j] at hw ⊢
  obtain⟨v,b,rd,wr,B,q,C,D⟩:=Fp (s:=nr P u.fr (comp P o)) l (λv ag rd H=>xI (xH H)) hw
  exact⟨v,b,rd,wr,false,B,q,C,D⟩
def c8 (P:Program) (quiet:Bool) (l:List SO) (recs:List Rec):Prop:=
 l.length=recs.length/\∀(i:Nat) (s:SO) (r:Rec),l[i]?=some s->recs[i]?=some r->eo (cX P quiet s.b) r.rd r.wr r.call r.lo r.hi
theorem c8.nil {quiet:Bool} : c8 P quiet [] []:=⟨rfl,λi s r h=>by simp at h⟩
theorem c8.cons {quiet:Bool} {l:List SO} {a:List Rec} {s:SO} {r:Rec} (h:c8 P quiet l a) (hr:eo (cX P quiet s.b) r.rd r.wr r.call r.lo r.hi):c8 P quiet (s::l) (r::a):=by
 refine⟨by simp[h.1],λi e f d c=>?_⟩
 cases i with
 | zero=>simp at d c;subst d c;exact hr
 | succ i=>exact h.2 i e f (by simpa using d) (by simpa using c)
theorem c8.append {quiet:Bool} {l l':List SO} {b a:List Rec} (h:c8 P quiet l b) (d:c8 P quiet l' a):c8 P quiet (l++l') (b++a):=by
 refine⟨by simp[h.1,d.1],λi s r c hr=>?_⟩
 by_cases hi:i<l.length
 .rw[Hz hi] at c
  rw[Hz (h.1▸hi)] at hr
  exact h.2 i s r c hr
 .rw[HN (by omega)] at c
  rw[HN (by have:=h.1;omega)] at hr
  exact d.2 (i-l.length) s r c (by rw[h.1];exact hr)
theorem kP {a:Fz} {o:Oper} {s:SO} (h:tN P n all a o=some s):jO n o=true/\s.dst=o.dst/\s.b=gG P a o/\lL n all o=some s.guard:=by
 unfold tN at h
 split at h
 .rename_i c
  simp only[GU] at h
  obtain⟨g,d,rfl⟩:=h
  exact⟨c,rfl,rfl,d⟩
 .simp at h
theorem qT {o:Oper} {T:Env} (h:lL n all o=some none):bw n all T o=some true:=by
 unfold lL at h
 unfold bw
 split at h
 .rename_i a;rw[a]
 .split at h
  .split at h
   .simp at h
   .simp at h
  .simp at h
theorem fO {o:Oper} {T:Env} {d:Nat} {want:Bool} (h:lL n all o=some (some (d,want))):
  (∀b,T d=.val (.bool b)->bw n all T o=some (b==want))/\(T d=.aA []->bw n all T o=some false):=by
 unfold lL at h
 unfold bw
 split at h
 .simp at h
 .rename_i j w e
  rw[e]
  split at h
  .rename_i g f
   split at h
   .rename_i a
    obtain⟨rfl,rfl⟩:=h
    simp only[f,a,if_true]
    exact⟨λb c=>by rw[c],λc=>by rw[c]⟩
   .simp at h
  .simp at h
theorem fK {a:Fz} {os:List Oper} (h:bF P n all a os=some []):os=[]:=by
 cases os with
 | nil=>rfl
 | cons o r =>
  simp only[bF] at h
  split at h<;>simp at h
theorem gw {a:Fz} {os:List Oper} {s:SO} {l:List SO} (h:bF P n all a os=some (s::l)):∃o r,os=o::r/\tN P n all a o=some s/\bF P n all a r=some l:=by
 cases os with
 | nil=>simp[bF] at h
 | cons o r =>
  simp only[bF] at h
  split at h
  .rename_i d l' b c
   obtain⟨rfl,rfl⟩:=h
   exact⟨o,r,rfl,b,c⟩
  .simp at h
theorem jv {c:Fz}:∀ {l l':List SO} {os:List Oper},bF P n all c os=some (l++l')->∃a b,os=a++b/\bF P n all c a=some l/\bF P n all c b=some l'
 | [],l',os,h=>⟨[],os,rfl,rfl,h⟩
 | s::l,l',os,h=>by
  obtain⟨o,r,rfl,d,e⟩:=gw h
  obtain⟨a,b,rfl,f,g⟩:=jv e
  exact⟨o::a,b,rfl,by simp[bF,d,f],g⟩
theorem Tr.append {a b:List Oper} {T c d:Env} {h e f:ah} {g i:List Rec} (x:Tr P n all a T h g c e) (y:Tr P n all b c e i d f):Tr P n all (a++b) T h (g++i) d f:=by
 induction x with
 | nil=>exact y
 | cons st j _ k=>exact .cons st j (k y)
theorem pH {T:Env} {d:Nat} {v:V} (h:T d=v):T.put (some d) v=T:=by
 funext t
 simp only[Env.put]
 split
 .rename_i e;subst e;exact h.symm
 .rfl
theorem vp {D:Fz} {quiet:Bool} {K:Env->View->Prop} (g:Option (Nat × Bool)):∀(l:List (Option Nat × SB)) (os:List Oper) (T:Env) (h:ah),
  bF P n all D os=some (l.map λ(d,b)=>⟨d,g,b⟩)->(∀d w,g=some (d,w)->T d=.val (.bool w)/\(l.all λx=>x.1 != some d)=true)->o5 P quiet l T h.view K ->
  ∃a T' j,Tr P n all os T h a T' j/\(ey h j/\h.length<=j.length)/\K T' j.view/\c8 P quiet (l.map λ(d,b)=>⟨d,g,b⟩) a
 | [],os,T,h,m,q,hw=>by
  have:=fK m;subst this
  exact⟨[],T,h,.nil,⟨.refl _,GX _⟩,hw,.nil⟩
 | (d,b)::l,os,T,h,m,q,hw=>by
  obtain⟨o,r,rfl,E,F⟩:=gw m
  obtain⟨G,k,f,i⟩:=kP E
  simp only at k f i
  have s:bw n all T o=some true:=by
   cases g with
   | none=>exact qT i
   | some p =>
    obtain⟨u,w⟩:=p
    have:=(fO (T:=T) i).1 w (q u w rfl).1
    rw[this];simp
  rw[f] at hw
  obtain⟨v,j,rd,wr,call,st,y,H,I⟩:=Eb s hw
  obtain⟨a,T',z,C,c,A,B⟩:=vp g l r (T.put d v) j F (λu w e=>by
   have:=q u w e
   simp only[Ia,G0,Is,ne_eq] at this
   refine⟨?_,this.2.2⟩
   rw[<-this.1]
   cases d with
   | none=>rfl
   | some t=>simp only[Env.put];rw[GV];intro e;subst e;exact this.2.1 rfl) H
  rw[k] at C
  have hlen:=st.len
  exact⟨_,T',z,.cons st G C,⟨y.trans c.1 hlen,Hk hlen c.2⟩,A,B.cons (by rw[f];exact I)⟩
theorem rW {v:Fz} {quiet:Bool} (d:Nat) (w:Bool) (h:ah):∀(l:List (Option Nat × SB)) (os:List Oper) (T:Env),
  bF P n all v os=some (l.map λ(c,b)=>⟨c,some (d,w),b⟩)->(T d=.val (.bool !w)∨T d=.aA [])->(l.all λx=>x.1 != some d)=true ->
  ∃a,Tr P n all os T h a (ef l T) h/\c8 P quiet (l.map λ(c,b)=>⟨c,some (d,w),b⟩) a
 | [],os,T,k,f,j=>by
  have:=fK k;subst this
  exact⟨[],.nil,.nil⟩
 | (c,b)::l,os,T,k,f,j=>by
  obtain⟨o,r,rfl,y,z⟩:=gw k
  obtain⟨m,g,p,i⟩:=kP y
  simp only at g p i
  have q:bw n all T o=some false:=by
   rcases f with f | f
   .rw[(fO (T:=T) i).1 _ f];cases w<;>rfl
   .exact(fO (T:=T) i).2 f
  simp only[Ia,G0,Is,ne_eq] at j
  obtain⟨a,u,s⟩:=rW d w h l r (T.put c (.aA [])) z (by
   have:(T.put c (.aA [])) d=T d:=by
    cases c with
    | none=>rfl
    | some t=>simp only[Env.put];rw[GV];intro e;subst e;exact j.1 rfl
   rw[this];exact f) j.2
  rw[g] at u
  refine⟨_,?_,s.cons (r:=⟨[],[],false,h.length,h.length⟩) ⟨λ_=>⟨rfl,rfl,rfl,rfl⟩,λ_=>rfl⟩⟩
  have:=Tr.cons (.skip q) m u
  rw[ef,g]
  exact this
theorem Fl {o:Fz} {quiet:Bool} {K:Env->View->Prop} {g:SG} {os:List Oper} {T:Env} {h:ah} (f:bF P n all o os=some g.flat) (c:kL g=true) (hw:wG P quiet g T h.view K):
  ∃a T' k,Tr P n all os T h a T' k/\(ey h k/\h.length<=k.length)/\K T' k.view/\c8 P quiet g.flat a:=by
 unfold wG at hw
 unfold SG.flat at f ⊢
 unfold kL at c
 split at hw
 .rename_i l
  rw[l] at f ⊢
  exact vp none g.ops os T h f (λd w e=>by simp at e) hw
 .rename_i d want l
  rw[l] at f c ⊢
  split at hw
  .rename_i b j
   by_cases e:b=want
   .subst e
    have:=hw.1 rfl
    rw[pH j] at this
    exact vp (some (d,b)) g.ops os T h f (λp w e=>by simp at e;obtain⟨rfl,rfl⟩:=e;exact⟨j,c⟩) this
   .have e':b = !want:=by cases b<;>cases want<;>simp_all
    have:=hw.2 e'
    subst e'
    rw[pH j] at this
    obtain⟨a,m,i⟩:=rW (quiet:=quiet) d want h g.ops os T f (.inl j) c
    exact⟨a,_,h,m,⟨.refl _,GX _⟩,this,i⟩
  .rename_i j
   obtain⟨a,m,i⟩:=rW (quiet:=quiet) d want h g.ops os T f (.inr j) c
   exact⟨a,_,h,m,⟨.refl _,GX _⟩,hw,i⟩
  .exact hw.elim
theorem na {t:Fz} {quiet:Bool} {K:Env->View->Prop}:∀(gs:List SG) (os:List Oper) (T:Env) (h:ah),bF P n all t os=some (gA gs)->gs.all kL=true->mO P quiet gs T h.view K ->
  ∃c T' i,Tr P n all os T h c T' i/\(ey h i/\h.length<=i.length)/\K T' i.view/\c8 P quiet (gA gs) c
 | [],os,T,h,j,_,hw=>by
  have:=fK j;subst this
  exact⟨[],T,h,.nil,⟨.refl _,GX _⟩,hw,.nil⟩
 | g::gs,os,T,h,j,d,hw=>by
  simp only[Ia,G0] at d
  obtain⟨a,b,rfl,u,v⟩:=jv j
  obtain⟨y,w,k,l,e,m,o⟩:=Fl u d.1 hw
  obtain⟨z,x,p,q,f,r,s⟩:=na gs b w k v d.2 m
  exact⟨_,x,p,l.append q,⟨e.1.trans f.1 e.2,Hk e.2 f.2⟩,r,o.append s⟩
theorem Tr.at_ {os:List Oper} {T T':Env} {h j:ah} {b:List Rec} (k:Tr P n all os T h b T' j):∀(i:Nat) (o:Oper),os[i]?=some o ->
  ∃e c v f rd wr call a,b[i]?=some ⟨rd,wr,call,c.length,f.length⟩/\bK P n all o e c v f rd wr call/\h.length<=c.length/\Tr P n all (os.drop (i+1)) (e.put o.dst v) f a T' j/\(∀m,a[m]?=b[i+1+m]?) /\
   (∀t,(∀l∈os.take i,l.dst≠some t)->e t=T t):=by
 induction k with
 | nil=>intro i o hi;simp at hi
 | @cons o0 rest T T' h c j v rd wr call b st D k s =>
  intro i o hi
  cases i with
  | zero =>
   simp at hi;subst hi
   exact⟨T,h,v,c,rd,wr,call,b,rfl,st,GX _,by simpa using k,λm=>by rw[show 0+1+m=m+1 by omega,Hx],λt _=>rfl⟩
  | succ i =>
   obtain⟨e,f,v2,u,p,Ey,call2,a,w,x,y,z,A,B⟩:=s i o hi
   have hlen:h.length<=c.length:=by
    cases st with
    | skip=>exact GX _
    | op _ _=>rename_i ag _ _;cases ag<;>simp[az.apply]
    | eN _ _ _=>exact GX _
    | df _ _ _ _ _ _=>exact GX _
    | call _ _ _ _ C _ _=>exact C.1
   refine⟨e,f,v2,u,p,Ey,call2,a,by simpa using w,x,Hk hlen y,by simpa using z,λm=>?_,λt q=>?_⟩
   .rw[A,show i+1+1+m=(i+1+m)+1 by omega,Hx]
   .simp only[List.take_succ_cons,Hi] at q
    rw[B t λl r=>q l (.inr r)]
    have:=q o0 (.inl rfl)
    cases g:o0.dst with
    | none=>rfl
    | some d=>simp only[Env.put];rw[GV];rintro rfl;exact this g
theorem yL {o:Oper} {T:Env} {h g:ah} {v:V} {rd wr:List Nat} {call:Bool} (st:bK P n all o T h v g rd wr call) (b:pJ o=true) (i:o.guard=none):v=.ptr h.length 0 0:=by
 unfold pJ at b
 have d:bw n all T o=some true:=by unfold bw;rw[i]
 cases st with
 | skip f=>rw[d] at f;simp at f
 | op _ a =>
  split at b
  .rename_i e c
   simp only[aP,c] at a
   split at a
   .unfold fZ at a
    split at a
    .simp at a;exact a.1.symm
    .simp at a
   .simp at a
  .simp at b
 | eN _ c _=>rw[c] at b;simp at b
 | df _ c _ _ _ _=>rw[c] at b;simp at b
 | call _ c _ _ _ _ _=>rw[c] at b;simp at b
theorem zt {o:Oper} {T:Env} {h g:ah} {v:V} {rd wr:List Nat} {call:Bool} {t id i j:Nat} (st:bK P n all o T h v g rd wr call) (c:fH o=some t) (k:T t=.ptr id i j):wr=[id]/\call=false:=by
 unfold fH at c
 split at c
 .rename_i ty l x d m
  simp at c;subst c
  have e:bw n all T o=some true:=by unfold bw;rw[m]
  cases st with
  | skip f=>rw[e] at f;simp at f
  | op _ b =>
   have p:ev T (.tmp l)=.ptr id i j:=k
   simp only[aP,d,p,jc] at b
   split at b
   .split at b
    .simp only[GS,G6] at b
     obtain⟨_,he,_⟩:=b
     rw[<-he];exact⟨rfl,rfl⟩
    .simp at b
   .simp at b
  | eN _ a _=>rw[d] at a;simp at a
  | df _ a _ _ _ _=>rw[d] at a;simp at a
  | call _ a _ _ _ _ _=>rw[d] at a;simp at a
 .simp at c
theorem Bl {o:Oper} {T:Env} {h g:ah} {v:V} {rd wr:List Nat} {call:Bool} (st:bK P n all o T h v g rd wr call) (d:rl o=true):wr=[]/\call=false/\∀id,id∈rd->id<h.length:=by
 unfold rl at d
 cases st with
 | skip _=>exact⟨rfl,rfl,λid c=>by simp at c⟩
 | op _ b =>
  split at d
  .rename_i e a f
   simp only[aP,f,gD] at b
   split at b
   .split at b
    .rename_i z es i
     split at b
     .simp only[GU] at b
      obtain⟨_,_,b⟩:=b
      obtain⟨_,rfl,rfl⟩:=b
      refine⟨rfl,rfl,λj c=>?_⟩
      simp at c;subst c
      exact fb (by rw[i];simp)
     .simp at b
    .simp at b
   .simp only[GU] at b
    obtain⟨_,_,b⟩:=b
    obtain⟨_,rfl,rfl⟩:=b
    exact⟨rfl,rfl,λid c=>by simp at c⟩
   .simp at b
  .simp at d
 | eN _ f _=>rw[f] at d;simp at d
 | df _ f _ _ _ _=>rw[f] at d;simp at d
 | call _ f _ _ _ _ _=>rw[f] at d;simp at d
theorem lW {T T':Env} {h G:ah} {d:List Rec} (H:Tr P n all all T h d T' G) {i k:Nat} {a b:Rec} (hp:ov all i k=true) (g:d[i]?=some a) (I:d[k]?=some b):fE a b:=by
 unfold ov at hp
 split at hp
 .rename_i J K l m
  rw[G0] at hp
  obtain⟨L,hp⟩:=hp
  split at hp
  .rename_i t o
   rw[List.any_eq_true] at hp
   obtain⟨j,M,hp⟩:=hp
   rw[List.mem_range] at M
   rw[G0,G7] at hp
   obtain⟨N,c⟩:=hp
   unfold E7 at c
   split at c
   .rename_i O p
    simp only[G0,HC,Hg,Is,ne_eq,Option.isNone_iff_eq_none] at c
    obtain⟨⟨⟨Q,R⟩,S⟩,U⟩:=c
    obtain⟨T1,V,v1,W,X,FJ,c1,q,D,E,e3,Y,Z,_⟩:=H.at_ i J l
    obtain⟨Tj,r,vj,ao,a1,a6,cj,s,f1,f2,f3,f4,f5,_⟩:=Y.at_ (j-(i+1)) O (by rw[List.getElem?_drop,show i+1+(j-(i+1))=j by omega];exact p)
    have u:(all.drop (i+1)).drop (j-(i+1)+1)=all.drop (j+1):=by rw[List.drop_drop];congr 1;omega
    rw[u] at f4
    obtain⟨Tk,v,vk,w,x,y,ck,z,g1,g2,g3,_,_,g6⟩:=f4.at_ (k-(j+1)) K (by rw[List.getElem?_drop,show j+1+(k-(j+1))=k by omega];exact m)
    rw[g] at D
    have A:=(H6 D)
    have f:d[k]?=some ⟨x,y,ck,v.length,w.length⟩:=by
     rw[<-g1,f5,Z];congr 1;omega
    rw[I] at f
    have f:=H6 f
    have hv:=yL f2 S R
    have B:Tk t=.ptr r.length 0 0:=by
     rw[g6 t λo' C=>U o' C,Q,hv]
     simp[Env.put]
    obtain⟨s1,s2⟩:=zt g2 o B
    obtain⟨F,l2,l3⟩:=Bl E L
    rw[A,f]
    have hlen:V.length<=W.length:=by
     cases E with
     | skip=>exact GX _
     | op _ _=>rename_i ag _ _;cases ag<;>simp[az.apply]
     | eN _ _ _=>exact GX _
     | df _ _ _ _ _ _=>exact GX _
     | call _ _ _ _ g _ _=>exact g.1
    refine⟨λid e=>by simp[F] at e,λid e=>?_,λhc=>by simp[l2] at hc,λ_=>F,λid e=>?_⟩
    .simp only[s1,HH] at e
     intro hr
     have:=l3 _ hr
     omega
    .simp only[s1,HH] at e
     simp only
     omega
   .simp at c
  .simp at hp
 .simp at hp
theorem Cg {ls:List Nat} {d:List Rec} {T T':Env} {hp j:ah} (u:Tr P n all all T hp d T' j) (h:tJ all ls=true) (y:ls.length=d.length) (hr:∀(i x:Nat) (r:Rec),ls[i]?=some x->d[i]?=some r->eo x r.rd r.wr r.call r.lo r.hi):ld all d:=by
 intro i k a b l q m v
 have z:k<d.length:=(Ha.1 m).1
 unfold tJ at h
 simp only[Hg] at h
 have e:=h (ls[i]'(by omega),i) (by rw[Hu];simp[GR (show i<ls.length by omega)])
  (ls[k]'(by omega),k) (by rw[Hu];simp[GR (show k<ls.length by omega)])
 have s:=hr i _ a (GR (by omega)) q
 have t:=hr k _ b (GR (by omega)) m
 simp only[l,decide_true,Iq,v,Bool.false_or,Ie,HC,G0,G7] at e
 rcases e with ((e | e) | e) | e
 .obtain⟨g,f,o,w⟩:=s.1 e
  exact⟨λid c=>by simp[f] at c,λid _=>by simp[g],λp=>by simp[o] at p,λ_=>f,λid _ A=>by omega⟩
 .obtain⟨g,f,o,w⟩:=t.1 e
  exact⟨λid _=>by simp[g],λid c=>by simp[f] at c,λ_=>f,λp=>by simp[o] at p,λid c=>by simp[f] at c⟩
 .have g:=s.2 e.1
  have f:=t.2 e.2
  exact⟨λid c=>by simp[g] at c,λid c=>by simp[f] at c,λ_=>f,λ_=>g,λid c=>by simp[f] at c⟩
 .exact lW u e q m
theorem Tr.keep {os:List Oper} {T T':Env} {h c:ah} {a:List Rec} (e:Tr P n all os T h a T' c) {t:Nat} (f:∀o∈os,o.dst≠some t):T' t=T t:=by
 induction e with
 | nil=>rfl
 | @cons o0 rest T T' h j c v rd wr call a st k e g =>
  rw[g λo i=>f o (by simp[i])]
  have:=f o0 (by simp)
  cases b:o0.dst with
  | none=>rfl
  | some d=>simp only[Env.put];rw[GV];rintro rfl;exact this b
theorem mA {o:Oper} {T:Env} {h g:ah} {v:V} {rd wr:List Nat} {call:Bool} {t:Nat} (st:bK P n all o T h v g rd wr call) (d:jZ o=some t):wr=[]/\call=false/\g.length=h.length/\∀id,id∈rd->∃i j,T t=.ptr id i j:=by
 unfold jZ at d
 split at d
 .rename_i e m f
  simp at d;subst d
  cases st with
  | skip _=>exact⟨rfl,rfl,rfl,λid c=>by simp at c⟩
  | op _ a =>
   simp only[aP,f,gD] at a
   split at a
   .rename_i id i j k
    split at a
    .split at a
     .simp only[GU] at a
      obtain⟨_,_,a⟩:=a
      obtain⟨_,rfl,rfl⟩:=a
      refine⟨rfl,rfl,rfl,λl c=>?_⟩
      simp at c;subst c
      exact⟨i,j,k⟩
     .simp at a
    .simp at a
   .simp only[GU] at a
    obtain⟨_,_,a⟩:=a
    obtain⟨_,rfl,rfl⟩:=a
    exact⟨rfl,rfl,rfl,λid c=>by simp at c⟩
   .simp at a
  | eN _ b _=>rw[f] at b;simp at b
  | df _ b _ _ _ _=>rw[f] at b;simp at b
  | call _ b _ _ _ _ _=>rw[f] at b;simp at b
 .simp at d
theorem mC {i t:Nat} (h:stays all i t=true):∀o∈all.drop i,o.dst≠some t:=by
 intro o a
 have:=Hg.1 h o a
 simpa using this
theorem pt {a:List (Nat × Nat)} {T:Env} {K:Prop} (b:nI a T K):∀p∈a,eh (T p.1) (T p.2):=by
 induction a with
 | nil=>intro p hp;simp at hp
 | cons q l c =>
  intro p hp
  rcases Hi.1 hp with rfl | hp
  .exact b.1
  .exact c b.2 p hp
theorem nI.rest {a:List (Nat × Nat)} {T:Env} {K:Prop} (b:nI a T K):K:=by
 induction a with
 | nil=>exact b
 | cons q l c=>exact c b.2
theorem jk {T T':Env} {h p:ah} {a:List Rec} (q:Tr P n all all T h a T' p) {i t:Nat} {o:Oper} (k:all[i]?=some o) (s:stays all i t=true) {r:Rec} (hr:a[i]?=some r):
  ∃e f v g,bK P n all o e f v g r.rd r.wr r.call/\r.lo=f.length/\r.hi=g.length/\e t=T' t:=by
 obtain⟨e,f,v,g,rd,wr,call,l,j,u,y,w,z,A⟩:=q.at_ i o k
 rw[hr] at j
 have j:=H6 j
 subst j
 refine⟨e,f,v,g,u,rfl,rfl,?_⟩
 have m:=mC s
 have hi:i<all.length:=(Ha.1 k).1
 have b:all[i]=o:=(Ha.1 k).2
 rw[List.drop_eq_getElem_cons hi,b] at m
 rw[w.keep λx b=>m x (by simp[b])]
 have:=m o (by simp)
 cases c:o.dst with
 | none=>rfl
 | some d=>simp only[Env.put];rw[GV];rintro rfl;exact this c
theorem oK {i a b j c d:Nat} (h:eh (.ptr i a b) (.ptr j c d)):i≠j:=h
theorem qj {i a b j c d e:Nat} (h:eh (.ptr i a b) (.sl j c d e)):i≠j:=h
theorem jR {o:Oper} {T:Env} {h q:ah} {v:V} {rd wr:List Nat} {call:Bool} {t:Nat} (st:bK P n all o T h v q rd wr call) (g:iB o=some t):
  call=false/\∀id,id∈wr->(∃i j,T t=.ptr id i j)∨∃a b c,T t=.sl id a b c:=by
 unfold iB at g
 split at g
 .rename_i w m
  simp at g;subst g
  unfold fH at m
  split at m
  .rename_i ty t2 x k r
   simp at m;subst m
   cases st with
   | skip _=>exact⟨rfl,λid f=>by simp at f⟩
   | op _ d =>
    simp only[aP,k,jc] at d
    split at d
    .rename_i id i j p
     split at d
     .split at d
      .simp only[GS,G6] at d
       obtain⟨_,he,_⟩:=d
       rw[<-he]
       refine⟨rfl,λl f=>?_⟩
       simp[az.wr] at f;subst f
       exact .inl ⟨i,j,p⟩
      .simp at d
     .simp at d
    .simp at d
   | eN _ e _=>rw[k] at e;simp at e
   | df _ e _ _ _ _=>rw[k] at e;simp at e
   | call _ e _ _ _ _ _=>rw[k] at e;simp at e
  .simp at m
 .unfold zS at g
  split at g
  .rename_i args s k r
   split at g
   .rename_i t2 y u
    simp at g;subst g
    cases st with
    | skip _=>exact⟨rfl,λid f=>by simp at f⟩
    | op _ d =>
     simp only[aP,k,u] at d
     split at d
     .unfold gW at d
      split at d
      .split at d
       .simp at d
       .split at d
        .split at d<;>first | (simp only[GS,G6] at d;obtain⟨_,he,_⟩:=d;rw[<-he];exact⟨rfl,λl f=>by simp[az.wr] at f⟩) | simp at d
        .split at d
         .simp at d
         .split at d
          .split at d
           .simp only[GS,G6] at d
            obtain⟨_,he,_⟩:=d
            rw[<-he];exact⟨rfl,λl f=>by simp[az.wr] at f⟩
           .simp at d
          .rename_i id off len esz p
           split at d
           .split at d
            .simp only[GS,G6] at d
             obtain⟨_,he,_⟩:=d
             rw[<-he]
             refine⟨rfl,λl f=>?_⟩
             simp[az.wr] at f;subst f
             exact .inr ⟨off,len,esz,p⟩
            .simp at d
           .simp at d
          .simp at d
      .simp at d
     .split at d
      .unfold l5 at d
       repeat' (split at d)
       all_goals first | (simp only[GS,G6] at d;obtain⟨_,he,_⟩:=d;rw[<-he];exact⟨rfl,λl f=>by simp[az.wr] at f⟩) | simp at d
      .simp at d
    | eN _ e _=>rw[k] at e;simp at e
    | df _ e _ _ _ _=>rw[k] at e;simp at e
    | call _ e _ _ _ _ _=>rw[k] at e;simp at e
   .simp at g
  .simp at g
theorem CD {o:Oper} {T:Env} {h g:ah} {v:V} {rd wr:List Nat} {call:Bool} (st:bK P n all o T h v g rd wr call) (b:uO o=true):rd=[]/\wr=[]/\call=false:=by
 unfold uO at b
 cases st with
 | skip _=>exact⟨rfl,rfl,rfl⟩
 | op _ a =>
  split at b
  .rename_i ty len parts c
   simp only[aP,c,dI] at a
   have key:∀ {x:Option (V × az × List Nat)} {e:az},x=some (v,e,rd)->(∀y,x=some y->y.2.1.wr=[]/\y.2.2=[])->rd=[]/\e.wr=[]:=λf d=>⟨(d _ f).2,(d _ f).1⟩
   obtain⟨i,k2⟩:=key a (by
    intro y d
    repeat' (first | (split at d)|(simp only[GS] at d;subst d;exact⟨rfl,rfl⟩)|(simp at d;done)))
   exact⟨i,k2,rfl⟩
  .rename_i e c
   simp only[aP,c] at a
   split at a
   .unfold fZ at a
    split at a
    .simp only[GS,G6] at a
     obtain⟨_,he,hr⟩:=a
     rw[<-he,<-hr];exact⟨rfl,rfl,rfl⟩
    .simp at a
   .simp at a
  .simp at b
 | eN _ c _=>rw[c] at b;simp at b
 | df _ c _ _ _ _=>rw[c] at b;simp at b
 | call _ c _ _ _ _ _=>rw[c] at b;simp at b
theorem lB {o:Oper} {t:Nat} (h:fH o=some t):iB o=some t:=by unfold iB;rw[h]
theorem An {T T':Env} {h Q:ah} {l:List Rec} (u:Tr P n all all T h l T' Q) {i k:Nat} {a b:Rec} {p:Nat × Nat} (hp:rh all i k=some p) (j:eh (T' p.1) (T' p.2)) (N:l[i]?=some a) (O:l[k]?=some b):fE a b:=by
 unfold rh at hp
 split at hp
 .rename_i Z ob q r
  split at hp
  .rename_i s t w x
   split at hp
   .rename_i g
    simp only[G0] at g
    simp at hp;subst hp
    obtain⟨y,z,R,A,B,C,D,E⟩:=jk u q g.1 N
    obtain⟨F,G,S,H,I,_,_,J⟩:=jk u r g.2 O
    obtain⟨o,K,U,L⟩:=mA B w
    have j:eh (y s) (F t):=by rw[E,J];exact j
    refine⟨λid f=>by simp[o] at f,λid f hr=>?_,λv=>by simp[K] at v,λ_=>o,λid _ hx=>by omega⟩
    obtain⟨V,W,M⟩:=L id hr
    rw[M] at j
    rcases (jR I (lB x)).2 id f with ⟨c,d,m⟩ | ⟨c,d,e,m⟩
    .rw[m] at j;exact oK j rfl
    .rw[m] at j;exact qj j rfl
   .simp at hp
  .split at hp
   .rename_i t s x w
    split at hp
    .rename_i g
     simp only[G0] at g
     simp at hp;subst hp
     obtain⟨y,z,R,A,B,C,D,E⟩:=jk u q g.1 N
     obtain⟨F,G,S,H,I,X,Y,J⟩:=jk u r g.2 O
     obtain⟨o,K,U,L⟩:=mA I w
     have j:eh (F s) (y t):=by rw[E,J];exact j
     refine⟨λid f hr=>?_,λid f=>by simp[o] at f,λv=>o,λv=>by simp[K] at v,λid f=>by simp[o] at f⟩
     obtain⟨V,W,M⟩:=L id hr
     rw[M] at j
     rcases (jR B (lB x)).2 id f with ⟨c,d,m⟩ | ⟨c,d,e,m⟩
     .rw[m] at j;exact oK j rfl
     .rw[m] at j;exact qj j rfl
    .simp at hp
   .simp at hp
 .simp at hp
theorem zI {T T':Env} {h Q:ah} {l:List Rec} (u:Tr P n all all T h l T' Q) {i k:Nat} {a b:Rec} {p:Nat × Nat} (hp:rq all i k=some p) (j:eh (T' p.1) (T' p.2)) (N:l[i]?=some a) (O:l[k]?=some b):fE a b:=by
 unfold rq at hp
 split at hp
 .rename_i Z ob q r
  split at hp
  .rename_i s t w x
   split at hp
   .rename_i g
    simp only[G0] at g
    simp at hp;subst hp
    obtain⟨y,z,R,A,B,C,D,E⟩:=jk u q g.1 N
    obtain⟨F,G,S,H,I,_,_,J⟩:=jk u r g.2 O
    obtain⟨o,K,U,L⟩:=mA B w
    have j:eh (y s) (F t):=by rw[E,J];exact j
    refine⟨λid f=>by simp[o] at f,λid f hr=>?_,λv=>by simp[K] at v,λ_=>o,λid _ hx=>by omega⟩
    obtain⟨V,W,M⟩:=L id hr
    rw[M] at j
    rcases (jR I x).2 id f with ⟨c,d,m⟩ | ⟨c,d,e,m⟩
    .rw[m] at j;exact oK j rfl
    .rw[m] at j;exact qj j rfl
   .simp at hp
  .split at hp
   .rename_i t s x w
    split at hp
    .rename_i g
     simp only[G0] at g
     simp at hp;subst hp
     obtain⟨y,z,R,A,B,C,D,E⟩:=jk u q g.1 N
     obtain⟨F,G,S,H,I,X,Y,J⟩:=jk u r g.2 O
     obtain⟨o,K,U,L⟩:=mA I w
     have j:eh (F s) (y t):=by rw[E,J];exact j
     refine⟨λid f hr=>?_,λid f=>by simp[o] at f,λv=>o,λv=>by simp[K] at v,λid f=>by simp[o] at f⟩
     obtain⟨V,W,M⟩:=L id hr
     rw[M] at j
     rcases (jR B x).2 id f with ⟨c,d,m⟩ | ⟨c,d,e,m⟩
     .rw[m] at j;exact oK j rfl
     .rw[m] at j;exact qj j rfl
    .simp at hp
   .simp at hp
 .simp at hp
theorem Ah {l:List (Nat × Nat)} {a:List (Nat × Nat)} (h:qC all l=some a):∀q∈l,∃p∈a,rh all q.1 q.2=some p:=by
 induction l generalizing a with
 | nil=>intro q b;simp at b
 | cons x r d =>
  simp only[qC] at h
  split at h
  .rename_i p l' f g
   simp at h;subst h
   intro q b
   rcases Hi.1 b with rfl | b
   .exact⟨p,by simp,f⟩
   .obtain⟨i,c,e⟩:=d g q b
    exact⟨i,by simp[c],e⟩
  .simp at h
theorem zC {l:List (Nat × Nat)} {a:List (Nat × Nat)} (h:lp all l=some a):∀q∈l,∃f,(∀p∈f,p∈a)/\ow all q.1 q.2=some f:=by
 induction l generalizing a with
 | nil=>intro q b;simp at b
 | cons x r g =>
  simp only[lp] at h
  split at h
  .rename_i p l' i j
   simp at h;subst h
   intro q b
   rcases Hi.1 b with rfl | b
   .exact⟨p,λx c=>by simp[c],i⟩
   .obtain⟨k,d,e⟩:=g j q b
    exact⟨k,λx c=>by simp[d x c],e⟩
  .simp at h
theorem Bq {H:View} {x:V} {xs:List (List V)} {rd:List Nat} (h:bc H x=some (xs,rd)):∀id,id∈rd->∃a b c,x=.sl id a b c:=by
 unfold bc at h
 split at h
 .simp at h;obtain⟨_,rfl⟩:=h;intro id d;simp at d
 .simp at h;obtain⟨_,rfl⟩:=h;intro id d;simp at d
 .simp at h;obtain⟨_,rfl⟩:=h;intro id d;simp at d
 .simp at h;obtain⟨_,rfl⟩:=h;intro id d;simp at d
 .split at h
  .split at h
   .obtain⟨_,rfl⟩:=h
    intro id d
    simp at d;subst d
    exact⟨_,_,_,rfl⟩
   .simp at h
  .simp at h
 .simp at h;obtain⟨_,rfl⟩:=h;intro id d;simp at d
 .simp at h
theorem uS {o:Oper} {T:Env} {h s:ah} {v:V} {rd wr:List Nat} {call:Bool} {t y d:Nat} (st:bK P n all o T h v s rd wr call) (l:oN o=some (t,y,d)):
  call=false/\(∀id,id∈wr->∃a b c,T t=.sl id a b c)/\(∀id,id∈rd->(∃a b c,T t=.sl id a b c)∨∃a b c,T y=.sl id a b c)/\(h.length<s.length->∃a b c,v=.sl h.length a b c)/\s.length<=h.length+1/\o.dst=some d:=by
 unfold oN at l
 split at l
 .rename_i args A B r E m
  split at l
  .rename_i t2 C D
   simp at l
   obtain⟨rfl,rfl,rfl⟩:=l
   cases st with
   | skip _=>exact⟨rfl,λid g=>by simp at g,λid g=>by simp at g,λh=>by omega,by omega,m⟩
   | op _ f =>
    simp only[aP,r,D] at f
    have w:∀ {x:V} {i:az} {k:List Nat},some (x,az.none,([]:List Nat))=some (v,i,k)->false=false/\(∀id,id∈i.wr->∃a b c,T t2=.sl id a b c)/\(∀id,id∈k->(∃a b c,T t2=.sl id a b c)∨∃a b c,T C=.sl id a b c)/\(h.length<(i.apply h).length->∃a b c,v=.sl h.length a b c)/\(i.apply h).length<=h.length+1/\o.dst=some B:=by
     intro x i k e
     obtain⟨_,rfl,rfl⟩:=e
     exact⟨rfl,λid g=>by simp[az.wr] at g,λid g=>by simp at g,λh=>by simp[az.apply] at h,by simp[az.apply],m⟩
    split at f
    .unfold gW at f
     split at f
     .rename_i e xs k _ u
      have p:=Bq u
      split at f
      .simp at f
      .split at f
       .split at f<;>first | exact w f | simp at f
       .split at f
        .simp at f
        .split at f
         .split at f
          .obtain⟨rfl,rfl,rfl⟩:=f
           exact⟨rfl,λid g=>by simp[az.wr] at g,λid g=>.inr (p id g),λ_=>⟨_,_,_,rfl⟩,by simp[az.apply],m⟩
          .simp at f
         .rename_i id off len esz z
          split at f
          .split at f
           .obtain⟨rfl,rfl,rfl⟩:=f
            refine⟨rfl,λq g=>?_,λq g=>?_,λ_=>⟨_,_,_,rfl⟩,by simp[az.apply],m⟩
            .simp[az.wr] at g;subst g
             exact⟨off,len,esz,z⟩
            .rcases Hi.1 g with rfl | g
             .exact .inl ⟨off,len,esz,z⟩
             .exact .inr (p q g)
           .simp at f
          .simp at f
         .simp at f
     .simp at f
    .split at f
     .unfold l5 at f
      split at f
      .split at f
       .split at f
        .exact w f
        .split at f
         .obtain⟨rfl,rfl,rfl⟩:=f
          exact⟨rfl,λid g=>by simp[az.wr] at g,λid g=>by simp at g,λ_=>⟨_,_,_,rfl⟩,by simp[az.apply],m⟩
         .simp at f
       .simp at f
      .simp at f
     .simp at f
   | eN _ j _=>rw[r] at j;simp at j
   | df _ j _ _ _ _=>rw[r] at j;simp at j
   | call _ j _ _ _ _ _=>rw[r] at j;simp at j
  .simp at l
 .simp at l
theorem B2 {T T':Env} {h s:ah} {a:List Rec} (u:Tr P n all all T h a T' s) {i:Nat} {o:Oper} (k:all[i]?=some o) {r:Rec} (hr:a[i]?=some r):
  ∃e f v g,bK P n all o e f v g r.rd r.wr r.call/\r.lo=f.length/\r.hi=g.length/\(∀t,stays all i t=true->e t=T' t)/\∀d,o.dst=some d->stays all (i+1) d=true->T' d=v:=by
 obtain⟨e,f,v,g,rd,wr,call,l,j,w,z,q,A,B⟩:=u.at_ i o k
 rw[hr] at j
 have j:=H6 j
 subst j
 refine⟨e,f,v,g,w,rfl,rfl,λt m=>?_,λd x m=>?_⟩
 .have p:=mC m
  have hi:i<all.length:=(Ha.1 k).1
  have b:all[i]=o:=(Ha.1 k).2
  rw[List.drop_eq_getElem_cons hi,b] at p
  rw[q.keep λy b=>p y (by simp[b])]
  have:=p o (by simp)
  cases c:o.dst with
  | none=>rfl
  | some d=>simp only[Env.put];rw[GV];rintro rfl;exact this c
 .rw[q.keep (mC m),x]
  simp[Env.put]
theorem nT {i a b c j d e f:Nat} (h:eh (.sl i a b c) (.sl j d e f)):i≠j:=h
theorem zg {T T':Env} {h D:ah} {c:List Rec} (z:Tr P n all all T h c T' D) {i k:Nat} {a b:Rec} {A:List (Nat × Nat)} (hp:rK all i k=some A) (o:∀p∈A,eh (T' p.1) (T' p.2)) (E:c[i]?=some a) (F:c[k]?=some b):fE a b:=by
 unfold rK at hp
 split at hp
 .rename_i oa ob r s
  split at hp
  .rename_i t y d g B d' G H
   split at hp
   .rename_i j
    simp only[G0] at j
    obtain⟨⟨⟨⟨s1,s2⟩,I⟩,u⟩,J⟩:=j
    simp at hp;subst hp
    have l:=o (t,g) (by simp)
    have a2:=o (t,B) (by simp)
    have a3:=o (g,y) (by simp)
    have a4:=o (d,g) (by simp)
    obtain⟨Ta,v,va,K,L,M,N,w,x⟩:=B2 z r E
    obtain⟨Tb,O,vb,Q,R,_,_,q,_⟩:=B2 z s F
    obtain⟨S,U,V,W,p5,X⟩:=uS L G
    obtain⟨Y,C,Z,_⟩:=uS R H
    have x:=x d X I
    rw[<-w t s1,<-q g u] at l
    rw[<-w t s1,<-q B J] at a2
    rw[<-q g u,<-w y s2] at a3
    rw[x,<-q g u] at a4
    refine⟨λid f hr=>?_,λid f hr=>?_,λm=>by rw[S] at m;simp at m,λm=>by rw[Y] at m;simp at m,λid f hx=>?_⟩
    .obtain⟨_,_,_,e⟩:=U id f
     rcases Z id hr with ⟨_,_,_,e'⟩ | ⟨_,_,_,e'⟩
     .rw[e,e'] at l;exact nT l rfl
     .rw[e,e'] at a2;exact nT a2 rfl
    .obtain⟨_,_,_,e⟩:=C id f
     rcases V id hr with ⟨_,_,_,e'⟩ | ⟨_,_,_,e'⟩
     .rw[e',e] at l;exact nT l rfl
     .rw[e,e'] at a3;exact nT a3 rfl
    .obtain⟨_,_,_,e⟩:=C id f
     obtain⟨_,_,_,e'⟩:=W (by omega)
     have:id=v.length:=by omega
     subst this
     rw[e,e'] at a4;exact nT a4 rfl
   .simp at hp
  .simp at hp
 .simp at hp
theorem zw {T T':Env} {h l:ah} {c:List Rec} (d:Tr P n all all T h c T' l) {i k:Nat} {a b:Rec} {e:List (Nat × Nat)} (hp:ow all i k=some e) (f:∀p∈e,eh (T' p.1) (T' p.2)) (g:c[i]?=some a) (j:c[k]?=some b):fE a b:=by
 unfold ow at hp
 split at hp
 .rename_i p m
  simp at hp;subst hp
  exact zI d m (f p (by simp)) g j
 .exact zg d hp f g j
theorem Co {ls:List Nat} {d:List Rec} {T T':Env} {hp q:ah} {l:List (Nat × Nat)} (v:Tr P n all all T hp d T' q) (h:qC all (fy all ls)=some l) (z:∀p∈l,eh (T' p.1) (T' p.2)) (D:ls.length=d.length)
  (hr:∀(i x:Nat) (r:Rec),ls[i]?=some x->d[i]?=some r->eo x r.rd r.wr r.call r.lo r.hi):ld all d:=by
 intro i k a b s m o A
 have hi:i<d.length:=(Ha.1 m).1
 have E:k<d.length:=(Ha.1 o).1
 have w:=hr i _ a (GR (by omega)) m
 have y:=hr k _ b (GR (by omega)) o
 have B:(ls[i]'(by omega),i)∈ls.zipIdx:=by rw[Hu];simp[GR (show i<ls.length by omega)]
 have mk:(ls[k]'(by omega),k)∈ls.zipIdx:=by rw[Hu];simp[GR (show k<ls.length by omega)]
 by_cases f:mX all (ls[i]'(by omega)) i (ls[k]'(by omega)) k=true
 .unfold mX at f
  simp only[s,decide_true,Iq,A,Bool.false_or,Ie,HC,G0,G7] at f
  rcases f with ((f | f) | f) | f
  .obtain⟨j,g,t,C⟩:=w.1 f
   exact⟨λid c=>by simp[g] at c,λid _=>by simp[j],λu=>by simp[t] at u,λ_=>g,λid _ F=>by omega⟩
  .obtain⟨j,g,t,C⟩:=y.1 f
   exact⟨λid _=>by simp[j],λid c=>by simp[g] at c,λ_=>g,λu=>by simp[t] at u,λid c=>by simp[g] at c⟩
  .have j:=w.2 f.1
   have g:=y.2 f.2
   exact⟨λid c=>by simp[j] at c,λid c=>by simp[g] at c,λ_=>g,λ_=>j,λid c=>by simp[g] at c⟩
  .exact lW v f m o
 .have hm:(i,k)∈fy all ls:=by
   unfold fy
   rw[List.mem_flatMap]
   refine⟨_,B,?_⟩
   rw[HX]
   exact⟨_,mk,by simp only;rw[GV f]⟩
  obtain⟨p,hp,e⟩:=Ah h (i,k) hm
  exact An v e (z p hp) m o
theorem sV {P:Program} {t:TypeId} {id:Nat} {q:V} {ok:Bool} {H1 a:View} (h:H1 id=a id):cH P t (.mp id) q ok H1=cH P t (.mp id) q ok a:=by
 unfold cH
 simp only[h]
theorem y5 {P:Program} {t:TypeId} {id:Nat} {q:V} {H1 a:View} (h:H1 id=a id):cx P t (.mp id) q H1=cx P t (.mp id) q a:=by
 cases hm:de P t with
 | none=>simp only[cx,hm]
 | some x=>simp only[cx,hm,h]
theorem CH {P:Program} {t:TypeId} {id:Nat} {q:V} {H:View} {v:V} {ag:az} {rd:List Nat} (h:cH P t (.mp id) q false H=some (v,ag,rd)):ag=.none/\rd=[id]:=by
 simp only[cH,Hc,if_false] at h
 repeat' (first | (simp only[GS,G6] at h;exact⟨h.2.1.symm,h.2.2.symm⟩)|(split at h)|(simp at h;done))
theorem Bu {P:Program} {t:TypeId} {id:Nat} {q:V} {H:View} {v:V} {ag:az} {rd:List Nat} (h:cx P t (.mp id) q H=some (v,ag,rd)):∃obj,ag=.dp id obj:=by
 cases hm:de P t with
 | none=>simp[cx,hm] at h
 | some x =>
  simp only[cx,hm] at h
  repeat' (first | (simp only[GS,G6] at h;exact⟨_,h.2.1.symm⟩)|(split at h)|(simp at h;done))
theorem vD {o:Oper} {T:Env} {h f:ah} {v:V} {rd wr:List Nat} {call:Bool} (st:bK P n all o T h v f rd wr call) (i:bw n all T o=some true) (j:∀e x,o.op≠.box e x) (k:∀s d x,o.op≠.convert s d x) (l:∀c,o.op≠.call c):
  ∃ag,aP P o T h.view h.length=some (v,ag,rd)/\f=ag.apply h/\wr=ag.wr/\call=false:=by
 cases st with
 | skip g=>rw[i] at g;simp at g
 | op _ b=>exact⟨_,b,rfl,rfl,rfl⟩
 | eN _ a _=>exact absurd a (j _ _)
 | df _ a _ _ _ _=>exact absurd a (k _ _ _)
 | call _ a _ _ _ _ _=>exact absurd a (l _)
theorem D6 {a:List Rec} {f:Nat->Env} {b:Nat->ah} {vs:Nat->V} (d:pM P n all a f b vs) (i:a.length=all.length) {k:Nat} (l:k<=all.length) (hw:∀j r,j<k->a[j]?=some r->r.wr=[]):
  ∀j,j<=k->(b 0).length<=(b j).length/\∀id,id<(b 0).length->(b j).view id=(b 0).view id:=by
 intro j
 induction j with
 | zero=>intro _;exact⟨GX _,λ_ _=>rfl⟩
 | succ j g =>
  intro m
  obtain⟨e,h⟩:=g (by omega)
  obtain⟨st,_,_,_,_⟩:=d j all[j] (a[j]'(by omega)) (GR (by omega)) (GR (by omega))
  refine⟨Hk e (kG st),λid c=>?_⟩
  rw[jD st (G2 c e) (by rw[hw j _ (by omega) (GR (by omega))];simp)]
  exact h id c
theorem iS {a:List Rec} {b:Nat->Env} {f:Nat->ah} {vs:Nat->V} (c:pM P n all a b f vs) (p:a.length=all.length) {i t:Nat} (h:stays all i t=true):∀j,i<=j->j<=all.length->b j t=b i t:=by
 intro j d g
 refine oo (vs:=vs) (N:=all.length) (λk o e=>?_) rfl i j d g λk o q r l=>mC h o (by
  rw[List.mem_iff_getElem?]
  exact⟨k-i,by rw[List.getElem?_drop,show i+(k-i)=k by omega];exact l⟩)
 have m:k<all.length:=(Ha.1 e).1
 exact(c k o (a[k]'(by omega)) e (GR (by omega))).2.2.1
theorem w9 {ls:List Nat} {c:List Rec} {T T':Env} {hp:ah} {tp:Option (Nat × Nat)} (hl:ls.length=c.length)
  (hr:∀(i x:Nat) (r:Rec),ls[i]?=some x->c[i]?=some r->eo x r.rd r.wr r.call r.lo r.hi) (L:∀p,tp=some p->∃z,l7 all ls p.1 p.2=some z/\rv P z.1 (T' z.2.1) (T' z.2.2) hp.view)
  (main:∀i k a b,i<k->c[i]?=some a->c[k]?=some b->ordered (cP all []) i k=false->tp≠some (i,k)->fE a b):tL P n all c T T' hp:=by
 cases tp with
 | none=>exact ld.FL λi k a b l E M N=>main i k a b l E M N (by simp)
 | some p =>
  obtain⟨i0,y⟩:=p
  obtain⟨z,d,w⟩:=L _ rfl
  intro F hs vs cj G O A h i
  by_cases hi:i=i0
  .subst hi
   refine⟨some y,λk a b l E M N h5=>main i k a b l E M N (λe=>h5 (by simp at e;rw[e])),λk a b o hk ha hb ho=>?_⟩
   simp at hk;subst hk
   unfold l7 at d
   split at d
   .rename_i oa ob H Q
    rw[ho] at H
    have H:=H6 H
    subst H
    split at d
    .rename_i t m q t' m' q' f s ao a1
     split at d
     .rename_i B
      simp only[G0,HC,G7,Hg,List.mem_range] at B
      obtain⟨⟨⟨⟨⟨⟨⟨⟨rfl,rfl⟩,rfl⟩,s1⟩,s2⟩,s3⟩,s4⟩,R⟩,K⟩:=B
      simp only[GS] at d
      subst d
      have a6:y<all.length:=(Ha.1 Q).1
      have a7:∀j r,j<y->c[j]?=some r->r.wr=[]:=λj r hj a8=>by
       have l:=K j hj
       have S:j<ls.length:=by omega
       rw[GQ,GR S] at l
       exact(hr j _ r (GR S) a8).2 l
      have C:=D6 h A (Nat.le_of_lt a6) a7
      have em:∀j,i<=j->j<=all.length->F j m=T' m:=λj l E=>by
       rw[<-O,iS h A s1 j l E,iS h A s1 all.length (by omega) (GX _)]
      have eq:∀j,i<=j->j<=all.length->F j q=T' q:=λj l E=>by
       rw[<-O,iS h A s2 j l E,iS h A s2 all.length (by omega) (GX _)]
      obtain⟨bk,_,_,bl,bn⟩:=h i o a ho ha
      obtain⟨bs,_,_,_,_⟩:=h y ob b Q hb
      have gi:bw n all (F i) o=some true:=by unfold bw;rw[ao]
      have gk:bw n all (F y) ob=some true:=by unfold bw;rw[a1]
      unfold rv at w
      split at w
      .rename_i id U
       obtain⟨⟨ck,c0,D⟩,w⟩:=w
       have I:id<hp.length:=fb (by rw[D];simp)
       have V:(hs y).view id=hp.view id:=by rw[(C y (GX _)).2 id (by rw[G];exact I),G]
       have W:(hs i).view id=hp.view id:=by rw[(C i (Nat.le_of_lt R)).2 id (by rw[G];exact I),G]
       obtain⟨cf,u,bx,b0,b1⟩:=vD bk gi (by rw[f];simp) (by rw[f];simp) (by rw[f];simp)
       obtain⟨ch,v,b2,b8,cu⟩:=vD bs gk (by rw[s];simp) (by rw[s];simp) (by rw[s];simp)
       simp only[aP,f] at u
       simp only[aP,s] at v
       have e1:ev (F i) (.tmp m)=.mp id:=(em i (GX _) (by omega)).trans U
       have e2:ev (F i) (.tmp q)=T' q:=eq i (GX _) (by omega)
       have e3:ev (F y) (.tmp m)=.mp id:=(em y (by omega) (by omega)).trans U
       have e4:ev (F y) (.tmp q)=T' q:=eq y (by omega) (by omega)
       rw[e1,e2] at u
       rw[e3,e4,y5 V] at v
       obtain⟨l1,l2⟩:=CH u
       obtain⟨obj,l3⟩:=Bu v
       subst l1 l3
       have b9:(hs (y+1)).view id=obj:=by
        rw[b2,fX (λcv J=>by
         simp only[az.wr,HH] at J
         subst J
         rw[V,D];simp)]
        simp[az.view,View.set]
       refine⟨R,b0,b1,by rw[bl,bn,bx];rfl,λg hg ca=>?_⟩
       have X:id<(hs i).length:=fb (by rw[W,D];simp)
       have Y:g.view id=(hp.view.set id obj) id:=by
        rw[ca id X,b8,GZ (by simp[az.wr]),b9]
        simp[View.set]
       have cc:=w _ _ _ v
       have Z:aP P o (F i) g.view g.length=some (vs i,.none,a.rd):=by
        simp only[aP,f]
        rw[e1,e2,sV Y,cc,<-sV W]
        exact u
       exact .op gi Z
      .exact w.elim
     .simp at d
    .simp at d
   .simp at d
  .exact⟨none,λk a b l E M N _=>main i k a b l E M N (λe=>hi (by simp at e;exact e.1.symm)),λk a b o l=>by simp at l⟩
theorem vI {ls:List Nat} {d:List Rec} {T T':Env} {hp w:ah} {m:List (Nat × Nat)} {tp:Option (Nat × Nat)} (y:Tr P n all all T hp d T' w) (h:lp all (tH all ls tp)=some m) (I:∀p∈m,eh (T' p.1) (T' p.2)) (J:ls.length=d.length)
  (hr:∀(i x:Nat) (r:Rec),ls[i]?=some x->d[i]?=some r->eo x r.rd r.wr r.call r.lo r.hi) (o:∀p,tp=some p->∃l,l7 all ls p.1 p.2=some l/\rv P l.1 (T' l.2.1) (T' l.2.2) hp.view):tL P n all d T T' hp:=by
 have main:∀i k a b,i<k->d[i]?=some a->d[k]?=some b->ordered (cP all []) i k=false->tp≠some (i,k)->fE a b:=by
  intro i k a b z A s K B
  have U:k<d.length:=(Ha.1 s).1
  have G:=hr i _ a (GR (by omega)) A
  have H:=hr k _ b (GR (by omega)) s
  have L:(ls[i]'(by omega),i)∈ls.zipIdx:=by rw[Hu];simp[GR (show i<ls.length by omega)]
  have mk:(ls[k]'(by omega),k)∈ls.zipIdx:=by rw[Hu];simp[GR (show k<ls.length by omega)]
  by_cases f:mX all (ls[i]'(by omega)) i (ls[k]'(by omega)) k=true
  .unfold mX at f
   simp only[z,decide_true,Iq,K,Bool.false_or,Ie,HC,G0,G7] at f
   rcases f with ((f | f) | f) | f
   .obtain⟨j,g,C,M⟩:=G.1 f
    exact⟨λid c=>by simp[g] at c,λid _=>by simp[j],λt=>by simp[C] at t,λ_=>g,λid _ V=>by omega⟩
   .obtain⟨j,g,C,M⟩:=H.1 f
    exact⟨λid _=>by simp[j],λid c=>by simp[g] at c,λ_=>g,λt=>by simp[C] at t,λid c=>by simp[g] at c⟩
   .have j:=G.2 f.1
    have g:=H.2 f.2
    exact⟨λid c=>by simp[j] at c,λid c=>by simp[g] at c,λ_=>g,λ_=>j,λid c=>by simp[g] at c⟩
   .exact lW y f A s
  .have hm:(i,k)∈fy all ls:=by
    unfold fy
    rw[List.mem_flatMap]
    refine⟨_,L,?_⟩
    rw[HX]
    exact⟨_,mk,by simp only;rw[GV f]⟩
   by_cases u:newAt all k=true
   .unfold newAt at u
    split at u
    .rename_i N D
     obtain⟨W,O,v,X,rd,wr,call,E,j,g,_⟩:=y.at_ k N D
     rw[s] at j
     have j:=H6 j
     subst j
     obtain⟨Q,F,R⟩:=CD g u
     exact⟨λid _=>by simp[Q],λid c=>by simp[F] at c,λ_=>F,λt=>by simp[R] at t,λid c=>by simp[F] at c⟩
    .simp at u
   .obtain⟨p,hp,e⟩:=zC h (i,k) (by
     unfold tH
     rw[Ig]
     refine⟨hm,?_⟩
     simp only[G0,Bool.not_eq_true',Is,ne_eq]
     exact⟨by simpa using u,B⟩)
    exact zw y e (λq S=>I q (hp q S)) A s
 exact w9 J hr o main
theorem CW (hm:P.follows .mixedOrders=true) {o:Fz} {id:Nat} {ops:Array Oper} {p:SC} {T:Env} {h:ah} {Q:Exit->Env->View->Prop} (a:qy P n o ops.toList=some p) (hw:wS P p T h.view Q):
  ∃e T' d,aW P n (.region id ops true) T h e T' d/\(ey h d/\h.length<=d.length)/\Q e T' d.view:=by
 unfold qy at a
 split at a
 .simp at a
 .rename_i l v
  split at a
  .simp at a
  .rename_i b
   have b:(group l).all kL=true:=by simpa using b
   have g:bF P n ops.toList o ops.toList=some (gA (group l)):=by rw[cW];exact v
   split at a
   .rename_i w
    simp only[GU] at a
    obtain⟨y,j,rfl⟩:=a
    obtain⟨f,T',d,q,k,t,c⟩:=na (group l) ops.toList T h g b hw
    rw[cW] at c
    refine⟨.normal,T',d,?_,k,t.rest⟩
    have m:ld ops.toList f:=Co q j (pt t) (by simpa using c.1) (λi x r u hr=>by
     simp only[GY,GU] at u
     obtain⟨s,z,rfl⟩:=u
     exact c.2 i s r z hr)
    simpa using nK hm (id:=id) q w m
   .simp at a
theorem CR (hm:P.follows .mixedOrders=true) {A:Fz} {id:Nat} {ops:Array Oper} {B:SC} {T:Env} {h:ah} {Q:Exit->Env->View->Prop} (b:pX P n A ops.toList=some B) (hw:wS P B T h.view Q):
  ∃e T' d,aW P n (.region id ops true) T h e T' d/\(ey h d/\h.length<=d.length)/\Q e T' d.view:=by
 unfold pX at b
 split at b
 .simp at b
 .rename_i l D
  split at b
  .simp at b
  .rename_i c
   have c:(group l).all kL=true:=by simpa using c
   have m:bF P n ops.toList A ops.toList=some (gA (group l)):=by rw[cW];exact D
   split at b
   .rename_i C
    split at b
    .simp only[GU] at b
     obtain⟨v,f,rfl⟩:=b
     obtain⟨o,T',d,q,g,k,a⟩:=na (group l) ops.toList T h m c hw
     rw[cW] at a
     refine⟨.normal,T',d,?_,g,k.rest⟩
     have j:=vI q f (pt k) (by simpa using a.1) (λi x r t hr=>by
      simp only[GY,GU] at t
      obtain⟨s,w,rfl⟩:=t
      exact a.2 i s r w hr) (λp hp=>by simp at hp)
     simpa using jK hm (id:=id) q C j
    .split at b
     .rename_i y z
      simp only[GU] at b
      obtain⟨v,f,rfl⟩:=b
      obtain⟨o,T',d,q,g,k,a⟩:=na (group l) ops.toList T h m c hw
      rw[cW] at a
      refine⟨.normal,T',d,?_,g,k.2.rest⟩
      have j:=vI q f (pt k.2) (by simpa using a.1) (λi x r t hr=>by
       simp only[GY,GU] at t
       obtain⟨s,w,rfl⟩:=t
       exact a.2 i s r w hr) (λE u=>by
        simp only[GS] at u
        subst u
        exact⟨y,z,k.1⟩)
      simpa using jK hm (id:=id) q C j
     .simp at b
   .simp at b
theorem kh (hm:P.follows .mixedOrders=true) {t:Fz} {id:Nat} {ops:Array Oper} {draw quiet:Bool} {u:SC} {T:Env} {h:ah} {Q:Exit->Env->View->Prop} (a:jQ P n t ops.toList draw quiet=some u) (hw:wS P u T h.view Q):
  ∃e T' c,aW P n (.region id ops draw) T h e T' c/\(ey h c/\h.length<=c.length)/\Q e T' c.view:=by
 unfold jQ at a
 split at a
 .simp at a
 .rename_i l w
  split at a
  .simp at a
  .rename_i d
   have d:(group l).all kL=true:=by simpa using d
   have j:bF P n ops.toList t ops.toList=some (gA (group l)):=by rw[cW];exact w
   have key:mO P quiet (group l) T h.view (Q .normal)->(draw=true->fC ops.toList=true/\tJ ops.toList (l.map λs=>cX P quiet s.b)=true) ->
     ∃e T' c,aW P n (.region id ops draw) T h e T' c/\(ey h c/\h.length<=c.length)/\Q e T' c.view:=by
    intro hw k
    obtain⟨g,T',c,m,o,y,f⟩:=na (group l) ops.toList T h j d hw
    rw[cW] at f
    refine⟨.normal,T',c,?_,o,y⟩
    cases p:draw with
    | false=>simpa using vL (id:=id) m
    | true =>
     obtain⟨z,A⟩:=k p
     have q:ld ops.toList g:=Cg m A (by simpa using f.1) (λi x r v hr=>by
      simp only[GY,GU] at v
      obtain⟨s,B,rfl⟩:=v
      exact f.2 i s r B hr)
     simpa using nK hm (id:=id) m z q
   split at a
   .split at a
    .rename_i C
     simp at a;subst a
     exact key hw (λ_=>by simpa using C)
    .simp at a
   .rename_i p
    simp at a;subst a
    exact key hw (λe=>absurd e p)
theorem cB {a b:Option SC} {c:SC} (h:orElse' a b=some c):a=some c∨b=some c:=by
 cases a with
 | none=>exact .inr h
 | some x=>exact .inl h
theorem BD (hm:P.follows .mixedOrders=true) {k:List Nat} {id:Nat} {ops:Array Oper} {draw:Bool} {i:SC} {T:Env} {h:ah} {Q:Exit->Env->View->Prop} (j:tF P n k ops.toList draw=some i) (hw:wS P i T h.view Q):
  ∃e T' c,aW P n (.region id ops draw) T h e T' c/\(ey h c/\h.length<=c.length)/\Q e T' c.view:=by
 unfold tF at j
 rcases cB j with a | a
 .exact kh hm a hw
 .split at a
  .rename_i l
   subst l
   rcases cB a with b | a
   .split at b
    .exact CR hm b hw
    .simp at b
   rcases cB a with b | a
   .split at b
    .exact kh hm b hw
    .simp at b
   rcases cB a with d | d
   .exact CW hm d hw
   .rcases cB d with f | f
    .exact kh hm f hw
    .rcases cB f with g | g
     .exact kh hm g hw
     .exact kh hm g hw
  .simp at a
theorem tj {e:Exit} {a b:Prop} (h:oO e a b):(e=.normal/\a)∨(e≠.normal/\b):=by
 cases e with
 | normal=>exact .inl ⟨rfl,h⟩
 | _=>exact .inr ⟨by simp,h⟩
def jH (P:Program) (n:Nat) (fz:List Nat) (c:Code):Prop:=∀sc:SC,bj P n fz c=some sc->∀(T:Env) (h:ah) (Q:Exit->Env->View->Prop),wS P sc T h.view Q ->
 ∃e T' h',aW P n c T h e T' h'/\(ey h h'/\h.length<=h'.length)/\Q e T' h'.view
theorem tn {b:List Nat} : jH P n b .skip:=by
 intro c a T h Q hw;simp[bj] at a;subst a;exact⟨_,T,h,.skip,⟨.refl _,GX _⟩,hw⟩
theorem vx {j:List Nat} {x y:Code} (k:jH P n j x) (l:jH P n j y):jH P n j (.seq x y):=by
 intro z d T h Q hw
 simp only[bj] at d
 split at d
 .rename_i a b s t
  simp at d;subst d
  obtain⟨e,q,f,r,c,g⟩:=k a s T h _ hw
  rcases tj g with ⟨rfl,g⟩ | ⟨m,g⟩
  .obtain⟨u,v,o,w,i,p⟩:=l b t q f _ g
   exact⟨u,v,o,r.seq w,⟨c.1.trans i.1 c.2,Hk c.2 i.2⟩,p⟩
  .exact⟨e,q,f,r.yg m,c,g⟩
 .simp at d
theorem ia {b:Fz} {ops:List Oper} {draw quiet:Bool} {a:SC} (h:jQ P n b ops draw quiet=some a) (l:Nat):hC a l=none:=by
 unfold jQ at h
 repeat' (first | (simp only[GS] at h;subst h;rfl)|(split at h)|(simp at h;done))
theorem zx {b:Fz} {ops:List Oper} {a:SC} (h:qy P n b ops=some a) (l:Nat):hC a l=none:=by
 unfold qy at h
 repeat' (first | (simp only[GU] at h;obtain⟨_,_,rfl⟩:=h;rfl)|(split at h)|(simp at h;done))
theorem zf {b:Fz} {ops:List Oper} {a:SC} (h:pX P n b ops=some a) (l:Nat):hC a l=none:=by
 unfold pX at h
 repeat' (first | (simp only[GU] at h;obtain⟨_,_,rfl⟩:=h;rfl)|(split at h)|(simp at h;done))
theorem yV {g:List Nat} {ops:List Oper} {draw:Bool} {f:SC} (h:tF P n g ops draw=some f) (l:Nat):hC f l=none:=by
 rcases cB h with a | a
 .exact ia a l
 .split at a
  .rcases cB a with b | a
   .split at b
    .exact zf b l
    .simp at b
   rcases cB a with b | a
   .split at b
    .exact ia b l
    .simp at b
   rcases cB a with c | c
   .exact zx c l
   .rcases cB c with d | d
    .exact ia d l
    .rcases cB d with e | e
     .exact ia e l
     .exact ia e l
  .simp at a
theorem Bv {j:List Nat}:∀(c:Code) (f:SC),bj P n j c=some f->∀l,match findLabel c l with
  | some rest=>∃r,hC f l=some r/\bj P n j rest=some r
  | none=>hC f l=none:=by
 intro c
 induction c with
 | seq x y h i =>
  intro f d l
  simp only[bj] at d
  split at d
  .rename_i a b o k
   simp at d;subst d
   have g:=h a o l
   have p:=i b k l
   simp only[findLabel,hC]
   cases m:findLabel x l with
   | some rx =>
    rw[m] at g
    obtain⟨r,q,s⟩:=g
    exact⟨.seq r b,by rw[q],by simp only[bj,s,k]⟩
   | none =>
    rw[m] at g
    rw[g]
    exact p
  .simp at d
 | label l' =>
  intro f d l
  simp[bj] at d;subst d
  simp only[findLabel,hC]
  by_cases e:(l'==l)=true
  .rw[GZ e];exact⟨.skip,by rw[GZ e],by simp[bj]⟩
  .rw[GV e];simp only;rw[GV e]
 | region id ops draw=>intro f d l;simp only[bj] at d;simp only[findLabel];exact yV d l
 | cond x y z _ _ =>
  intro f d l
  simp only[bj] at d
  split at d
  .simp at d;subst d;rfl
  .simp at d
 | block id c _=>intro f d l;simp only[bj,GU] at d;obtain⟨_,_,rfl⟩:=d;rfl
 | loop c _=>intro f d l;simp only[bj,GU] at d;obtain⟨_,_,rfl⟩:=d;rfl
 | scope c _ =>
  intro f d l
  simp only[bj] at d
  split at d
  .split at d
   .simp only[GU] at d;obtain⟨_,_,rfl⟩:=d;rfl
   .simp at d
  .simp at d
 | skip=>intro f d l;simp[bj] at d;subst d;rfl
 | exit id=>intro f d l;simp[bj] at d;subst d;rfl
 | ret=>intro f d l;simp[bj] at d;subst d;rfl
 | goto l'=>intro f d l;simp[bj] at d;subst d;rfl
 | _=>intro f d;simp[bj] at d
theorem zm {x:List Nat} {c:Code} (H:jH P n x c) (hr:∀l rest,findLabel c l=some rest->jH P n x rest):jH P n x (.scope c):=by
 intro L g T h Q hw
 simp only[bj] at g
 split at g
 .rename_i a G
  split at g
  .rename_i l M
   simp only[GU] at g
   obtain⟨r,y,rfl⟩:=g
   have o:=Bv c a G l
   cases p:findLabel c l with
   | none=>rw[p] at o;simp only at o;rw[o] at y;simp at y
   | some rest =>
    rw[p] at o
    obtain⟨N,v,q⟩:=o
    rw[y] at v
    have v:=H6 v
    subst v
    obtain⟨I,K,z,A⟩:=hw
    have go:∀k T (h:ah),I k T h.view->∃e T' w,gC P n c rest T h e T' w/\(ey h w/\h.length<=w.length)/\Q e T' w.view:=by
     intro k
     induction k using Nat.strongRecOn with
     | ind k B =>
      intro T h J
      obtain⟨e,s,d,t,b,u⟩:=hr l rest p r q T h _ (A k T h.view J)
      cases e with
      | goto l' =>
       obtain⟨rfl,C,D,i⟩:=u
       obtain⟨q,E,j,F,f,m⟩:=B C D s d i
       exact⟨q,E,j,gC.jump t p F,⟨b.1.trans f.1 b.2,Hk b.2 f.2⟩,m⟩
      | _=>exact⟨_,s,d,.out t rfl,b,u⟩
    obtain⟨e,s,d,t,b,u⟩:=H a G T h _ z
    cases e with
    | goto l' =>
     obtain⟨rfl,C,_,i⟩:=u
     obtain⟨q,E,j,F,f,m⟩:=go C s d i
     exact⟨q,E,j,.scope (gC.jump t p F),⟨b.1.trans f.1 b.2,Hk b.2 f.2⟩,m⟩
    | _=>exact⟨_,s,d,.scope (.out t rfl),b,u⟩
  .simp at g
 .simp at g
theorem Dc (hm:P.follows .mixedOrders=true) {H:List Nat}:∀c:Code,jH P n H c/\∀l rest,findLabel c l=some rest->jH P n H rest:=by
 intro c
 induction c with
 | skip=>exact⟨tn,λl rest h=>by simp[findLabel] at h⟩
 | region id ops draw=>exact⟨λp d T h Q hw=>BD hm d hw,λl rest h=>by simp[findLabel] at h⟩
 | seq x y m g =>
  refine⟨vx m.1 g.1,λl rest h=>?_⟩
  simp only[findLabel] at h
  split at h
  .rename_i r hr
   simp only[GS] at h;subst h
   exact vx (m.2 _ _ hr) g.1
  .exact g.2 _ _ h
 | cond c x y m g =>
  refine⟨?_,λl rest h=>by simp[findLabel] at h⟩
  intro p d T h Q hw
  simp only[bj] at d
  split at d
  .rename_i a b u L
   simp at d;subst d
   simp only[wS] at hw
   split at hw
   .rename_i t v
    have J:kU (SX.of c) t T=T:=by
     unfold kU
     split
     .rename_i k A
      rw[A] at v
      exact pH v
     .rfl
    rw[SX.aU] at v
    cases t with
    | true =>
     have:=hw.1 rfl
     rw[J] at this
     obtain⟨e,T',f,j,st,i⟩:=m.1 a u T h Q this
     exact⟨e,T',f,.cond v j,st,i⟩
    | false =>
     have:=hw.2 rfl
     rw[J] at this
     obtain⟨e,T',f,j,st,i⟩:=g.1 b L T h Q this
     exact⟨e,T',f,.cond v j,st,i⟩
   .exact hw.elim
  .simp at d
 | block id c s =>
  refine⟨?_,λl rest h=>by simp[findLabel] at h⟩
  intro p d T h Q hw
  simp only[bj,GU] at d
  obtain⟨a,u,rfl⟩:=d
  obtain⟨e,T',f,j,st,i⟩:=s.1 a u T h _ hw
  exact⟨_,T',f,j.block,st,i⟩
 | loop c s =>
  refine⟨?_,λl rest h=>by simp[findLabel] at h⟩
  intro p d T h Q hw
  simp only[bj,GU] at d
  obtain⟨a,u,rfl⟩:=d
  obtain⟨I,⟨k,A⟩,q⟩:=hw
  have go:∀k T (h:ah),I k T h.view->∃e T' f,iY P n c T h e T' f/\(ey h f/\h.length<=f.length)/\Q e T' f.view:=by
   intro k
   induction k using Nat.strongRecOn with
   | ind k B =>
    intro T h M
    obtain⟨e,K,w,j,o,i⟩:=s.1 a u T h _ (q k T h.view M)
    rcases tj i with ⟨rfl,N,C,D⟩ | ⟨E,i⟩
    .obtain⟨O,R,F,S,z,G⟩:=B N C K w D
     exact⟨O,R,F,.step j S,⟨o.1.trans z.1 o.2,Hk o.2 z.2⟩,G⟩
    .exact⟨e,K,w,.out j E,o,i⟩
  obtain⟨e,T',f,j,st,i⟩:=go k T h A
  exact⟨e,T',f,.loop j,st,i⟩
 | exit id=>exact⟨λp d T h Q hw=>by simp[bj] at d;subst d;exact⟨_,T,h,.exit,⟨.refl _,GX _⟩,hw⟩,λl rest h=>by simp[findLabel] at h⟩
 | ret=>exact⟨λp d T h Q hw=>by simp[bj] at d;subst d;exact⟨_,T,h,.ret,⟨.refl _,GX _⟩,hw⟩,λl rest h=>by simp[findLabel] at h⟩
 | label l'=>exact⟨λp d T h Q hw=>by simp[bj] at d;subst d;exact⟨_,T,h,.label,⟨.refl _,GX _⟩,hw⟩,λl rest h=>by
   simp only[findLabel] at h
   split at h
   .simp only[GS] at h;subst h;exact tn
   .simp at h⟩
 | goto l'=>exact⟨λp d T h Q hw=>by simp[bj] at d;subst d;exact⟨_,T,h,.goto,⟨.refl _,GX _⟩,hw⟩,λl rest h=>by simp[findLabel] at h⟩
 | scope c s=>exact⟨zm s.1 s.2,λl rest h=>by simp[findLabel] at h⟩
 | _=>exact⟨λp d=>by simp[bj] at d,λl rest h=>by simp[findLabel] at h⟩
theorem Fs (hm:P.follows .mixedOrders=true) {d:List Nat} (c:Code) (b:SC) (f:bj P n d c=some b) (T:Env) (h:ah) (Q:Exit->Env->View->Prop) (hw:wS P b T h.view Q):
 ∃e T' a,aW P n c T h e T' a/\(ey h a/\h.length<=a.length)/\Q e T' a.view:=(Dc hm c).1 b f T h Q hw
theorem Fy {T:Env} {h:ah} {r:ResultVar} {l:List SR} {rest:List ResultVar} (c:cY P (r::rest)=some l):∃s l',l=s::l'/\cY P rest=some l'/\∀K:V->Prop,wR T h.view s K->∃v,j3 P T h r=some v/\K v:=by
 cases r with
 | tmp t =>
  simp only[cY,GU] at c
  obtain⟨l',d,rfl⟩:=c
  exact⟨.tmp t,l',rfl,d,λK b=>⟨_,rfl,b⟩⟩
 | cell a t =>
  simp only[cY] at c
  split at c
  .rename_i k l' d n
   simp at c;subst c
   refine⟨.cell a k,l',rfl,n,λK b=>?_⟩
   simp only[wR] at b
   simp only[j3,gD,mh d]
   split at b
   .rename_i id i j f
    split at b
    .rename_i es o
     obtain⟨g,b⟩:=b
     obtain⟨v,m,b⟩:=iD b
     exact⟨v,by rw[f];simp only[o];rw[GZ g,m];rfl,b⟩
    .exact b.elim
   .rename_i e j f
    obtain⟨v,m,b⟩:=iD b
    exact⟨v,by rw[f];simp only;rw[m];rfl,b⟩
   .exact b.elim
  .simp at c
theorem z6 {T:Env} {h:ah} {K:List V->Prop}:∀(rs:List ResultVar) (l:List SR) (acc:List V),cY P rs=some l->sT T h.view l acc K->∃vs,gm P T h rs=some vs/\K (acc++vs)
 | [],l,acc,a,hw=>by simp[cY] at a;subst a;exact⟨[],rfl,by simpa [sT] using hw⟩
 | r::rest,l,acc,a,hw=>by
  obtain⟨s,l',rfl,d,e⟩:=Fy (T:=T) (h:=h) a
  obtain⟨v,f,b⟩:=e _ hw
  obtain⟨vs,c,b⟩:=z6 rest l' (acc++[v]) d b
  exact⟨v::vs,by simp[gm,f,c],by simpa using b⟩
def wF (P:Program) (F:SF) (vs:List V) (H:View) (K:V->View->Prop):Prop:=
 vs.length<=F.n/\wS P F.code (fI vs) H λe T' H'=>(e=.ret∨e=.normal)/\sT T' H' F.res [] λl=>K (ml l) H'
theorem ar.of (hm:P.follows .mixedOrders=true) {f:FuncId} {j:List Nat} {F:SF} (b:aM P f j=some F) {vs:List V} {H:View} {K:V->View->Prop} (hw:wF P F vs H K):ar P f vs H K:=by
 unfold aM at b
 split at b
 .rename_i fn g
  split at b
  .rename_i c k
   split at b
   .rename_i m rs n o p
    simp at b;subst b
    refine⟨p,?_⟩
    rintro h rfl
    obtain⟨e,T',q,r,st,he,hr⟩:=Fs hm c m n _ h _ hw.2
    obtain⟨d,i,s⟩:=z6 _ _ [] o hr
    refine⟨ml d,q,aN.xP g k hw.1 r he ?_,st.1,by simpa using s⟩
    unfold za
    rw[i]
    cases d with
    | nil=>rfl
    | cons a l=>cases l<;>rfl
   .simp at b
  .simp at b
 .simp at b
theorem ar.mono {f:FuncId} {vs:List V} {H:View} {K c:V->View->Prop} (h:ar P f vs H K) (d:∀r H',K r H'->c r H'):ar P f vs H c:=
 ⟨h.1,λg e=>let ⟨r,i,a,s,b⟩:=h.2 g e; ⟨r,i,a,s,d _ _ b⟩⟩
theorem ak.CI {f:FuncId} {vs:List V} {H:View} {t:V} {K:V->View->Prop} (h:ak P f vs t) (a:ba P f=true) (c:K t H):qq P f vs H K:=
 ⟨a,λb e=>⟨t,b,aN.ed h b,λ_ _=>rfl,e▸c⟩⟩
theorem ar.CI {f:FuncId} {vs:List V} {H:View} {K:V->View->Prop} (h:ar P f vs H λr H'=>(∀id,H id≠.dead->H' id=H id)/\K r H'):qq P f vs H K:=
 ⟨h.1,λc e=>by
  obtain⟨r,g,i,st,d,j⟩:=h.2 c e
  refine⟨r,g,i,λid a=>?_,j⟩
  by_cases b:c.view id=.dead
  .rw[b];exact st id a b
  .rw[<-e] at d;exact d id b⟩
end
inductive bB {α:Type} (x:α):Type where
 | mk
def eD (s:ByteArray):List Int:=s.data.toList.map λb=>(b.toNat:Int)
theorem e9 (s:ByteArray):s.size=(eD s).length:=by grind [eD,bsize]
def bH (P:Program) (c:SC) (T:Env) (H:View) (Q:Exit->Env->View->Prop) (_:bB (T,H,Q)):Prop:=wS P (.loop c) T H Q
def EL (P:Program) (l:Nat) (c r:SC) (T:Env) (H:View) (Q:Exit->Env->View->Prop) (_:bB (T,H,Q)):Prop:=wS P (.scope l c r) T H Q
def av (P:Program) (quiet:Bool) (f:FuncId) (vs:List V) (H:View) (K:V->View->Prop) (_:bB (H,K)):Prop:=
 if quiet then qq P f vs H K else ar P f vs H K
def pY {α:Type} (v:α) (F:α->Prop) (_:bB F):Prop:=F v
def bM (v:V) (F:V->Prop) (_:bB F):Prop:=F v
def uZ (o:cQ) (F:cQ->Prop) (_:bB F):Prop:=F o
def jn {α:Type} (o:Option α) (F:Option α->Prop) (_:bB F):Prop:=F o
def aj (b:Bool) (A B:Prop) (_:bB (A,B)):Prop:=(b=true->A)/\(b=false->B)
theorem FK {α:Type} (v:α) (F:α->Prop) (w:bB F):pY v F w=F v:=propext Iff.rfl
section
variable (F:V->Prop) (w:bB F)
theorem xk (v:Value):bM (.val v) F w=F (.val v):=propext Iff.rfl
theorem yI (k:Nat):bM (.emp k) F w=F (.emp k):=propext Iff.rfl
theorem xn:bM .bS F w=F .bS:=propext Iff.rfl
theorem xj (es:List (List V)):bM (.al es) F w=F (.al es):=propext Iff.rfl
theorem BN (a b c d:Nat):bM (.sl a b c d) F w=F (.sl a b c d):=propext Iff.rfl
theorem wZ (a b c:Nat):bM (.ptr a b c) F w=F (.ptr a b c):=propext Iff.rfl
theorem vS (e:List V) (j:Nat):bM (.aC e j) F w=F (.aC e j):=propext Iff.rfl
theorem B9 (a:Nat):bM (.mp a) F w=F (.mp a):=propext Iff.rfl
theorem Bx (f:FuncId) (a b:List V):bM (.fn f a b) F w=F (.fn f a b):=propext Iff.rfl
theorem yC (cs:List V):bM (.agg cs) F w=F (.agg cs):=propext Iff.rfl
theorem yn (cs:List V):bM (.aA cs) F w=F (.aA cs):=propext Iff.rfl
end
theorem yA (F:cQ->Prop) (w:bB F) (k:Nat) (es:List (List V)):uZ (.arr k es) F w=F (.arr k es):=propext Iff.rfl
theorem ym (F:cQ->Prop) (w:bB F) (es:List (V × V × Nat)) (k:Nat):uZ (.map es k) F w=F (.map es k):=propext Iff.rfl
theorem vX {α:Type} (F:Option α->Prop) (w:bB F) (x:α):jn (some x) F w=F (some x):=propext Iff.rfl
theorem uY (A B:Prop) (w:bB (A,B)):aj true A B w=A:=by simp[aj]
theorem sD (A B:Prop) (w:bB (A,B)):aj false A B w=B:=by simp[aj]
theorem xO (b:Bool) (A B:Prop) (w:bB (A,B)):aj (!b) A B w=aj b B A .mk:=by grind [aj]
theorem aj.split {b:Bool} {A B:Prop} {w:bB (A,B)} (a:b=true->A) (c:b=false->B):aj b A B w:=⟨a,c⟩
theorem aj.dec {p:Prop} [Decidable p] {A B:Prop} {w:bB (A,B)} (a:p->A) (b:¬ p->B):aj (decide p) A B w:=⟨λh=>a (by simpa using h),λh=>b (by simpa using h)⟩
theorem aj.eq {a b:Int} {A B:Prop} {w:bB (A,B)} (c:a=b->A) (d:¬ a=b->B):aj (a==b) A B w:=⟨λh=>c (by simpa using h),λh=>d (by simpa using h)⟩
theorem aj.ne {a b:Int} {A B:Prop} {w:bB (A,B)} (c:¬ a=b->A) (d:a=b->B):aj (a != b) A B w:=⟨λh=>c (by simpa using h),λh=>d (by simpa using h)⟩
section
variable (P:Program) (T:Env) (H:View)
theorem DB (F:SF) (vs:List V) (K:V->View->Prop):wF P F vs H K=(vs.length<=F.n/\wS P F.code (fI vs) H λe T' H'=>(e=.ret∨e=.normal)/\sT T' H' F.res [] λl=>pY (ml l) (λv=>K v H') .mk):=propext Iff.rfl
theorem xe (Q:Exit->Env->View->Prop):wS P .skip T H Q=Q .normal T H:=propext Iff.rfl
theorem s8 (q:Bool) (gs:List SG) (Q:Exit->Env->View->Prop):wS P (.region q gs) T H Q=mO P q gs T H (Q .normal):=propext Iff.rfl
theorem qZ (a:List (Nat × Nat)) (gs:List SG) (Q:Exit->Env->View->Prop):wS P (.ot a gs) T H Q=mO P false gs T H (λT' H'=>nI a T' (Q .normal T' H')):=propext Iff.rfl
theorem qV (a:Nat × Nat × Nat) (b:List (Nat × Nat)) (gs:List SG) (Q:Exit->Env->View->Prop):wS P (.iK a b gs) T H Q=mO P false gs T H (λT' H'=>rv P a.1 (T' a.2.1) (T' a.2.2) H/\nI b T' (Q .normal T' H')):=propext Iff.rfl
theorem yG (K:Prop):nI [] T K=K:=propext Iff.rfl
theorem uA (a b:Nat) (l:List (Nat × Nat)) (K:Prop):nI ((a,b)::l) T K=(eh (T a) (T b)/\nI l T K):=propext Iff.rfl
theorem xm (i j k a b c:Nat):eh (.ptr i j k) (.ptr a b c)=(i≠a):=propext Iff.rfl
theorem x4 (i j k a b c d:Nat):eh (.ptr i j k) (.sl a b c d)=(i≠a):=propext Iff.rfl
theorem ur (i j k e:Nat):eh (.ptr i j k) (.emp e)=True:=id rfl
theorem uk (i j k:Nat):eh (.ptr i j k) .bS=True:=id rfl
theorem vN (i j k:Nat) (es:List (List V)):eh (.ptr i j k) (.al es)=True:=id rfl
theorem xh (a b c d e f g h:Nat):eh (.sl a b c d) (.sl e f g h)=(a≠e):=propext Iff.rfl
theorem B5 (a b c d e:Nat):eh (.sl a b c d) (.emp e)=True:=id rfl
theorem BO (a b c d:Nat):eh (.sl a b c d) .bS=True:=id rfl
theorem Ax (a b c d:Nat) (es:List (List V)):eh (.sl a b c d) (.al es)=True:=id rfl
theorem yw (k:Nat) (v:V):eh (.emp k) v=True:=by cases v<;>rfl
theorem wP (v:V):eh .bS v=True:=by cases v<;>rfl
theorem xR (es:List (List V)) (v:V):eh (.al es) v=True:=by cases v<;>rfl
theorem vz (e:List V) (j:Nat) (v:V):eh (.aC e j) v=True:=by cases v<;>rfl
theorem Br (x y:SC) (Q:Exit->Env->View->Prop):wS P (.seq x y) T H Q=wS P x T H λe T' H'=>oO e (wS P y T' H' Q) (Q e T' H'):=propext Iff.rfl
theorem x6 (c:SX) (x y:SC) (Q:Exit->Env->View->Prop):wS P (.cond c x y) T H Q=bM (c.at T) (λv=>match v with
 | .val (.bool b)=>aj b (wS P x (kU c true T) H Q) (wS P y (kU c false T) H Q) .mk
 | _=>False) .mk:=propext Iff.rfl
theorem uI (id:Nat) (c:SC) (Q:Exit->Env->View->Prop):wS P (.block id c) T H Q=wS P c T H λe=>Q (iP id e):=propext Iff.rfl
theorem yx (id:Nat) (Q:Exit->Env->View->Prop):wS P (.exit id) T H Q=Q (.exit id) T H:=propext Iff.rfl
theorem Bo (Q:Exit->Env->View->Prop):wS P .ret T H Q=Q .ret T H:=propext Iff.rfl
theorem uy (l:Nat) (c r:SC) (Q:Exit->Env->View->Prop):wS P (.scope l c r) T H Q=EL P l c r T H Q .mk:=propext Iff.rfl
theorem vG (l:Nat) (Q:Exit->Env->View->Prop):wS P (.label l) T H Q=Q .normal T H:=propext Iff.rfl
theorem xu (l:Nat) (Q:Exit->Env->View->Prop):wS P (.goto l) T H Q=Q (.goto l) T H:=propext Iff.rfl
theorem qI (l l':Nat) (a b:Prop):ou l (.goto l') a b=(l'=l/\a):=propext Iff.rfl
theorem og (l:Nat) (a b:Prop):ou l .normal a b=b:=propext Iff.rfl
theorem qz (l i:Nat) (a b:Prop):ou l (.exit i) a b=b:=propext Iff.rfl
theorem sw (l:Nat) (a b:Prop):ou l .ret a b=b:=propext Iff.rfl
theorem ua (l:Nat) (a b:Prop):oO (.goto l) a b=b:=propext Iff.rfl
theorem pZ (i l:Nat):iP i (.goto l)=.goto l:=id rfl
theorem xD (c:SC) (Q:Exit->Env->View->Prop):wS P (.loop c) T H Q=bH P c T H Q .mk:=propext Iff.rfl
theorem wW (q:Bool) (K:Env->View->Prop):mO P q [] T H K=K T H:=propext Iff.rfl
theorem uQ (q:Bool) (g:SG) (r:List SG) (K:Env->View->Prop):mO P q (g::r) T H K=wG P q g T H λT' H'=>mO P q r T' H' K:=propext Iff.rfl
theorem xT (q:Bool) (ops:List (Option Nat × SB)) (K:Env->View->Prop):wG P q ⟨none,ops⟩ T H K=o5 P q ops T H K:=propext Iff.rfl
theorem xJ (q:Bool) (d:Nat) (ops:List (Option Nat × SB)) (K:Env->View->Prop):wG P q ⟨some (d,true),ops⟩ T H K=bM (T d) (λv=>match v with
 | .val (.bool b)=>aj b (o5 P q ops (T.put (some d) (.val (.bool true))) H K) (K (ef ops (T.put (some d) (.val (.bool false)))) H) .mk
 | .aA []=>K (ef ops T) H
 | _=>False) .mk:=propext Iff.rfl
theorem vJ (q:Bool) (d:Nat) (ops:List (Option Nat × SB)) (K:Env->View->Prop):wG P q ⟨some (d,false),ops⟩ T H K=bM (T d) (λv=>match v with
  | .val (.bool b)=>aj b (K (ef ops (T.put (some d) (.val (.bool true)))) H) (o5 P q ops (T.put (some d) (.val (.bool false))) H K) .mk
  | .aA []=>K (ef ops T) H
  | _=>False) .mk:=by
 simp only[wG,bM]
 generalize T d=v
 cases v with
 | val x=>grind [aj]
 | aA l=>grind
 | _=>simp
theorem pc:ef [] T=T:=id rfl
theorem nU (d:Option Nat) (b:SB) (r:List (Option Nat × SB)):ef ((d,b)::r) T=ef r (T.put d (.aA [])):=id rfl
theorem yi (q:Bool) (K:Env->View->Prop):o5 P q [] T H K=K T H:=propext Iff.rfl
theorem vB (q:Bool) (d:Option Nat) (b:SB) (r:List (Option Nat × SB)) (K:Env->View->Prop):o5 P q ((d,b)::r) T H K=wB P q b T H λv H'=>pY v (λa=>o5 P q r (T.put d a) H' K) .mk:=propext Iff.rfl
theorem Dh (q:Bool) (s:SI) (K:V->View->Prop):wB P q (.op s) T H K=wI P s T H K:=propext Iff.rfl
theorem xA (q:Bool) (f:SX) (args:List SX) (K:V->View->Prop):wB P q (.call f args) T H K=bM (f.at T) (λv=>match v with
 | .fn g first cap=>av P q g (first++args.map (SX.at T)++cap) H K .mk
 | _=>False) .mk:=propext Iff.rfl
theorem v8 (q:Bool) (f:SX) (args:List SX) (K:V->View->Prop):wB P q (.oD f args) T H K=bM (f.at T) (λv=>match v with
 | .fn g first cap=>av P true g (first++args.map (SX.at T)++cap) H K .mk
 | _=>False) .mk:=propext Iff.rfl
theorem AS (x:SX) (K:V->View->Prop):wI P (.cU x) T H K=K (x.at T) H:=propext Iff.rfl
theorem xV (c a b:SX) (K:V->View->Prop):wI P (.pick c a b) T H K=bM (c.at T) (λv=>match v with
  | .val (.bool t)=>aj t (K (a.at T) H) (K (b.at T) H) .mk
  | _=>False) .mk:=by
 simp only[wI,bM]
 generalize c.at T=v
 cases v with
 | val x =>
  grind [aj]
 | _=>simp
theorem As (x:SX) (K:V->View->Prop):wI P (.box x) T H K=bM (x.at T) (λv=>v.cells.all au=true/\pY v.cells (λcs=>∀n,H n=.dead->K (.ptr n 0 0) (H.set n (.arr cs.length [cs]))) .mk) .mk:=propext Iff.rfl
theorem Bc (x:SX) (K:V->View->Prop):wI P (.eN x) T H K=bM (x.at T) (λv=>v.cells.all au=true/\pY v.cells (λcs=>K (.aC cs 0) H) .mk) .mk:=propext Iff.rfl
theorem uK (z:List V) (K:V->View->Prop):wI P (.alloc z) T H K=(z.all au=true/\∀n,H n=.dead->K (.ptr n 0 0) (H.set n (.arr z.length [z]))):=propext Iff.rfl
theorem xQ (sz:Option Nat) (a:SX) (K:V->View->Prop):wI P (.load sz a) T H K=bM (a.at T) (λv=>match v with
 | .ptr id i j=>uZ (H id) (λo=>match o with
  | .arr _ es=>i<es.length/\pY (es.getD i []) (λe=>eT sz e j λv=>K v H) .mk
  | _=>False) .mk
 | .aC e j=>eT sz e j λv=>K v H
 | _=>False) .mk:=propext Iff.rfl
theorem vZ (sz:Option Nat) (a:SX) (K:V->View->Prop):wI P (.oM sz a) T H K=bM (a.at T) (λv=>match v with
 | .aC e j=>eT sz e j λv=>K v H
 | _=>False) .mk:=propext Iff.rfl
theorem wa (sz:Nat) (a x:SX) (K:V->View->Prop):wI P (.store sz a x) T H K=bM (a.at T) (λv=>match v with
 | .ptr id i j=>uZ (H id) (λo=>match o with
  | .arr esz es=>pY (x.at T).cells (λcs=>(i<es.length/\cs.length=sz/\j+cs.length<=esz/\cs.all au=true) /\
   pY (es.set i (cI (es.getD i []) j cs)) (λes'=>K .any (H.set id (.arr esz es'))) .mk) .mk
  | _=>False) .mk
 | _=>False) .mk:=propext Iff.rfl
theorem w8 (x:SX) (K:V->View->Prop):wI P (.pQ x) T H K=bM (x.at T) (λv=>match v with
 | .ptr id i j=>K (.ptr id i j) H
 | .aC e j=>K (.aC e j) H
 | .fn f a b=>K (.fn f a b) H
 | _=>False) .mk:=propext Iff.rfl
theorem wU (off:Nat) (x:SX) (K:V->View->Prop):wI P (.addr off x) T H K=bM (x.at T) (λv=>match v with
 | .ptr id i j=>K (.ptr id i (j+off)) H
 | .aC e j=>K (.aC e (j+off)) H
 | _=>False) .mk:=propext Iff.rfl
theorem tR (off:Nat) (sz:Option Nat) (x:SX) (K:V->View->Prop):wI P (.field off sz x) T H K=bM (x.at T) (λv=>match v with
 | .agg cs=>eT sz cs off λv=>K v H
 | _=>False) .mk:=propext Iff.rfl
theorem Bh (sz:Nat) (x i:SX) (K:V->View->Prop):wI P (.idx sz x i) T H K=jn (asNat (i.at T)) (λo=>match o with
  | none=>False
  | some q=>bM (x.at T) (λv=>match v with
   | .sl id off len esz=>(q<len/\esz=sz)/\K (.ptr id (off+q) 0) H
   | .al es=>jn es[q]? (λo=>match o with
    | some e=>e.length=sz/\K (.aC e 0) H
    | none=>False) .mk
   | _=>False) .mk) .mk:=by
 simp only[wI,jn,bM]
 cases asNat (i.at T) with
 | none=>rfl
 | some q =>
  grind
theorem xt (f:FuncId) (first cap:List SX) (K:V->View->Prop):wI P (.nu f first cap) T H K=K (.fn f (first.map (SX.at T)) (cap.map (SX.at T))) H:=propext Iff.rfl
theorem ue (K:V->View->Prop):wI P .mz T H K=(∀n,H n=.dead->K (.mp n) (H.set n (.map [] 0))):=propext Iff.rfl
theorem AT (i:Nat) (x:SX) (K:V->View->Prop):wI P (.ext i x) T H K=bM (x.at T) (λv=>match v with
 | .aA vs=>i<vs.length/\K (vs.getD i .any) H
 | _=>False) .mk:=propext Iff.rfl
theorem By (x:SX) (K:V->View->Prop):wI P (.len x) T H K=jn (dd (x.at T)) (λo=>match o with
 | some n=>K (gq n) H
 | none=>False) .mk:=propext Iff.rfl
theorem xg (x:SX) (K:V->View->Prop):wI P (.oh x) T H K=bM (x.at T) (λv=>match v with
 | .val (.string s)=>K (gq s.size) H
 | _=>False) .mk:=propext Iff.rfl
theorem u5 (op:BinOp) (x y:SX) (K:V->View->Prop):wI P (.arith op x y) T H K=bM (x.at T) (λv=>bM (y.at T) (λc=>match v,c with
 | .val (.int k a),.val (.int d b)=>k=d/\jn (dG op k a b) (λo=>match o with | some v=>K (.val v) H | none=>False) .mk
 | _,_=>False) .mk) .mk:=propext Iff.rfl
theorem Dz (l:Bool) (x y:SX) (K:V->View->Prop):wI P (.sh l x y) T H K=bM (x.at T) (λv=>bM (y.at T) (λc=>match v,c with
 | .val (.int k a),.val (.int _ b)=>0<=b/\K (.val (.int k (j8 l k a b))) H
 | _,_=>False) .mk) .mk:=propext Iff.rfl
theorem zO (op:BinOp) (x y:SX) (K:V->View->Prop):wI P (.qF op x y) T H K=bM (x.at T) (λv=>bM (y.at T) (λc=>match v,c with
 | .val (.string a),.val (.string b)=>(match op with
  | .eql=>K (.val (.bool (ej a b))) H
  | .neq=>K (.val (.bool (!ej a b))) H
  | _=>False)
 | _,_=>False) .mk) .mk:=propext Iff.rfl
theorem x5 (x i:SX) (K:V->View->Prop):wI P (.mW x i) T H K=bM (x.at T) (λv=>jn (asNat (i.at T)) (λo=>match v,o with
  | .val (.string s),some q=>jn (eD s)[q]? (λo=>match o with
   | some c=>K (.val (.int .u8 c)) H
   | none=>False) .mk
  | _,_=>False) .mk) .mk:=by
 simp only[wI,jn,bM]
 generalize x.at T=v
 generalize asNat (i.at T)=o
 cases v with
 | val u =>
  grind [eD]
 | _=>rfl
theorem Ag (x:SX) (K:V->View->Prop):wI P (.not x) T H K=bM (x.at T) (λv=>match v with
 | .val (.bool t)=>K (.val (.bool (!t))) H
 | _=>False) .mk:=propext Iff.rfl
theorem BM (eq:Bool) (k:Nat) (x y:SX) (K:V->View->Prop):wI P (.nil eq k x y) T H K=jn (pg (ct k (x.at T)) (ct k (y.at T))) (λo=>match o with
 | some b=>K (.val (.bool (if eq=true then b else !b))) H
 | none=>False) .mk:=propext Iff.rfl
theorem yh (x y:SX) (K:V->View->Prop):wI P (.beq true x y) T H K=bM (x.at T) (λv=>bM (y.at T) (λc=>match v,c with
 | .val (.bool a),.val (.bool b)=>K (.val (.bool (a==b))) H
 | _,_=>False) .mk) .mk:=propext Iff.rfl
theorem yz (x y:SX) (K:V->View->Prop):wI P (.beq false x y) T H K=bM (x.at T) (λv=>bM (y.at T) (λc=>match v,c with
 | .val (.bool a),.val (.bool b)=>K (.val (.bool (a != b))) H
 | _,_=>False) .mk) .mk:=propext Iff.rfl
theorem BH (x y:SX) (K:V->View->Prop):wI P (.mm true x y) T H K=bM (x.at T) (λv=>bM (y.at T) (λc=>match v,c with
 | .val (.int k a),.val (.int _ b)=>K (.val (.int k (if b>a then b else a))) H
 | _,_=>False) .mk) .mk:=propext Iff.rfl
theorem Bw (x y:SX) (K:V->View->Prop):wI P (.mm false x y) T H K=bM (x.at T) (λv=>bM (y.at T) (λc=>match v,c with
 | .val (.int k a),.val (.int _ b)=>K (.val (.int k (if b<a then b else a))) H
 | _,_=>False) .mk) .mk:=propext Iff.rfl
theorem yy (k:IntKind) (x:SX) (K:V->View->Prop):wI P (.conv k x) T H K=bM (x.at T) (λv=>match v with
 | .val (.int _ a)=>K (.val (.int k (k.wrap a))) H
 | _=>False) .mk:=propext Iff.rfl
theorem vc (n k:Nat) (o:cQ):View.set H n o k=if k=n then o else H k:=id rfl
theorem vC (z:List V) (parts:List (Nat × Nat × SX)) (K:V->View->Prop):wI P (.build z parts) T H K=jn (gu z (parts.map λp=>(p.1,p.2.1,p.2.2.at T))) (λo=>match o with
 | some cs=>K (.agg cs) H
 | none=>False) .mk:=propext Iff.rfl
theorem se (len sz:Nat) (z:List V) (parts:List (Nat × SX)) (K:V->View->Prop):wI P (.en len sz z parts) T H K=jn (fQ sz (List.replicate len z) (parts.map λp=>(p.1,p.2.at T))) (λo=>match o with
 | some es=>∀n,H n=.dead->K (.sl n 0 len sz) (H.set n (.arr sz es))
 | none=>False) .mk:=propext Iff.rfl
theorem uE (sz:Nat) (x:SX) (lo hi:Option SX) (K:V->View->Prop):wI P (.slice sz x lo hi) T H K=jn (jm sz (x.at T) (lo.map (SX.at T)) (hi.map (SX.at T))) (λo=>match o with
 | some (v,.none,_)=>K v H
 | _=>False) .mk:=propext Iff.rfl
theorem xw (sz bytes:Nat) (z:List V) (l c:SX) (K:V->View->Prop):wI P (.make sz bytes z l c) T H K=jn (asNat (l.at T)) (λa=>jn (asNat (c.at T)) (λb=>match a,b with
 | some l,some c=>(l<=c/\c<aD/\bytes*c<aD)/\(c=0->K (.emp 2) H)/\(c≠0->∀n,H n=.dead->K (.sl n 0 l sz) (H.set n (.arr sz (List.replicate l z))))
 | _,_=>False) .mk) .mk:=propext Iff.rfl
def jB (sz bytes:Nat) (x:V) (xs:List (List V)) (H:View) (K:V->View->Prop) (_:bB (H,K)):Prop:=if xs.isEmpty=true then (match x with
  | .emp k=>K (.emp k) H
  | .bS=>K .bS H
  | .al es=>K (.al es) H
  | .sl a b c d=>K (.sl a b c d) H
  | _=>False)
 else (xs.all λe=>e.length==sz&&e.all au)=true/\(match x with
  | .emp _=>(xs.length*bytes<aD/\xs.length<aD)/\∀n,H n=.dead->K (.sl n 0 xs.length sz) (H.set n (.arr sz xs))
  | .sl id off len esz=>match H id with
   | .arr _ es=>(off+len<=es.length/\esz=sz/\(len+xs.length)*bytes<aD/\len+xs.length<aD) /\
    ∀n,H n=.dead->K (.sl n 0 (len+xs.length) esz) ((H.set id .dead).set n (.arr esz ((es.drop off).take len++xs)))
   | _=>False
  | _=>False)
theorem Bn (sz bytes:Nat) (x y:SX) (K:V->View->Prop):wI P (.app sz bytes x y) T H K=jn (bc H (y.at T)) (λo=>match o with
 | some (xs,_)=>jB sz bytes (x.at T) xs H K .mk
 | none=>False) .mk:=propext Iff.rfl
theorem nP (sz bytes k:Nat) (xs:List (List V)) (K:V->View->Prop) (w:bB (H,K)) (a:xs.isEmpty=false):jB sz bytes (.emp k) xs H K w=((xs.all λe=>e.length==sz&&e.all au)=true/\(xs.length*bytes<aD/\xs.length<aD)/\∀n,H n=.dead->K (.sl n 0 xs.length sz) (H.set n (.arr sz xs))):=by
 grind [jB]
theorem pA (sz bytes id off len esz:Nat) (xs:List (List V)) (K:V->View->Prop) (w:bB (H,K)) (a:xs.isEmpty=false):jB sz bytes (.sl id off len esz) xs H K w=((xs.all λe=>e.length==sz&&e.all au)=true/\uZ (H id) (λo=>match o with
  | .arr _ es=>(off+len<=es.length/\esz=sz/\(len+xs.length)*bytes<aD/\len+xs.length<aD) /\
   ∀n,H n=.dead->K (.sl n 0 (len+xs.length) esz) ((H.set id .dead).set n (.arr esz ((es.drop off).take len++xs)))
  | _=>False) .mk):=by
 unfold jB uZ;rw[GV (by rw[a];simp)]
theorem o6 (es:List (List V)):bc H (.al es)=some (es,[]):=id rfl
theorem oY (k:Nat):bc H (.emp k)=some ([],[]):=id rfl
theorem yp (x:SX) (K:V->View->Prop):wI P (.ri x) T H K=bM (x.at T) (λv=>match v with
 | .al es=>jn (ji es) (λo=>match o with
  | some l=>K (.val (.string ⟨l.toArray⟩)) H
  | none=>False) .mk
 | _=>False) .mk:=propext Iff.rfl
theorem yb (x:SX) (K:V->View->Prop):wI P (.df x) T H K=bM (x.at T) (λv=>match v with
 | .val (.string s)=>K (.al (dt s)) H
 | _=>False) .mk:=propext Iff.rfl
def oJ (P:Program) (op:Op) (ty:TypeId) (T:Env) (H:View) (K:V->View->Prop) (_:bB (T,H,K)):Prop:=wI P (.old op ty) T H K
theorem AZ (op:Op) (ty:TypeId) (K:V->View->Prop):wI P (.old op ty) T H K=oJ P op ty T H K .mk:=propext Iff.rfl
theorem BZ (t:Nat):ev T (.tmp t)=T t:=id rfl
theorem uc (v:Value):ev T (.const v)=cK v:=id rfl
theorem A9 (t:Nat):(SX.tmp t).at T=T t:=id rfl
theorem Ba (v:V):(SX.val v).at T=v:=id rfl
theorem xi (d t:Nat) (v:V):(T.put (some d) v) t=if t=d then v else T t:=id rfl
theorem uz (v:V):T.put none v=T:=id rfl
theorem ux (vs:List V) (t:Nat):fI vs t=vs.getD t .any:=id rfl
theorem rb (e:List V) (j:Nat) (K:V->Prop):eT none e j K=(j<e.length/\K (e.getD j .any)):=propext Iff.rfl
theorem qk (n:Nat) (e:List V) (j:Nat) (K:V->Prop):eT (some n) e j K=(j+n<=e.length/\K (.agg ((e.drop j).take n))):=propext Iff.rfl
theorem qf (a b:Prop):oO .normal a b=a:=propext Iff.rfl
theorem uG (i:Nat) (a b:Prop):oO (.exit i) a b=b:=propext Iff.rfl
theorem xy (a b:Prop):oO .ret a b=b:=propext Iff.rfl
theorem nj (i:Nat):iP i .normal=.normal:=id rfl
theorem sg (i:Nat):iP i .ret=.ret:=id rfl
theorem p7 (i j:Nat):iP i (.exit j)=if j=i then .normal else .exit j:=by simp only[iP]
theorem xq (acc:List V) (K:List V->Prop):sT T H [] acc K=K acc:=propext Iff.rfl
theorem vW (r:SR) (l:List SR) (acc:List V) (K:List V->Prop):sT T H (r::l) acc K=wR T H r λv=>sT T H l (acc++[v]) K:=propext Iff.rfl
theorem zQ (t:Nat) (K:V->Prop):wR T H (.tmp t) K=K (T t):=propext Iff.rfl
theorem xz (t:Nat) (sz:Option Nat) (K:V->Prop):wR T H (.cell t sz) K=bM (T t) (λv=>match v with
 | .ptr id i j=>uZ (H id) (λo=>match o with
  | .arr _ es=>i<es.length/\pY (es.getD i []) (λe=>eT sz e j K) .mk
  | _=>False) .mk
 | .aC e j=>eT sz e j K
 | _=>False) .mk:=propext Iff.rfl
theorem sx (t:Nat) (b:Bool):kU (.tmp t) b T=T.put (some t) (.val (.bool b)):=id rfl
theorem tb (v:V) (b:Bool):kU (.val v) b T=T:=id rfl
theorem Az:(Exit.ret=Exit.ret∨Exit.ret=Exit.normal)=True:=by simp
theorem sG:(Exit.normal=Exit.ret∨Exit.normal=Exit.normal)=True:=by simp
end
section
variable {P:Program} {T:Env} {H:View}
theorem bH.intro {c:SC} {Q:Exit->Env->View->Prop} {v:bB (T,H,Q)} (I:Nat->Env->View->Prop) (k:Nat) (b:I k T H)
  (d:∀k T H,I k T H->wS P c T H λe T' H'=>oO e (∃a,a<k/\I a T' H') (Q e T' H')):bH P c T H Q v:=by
 simp only[bH,wS]
 exact⟨I,⟨k,b⟩,d⟩
theorem av.pure {q:Bool} {f:FuncId} {vs:List V} {K:V->View->Prop} {v:bB (H,K)} {t:V} (b:ak P f vs t) (c:K t H) (a:ba P f=true:=by kernel_rfl):av P q f vs H K v:=by
 cases q with
 | true=>exact b.CI a c
 | false =>
  refine⟨a,?_⟩
  rintro h rfl
  exact⟨t,h,aN.ed b h,.refl _,c⟩
theorem av.tZ {f:FuncId} {vs:List V} {K:V->View->Prop} {v:bB (H,K)} (a:ar P f vs H K):av P false f vs H K v:=a
theorem sm:ah.view []=λ_=>cQ.dead:=by grind [ah.view]
theorem ak.of {f:FuncId} {vs:List V} {t:V} (b:∀v∈vs,Tree v) (h:ar P f vs (λ_=>.dead) λr H'=>∀a:ah,a.view=H'->Fr a r t):ak P f vs t:=by
 obtain⟨r,a,c,_,d⟩:=h.2 [] sm
 grind [ak.mr]
theorem wrap64 {x:Int} (a : -9223372036854775808<=x) (b:x<=9223372036854775807):IntKind.wrap .i64 x=x:=by
 unfold IntKind.wrap
 have c:(2:Int) ^ IntKind.i64.bits=18446744073709551616:=by rfl
 have d:(2:Int) ^ (IntKind.i64.bits-1)=9223372036854775808:=by rfl
 have e:IntKind.i64.signed=true:=by rfl
 grind
theorem tg {k:IntKind} {i:Int} (h:0<=i):asNat (.val (.int k i))=some i.toNat:=by simp[asNat,h]
end
theorem sM (v:Value):V.cells (.val v)=[.val v]:=id rfl
theorem rM (v:Value):au (.val v)=true:=id rfl
theorem si (k:Nat):V.cells (.emp k)=[.emp k]:=id rfl
theorem yE (k:Nat):au (.emp k)=true:=id rfl
theorem sZ  : V.cells .bS=[.bS]:=id rfl
theorem wQ  : au .bS=true:=id rfl
theorem sP (es:List (List V)):V.cells (.al es)=[.al es]:=id rfl
theorem xL (es:List (List V)):au (.al es)=true:=id rfl
theorem uJ (a b c d:Nat):V.cells (.sl a b c d)=[.sl a b c d]:=id rfl
theorem zU (a b c d:Nat):au (.sl a b c d)=true:=id rfl
theorem sR (a b c:Nat):V.cells (.ptr a b c)=[.ptr a b c]:=id rfl
theorem wV (a b c:Nat):au (.ptr a b c)=true:=id rfl
theorem qL (e:List V) (j:Nat):V.cells (.aC e j)=[.aC e j]:=id rfl
theorem vU (e:List V) (j:Nat):au (.aC e j)=true:=id rfl
theorem ve (a:Nat):V.cells (.mp a)=[.mp a]:=id rfl
theorem Ab (a:Nat):au (.mp a)=true:=id rfl
theorem vo (f:FuncId) (a b:List V):V.cells (.fn f a b)=[.fn f a b]:=id rfl
theorem AN (f:FuncId) (a b:List V):au (.fn f a b)=true:=id rfl
theorem r9 (cs:List V):V.cells (.agg cs)=cs:=id rfl
theorem yc (k:Nat):dd (.emp k)=some 0:=id rfl
theorem yB:dd .bS=some 0:=id rfl
theorem xF (es:List (List V)):dd (.al es)=some es.length:=id rfl
theorem Al (a b c d:Nat):dd (.sl a b c d)=some c:=id rfl
abbrev FI {p:Prop} (_:p):Prop:=p
theorem Dl (P:Program) (T:Env) (H:View) (a:SC) (Q:Exit->Env->View->Prop):wS P (ai [a]) T H Q=wS P a T H Q:=by rw[ai]
theorem Di (P:Program) (T:Env) (H:View) (a b:SC) (l:List SC) (Q:Exit->Env->View->Prop):wS P (ai (a::b::l)) T H Q=wS P (.seq a (ai (b::l))) T H Q:=by rw[ai]
abbrev Wr:Prop:=FI (And.intro @Dl<|And.intro @Di<|And.intro @DB<|And.intro @xe<|And.intro @s8<|And.intro @qZ<|And.intro @qV<|And.intro @yG<|And.intro @uA<|And.intro @Br <|
 And.intro @x6<|And.intro @uI<|And.intro @yx<|And.intro @Bo<|And.intro @uy<|And.intro @vG<|And.intro @xu<|And.intro @qI<|And.intro @og<|And.intro @qz<|And.intro @sw<|And.intro @ua<|And.intro @pZ <|
 And.intro @xD<|And.intro @wW<|And.intro @uQ<|And.intro @xT <|
 And.intro @xJ<|And.intro @vJ<|And.intro @pc<|And.intro @nU <|
 And.intro @yi<|And.intro @vB<|And.intro @Dh<|And.intro @xA<|And.intro @v8 <|
 And.intro @AS<|And.intro @xV<|And.intro @As<|And.intro @Bc <|
 And.intro @uK<|And.intro @xQ<|And.intro @vZ<|And.intro @wa <|
 And.intro @w8<|And.intro @wU<|And.intro @tR<|And.intro @Bh <|
 And.intro @xt<|And.intro @ue<|And.intro @AT<|And.intro @By <|
 And.intro @xg<|And.intro @u5<|And.intro @Dz<|And.intro @zO<|And.intro @x5 <|
 And.intro @Ag<|And.intro @BM<|And.intro @yh<|And.intro @yz <|
 And.intro @BH<|And.intro @Bw<|And.intro @yy<|And.intro @yp <|
 And.intro @yb<|And.intro @vC<|And.intro @se<|And.intro @uE <|
 And.intro @xw<|And.intro @Bn<|And.intro @AZ<|And.intro @BZ<|And.intro @uc<|And.intro @A9<|And.intro @Ba <|
 And.intro @xi<|And.intro @uz<|And.intro @ux<|And.intro @rb <|
 And.intro @qk<|And.intro @qf<|And.intro @uG<|And.intro @xy <|
 And.intro @nj<|And.intro @sg<|And.intro @p7<|And.intro @xq <|
 And.intro @vW<|And.intro @zQ<|And.intro @xz<|And.intro @sx @tb)
theorem wr:Wr:=⟨@Dl,@Di,@DB,@xe,@s8,@qZ,@qV,@yG,@uA,@Br,@x6,@uI,@yx,@Bo,@uy,@vG,@xu,@qI,@og,@qz,@sw,@ua,@pZ,@xD,@wW,@uQ,@xT,@xJ,@vJ,@pc,@nU,@yi,@vB,@Dh,@xA,@v8,@AS,@xV,@As,@Bc,@uK,@xQ,@vZ,@wa,@w8,@wU,@tR,@Bh,@xt,@ue,@AT,@By,@xg,@u5,@Dz,@zO,@x5,@Ag,@BM,@yh,@yz,@BH,@Bw,@yy,@yp,@yb,@vC,@se,@uE,@xw,@Bn,@AZ,@BZ,@uc,@A9,@Ba,@xi,@uz,@ux,@rb,@qk,@qf,@uG,@xy,@nj,@sg,@p7,@xq,@vW,@zQ,@xz,@sx,@tb⟩
theorem Bz:ml []=.aA []:=id rfl
theorem Bm (v:V):ml [v]=v:=id rfl
theorem BW (v w:V) (l:List V):ml (v::w::l)=.aA (v::w::l):=id rfl
theorem DA (n:Nat):gq n=.val (.int .i64 n):=id rfl
theorem vQ (e:List V) (j:Nat) (cs:List V):cI e j cs=e.take j++cs++e.drop (j+cs.length):=id rfl
theorem tS (z:List V):gu z []=some z:=id rfl
theorem vw (z:List V) (o n:Nat) (x:V) (r:List (Nat × Nat × V)):gu z ((o,n,x)::r)=if x.cells.length=n/\o+n<=z.length/\x.cells.all au=true then gu (cI z o x.cells) r else none:=by rw[gu]
theorem wN (k:Nat) (z:List (List V)):fQ k z []=some z:=by rw[fQ]
theorem wO (k:Nat) (z:List (List V)) (i:Nat) (x:V) (r:List (Nat × V)):fQ k z ((i,x)::r)=if x.cells.length=k/\i<z.length/\x.cells.all au=true then fQ k (z.set i x.cells) r else none:=by rw[fQ]
theorem AY (b:Bool):pg (some true) (some b)=some b:=id rfl
theorem A2 (b:Bool):pg (some b) (some true)=some b:=by cases b<;>rfl
section
variable (k:IntKind) (a b:Int)
theorem xd:dG .add k a b=some (.int k (k.wrap (a+b))):=id rfl
theorem yf:dG .sub k a b=some (.int k (k.wrap (a-b))):=id rfl
theorem xM:dG .mul k a b=some (.int k (k.wrap (a*b))):=id rfl
theorem yl:dG .quo k a b=if b=0 then none else some (.int k (k.wrap (a.tdiv b))):=id rfl
theorem xB:dG .rem k a b=if b=0 then none else some (.int k (a.tmod b)):=id rfl
theorem xX:dG .eql k a b=some (.bool (a==b)):=id rfl
theorem xo:dG .neq k a b=some (.bool (a != b)):=id rfl
theorem yu:dG .lss k a b=some (.bool (a<b)):=id rfl
theorem w7:dG .leq k a b=some (.bool (a<=b)):=id rfl
theorem xZ:dG .gtr k a b=some (.bool (a>b)):=id rfl
theorem xl:dG .geq k a b=some (.bool (a≥b)):=id rfl
theorem A8:dG .or k a b=some (.int k (k.wrap (BitVec.ofInt k.bits a ||| BitVec.ofInt k.bits b).toNat)):=id rfl
theorem yo:dG .and k a b=some (.int k (k.wrap (BitVec.ofInt k.bits a &&& BitVec.ofInt k.bits b).toNat)):=id rfl
theorem pV:dG .andNot k a b=some (.int k (k.wrap (BitVec.ofInt k.bits a &&& ~~~(BitVec.ofInt k.bits b)).toNat)):=id rfl
end
theorem Bf:ct 0 (.emp 1)=some true:=id rfl
theorem AI:ct 0 (.emp 2)=some false:=id rfl
theorem x9:ct 0 .bS=some false:=id rfl
theorem zN (a b n c:Nat):ct 0 (.sl a b (n+1) c)=some false:=id rfl
theorem xx (e:List V) (l:List (List V)):ct 0 (.al (e::l))=some false:=id rfl
theorem xE (a b c:Nat):ct 1 (.ptr a b c)=some false:=id rfl
theorem vH (e:List V) (j:Nat):ct 1 (.aC e j)=some false:=id rfl
theorem Be (a:Nat):ct 2 (.mp a)=some false:=id rfl
theorem AF (f:FuncId) (a b:List V):ct 3 (.fn f a b)=some false:=id rfl
theorem B6:ct 1 (.val (.pointer none))=some true:=id rfl
theorem Ap:ct 2 (.val (.map none))=some true:=id rfl
theorem BK:ct 3 (.val .nilFunc)=some true:=id rfl
abbrev Wq:Prop:=FI (And.intro @Bz<|And.intro @Bm<|And.intro @BW<|And.intro @DA<|And.intro @vQ<|And.intro @tS<|And.intro @vw<|And.intro @wN<|And.intro @wO<|And.intro @AY<|And.intro @A2<|And.intro @xd<|And.intro @yf<|And.intro @xM<|And.intro @yl<|And.intro @xB<|And.intro @xX<|And.intro @xo<|And.intro @yu<|And.intro @w7<|And.intro @xZ<|And.intro @xl<|And.intro @A8<|And.intro @yo<|And.intro @pV<|And.intro @Bf<|And.intro @AI<|And.intro @x9<|And.intro @zN<|And.intro @xx<|And.intro @xE<|And.intro @vH<|And.intro @Be<|And.intro @AF<|And.intro @B6<|And.intro @Ap<|And.intro @BK<|And.intro @eq_self.{1}<|And.intro @ne_eq.{1}<|And.intro @implies_true.{1}<|And.intro @implies_true.{0}<|And.intro @decide_true<|And.intro @decide_false<|And.intro @xm<|And.intro @x4<|And.intro @ur<|And.intro @uk<|And.intro @vN<|And.intro @vz<|And.intro @xh<|And.intro @B5<|And.intro @BO<|And.intro @Ax<|And.intro @yw<|And.intro @wP<|And.intro @xR<|And.intro @sM<|And.intro @rM<|And.intro @si<|And.intro @yE<|And.intro @sZ<|And.intro @wQ<|And.intro @sP<|And.intro @xL<|And.intro @uJ<|And.intro @zU<|And.intro @sR<|And.intro @wV<|And.intro @qL<|And.intro @vU<|And.intro @ve<|And.intro @Ab<|And.intro @vo<|And.intro @AN<|And.intro @r9<|And.intro @yc<|And.intro @yB<|And.intro @xF<|And.intro @Al<|And.intro @true_or<|And.intro @or_true<|And.intro @or_false<|And.intro @false_or <|
 And.intro @FK<|And.intro @xk<|And.intro @yI<|And.intro @xn <|
 And.intro @xj<|And.intro @BN<|And.intro @wZ<|And.intro @vS <|
 And.intro @B9<|And.intro @Bx<|And.intro @yC<|And.intro @yn <|
 And.intro @yA<|And.intro @ym<|And.intro @vX<|And.intro @uY <|
 And.intro @sD<|And.intro @xO<|And.intro @List.getD_cons_zero.{0}<|And.intro @List.getD_cons_succ.{0} <|
 And.intro @List.length_cons.{0}<|And.intro @List.length_nil.{0}<|And.intro @List.length_map.{0,0}<|And.intro @wrap64 <|
 And.intro @true_and<|And.intro @and_true<|And.intro @and_self<|And.intro @G7 <|
 And.intro @decide_eq_false_iff_not<|And.intro @List.all_cons.{0}<|And.intro @List.all_nil.{0}<|And.intro @Bool.and_self <|
 And.intro @List.nil_append.{0}<|And.intro @List.cons_append.{0}<|And.intro @Hy<|And.intro @tg <|
 And.intro @Int.toNat_natCast<|And.intro @Az<|And.intro @sG<|And.intro @bne_iff_ne.{0} <|
 And.intro @beq_iff_eq.{0}<|And.intro @Bool.not_eq_true<|And.intro @Iq<|And.intro @Bool.not_false <|
 And.intro @List.append_nil.{0}<|And.intro @List.map_cons.{0,0}<|And.intro @List.map_nil.{0,0}<|And.intro @Bool.true_eq_false <|
 And.intro @Hc<|And.intro @false_implies<|And.intro @true_implies<|And.intro @Bool.not_not <|
 And.intro @List.drop_zero.{0}<|And.intro @vc<|And.intro @List.set_cons_zero.{0}<|And.intro @List.set_cons_succ.{0} <|
 And.intro @List.drop_nil.{0}<|And.intro @Ic<|And.intro @List.replicate_zero.{0}<|And.intro @List.replicate_succ.{0} <|
 And.intro @o6<|And.intro @oY<|And.intro @nP<|And.intro @pA <|
 And.intro @List.isEmpty_cons.{0}<|And.intro @Option.map_none.{0,0}<|And.intro @Option.map_some.{0,0}<|And.intro @Nat.succ_ne_zero <|
 And.intro @List.take_succ_cons.{0}<|And.intro @List.take_zero.{0}<|And.intro @List.drop_succ_cons.{0}<|And.intro @bne_eq_false_iff_eq.{0} <|
 And.intro @beq_eq_false_iff_ne.{0}<|And.intro @not_true_eq_false<|And.intro @not_false_eq_true @Decidable.not_not)
theorem wq:Wq:=⟨@Bz,@Bm,@BW,@DA,@vQ,@tS,@vw,@wN,@wO,@AY,@A2,@xd,@yf,@xM,@yl,@xB,@xX,@xo,@yu,@w7,@xZ,@xl,@A8,@yo,@pV,@Bf,@AI,@x9,@zN,@xx,@xE,@vH,@Be,@AF,@B6,@Ap,@BK,@eq_self,@ne_eq,@implies_true,@implies_true,@decide_true,@decide_false,@xm,@x4,@ur,@uk,@vN,@vz,@xh,@B5,@BO,@Ax,@yw,@wP,@xR,@sM,@rM,@si,@yE,@sZ,@wQ,@sP,@xL,@uJ,@zU,@sR,@wV,@qL,@vU,@ve,@Ab,@vo,@AN,@r9,@yc,@yB,@xF,@Al,@true_or,@or_true,@or_false,@false_or,@FK,@xk,@yI,@xn,@xj,@BN,@wZ,@vS,@B9,@Bx,@yC,@yn,@yA,@ym,@vX,@uY,@sD,@xO,@HQ,@Il,@G5,@Hh,@G8,@wrap64,@true_and,@and_true,@and_self,@G7,@decide_eq_false_iff_not,@Ia,@List.all_nil,@Bool.and_self,@Ih,@HF,@Hy,@tg,@Int.toNat_natCast,@Az,@sG,@Is,@HC,@Bool.not_eq_true,@Iq,@Bool.not_false,@List.append_nil,@H9,@List.map_nil,@Bool.true_eq_false,@Hc,@false_implies,@true_implies,@Bool.not_not,@List.drop_zero,@vc,@List.set_cons_zero,@List.set_cons_succ,@List.drop_nil,@Ic,@List.replicate_zero,@List.replicate_succ,@o6,@oY,@nP,@pA,@List.isEmpty_cons,@Option.map_none,@Hb,@Nat.succ_ne_zero,@List.take_succ_cons,@List.take_zero,@List.drop_succ_cons,@bne_eq_false_iff_eq,@beq_eq_false_iff_ne,@not_true_eq_false,@not_false_eq_true,@Decidable.not_not⟩
inductive nM:V->Prop
 | val (v:Value):nM (.val v)
 | aA (cs:List V):(∀i,i<cs.length->∃v,cs.getD i .any=.val v)->nM (.aA cs)
theorem Cp {Z Z':Nat->Prop} {μ μ':Mu} {hp b:Array Obj} {t:V} {x:Value} (c:nM t) (h:ae Z μ hp t x):ae Z' μ' b t x:=by
 cases c with
 | val=>cases h with | val _ a=>exact .val _ a
 | aA cs d =>
  cases h with
  | aA _ e f g =>
   refine .aA _ _ f λi hi=>?_
   have:=g i hi
   obtain⟨v,a⟩:=d i hi
   rw[a] at this ⊢
   cases this with | val _ a=>exact .val _ a
theorem aN.borrow {P:Program} {f:FuncId} {d vs:List V} {t:V} {h:ah} (q:ak P f d t) (r:nM t) (u:d.length=vs.length)
  (j:∀i,i<vs.length->Fr h (vs.getD i .any) (d.getD i .any)):aN P f vs h t h:=by
 refine⟨GX _,λZ μ F w xs c hr k=>?_⟩
 have l:cL (λb=>Z b∨eF μ b) μ w.heap d xs:=⟨by rw[u,c.1],λi hi=>pU hr (j i (by omega)) (c.2 i (by omega))⟩
 have m:∀b,(Z b∨eF μ b)->b<w.heap.size:=by
  rintro b (a | ⟨id,o,s,a⟩)
  .exact hr.aX b a
  .exact hr.lt _ _ _ _ a
 refine(q _ μ w xs l m (hr.gl.mono (λ_=>.inl) λ_ _=>rfl)).mono ?_
 rintro e w' ⟨x,Z',rfl,v,n,A,y,g⟩
 have hm:dC Z Z μ μ w.heap w'.heap:=⟨λ_ h=>h,λb a=>g b (hr.aX b a) (λx=>x),λ_ _ h=>h,g.jo⟩
 exact⟨x,Z,μ,rfl,Cp r (v μ),⟨λid=>(hr.obj id).mono hm rfl (λb o s p=>g b (hr.lt _ _ _ _ p) (λx=>x)),hr.inj,λid b o s p=>G2 (hr.lt _ _ _ _ p) n.size,λb a=>G2 (hr.aX b a) n.size,hr.dQ,hr.gl.mono hm.z hm.zz⟩,
  ⟨n,hm,λb a _=>g b a (λx=>x),λb a=>.inl a,λ_ _ _ _ h=>.inl h⟩,λ_ _=>rfl⟩
def dY (H:View) (v t:V):Prop:=∀h:ah,h.view=H->Fr h v t
theorem dY.tree {H:View} {v:V} (h:Tree v):dY H v v:=λ_ _=>.tree _ h
theorem dY.sl {H:View} {id off len esz z:Nat} {es:List (List V)} (c:H id=.arr z es) (hle:off+len<=es.length) (d:∀e∈es,∀v∈e,Tree v):
  dY H (.sl id off len esz) (.al ((es.drop off).take len)):=by
 rintro h rfl
 have b:∀i,i<len->((es.drop off).take len).getD i []=es.getD (off+i) []:=λi hi=>by
  simp[GQ,HA,hi]
 refine .sl id off len esz z es _ c hle (by simp;omega) (λi hi=>by rw[b i hi]) (λi j hi a=>?_)
 rw[b i hi] at a ⊢
 refine .tree _ ?_
 have f:off+i<es.length:=by omega
 have g:es.getD (off+i) []=es[off+i]:=by simp[GQ,f]
 rw[g] at a ⊢
 have k:(es[off+i]).getD j .any=(es[off+i])[j]:=by simp[GQ,a]
 rw[k]
 exact d _ (G4 _) _ (G4 _)
theorem av.borrow {P:Program} {q:Bool} {f:FuncId} {H:View} {vs c:List V} {K:V->View->Prop} {v:bB (H,K)} {t:V} (d:ak P f c t) (a:ba P f=true) (g:nM t) (j:c.length=vs.length)
  (b:∀i,i<vs.length->dY H (vs.getD i .any) (c.getD i .any)) (k:K t H):av P q f vs H K v:=by
 unfold av
 cases q with
 | true=>exact⟨a,λh e=>⟨t,h,aN.borrow d g j (λi hi=>b i hi h e),λ_ _=>rfl,e▸k⟩⟩
 | false =>
  refine⟨a,?_⟩
  rintro h rfl
  exact⟨t,h,aN.borrow d g j (λi hi=>b i hi h rfl),.refl _,k⟩
abbrev gi (x:Int):V:=.val (.int .i64 x)
abbrev gb (x:Bool):V:=.val (.bool x)
abbrev gs (x:ByteArray):V:=.val (.string x)
theorem mixed:(aa).follows .mixedOrders=true:=by kernel_rfl
def encI (l:List Int):V:=.al (l.map λx=>[gi x])
def cp (l:List Bool):V:=.al (l.map λx=>[gb x])
theorem gQ (l:List Int):Tree (encI l):=by
 refine .al _ λi j hi a=>?_
 simp only[G8] at hi
 simp[GQ,hi] at a ⊢
 subst a
 exact .val _
def aF {α:Type} (l:List α):Prop:=l.length<4611686018427387904
def ig:SC:=
 ai [ai [af [ab 11 5,ab 12 0,bg 13 12,cm 14 .lss 11 13],eY 14 (.exit 0)],.block 1 (ai [af [ab 17 0,ab 18 5,b4 19 1 17 18,aG 20 19,ab 21 1,ab 22 5,b4 23 1 21 22,aG 24 23,cm 25 .neq 20 24],bV 25 (ai [af [bq 4 false],.ret])]),af [ab 15 5,aZ 16 .add 15 1,ab 5 16]]
def je:SF:=⟨ai [af [bq 4 false],ai [af [ab 6 0,bg 7 6,ab 8 1,bg 9 8,cm 10 .neq 7 9],bV 10 (ai [af [bq 4 false],.ret])],ai [af [bR 5 0],fk 0 ig],af [bq 4 true],.ret],
 [.tmp 4],26⟩
theorem lx:aM aa 6 []=some je:=by kernel_rfl
theorem xc {α:Type} [BEq α] [LawfulBEq α] {a b:List α} (h:a.length≠b.length):(a==b)=false:=by
 simp only[beq_eq_false_iff_ne];intro e;exact h (by rw[e])
theorem D0 (a b:List Int) (m:aF a) (H:View):ar aa 6 [encI a,encI b] H λr H'=>r=gb (a==b)/\H'=H:=by
 refine ar.of mixed lx ?_
 unfold aF at m
 simp(disch:=omega)only[↓wr,seval,wq,je,encI]
 apply aj.ne<;>intro h
 .simp(disch:=omega)only[↓wr,seval,wq]
  rw[xc (by omega)]
 .simp(disch:=omega)only[↓wr,seval,wq]
  refine bH.intro (λk T H'=>∃i:Nat,i+k=a.length/\a.take i=b.take i/\T 0=encI a/\T 1=encI b/\T 5=gi i/\H'=H) a.length ?_ ?_
  .exact⟨0,by omega,by simp,rfl,rfl,rfl,rfl⟩
  .rintro k T H' ⟨i,o,hi,c,d,f,rfl⟩
   simp(disch:=omega)only[↓wr,seval,wq,ig,c,d,f,encI]
   apply aj.dec<;>intro n
   .have j:a[i]?=some (a[i]'(by omega)):=GR (by omega)
    have l:b[i]?=some (b[i]'(by omega)):=GR (by omega)
    simp(disch:=omega)only[↓wr,seval,wq,c,d,f,encI,GY,j,l,Hb]
    apply aj.ne<;>intro g
    .simp(disch:=omega)only[↓wr,seval,wq]
     have:(a==b)=false:=by
      simp only[beq_eq_false_iff_ne];rintro rfl;exact g rfl
     rw[this]
    .simp(disch:=omega)only[↓wr,seval,wq,c,d,f,encI]
     refine⟨k-1,by omega,i+1,by omega,?_,rfl⟩
     rw[Hn,Hn,hi,j,l,g]
   .simp(disch:=omega)only[↓wr,seval,wq,c,d,f,encI]
    have:a=b:=by
     have e:i=a.length:=by omega
     rw[G9 (by omega),G9 (by omega)] at hi
     exact hi
    rw[this];simp
theorem En (a b:List Int) (c:aF a):ak aa 6 [encI a,encI b] (gb (a==b)):=
 ak.of (by simp[gQ]) ((D0 a b c _).mono λr H' h d _=>by rw[h.1];exact .tree _ (.val _))
theorem gP (l:List Bool):Tree (cp l):=by
 refine .al _ λi j hi a=>?_
 simp only[G8] at hi
 simp[GQ,hi] at a ⊢
 subst a
 exact .val _
structure Term where
 name:ByteArray
 level:Int
 assoc:Int
structure aI where
 left:Int
 right:List Int
 prec:Int
structure ay where
 an:List Term
 aB:List ByteArray
 rules:List aI
 start:Int
instance:Inhabited Term:=⟨⟨.empty,0,0⟩⟩
instance:Inhabited aI:=⟨⟨0,[],0⟩⟩
def cd (t:Term):List V:=[gs t.name,gi t.level,gi t.assoc]
def aK (r:aI):List V:=[gi r.left,encI r.right,gi r.prec]
def encS (l:List ByteArray):V:=.al (l.map λs=>[gs s])
def ax (g:ay):List V:=[.al (g.an.map cd),encS g.aB,.al (g.rules.map aK),gi g.start]
theorem dP {α:Type} (l:List α) (f:α->List V) (h:∀x∈l,∀v∈f x,Tree v):Tree (.al (l.map f)):=by
 refine .al _ λi j hi a=>?_
 simp only[G8] at hi
 have e:(l.map f).getD i []=f l[i]:=by simp[GQ,hi]
 rw[e] at a ⊢
 have b:(f l[i]).getD j .any=(f l[i])[j]:=by simp[GQ,a]
 rw[b]
 exact h _ (G4 _) _ (G4 _)
theorem dD (cs:List V) (h:∀v∈cs,Tree v):Tree (.agg cs):=by
 refine .agg _ λi hi=>?_
 have a:cs.getD i .any=cs[i]:=by simp[GQ,hi]
 rw[a];exact h _ (G4 _)
theorem kI (l:List ByteArray):Tree (encS l):=dP _ _ λx _ v a=>by simp at a;subst a;exact .val _
theorem ks (t:Term):∀v∈cd t,Tree v:=by intro v a;simp[cd] at a;rcases a with rfl | rfl | rfl<;>exact .val _
theorem cG (r:aI):∀v∈aK r,Tree v:=by
 intro v a;simp[aK] at a;rcases a with rfl | rfl | rfl
 .exact .val _
 .exact gQ _
 .exact .val _
theorem eP (g:ay):∀v∈ax g,Tree v:=by
 intro v a;simp[ax] at a;rcases a with rfl | rfl | rfl | rfl
 .exact dP _ _ λx _=>ks x
 .exact kI _
 .exact dP _ _ λx _=>cG x
 .exact .val _
def eW (x:Int):Prop:=-9223372036854775808<=x/\x<=9223372036854775807
structure ay.Ok (g:ay):Prop where
 an:aF g.an
 aB:aF g.aB
 rules:aF g.rules
 start:eW g.start
 term:∀t∈g.an,eW t.level/\eW t.assoc
 nC:∀r∈g.rules,eW r.left/\eW r.prec/\aF r.right/\∀x∈r.right,eW x
def pF (g:ay) (s:Int):Bool:=if 0<=s then decide (s<g.an.length) else decide (-1-s<g.aB.length)
def eM (l:List Int) (is:List Bool) (an:Bool):Bool:=l.all λs=>if 0<=s then an else is.getD (-1-s).toNat false
abbrev gy (x:Int):V:=.val (.int .u8 x)
def tY (c:Int):Bool:=(decide (97<=c)&&decide (c<=122))||(decide (65<=c)&&decide (c<=90))||c==95
def qw (c:Int):Bool:=tY c||(decide (48<=c)&&decide (c<=57))||c==46
def fR (l:List Int):Bool:=decide (0<l.length)&&decide (l.length<=20)&&(match l with | c::_=>tY c | []=>false)&&l.all qw
def k7:List Int->Bool
 | [a,b,c]=>a==39&&c==39&&decide (32<=b)&&decide (b<=126)&&b != 39&&b != 92
 | [a,b,c,d]=>a==39&&d==39&&b==92&&(c==110||c==116||c==92||c==39)
 | _=>false
theorem oA (s:ByteArray):∀v∈[gs s],Tree v:=by intro v a;simp at a;subst a;exact .val _
def qb (l:List Int):Bool:=fR l||k7 l
def mY (s:ByteArray):List ByteArray->Int->Int
 | [],_=>-1
 | x::l,i=>if ej x s=true then i else mY s l (i+1)
def qK (g:ay) (s:ByteArray):Int:=mY s (g.an.map Term.name) 0
def Cm (g:ay) (s:ByteArray):Int:=mY s g.aB 0
theorem jW {α:Type} {l:List α} {i:Nat} (h:i<l.length):l.drop i=l[i]::l.drop (i+1):=List.drop_eq_getElem_cons h
theorem dM (g:ay):∀v∈[V.agg (ax g)],Tree v:=by intro v a;simp at a;subst a;exact dD _ (eP g)
theorem Db (g:ay) (x:Int):∀v∈[V.agg (ax g),gi x],Tree v:=by
 intro v a;simp at a
 rcases a with rfl | rfl
 .exact dD _ (eP g)
 .exact .val _
theorem ak.val {P:Program} {f:FuncId} {vs:List V} {x:Value} (a:∀v∈vs,Tree v) (h:∀H,ar P f vs H λr _=>r=.val x):ak P f vs (.val x):=
 ak.of a ((h _).mono λr H' e b _=>by rw[e];exact .tree _ (.val _))
def hZ (n:Int):List Term->Int->Option Int
 | [],way=>some way
 | t::r,way=>if t.level=n then (if way≠0/\way≠t.assoc then none else hZ n r t.assoc) else hZ n r way
def fF (l:List Term) (n:Int):Bool:=match hZ n l 0 with
 | some w=>w != 0
 | none=>false
def tQ (g:ay) (t:Term):Bool:=(List.range t.level.toNat).all λk=>fF g.an ((k:Int)+1)
def lZ (g:ay) (i:Int) (t:Term):Bool:=
 qb (eD t.name)&&(qK g t.name==i)&&decide (0<=t.level)&&decide (t.level<=24)&&decide (0<=t.assoc)&&decide (t.assoc<=3)&&((t.level==0)==(t.assoc==0))&&tQ g t
def np (g:ay):List Term->Int->Bool
 | [],_=>true
 | t::r,i=>lZ g i t&&np g r (i+1)
def rJ (g:ay):Bool:=decide (g.an.length<=24)&&np g g.an 0
def ph (g:ay) (i:Int) (s:ByteArray):Bool:=fR (eD s)&&(Cm g s==i)&&decide (qK g s<0)
def qA (g:ay):List ByteArray->Int->Bool
 | [],_=>true
 | s::r,i=>ph g i s&&qA g r (i+1)
def uD (g:ay):Bool:=decide (1<=g.aB.length)&&decide (g.aB.length<=16)&&qA g g.aB 0
def ui (g:ay) (prec s:Int):Bool:=pF g s && !(decide (0<=s)&&prec == -1)
def kD (g:ay) (r:aI):Bool:=decide (r.right.length<=6)&&decide (-1<=r.prec)&&decide (r.prec<g.an.length)&&r.right.all (ui g r.prec)
theorem CS (g:ay) (r:aI):∀v∈[V.agg (ax g),V.agg (aK r)],Tree v:=by
 intro v a;simp at a
 rcases a with rfl | rfl
 .exact dD _ (eP g)
 .exact dD _ (cG r)
def jl (g:ay):List aI->Int->Bool
 | [],top=>top==(g.aB.length:Int)-1
 | r::l,top=>decide (0<=r.left)&&decide (r.left<=top+1)&&kD g r&&jl g l (if r.left>top then r.left else top)
def bQ (g:ay):Bool:=
 rJ g&&uD g&&decide (1<=g.rules.length)&&decide (g.rules.length<=40)&&decide (0<=g.start)&&decide (g.start<g.aB.length)&&jl g g.rules (-1)
end Gv
