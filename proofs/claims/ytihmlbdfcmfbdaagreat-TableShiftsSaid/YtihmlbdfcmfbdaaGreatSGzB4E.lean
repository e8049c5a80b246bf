/-
  Part 5 of the proof: what the machine does and what the functions answer.
  Conditions: those that each lemma names.
-/
import Derived.Test.YtihmlbdfcmfbdaaGreatProg
import Derived.KernelRfl
import Derived.Test.YtihmlbdfcmfbdaaGreatSGzB4D
set_option linter.unusedSimpArgs false
set_option linter.unusedVariables false
set_option maxRecDepth 100000
set_option maxHeartbeats 20000000
namespace Gv
open Go Go.Proofs
section
variable {P:Program} {n:Nat} {all:List Oper}
theorem SL (h:aC):h.view h.length=.dead:=by simp[aC.view,Xb]
theorem VO {o:Oper} {T:Env} {h:aC} {s:SI} {K:V→View→Prop} (e:dH n all T o=some true) (f:∀ v eff rd,sI P s T h.view h.length=some (v,eff,rd)→cp P o T h.view h.length=some (v,eff,rd)) (hw:wI P s T h.view K) :
  ∃ v c rd wr,dR P n all o T h v c rd wr false∧jE h c∧K v c.view∧ln (ux P s) rd wr false h.length c.length:=by
 obtain ⟨v,eff,rd,hs,hk⟩:=VU hw (SL h)
 have d:=f _ _ _ hs
 have a:∀ id,id∈eff.wr→h.view id≠.dead:=fun id b=>(nq d id b).1
 refine ⟨v,eff.apply h,rd,eff.wr,.op e d,?_,?_,?_,?_⟩
 ·intro id b hd
  rw[mg a]
  cases eff with
  | none=>exact hd
  | new o=>simp only[bA.view,View.set]; rw[Xd (by omega)]; exact hd
  | fk k o =>
   simp only[bA.view,View.set]
   rw[Xd (by rintro rfl; exact a id (by simp[bA.wr]) hd)]; exact hd
  | fa k o =>
   simp only[bA.view,View.set]
   rw[Xd (by omega)]
   split
   ·rfl
   ·exact hd
 ·rw[mg (fun id b=>(nq d id b).1)]; exact hk
 ·intro g
  obtain ⟨rfl,rfl⟩:=(sL hs).1 g
  exact ⟨rfl,rfl,rfl,rfl⟩
 ·intro h1
  rcases XB (ux P s) 1 with i | i
  ·obtain ⟨rfl,rfl⟩:=(sL hs).1 (by omega); rfl
  ·exact (sL hs).2 (by omega)
theorem LK {P:Program} {fr:Bool} {s:SI} {T:Env} {H:View} {n:Nat} {v:V} {eff:bA} {rd:List Nat} (h:sI P (zw P fr s) T H n=some (v,eff,rd)):sI P s T H n=some (v,eff,rd):=by
 unfold zw at h
 split at h
 ·split at h
  ·exact Sk h
  ·exact h
 ·split at h
  ·rename_i a
   simp only[Xl] at a
   exact TR a.2 h
  ·exact h
 ·exact h
theorem A6 (P:Program) (a:Fz) (o:Oper) :
  (∃ f args b,o.op=.call { callee:=.value f,args:=args,argTypes:=b }∧(nf P a o=.call (SX.of f) (args.toList.map SX.of)∨nf P a o=.wW (SX.of f) (args.toList.map SX.of))) ∨
  (∃ t x,o.op=.box t x∧nf P a o=.op (.jQ (SX.of x)))∨(∃ s d x,o.op=.convert s d x∧vY P s d=true∧nf P a o=.op (.gH (SX.of x)))∨nf P a o=.op (zw P a.fr (comp P o)):=by
 unfold nf
 split
 ·rename_i f args b c
  refine .inl ⟨f,args,b,c,?_⟩
  by_cases hq:(match o.dst with | some d=>a.l.contains (200000+d) | none=>false)=true
  ·exact .inr (Xg hq)
  ·exact .inl (Xd hq)
 ·rename_i t x c
  by_cases hd:(match o.dst with | some d=>a.l.contains d | none=>false)=true
  ·exact .inr (.inl ⟨t,x,c,Xg hd⟩)
  ·refine .inr (.inr (.inr ?_))
   refine (Xd hd).trans ?_
   simp only[comp,c,zw]
 ·rename_i s d x c
  by_cases hd:((match o.dst with | some d=>a.l.contains d | none=>false) && vY P s d)=true
  ·exact .inr (.inr (.inl ⟨s,d,x,c,by simp only[Xl] at hd; exact hd.2,Xg hd⟩))
  ·exact .inr (.inr (.inr (Xd hd)))
 ·exact .inr (.inr (.inr rfl))
theorem dR.len {o:Oper} {T:Env} {h a:aC} {v:V} {rd wr:List Nat} {call:Bool} (st:dR P n all o T h v a rd wr call):h.length≤a.length:=by
 cases st with
 | skip=>exact Xo _
 | op _ _=>rename_i eff _ _ ; cases eff <;> simp[bA.apply]
 | jQ _ _ _=>exact Xo _
 | gH _ _ _ _ _ _=>exact Xo _
 | call _ _ _ _ b _ _=>exact b.1
theorem TC {q:Fz} {o:Oper} {T:Env} {h:aC} {quiet:Bool} {K:V→View→Prop} (l:dH n all T o=some true) (hw:wB P quiet (nf P q o) T h.view K) :
  ∃ v b rd wr call,dR P n all o T h v b rd wr call∧jE h b∧K v b.view∧ln (jz P quiet (nf P q o)) rd wr call h.length b.length:=by
 rcases A6 P q o with ⟨f,args,A,k,j | j⟩ | ⟨t,x,k,j⟩ | ⟨s,d,x,k,u,j⟩ | j
 rotate_left
 ·rw[j] at hw ⊢
  simp only[wB] at hw
  split at hw
  ·rename_i g first cap m
   rw[DU] at hw
   rw[SX.cP] at m
   obtain ⟨c,i⟩:=hw
   obtain ⟨r,b,hr,hold,hk⟩:=i h rfl
   refine ⟨r,b,[],[],true,.call l k m c hr (fun id a _=>hold id a) (fun id a=>by simp at a),fun id a hd=>(hold id a).trans hd,hk,?_,?_⟩
   ·intro p; simp[jz] at p
   ·intro _; rfl
  ·exact hw.elim
 rotate_right
 ·rw[j] at hw ⊢
  simp only[wB] at hw
  split at hw
  ·rename_i g first cap m
   rw[DU] at hw
   rw[SX.cP] at m
   split at hw
   ·rename_i hq
    obtain ⟨c,i⟩:=hw
    obtain ⟨r,b,hr,hold,hk⟩:=i h rfl
    refine ⟨r,b,[],[],true,.call l k m c hr (fun id a _=>hold id a) (fun id a=>by simp at a),fun id a hd=>(hold id a).trans hd,hk,?_,?_⟩
    ·intro p; simp[jz,hq] at p
    ·intro _; rfl
   ·rename_i hq
    obtain ⟨c,i⟩:=hw
    obtain ⟨r,b,hr,w,hk⟩:=i h rfl
    refine ⟨r,b,[],List.range h.length,true,.call l k m c hr (fun id a B=>?_) (fun id a=>by simpa using a),w,hk,Tw (by simp[jz,hq])⟩
    exact absurd (by simpa using a) B
  ·exact hw.elim
 ·rw[j] at hw ⊢
  simp only[wB,wI,SX.cP] at hw
  exact ⟨_,h,[],[],false,.jQ l k hw.1,.refl _,hw.2,fun _=>⟨rfl,rfl,rfl,rfl⟩,fun _=>rfl⟩
 ·rw[j] at hw ⊢
  simp only[wB,wI,SX.cP] at hw
  obtain ⟨e,h1,y,z⟩:=Bd u
  split at hw
  ·rename_i st C
   exact ⟨_,h,[],[],false,.gH l k h1 y z C,.refl _,hw,fun _=>⟨rfl,rfl,rfl,rfl⟩,fun _=>rfl⟩
  ·exact hw.elim
 ·rw[j] at hw ⊢
  obtain ⟨v,b,rd,wr,h1,p,y,z⟩:=VO (s:=zw P q.fr (comp P o)) l (fun v eff rd hs=>KC (LK hs)) hw
  exact ⟨v,b,rd,wr,false,h1,p,y,z⟩
def gD (P:Program) (quiet:Bool) (l:List SO) (recs:List Rec):Prop :=
 l.length=recs.length∧∀ (i:Nat) (s:SO) (r:Rec),l[i]?=some s→recs[i]?=some r→ln (jz P quiet s.b) r.rd r.wr r.call r.lo r.hi
theorem gD.nil {quiet:Bool} : gD P quiet [] []:=⟨rfl,fun i s r h=>by simp at h⟩
theorem gD.cons {quiet:Bool} {l:List SO} {a:List Rec} {s:SO} {r:Rec} (h:gD P quiet l a) (hr:ln (jz P quiet s.b) r.rd r.wr r.call r.lo r.hi):gD P quiet (s :: l) (r :: a):=by
 refine ⟨by simp[h.1],fun i d e hs c=>?_⟩
 cases i with
 | zero=>simp at hs c; subst hs c; exact hr
 | succ i=>exact h.2 i d e (by simpa using hs) (by simpa using c)
theorem gD.append {quiet:Bool} {l l':List SO} {b a:List Rec} (h:gD P quiet l b) (c:gD P quiet l' a):gD P quiet (l ++ l') (b ++ a):=by
 refine ⟨by simp[h.1,c.1],fun i s r hs hr=>?_⟩
 by_cases hi:i < l.length
 ·rw[XA hi] at hs
  rw[XA (h.1 ▸ hi)] at hr
  exact h.2 i s r hs hr
 ·rw[XP (by omega)] at hs
  rw[XP (by have:=h.1; omega)] at hr
  exact c.2 (i - l.length) s r hs (by rw[h.1]; exact hr)
theorem tR {a:Fz} {o:Oper} {s:SO} (h:GQ P n all a o=some s):sD n o=true∧s.dst=o.dst∧s.b=nf P a o∧wC n all o=some s.guard:=by
 unfold GQ at h
 split at h
 ·rename_i hd
  simp only[Xn] at h
  obtain ⟨g,c,rfl⟩:=h
  exact ⟨hd,rfl,rfl,c⟩
 ·simp at h
theorem DB {o:Oper} {T:Env} (h:wC n all o=some none):dH n all T o=some true:=by
 unfold wC at h
 unfold dH
 split at h
 ·rename_i a; rw[a]
 ·split at h
  ·split at h
   ·simp at h
   ·simp at h
  ·simp at h
theorem lU {o:Oper} {T:Env} {d:Nat} {want:Bool} (h:wC n all o=some (some (d,want))) :
  (∀ b,T d=.val (.bool b)→dH n all T o=some (b == want))∧(T d=.bp []→dH n all T o=some false):=by
 unfold wC at h
 unfold dH
 split at h
 ·simp at h
 ·rename_i j w e
  rw[e]
  split at h
  ·rename_i f hd
   split at h
   ·rename_i a
    simp at h
    obtain ⟨rfl,rfl⟩:=h
    simp only[hd,a,if_true]
    exact ⟨fun b c=>by rw[c],fun c=>by rw[c]⟩
   ·simp at h
  ·simp at h
theorem l0 {a:Fz} {os:List Oper} (h:dN P n all a os=some []):os=[]:=by
 cases os with
 | nil=>rfl
 | cons o r =>
  simp only[dN] at h
  split at h <;> simp at h
theorem mY {a:Fz} {os:List Oper} {s:SO} {l:List SO} (h:dN P n all a os=some (s :: l)):∃ o r,os=o :: r∧GQ P n all a o=some s∧dN P n all a r=some l:=by
 cases os with
 | nil=>simp[dN] at h
 | cons o r =>
  simp only[dN] at h
  split at h
  ·rename_i c l' h1 b
   simp at h
   obtain ⟨rfl,rfl⟩:=h
   exact ⟨o,r,rfl,h1,b⟩
  ·simp at h
theorem rW {c:Fz} : ∀ {l l':List SO} {os:List Oper},dN P n all c os=some (l ++ l')→∃ a b,os=a ++ b∧dN P n all c a=some l∧dN P n all c b=some l'
 | [],l',os,h=>⟨[],os,rfl,rfl,h⟩
 | s :: l,l',os,h=>by
  obtain ⟨o,r,rfl,h1,d⟩:=mY h
  obtain ⟨a,b,rfl,e,f⟩:=rW d
  exact ⟨o :: a,b,rfl,by simp[dN,h1,e],f⟩
theorem Tr.append {a b:List Oper} {T c d:Env} {h h1 e:aC} {f g:List Rec} (x:Tr P n all a T h f c h1) (y:Tr P n all b c h1 g d e):Tr P n all (a ++ b) T h (f ++ g) d e:=by
 induction x with
 | nil=>exact y
 | cons st hd _ i=>exact .cons st hd (i y)
theorem BN {T:Env} {d:Nat} {v:V} (h:T d=v):T.put (some d) v=T:=by
 funext t
 simp only[Env.put]
 split
 ·rename_i e; subst e; exact h.symm
 ·rfl
theorem G1 {E:Fz} {quiet:Bool} {K:Env→View→Prop} (g:Option (Nat × Bool)):∀ (l:List (Option Nat × SB)) (os:List Oper) (T:Env) (h:aC),
  dN P n all E os=some (l.map fun (d,b)=>⟨d,g,b⟩)→(∀ d w,g=some (d,w)→T d=.val (.bool w)∧(l.all fun x=>x.1 != some d)=true)→yT P quiet l T h.view K →
  ∃ a m j,Tr P n all os T h a m j∧(jE h j∧h.length≤j.length)∧K m j.view∧gD P quiet (l.map fun (d,b)=>⟨d,g,b⟩) a
 | [],os,T,h,q,s,hw=>by
  have:=l0 q; subst this
  exact ⟨[],T,h,.nil,⟨.refl _,Xo _⟩,hw,.nil⟩
 | (d,b) :: l,os,T,h,q,s,hw=>by
  obtain ⟨o,r,rfl,h1,F⟩:=mY q
  obtain ⟨hd,k,f,i⟩:=tR h1
  simp only at k f i
  have u:dH n all T o=some true:=by
   cases g with
   | none=>exact DB i
   | some p =>
    obtain ⟨y,w⟩:=p
    have:=(lU (T:=T) i).1 w (s y w rfl).1
    rw[this]; simp
  simp only[yT] at hw
  rw[f] at hw
  obtain ⟨v,j,rd,wr,call,st,z,hk,hl⟩:=TC u hw
  obtain ⟨a,m,A,D,c,B,C⟩:=G1 g l r (T.put d v) j F (fun y w e=>by
   have:=s y w e
   simp only[Yv,Xl,Zk,ne_eq] at this
   refine ⟨?_,this.2.2⟩
   rw[← this.1]
   cases d with
   | none=>rfl
   | some t=>simp only[Env.put]; rw[Xd]; intro e; subst e; exact this.2.1 rfl) hk
  rw[k] at D
  have hlen:=st.len
  exact ⟨_,m,A,.cons st hd D,⟨z.trans c.1 hlen,X7 hlen c.2⟩,B,C.cons (by rw[f]; exact hl)⟩
theorem EE {s:Fz} {quiet:Bool} (d:Nat) (w:Bool) (h:aC):∀ (l:List (Option Nat × SB)) (os:List Oper) (T:Env),
  dN P n all s os=some (l.map fun (c,b)=>⟨c,some (d,w),b⟩)→(T d=.val (.bool !w)∨T d=.bp [])→(l.all fun x=>x.1 != some d)=true →
  ∃ a,Tr P n all os T h a (jh l T) h∧gD P quiet (l.map fun (c,b)=>⟨c,some (d,w),b⟩) a
 | [],os,T,i,hd,hl=>by
  have:=l0 i; subst this
  exact ⟨[],.nil,.nil⟩
 | (c,b) :: l,os,T,i,hd,hl=>by
  obtain ⟨o,r,rfl,h1,u⟩:=mY i
  obtain ⟨j,f,k,g⟩:=tR h1
  simp only at f k g
  have m:dH n all T o=some false:=by
   rcases hd with hd | hd
   ·rw[(lU (T:=T) g).1 _ hd]; cases w <;> rfl
   ·exact (lU (T:=T) g).2 hd
  simp only[Yv,Xl,Zk,ne_eq] at hl
  obtain ⟨a,q,p⟩:=EE d w h l r (T.put c (.bp [])) u (by
   have:(T.put c (.bp [])) d=T d:=by
    cases c with
    | none=>rfl
    | some t=>simp only[Env.put]; rw[Xd]; intro e; subst e; exact hl.1 rfl
   rw[this]; exact hd) hl.2
  rw[f] at q
  refine ⟨_,?_,p.cons (r:=⟨[],[],false,h.length,h.length⟩) ⟨fun _=>⟨rfl,rfl,rfl,rfl⟩,fun _=>rfl⟩⟩
  have:=Tr.cons (.skip m) j q
  rw[jh,f]
  exact this
theorem VS {p:Fz} {quiet:Bool} {K:Env→View→Prop} {g:SG} {os:List Oper} {T:Env} {h:aC} (f:dN P n all p os=some g.flat) (c:uH g=true) (hw:wG P quiet g T h.view K) :
  ∃ a o k,Tr P n all os T h a o k∧(jE h k∧h.length≤k.length)∧K o k.view∧gD P quiet g.flat a:=by
 unfold wG at hw
 unfold SG.flat at f ⊢
 unfold uH at c
 split at hw
 ·rename_i l
  rw[l] at f ⊢
  exact G1 none g.ops os T h f (fun d w e=>by simp at e) hw
 ·rename_i d want l
  rw[l] at f c ⊢
  simp only at c
  split at hw
  ·rename_i b j
   by_cases e:b=want
   ·subst e
    have:=hw.1 rfl
    rw[BN j] at this
    exact G1 (some (d,b)) g.ops os T h f (fun q w e=>by simp at e; obtain ⟨rfl,rfl⟩:=e; exact ⟨j,c⟩) this
   ·have e':b = !want:=by cases b <;> cases want <;> simp_all
    have:=hw.2 e'
    subst e'
    rw[BN j] at this
    obtain ⟨a,m,i⟩:=EE (quiet:=quiet) d want h g.ops os T f (.inl j) c
    exact ⟨a,_,h,m,⟨.refl _,Xo _⟩,this,i⟩
  ·rename_i j
   obtain ⟨a,m,i⟩:=EE (quiet:=quiet) d want h g.ops os T f (.inr j) c
   exact ⟨a,_,h,m,⟨.refl _,Xo _⟩,hw,i⟩
  ·exact hw.elim
theorem zl {s:Fz} {quiet:Bool} {K:Env→View→Prop} : ∀ (gs:List SG) (os:List Oper) (T:Env) (h:aC),dN P n all s os=some (kW gs)→gs.all uH=true→yf P quiet gs T h.view K →
  ∃ c r e,Tr P n all os T h c r e∧(jE h e∧h.length≤e.length)∧K r e.view∧gD P quiet (kW gs) c
 | [],os,T,h,f,_,hw=>by
  have:=l0 f; subst this
  exact ⟨[],T,h,.nil,⟨.refl _,Xo _⟩,hw,.nil⟩
 | g :: gs,os,T,h,f,d,hw=>by
  simp only[kW,XF,List.flatten_cons] at f ⊢
  simp only[Yv,Xl] at d
  obtain ⟨a,b,rfl,h1,t⟩:=rW f
  obtain ⟨w,u,i,j,st1,k,l⟩:=VS h1 d.1 hw
  obtain ⟨x,v,m,o,st2,p,q⟩:=zl gs b u i t d.2 k
  exact ⟨_,v,m,j.append o,⟨st1.1.trans st2.1 st1.2,X7 st1.2 st2.2⟩,p,l.append q⟩
theorem Tr.at_ {os:List Oper} {T g:Env} {h j:aC} {b:List Rec} (k:Tr P n all os T h b g j):∀ (i:Nat) (o:Oper),os[i]?=some o →
  ∃ c h1 v e rd wr call a,b[i]?=some ⟨rd,wr,call,h1.length,e.length⟩∧dR P n all o c h1 v e rd wr call∧h.length≤h1.length∧Tr P n all (os.drop (i+1)) (c.put o.dst v) e a g j∧(∀ m,a[m]?=b[i+1+m]?) ∧
   (∀ t,(∀ l∈os.take i,l.dst≠some t)→c t=T t):=by
 induction k with
 | nil=>intro i o hi; simp at hi
 | @cons o0 rest T g h h1 j v rd wr call b st hd k s =>
  intro i o hi
  cases i with
  | zero =>
   simp at hi; subst hi
   exact ⟨T,h,v,h1,rd,wr,call,b,rfl,st,Xo _,by simpa using k,fun m=>by rw[show 0+1+m=m+1 by omega,XX],fun t _=>rfl⟩
  | succ i =>
   simp at hi
   obtain ⟨c,e,v2,u,p,Vh,call2,a,w,x,y,z,A,B⟩:=s i o hi
   have hlen:h.length≤h1.length:=by
    cases st with
    | skip=>exact Xo _
    | op _ _=>rename_i eff _ _; cases eff <;> simp[bA.apply]
    | jQ _ _ _=>exact Xo _
    | gH _ _ _ _ _ _=>exact Xo _
    | call _ _ _ _ C _ _=>exact C.1
   refine ⟨c,e,v2,u,p,Vh,call2,a,by simpa using w,x,X7 hlen y,by simpa using z,fun m=>?_,fun t q=>?_⟩
   ·rw[A,show i+1+1+m=(i+1+m)+1 by omega,XX]
   ·simp only[YZ,Xs] at q
    rw[B t fun l r=>q l (.inr r)]
    have:=q o0 (.inl rfl)
    cases f:o0.dst with
    | none=>rfl
    | some d=>simp only[Env.put]; rw[Xd]; rintro rfl; exact this f
theorem ML {o:Oper} {T:Env} {h f:aC} {v:V} {rd wr:List Nat} {call:Bool} (st:dR P n all o T h v f rd wr call) (b:BZ o=true) (g:o.guard=none):v=.ptr h.length 0 0:=by
 unfold BZ at b
 have d:dH n all T o=some true:=by unfold dH; rw[g]
 cases st with
 | skip hs=>rw[d] at hs; simp at hs
 | op _ a =>
  split at b
  ·rename_i e c
   simp only[cp,c] at a
   split at a
   ·unfold mG at a
    split at a
    ·simp at a; exact a.1.symm
    ·simp at a
   ·simp at a
  ·simp at b
 | jQ _ c _=>rw[c] at b; simp at b
 | gH _ c _ _ _ _=>rw[c] at b; simp at b
 | call _ c _ _ _ _ _=>rw[c] at b; simp at b
theorem Nx {o:Oper} {T:Env} {h f:aC} {v:V} {rd wr:List Nat} {call:Bool} {t id i j:Nat} (st:dR P n all o T h v f rd wr call) (c:lP o=some t) (g:T t=.ptr id i j):wr=[id]∧call=false:=by
 unfold lP at c
 split at c
 ·rename_i ty k x d l
  simp at c; subst c
  have e:dH n all T o=some true:=by unfold dH; rw[l]
  cases st with
  | skip hs=>rw[e] at hs; simp at hs
  | op _ b =>
   have m:ev T (.tmp k)=.ptr id i j:=g
   simp only[cp,d,m,rG] at b
   split at b
   ·split at b
    ·simp only[Xe,Xh] at b
     obtain ⟨_,he,_⟩:=b
     rw[← he]; exact ⟨rfl,rfl⟩
    ·simp at b
   ·simp at b
  | jQ _ a _=>rw[d] at a; simp at a
  | gH _ a _ _ _ _=>rw[d] at a; simp at a
  | call _ a _ _ _ _ _=>rw[d] at a; simp at a
 ·simp at c
theorem Qa {o:Oper} {T:Env} {h g:aC} {v:V} {rd wr:List Nat} {call:Bool} (st:dR P n all o T h v g rd wr call) (d:D3 o=true):wr=[]∧call=false∧∀ id,id∈rd→id < h.length:=by
 unfold D3 at d
 cases st with
 | skip _=>exact ⟨rfl,rfl,fun id c=>by simp at c⟩
 | op _ b =>
  split at d
  ·rename_i e a f
   simp only[cp,f,na] at b
   split at b
   ·rename_i id i j l
    split at b
    ·rename_i z es hH
     split at b
     ·simp only[Xn] at b
      obtain ⟨_,_,b⟩:=b
      simp at b
      obtain ⟨_,rfl,rfl⟩:=b
      refine ⟨rfl,rfl,fun k c=>?_⟩
      simp at c; subst c
      exact iS (by rw[hH]; simp)
     ·simp at b
    ·simp at b
   ·simp only[Xn] at b
    obtain ⟨_,_,b⟩:=b
    simp at b
    obtain ⟨_,rfl,rfl⟩:=b
    exact ⟨rfl,rfl,fun id c=>by simp at c⟩
   ·simp at b
  ·simp at d
 | jQ _ f _=>rw[f] at d; simp at d
 | gH _ f _ _ _ _=>rw[f] at d; simp at d
 | call _ f _ _ _ _ _=>rw[f] at d; simp at d
theorem xc {T G:Env} {h H:aC} {e:List Rec} (I:Tr P n all all T h e G H) {i k:Nat} {a b:Rec} (hp:AP all i k=true) (g:e[i]?=some a) (J:e[k]?=some b):pr a b:=by
 unfold AP at hp
 split at hp
 ·rename_i K L l m
  rw[Xl] at hp
  obtain ⟨hl,hp⟩:=hp
  split at hp
  ·rename_i t o
   rw[List.any_eq_true] at hp
   obtain ⟨j,M,hp⟩:=hp
   rw[XU] at M
   rw[Xl,Xr] at hp
   obtain ⟨N,c⟩:=hp
   unfold U8 at c
   split at c
   ·rename_i O p
    simp only[Xl,Yo,XI,Zk,ne_eq,Option.isNone_iff_eq_none] at c
    obtain ⟨⟨⟨Q,R⟩,S⟩,U⟩:=c
    obtain ⟨T1,h1,v1,V,W,VW,c1,q,D,E,e3,X,Y,_⟩:=I.at_ i K l
    obtain ⟨Tj,r,vj,Z,an,aq,cj,s,f1,f2,f3,f4,f5,_⟩:=X.at_ (j - (i+1)) O (by rw[Ze,show i+1+(j - (i+1))=j by omega]; exact p)
    have u:(all.drop (i+1)).drop (j - (i+1)+1)=all.drop (j+1):=by rw[List.drop_drop]; congr 1; omega
    rw[u] at f4
    obtain ⟨Tk,v,vk,w,x,y,ck,z,g1,g2,g3,_,_,g6⟩:=f4.at_ (k - (j+1)) L (by rw[Ze,show j+1+(k - (j+1))=k by omega]; exact m)
    rw[g] at D
    have A:=(Zh D)
    have f:e[k]?=some ⟨x,y,ck,v.length,w.length⟩:=by
     rw[← g1,f5,Y]; congr 1; omega
    rw[J] at f
    have f:=Zh f
    have hv:=ML f2 S R
    have B:Tk t=.ptr r.length 0 0:=by
     rw[g6 t fun o' C=>U o' C,Q,hv]
     simp[Env.put]
    obtain ⟨s1,s2⟩:=Nx g2 o B
    obtain ⟨F,l2,l3⟩:=Qa E hl
    rw[A,f]
    have hlen:h1.length≤V.length:=by
     cases E with
     | skip=>exact Xo _
     | op _ _=>rename_i eff _ _; cases eff <;> simp[bA.apply]
     | jQ _ _ _=>exact Xo _
     | gH _ _ _ _ _ _=>exact Xo _
     | call _ _ _ _ g _ _=>exact g.1
    refine ⟨fun id d=>by simp[F] at d,fun id d=>?_,fun hc=>by simp[l2] at hc,fun _=>F,fun id d=>?_⟩
    ·simp only[s1,X8] at d
     subst d
     intro hr
     have:=l3 _ hr
     omega
    ·simp only[s1,X8] at d
     subst d
     simp only
     omega
   ·simp at c
  ·simp at hp
 ·simp at hp
theorem RJ {ls:List Nat} {d:List Rec} {T t:Env} {hp g:aC} (u:Tr P n all all T hp d t g) (h:GZ all ls=true) (hl:ls.length=d.length) (hr:∀ (i x:Nat) (r:Rec),ls[i]?=some x→d[i]?=some r→ln x r.rd r.wr r.call r.lo r.hi):uQ all d:=by
 intro i k a b j l m v
 have hi:i < d.length:=(Xq.1 l).1
 have hk:k < d.length:=(Xq.1 m).1
 unfold GZ at h
 simp only[XI] at h
 have h1:=h (ls[i]'(by omega),i) (by rw[Yn]; simp[Xc (show i < ls.length by omega)])
  (ls[k]'(by omega),k) (by rw[Yn]; simp[Xc (show k < ls.length by omega)])
 have q:=hr i _ a (Xc (by omega)) l
 have s:=hr k _ b (Xc (by omega)) m
 simp only[j,decide_true,Zi,v,Bool.false_or,Yp,Yo,Xl,Xr] at h1
 rcases h1 with ((h1 | h1) | h1) | h1
 ·obtain ⟨f,e,o,w⟩:=q.1 h1
  exact ⟨fun id c=>by simp[e] at c,fun id _=>by simp[f],fun p=>by simp[o] at p,fun _=>e,fun id _ y=>by omega⟩
 ·obtain ⟨f,e,o,w⟩:=s.1 h1
  exact ⟨fun id _=>by simp[f],fun id c=>by simp[e] at c,fun _=>e,fun p=>by simp[o] at p,fun id c=>by simp[e] at c⟩
 ·have f:=q.2 h1.1
  have e:=s.2 h1.2
  exact ⟨fun id c=>by simp[f] at c,fun id c=>by simp[e] at c,fun _=>e,fun _=>f,fun id c=>by simp[e] at c⟩
 ·exact xc u h1 l m
theorem Tr.keep {os:List Oper} {T c:Env} {h e:aC} {a:List Rec} (f:Tr P n all os T h a c e) {t:Nat} (g:∀ o∈os,o.dst≠some t):c t=T t:=by
 induction f with
 | nil=>rfl
 | @cons o0 rest T c h h1 e v rd wr call a st hd f i =>
  rw[i fun o j=>g o (by simp[j])]
  have:=g o0 (by simp)
  cases b:o0.dst with
  | none=>rfl
  | some d=>simp only[Env.put]; rw[Xd]; rintro rfl; exact this b
theorem wL {o:Oper} {T:Env} {h g:aC} {v:V} {rd wr:List Nat} {call:Bool} {t:Nat} (st:dR P n all o T h v g rd wr call) (d:sP o=some t):wr=[]∧call=false∧g.length=h.length∧∀ id,id∈rd→∃ i j,T t=.ptr id i j:=by
 unfold sP at d
 split at d
 ·rename_i e m f
  simp at d; subst d
  cases st with
  | skip _=>exact ⟨rfl,rfl,rfl,fun id c=>by simp at c⟩
  | op _ a =>
   simp only[cp,f,na] at a
   split at a
   ·rename_i id i j k
    split at a
    ·split at a
     ·simp only[Xn] at a
      obtain ⟨_,_,a⟩:=a
      simp at a
      obtain ⟨_,rfl,rfl⟩:=a
      refine ⟨rfl,rfl,rfl,fun l c=>?_⟩
      simp at c; subst c
      exact ⟨i,j,k⟩
     ·simp at a
    ·simp at a
   ·simp only[Xn] at a
    obtain ⟨_,_,a⟩:=a
    simp at a
    obtain ⟨_,rfl,rfl⟩:=a
    exact ⟨rfl,rfl,rfl,fun id c=>by simp at c⟩
   ·simp at a
  | jQ _ b _=>rw[f] at b; simp at b
  | gH _ b _ _ _ _=>rw[f] at b; simp at b
  | call _ b _ _ _ _ _=>rw[f] at b; simp at b
 ·simp at d
theorem wT {i t:Nat} (h:stays all i t=true):∀ o∈all.drop i,o.dst≠some t:=by
 intro o a
 have:=XI.1 h o a
 simpa using this
theorem BJ {a:List (Nat × Nat)} {T:Env} {K:Prop} (b:yQ a T K):∀ p∈a,iN (T p.1) (T p.2):=by
 induction a with
 | nil=>intro p hp; simp at hp
 | cons q l c =>
  intro p hp
  rcases Xs.1 hp with rfl | hp
  ·exact b.1
  ·exact c b.2 p hp
theorem yQ.rest {a:List (Nat × Nat)} {T:Env} {K:Prop} (b:yQ a T K):K:=by
 induction a with
 | nil=>exact b
 | cons q l c=>exact c b.2
theorem rC {T l:Env} {h m:aC} {a:List Rec} (p:Tr P n all all T h a l m) {i t:Nat} {o:Oper} (j:all[i]?=some o) (hs:stays all i t=true) {r:Rec} (hr:a[i]?=some r) :
  ∃ e h1 v f,dR P n all o e h1 v f r.rd r.wr r.call∧r.lo=h1.length∧r.hi=f.length∧e t=l t:=by
 obtain ⟨e,h1,v,f,rd,wr,call,k,g,q,w,s,x,y⟩:=p.at_ i o j
 rw[hr] at g
 have g:=Zh g
 subst g
 refine ⟨e,h1,v,f,q,rfl,rfl,?_⟩
 have hk:=wT hs
 have hi:i < all.length:=(Xq.1 j).1
 have b:all[i]=o:=(Xq.1 j).2
 rw[XW hi,b] at hk
 rw[s.keep fun u b=>hk u (by simp[b])]
 have:=hk o (by simp)
 cases c:o.dst with
 | none=>rfl
 | some d=>simp only[Env.put]; rw[Xd]; rintro rfl; exact this c
theorem Ay {i a b j c d:Nat} (h:iN (.ptr i a b) (.ptr j c d)):i≠j:=h
theorem DL {i a b j c d e:Nat} (h:iN (.ptr i a b) (.sl j c d e)):i≠j:=h
theorem sA {o:Oper} {T:Env} {h p:aC} {v:V} {rd wr:List Nat} {call:Bool} {t:Nat} (st:dR P n all o T h v p rd wr call) (g:qx o=some t) :
  call=false∧∀ id,id∈wr→(∃ i j,T t=.ptr id i j)∨∃ a b c,T t=.sl id a b c:=by
 unfold qx at g
 split at g
 ·rename_i s hs
  simp at g; subst g
  unfold lP at hs
  split at hs
  ·rename_i ty t2 x k q
   simp at hs; subst hs
   cases st with
   | skip _=>exact ⟨rfl,fun id f=>by simp at f⟩
   | op _ d =>
    simp only[cp,k,rG] at d
    split at d
    ·rename_i id i j m
     split at d
     ·split at d
      ·simp only[Xe,Xh] at d
       obtain ⟨_,he,_⟩:=d
       rw[← he]
       refine ⟨rfl,fun l f=>?_⟩
       simp[bA.wr] at f; subst f
       exact .inl ⟨i,j,m⟩
      ·simp at d
     ·simp at d
    ·simp at d
   | jQ _ e _=>rw[k] at e; simp at e
   | gH _ e _ _ _ _=>rw[k] at e; simp at e
   | call _ e _ _ _ _ _=>rw[k] at e; simp at e
  ·simp at hs
 ·unfold Ob at g
  split at g
  ·rename_i args r k q
   split at g
   ·rename_i t2 y hl
    simp at g; subst g
    cases st with
    | skip _=>exact ⟨rfl,fun id f=>by simp at f⟩
    | op _ d =>
     simp only[cp,k,hl] at d
     split at d
     ·unfold nM at d
      split at d
      ·split at d
       ·simp at d
       ·split at d
        ·split at d <;> first | (simp only[Xe,Xh] at d; obtain ⟨_,he,_⟩:=d; rw[← he]; exact ⟨rfl,fun l f=>by simp[bA.wr] at f⟩) | simp at d
        ·split at d
         ·simp at d
         ·split at d
          ·split at d
           ·simp only[Xe,Xh] at d
            obtain ⟨_,he,_⟩:=d
            rw[← he]; exact ⟨rfl,fun l f=>by simp[bA.wr] at f⟩
           ·simp at d
          ·rename_i id off len esz m
           split at d
           ·split at d
            ·simp only[Xe,Xh] at d
             obtain ⟨_,he,_⟩:=d
             rw[← he]
             refine ⟨rfl,fun l f=>?_⟩
             simp[bA.wr] at f; subst f
             exact .inr ⟨off,len,esz,m⟩
            ·simp at d
           ·simp at d
          ·simp at d
      ·simp at d
     ·split at d
      ·unfold wX at d
       repeat' (split at d)
       all_goals first | (simp only[Xe,Xh] at d; obtain ⟨_,he,_⟩:=d; rw[← he]; exact ⟨rfl,fun l f=>by simp[bA.wr] at f⟩) | simp at d
      ·simp at d
    | jQ _ e _=>rw[k] at e; simp at e
    | gH _ e _ _ _ _=>rw[k] at e; simp at e
    | call _ e _ _ _ _ _=>rw[k] at e; simp at e
   ·simp at g
  ·simp at g
theorem Cb {o:Oper} {T:Env} {h g:aC} {v:V} {rd wr:List Nat} {call:Bool} (st:dR P n all o T h v g rd wr call) (b:IY o=true):rd=[]∧wr=[]∧call=false:=by
 unfold IY at b
 cases st with
 | skip _=>exact ⟨rfl,rfl,rfl⟩
 | op _ a =>
  split at b
  ·rename_i ty len parts c
   simp only[cp,c,iM] at a
   have key:∀ {x:Option (V × bA × List Nat)} {e:bA},x=some (v,e,rd)→(∀ y,x=some y→y.2.1.wr=[]∧y.2.2=[])→rd=[]∧e.wr=[]:=fun f d=>⟨(d _ f).2,(d _ f).1⟩
   obtain ⟨i,k2⟩:=key a (by
    intro y d
    repeat' (first | (split at d) | (simp only[Xe] at d; subst d; exact ⟨rfl,rfl⟩) | (simp at d; done)))
   exact ⟨i,k2,rfl⟩
  ·rename_i e c
   simp only[cp,c] at a
   split at a
   ·unfold mG at a
    split at a
    ·simp only[Xe,Xh] at a
     obtain ⟨_,he,hr⟩:=a
     rw[← he,← hr]; exact ⟨rfl,rfl,rfl⟩
    ·simp at a
   ·simp at a
  ·simp at b
 | jQ _ c _=>rw[c] at b; simp at b
 | gH _ c _ _ _ _=>rw[c] at b; simp at b
 | call _ c _ _ _ _ _=>rw[c] at b; simp at b
theorem wA {o:Oper} {t:Nat} (h:lP o=some t):qx o=some t:=by unfold qx; rw[h]
theorem P8 {T w:Env} {h N:aC} {l:List Rec} (u:Tr P n all all T h l w N) {i k:Nat} {a b:Rec} {p:Nat × Nat} (hp:Du all i k=some p) (j:iN (w p.1) (w p.2)) (L:l[i]?=some a) (M:l[k]?=some b):pr a b:=by
 unfold Du at hp
 split at hp
 ·rename_i X Y q r
  split at hp
  ·rename_i s t hl hs
   split at hp
   ·rename_i g
    simp only[Xl] at g
    simp at hp; subst hp
    obtain ⟨x,y,O,z,A,B,C,D⟩:=rC u q g.1 L
    obtain ⟨Tb,E,Q,F,G,_,_,H⟩:=rC u r g.2 M
    obtain ⟨o,I,R,J⟩:=wL A hl
    have j:iN (x s) (Tb t):=by rw[D,H]; exact j
    refine ⟨fun id f=>by simp[o] at f,fun id f hr=>?_,fun v=>by simp[I] at v,fun _=>o,fun id _ Z=>by omega⟩
    obtain ⟨S,U,K⟩:=J id hr
    rw[K] at j
    rcases (sA G (wA hs)).2 id f with ⟨c,d,m⟩ | ⟨c,d,e,m⟩
    ·rw[m] at j; exact Ay j rfl
    ·rw[m] at j; exact DL j rfl
   ·simp at hp
  ·split at hp
   ·rename_i t s hs hl
    split at hp
    ·rename_i g
     simp only[Xl] at g
     simp at hp; subst hp
     obtain ⟨x,y,O,z,A,B,C,D⟩:=rC u q g.1 L
     obtain ⟨Tb,E,Q,F,G,V,W,H⟩:=rC u r g.2 M
     obtain ⟨o,I,R,J⟩:=wL G hl
     have j:iN (Tb s) (x t):=by rw[D,H]; exact j
     refine ⟨fun id f hr=>?_,fun id f=>by simp[o] at f,fun v=>o,fun v=>by simp[I] at v,fun id f=>by simp[o] at f⟩
     obtain ⟨S,U,K⟩:=J id hr
     rw[K] at j
     rcases (sA A (wA hs)).2 id f with ⟨c,d,m⟩ | ⟨c,d,e,m⟩
     ·rw[m] at j; exact Ay j rfl
     ·rw[m] at j; exact DL j rfl
    ·simp at hp
   ·simp at hp
 ·simp at hp
theorem Nc {T w:Env} {h N:aC} {l:List Rec} (u:Tr P n all all T h l w N) {i k:Nat} {a b:Rec} {p:Nat × Nat} (hp:EN all i k=some p) (j:iN (w p.1) (w p.2)) (L:l[i]?=some a) (M:l[k]?=some b):pr a b:=by
 unfold EN at hp
 split at hp
 ·rename_i X Y q r
  split at hp
  ·rename_i s t hl hs
   split at hp
   ·rename_i g
    simp only[Xl] at g
    simp at hp; subst hp
    obtain ⟨x,y,O,z,A,B,C,D⟩:=rC u q g.1 L
    obtain ⟨Tb,E,Q,F,G,_,_,H⟩:=rC u r g.2 M
    obtain ⟨o,I,R,J⟩:=wL A hl
    have j:iN (x s) (Tb t):=by rw[D,H]; exact j
    refine ⟨fun id f=>by simp[o] at f,fun id f hr=>?_,fun v=>by simp[I] at v,fun _=>o,fun id _ Z=>by omega⟩
    obtain ⟨S,U,K⟩:=J id hr
    rw[K] at j
    rcases (sA G hs).2 id f with ⟨c,d,m⟩ | ⟨c,d,e,m⟩
    ·rw[m] at j; exact Ay j rfl
    ·rw[m] at j; exact DL j rfl
   ·simp at hp
  ·split at hp
   ·rename_i t s hs hl
    split at hp
    ·rename_i g
     simp only[Xl] at g
     simp at hp; subst hp
     obtain ⟨x,y,O,z,A,B,C,D⟩:=rC u q g.1 L
     obtain ⟨Tb,E,Q,F,G,V,W,H⟩:=rC u r g.2 M
     obtain ⟨o,I,R,J⟩:=wL G hl
     have j:iN (Tb s) (x t):=by rw[D,H]; exact j
     refine ⟨fun id f hr=>?_,fun id f=>by simp[o] at f,fun v=>o,fun v=>by simp[I] at v,fun id f=>by simp[o] at f⟩
     obtain ⟨S,U,K⟩:=J id hr
     rw[K] at j
     rcases (sA A hs).2 id f with ⟨c,d,m⟩ | ⟨c,d,e,m⟩
     ·rw[m] at j; exact Ay j rfl
     ·rw[m] at j; exact DL j rfl
    ·simp at hp
   ·simp at hp
 ·simp at hp
theorem Oh {l:List (Nat × Nat)} {a:List (Nat × Nat)} (h:Cl all l=some a):∀ q∈l,∃ p∈a,Du all q.1 q.2=some p:=by
 induction l generalizing a with
 | nil=>intro q hq; simp at hq
 | cons x r c =>
  obtain ⟨i,k⟩:=x
  simp only[Cl] at h
  split at h
  ·rename_i p l' h1 d
   simp at h; subst h
   intro q hq
   rcases Xs.1 hq with rfl | hq
   ·exact ⟨p,by simp,h1⟩
   ·obtain ⟨f,b,e⟩:=c d q hq
    exact ⟨f,by simp[b],e⟩
  ·simp at h
theorem L4 {l:List (Nat × Nat)} {a:List (Nat × Nat)} (h:vL all l=some a):∀ q∈l,∃ d,(∀ p∈d,p∈a)∧AI all q.1 q.2=some d:=by
 induction l generalizing a with
 | nil=>intro q hq; simp at hq
 | cons x r f =>
  obtain ⟨i,k⟩:=x
  simp only[vL] at h
  split at h
  ·rename_i p l' h1 g
   simp at h; subst h
   intro q hq
   rcases Xs.1 hq with rfl | hq
   ·exact ⟨p,fun x b=>by simp[b],h1⟩
   ·obtain ⟨j,c,e⟩:=f g q hq
    exact ⟨j,fun x b=>by simp[c x b],e⟩
  ·simp at h
theorem Qe {H:View} {x:V} {xs:List (List V)} {rd:List Nat} (h:bI H x=some (xs,rd)):∀ id,id∈rd→∃ a b c,x=.sl id a b c:=by
 unfold bI at h
 split at h
 ·simp at h; obtain ⟨_,rfl⟩:=h; intro id d; simp at d
 ·simp at h; obtain ⟨_,rfl⟩:=h; intro id d; simp at d
 ·simp at h; obtain ⟨_,rfl⟩:=h; intro id d; simp at d
 ·simp at h; obtain ⟨_,rfl⟩:=h; intro id d; simp at d
 ·split at h
  ·split at h
   ·simp at h
    obtain ⟨_,rfl⟩:=h
    intro id d
    simp at d; subst d
    exact ⟨_,_,_,rfl⟩
   ·simp at h
  ·simp at h
 ·simp at h; obtain ⟨_,rfl⟩:=h; intro id d; simp at d
 ·simp at h
theorem Jo {o:Oper} {T:Env} {h r:aC} {v:V} {rd wr:List Nat} {call:Bool} {t y d:Nat} (st:dR P n all o T h v r rd wr call) (l:Ax o=some (t,y,d)) :
  call=false∧(∀ id,id∈wr→∃ a b c,T t=.sl id a b c)∧(∀ id,id∈rd→(∃ a b c,T t=.sl id a b c)∨∃ a b c,T y=.sl id a b c)∧(h.length < r.length→∃ a b c,v=.sl h.length a b c)∧r.length≤h.length+1∧o.dst=some d:=by
 unfold Ax at l
 split at l
 ·rename_i args x z q B hd
  split at l
  ·rename_i t2 A hl
   simp at l
   obtain ⟨rfl,rfl,rfl⟩:=l
   cases st with
   | skip _=>exact ⟨rfl,fun id g=>by simp at g,fun id g=>by simp at g,fun h=>by omega,by omega,hd⟩
   | op _ f =>
    simp only[cp,q,hl] at f
    have u:∀ {v':V} {i:bA} {k:List Nat},some (v',bA.none,([]:List Nat))=some (v,i,k)→false=false∧(∀ id,id∈i.wr→∃ a b c,T t2=.sl id a b c)∧(∀ id,id∈k→(∃ a b c,T t2=.sl id a b c)∨∃ a b c,T A=.sl id a b c)∧(h.length < (i.apply h).length→∃ a b c,v=.sl h.length a b c)∧(i.apply h).length≤h.length+1∧o.dst=some z:=by
     intro v' i k e
     simp only[Xe,Xh] at e
     obtain ⟨_,rfl,rfl⟩:=e
     exact ⟨rfl,fun id g=>by simp[bA.wr] at g,fun id g=>by simp at g,fun h=>by simp[bA.apply] at h,by simp[bA.apply],hd⟩
    split at f
    ·unfold nM at f
     split at f
     ·rename_i e xs k _ s
      have m:=Qe s
      split at f
      ·simp at f
      ·split at f
       ·split at f <;> first | exact u f | simp at f
       ·split at f
        ·simp at f
        ·split at f
         ·split at f
          ·simp only[Xe,Xh] at f
           obtain ⟨rfl,rfl,rfl⟩:=f
           exact ⟨rfl,fun id g=>by simp[bA.wr] at g,fun id g=>.inr (m id g),fun _=>⟨_,_,_,rfl⟩,by simp[bA.apply],hd⟩
          ·simp at f
         ·rename_i id off len esz w
          split at f
          ·split at f
           ·simp only[Xe,Xh] at f
            obtain ⟨rfl,rfl,rfl⟩:=f
            refine ⟨rfl,fun p g=>?_,fun p g=>?_,fun _=>⟨_,_,_,rfl⟩,by simp[bA.apply],hd⟩
            ·simp[bA.wr] at g; subst g
             exact ⟨off,len,esz,w⟩
            ·rcases Xs.1 g with rfl | g
             ·exact .inl ⟨off,len,esz,w⟩
             ·exact .inr (m p g)
           ·simp at f
          ·simp at f
         ·simp at f
     ·simp at f
    ·split at f
     ·unfold wX at f
      split at f
      ·split at f
       ·split at f
        ·exact u f
        ·split at f
         ·simp only[Xe,Xh] at f
          obtain ⟨rfl,rfl,rfl⟩:=f
          exact ⟨rfl,fun id g=>by simp[bA.wr] at g,fun id g=>by simp at g,fun _=>⟨_,_,_,rfl⟩,by simp[bA.apply],hd⟩
         ·simp at f
       ·simp at f
      ·simp at f
     ·simp at f
   | jQ _ j _=>rw[q] at j; simp at j
   | gH _ j _ _ _ _=>rw[q] at j; simp at j
   | call _ j _ _ _ _ _=>rw[q] at j; simp at j
  ·simp at l
 ·simp at l
theorem OQ {T j:Env} {h p:aC} {a:List Rec} (q:Tr P n all all T h a j p) {i:Nat} {o:Oper} (k:all[i]?=some o) {r:Rec} (hr:a[i]?=some r) :
  ∃ e h1 v f,dR P n all o e h1 v f r.rd r.wr r.call∧r.lo=h1.length∧r.hi=f.length∧(∀ t,stays all i t=true→e t=j t)∧∀ d,o.dst=some d→stays all (i+1) d=true→j d=v:=by
 obtain ⟨e,h1,v,f,rd,wr,call,l,g,s,w,m,x,y⟩:=q.at_ i o k
 rw[hr] at g
 have g:=Zh g
 subst g
 refine ⟨e,h1,v,f,s,rfl,rfl,fun t hs=>?_,fun d hd hs=>?_⟩
 ·have hk:=wT hs
  have hi:i < all.length:=(Xq.1 k).1
  have b:all[i]=o:=(Xq.1 k).2
  rw[XW hi,b] at hk
  rw[m.keep fun u b=>hk u (by simp[b])]
  have:=hk o (by simp)
  cases c:o.dst with
  | none=>rfl
  | some d=>simp only[Env.put]; rw[Xd]; rintro rfl; exact this c
 ·rw[m.keep (wT hs),hd]
  simp[Env.put]
theorem zP {i a b c j d e f:Nat} (h:iN (.sl i a b c) (.sl j d e f)):i≠j:=h
theorem MK {T r:Env} {h E:aC} {c:List Rec} (A:Tr P n all all T h c r E) {i k:Nat} {a b:Rec} {B:List (Nat × Nat)} (hp:EF all i k=some B) (o:∀ p∈B,iN (r p.1) (r p.2)) (F:c[i]?=some a) (G:c[k]?=some b):pr a b:=by
 unfold EF at hp
 split at hp
 ·rename_i oa ob s u
  split at hp
  ·rename_i t y d g C d' h1 H
   split at hp
   ·rename_i l
    simp only[Xl] at l
    obtain ⟨⟨⟨⟨s1,s2⟩,I⟩,v⟩,J⟩:=l
    simp at hp; subst hp
    have j:=o (t,g) (by simp)
    have a2:=o (t,C) (by simp)
    have a3:=o (g,y) (by simp)
    have a4:=o (d,g) (by simp)
    simp only at j a2 a3 a4
    obtain ⟨Ta,w,va,K,L,M,N,x,z⟩:=OQ A s F
    obtain ⟨Tb,O,vb,Q,R,_,_,q,_⟩:=OQ A u G
    obtain ⟨S,U,V,W,p5,X⟩:=Jo L h1
    obtain ⟨Y,D,Z,_⟩:=Jo R H
    have z:=z d X I
    rw[← x t s1,← q g v] at j
    rw[← x t s1,← q C J] at a2
    rw[← q g v,← x y s2] at a3
    rw[z,← q g v] at a4
    refine ⟨fun id f hr=>?_,fun id f hr=>?_,fun m=>by rw[S] at m; simp at m,fun m=>by rw[Y] at m; simp at m,fun id f hx=>?_⟩
    ·obtain ⟨_,_,_,e⟩:=U id f
     rcases Z id hr with ⟨_,_,_,e'⟩ | ⟨_,_,_,e'⟩
     ·rw[e,e'] at j; exact zP j rfl
     ·rw[e,e'] at a2; exact zP a2 rfl
    ·obtain ⟨_,_,_,e⟩:=D id f
     rcases V id hr with ⟨_,_,_,e'⟩ | ⟨_,_,_,e'⟩
     ·rw[e',e] at j; exact zP j rfl
     ·rw[e,e'] at a3; exact zP a3 rfl
    ·obtain ⟨_,_,_,e⟩:=D id f
     obtain ⟨_,_,_,e'⟩:=W (by omega)
     have:id=w.length:=by omega
     subst this
     rw[e,e'] at a4; exact zP a4 rfl
   ·simp at hp
  ·simp at hp
 ·simp at hp
theorem Mt {T d:Env} {h m:aC} {c:List Rec} (e:Tr P n all all T h c d m) {i k:Nat} {a b:Rec} {f:List (Nat × Nat)} (hp:AI all i k=some f) (g:∀ p∈f,iN (d p.1) (d p.2)) (j:c[i]?=some a) (l:c[k]?=some b):pr a b:=by
 unfold AI at hp
 split at hp
 ·rename_i p h1
  simp at hp; subst hp
  exact Nc e h1 (g p (by simp)) j l
 ·exact MK e hp g j l
theorem SK {ls:List Nat} {d:List Rec} {T o:Env} {hp q:aC} {j:List (Nat × Nat)} (v:Tr P n all all T hp d o q) (h:Cl all (lg all ls)=some j) (z:∀ p∈j,iN (o p.1) (o p.2)) (hl:ls.length=d.length)
  (hr:∀ (i x:Nat) (r:Rec),ls[i]?=some x→d[i]?=some r→ln x r.rd r.wr r.call r.lo r.hi):uQ all d:=by
 intro i k a b s l m A
 have hi:i < d.length:=(Xq.1 l).1
 have hk:k < d.length:=(Xq.1 m).1
 have w:=hr i _ a (Xc (by omega)) l
 have y:=hr k _ b (Xc (by omega)) m
 have B:(ls[i]'(by omega),i)∈ls.zipIdx:=by rw[Yn]; simp[Xc (show i < ls.length by omega)]
 have mk:(ls[k]'(by omega),k)∈ls.zipIdx:=by rw[Yn]; simp[Xc (show k < ls.length by omega)]
 by_cases h1:zY all (ls[i]'(by omega)) i (ls[k]'(by omega)) k=true
 ·unfold zY at h1
  simp only[s,decide_true,Zi,A,Bool.false_or,Yp,Yo,Xl,Xr] at h1
  rcases h1 with ((h1 | h1) | h1) | h1
  ·obtain ⟨g,f,t,C⟩:=w.1 h1
   exact ⟨fun id c=>by simp[f] at c,fun id _=>by simp[g],fun u=>by simp[t] at u,fun _=>f,fun id _ D=>by omega⟩
  ·obtain ⟨g,f,t,C⟩:=y.1 h1
   exact ⟨fun id _=>by simp[g],fun id c=>by simp[f] at c,fun _=>f,fun u=>by simp[t] at u,fun id c=>by simp[f] at c⟩
  ·have g:=w.2 h1.1
   have f:=y.2 h1.2
   exact ⟨fun id c=>by simp[g] at c,fun id c=>by simp[f] at c,fun _=>f,fun _=>g,fun id c=>by simp[f] at c⟩
  ·exact xc v h1 l m
 ·have hm:(i,k)∈lg all ls:=by
   unfold lg
   rw[List.mem_flatMap]
   refine ⟨_,B,?_⟩
   rw[Yr]
   exact ⟨_,mk,by simp only; rw[Xd h1]⟩
  obtain ⟨p,hp,e⟩:=Oh h (i,k) hm
  exact P8 v e (z p hp) l m
theorem FO {P:Program} {t:TypeId} {id:Nat} {q:V} {ok:Bool} {H1 a:View} (h:H1 id=a id):gf P t (.mp id) q ok H1=gf P t (.mp id) q ok a:=by
 unfold gf
 simp only[h]
theorem LZ {P:Program} {t:TypeId} {id:Nat} {q:V} {H1 a:View} (h:H1 id=a id):ey P t (.mp id) q H1=ey P t (.mp id) q a:=by
 cases hm:dA P t with
 | none=>simp only[ey,hm]
 | some x=>simp only[ey,hm,h]
theorem R3 {P:Program} {t:TypeId} {id:Nat} {q:V} {H:View} {v:V} {eff:bA} {rd:List Nat} (h:gf P t (.mp id) q false H=some (v,eff,rd)):eff=.none∧rd=[id]:=by
 simp only[gf,Xz,if_false] at h
 repeat' (first | (simp only[Xe,Xh] at h; exact ⟨h.2.1.symm,h.2.2.symm⟩) | (split at h) | (simp at h; done))
theorem Oy {P:Program} {t:TypeId} {id:Nat} {q:V} {H:View} {v:V} {eff:bA} {rd:List Nat} (h:ey P t (.mp id) q H=some (v,eff,rd)):∃ obj,eff=.fk id obj:=by
 cases hm:dA P t with
 | none=>simp[ey,hm] at h
 | some x =>
  simp only[ey,hm] at h
  repeat' (first | (simp only[Xe,Xh] at h; exact ⟨_,h.2.1.symm⟩) | (split at h) | (simp at h; done))
theorem IP {o:Oper} {T:Env} {h f:aC} {v:V} {rd wr:List Nat} {call:Bool} (st:dR P n all o T h v f rd wr call) (g:dH n all T o=some true) (i:∀ e x,o.op≠.box e x) (j:∀ s d x,o.op≠.convert s d x) (hl:∀ c,o.op≠.call c) :
  ∃ eff,cp P o T h.view h.length=some (v,eff,rd)∧f=eff.apply h∧wr=eff.wr∧call=false:=by
 cases st with
 | skip hs=>rw[g] at hs; simp at hs
 | op _ b=>exact ⟨_,b,rfl,rfl,rfl⟩
 | jQ _ a _=>exact absurd a (i _ _)
 | gH _ a _ _ _ _=>exact absurd a (j _ _ _)
 | call _ a _ _ _ _ _=>exact absurd a (hl _)
theorem Uy {a:List Rec} {e:Nat→Env} {hs:Nat→aC} {vs:Nat→V} (c:Cc P n all a e hs vs) (hl:a.length=all.length) {k:Nat} (hk:k≤all.length) (hw:∀ j r,j < k→a[j]?=some r→r.wr=[]) :
  ∀ j,j≤k→(hs 0).length≤(hs j).length∧∀ id,id < (hs 0).length→(hs j).view id=(hs 0).view id:=by
 intro j
 induction j with
 | zero=>intro _; exact ⟨Xo _,fun _ _=>rfl⟩
 | succ j f =>
  intro h
  obtain ⟨d,g⟩:=f (by omega)
  obtain ⟨st,_,_,_,_⟩:=c j all[j] (a[j]'(by omega)) (Xc (by omega)) (Xc (by omega))
  refine ⟨X7 d (uD st),fun id b=>?_⟩
  rw[sC st (XM b d) (by rw[hw j _ (by omega) (Xc (by omega))]; simp)]
  exact g id b
theorem qN {a:List Rec} {b:Nat→Env} {hs:Nat→aC} {vs:Nat→V} (c:Cc P n all a b hs vs) (hl:a.length=all.length) {i t:Nat} (h:stays all i t=true):∀ j,i≤j→j≤all.length→b j t=b i t:=by
 intro j d e
 refine AN (vs:=vs) (N:=all.length) (fun k o hk=>?_) rfl i j d e fun k o h1 l f=>wT h o (by
  rw[List.mem_iff_getElem?]
  exact ⟨k - i,by rw[Ze,show i+(k - i)=k by omega]; exact f⟩)
 have g:k < all.length:=(Xq.1 hk).1
 exact (c k o (a[k]'(by omega)) hk (Xc (by omega))).2.2.1
theorem IG {ls:List Nat} {d:List Rec} {T I:Env} {hp bb:aC} {W:List (Nat × Nat)} {tp:Option (Nat × Nat)} (tr:Tr P n all all T hp d I bb) (h:vL all (GX all ls tp)=some W) (hA:∀ p∈W,iN (I p.1) (I p.2)) (hl:ls.length=d.length)
  (hr:∀ (i x:Nat) (r:Rec),ls[i]?=some x→d[i]?=some r→ln x r.rd r.wr r.call r.lo r.hi) (X:∀ p,tp=some p→∃ D,GR all ls p.1 p.2=some D∧M1 P D.1 (I D.2.1) (I D.2.2) hp.view):MJ P n all d T I hp:=by
 have main:∀ i k a b,i < k→d[i]?=some a→d[k]?=some b→ordered (fW all []) i k=false→tp≠some (i,k)→pr a b:=by
  intro i k a b K V S ho bd
  have hi:i < d.length:=(Xq.1 V).1
  have hk:k < d.length:=(Xq.1 S).1
  have la:=hr i _ a (Xc (by omega)) V
  have lb:=hr k _ b (Xc (by omega)) S
  have mi:(ls[i]'(by omega),i)∈ls.zipIdx:=by rw[Yn]; simp[Xc (show i < ls.length by omega)]
  have mk:(ls[k]'(by omega),k)∈ls.zipIdx:=by rw[Yn]; simp[Xc (show k < ls.length by omega)]
  by_cases h1:zY all (ls[i]'(by omega)) i (ls[k]'(by omega)) k=true
  ·unfold zY at h1
   simp only[K,decide_true,Zi,ho,Bool.false_or,Yp,Yo,Xl,Xr] at h1
   rcases h1 with ((h1 | h1) | h1) | h1
   ·obtain ⟨y,s,Y,e4⟩:=la.1 h1
    exact ⟨fun id c=>by simp[s] at c,fun id _=>by simp[y],fun Z=>by simp[Y] at Z,fun _=>s,fun id _ hx=>by omega⟩
   ·obtain ⟨y,s,Y,e4⟩:=lb.1 h1
    exact ⟨fun id _=>by simp[y],fun id c=>by simp[s] at c,fun _=>s,fun Z=>by simp[Y] at Z,fun id c=>by simp[s] at c⟩
   ·have y:=la.2 h1.1
    have s:=lb.2 h1.2
    exact ⟨fun id c=>by simp[y] at c,fun id c=>by simp[s] at c,fun _=>s,fun _=>y,fun id c=>by simp[s] at c⟩
   ·exact xc tr h1 V S
  ·have hm:(i,k)∈lg all ls:=by
    unfold lg
    rw[List.mem_flatMap]
    refine ⟨_,mi,?_⟩
    rw[Yr]
    exact ⟨_,mk,by simp only; rw[Xd h1]⟩
   by_cases hn:newAt all k=true
   ·unfold newAt at hn
    split at hn
    ·rename_i ob L
     obtain ⟨T1,cj,v,J,rd,wr,call,bl,y,s,_⟩:=tr.at_ k ob L
     rw[S] at y
     have y:=Zh y
     subst y
     obtain ⟨n1,n2,n3⟩:=Cb s hn
     exact ⟨fun id _=>by simp[n1],fun id c=>by simp[n2] at c,fun _=>n2,fun Z=>by simp[n3] at Z,fun id c=>by simp[n2] at c⟩
    ·simp at hn
   ·obtain ⟨p,hp,e⟩:=L4 h (i,k) (by
     unfold GX
     rw[XY]
     refine ⟨hm,?_⟩
     simp only[Xl,Zj,Zk,ne_eq]
     exact ⟨by simpa using hn,bd⟩)
    exact Mt tr e (fun q hq=>hA q (hp q hq)) V S
 cases tp with
 | none=>exact uQ.V1 fun i k a b h1 J h3 h4=>main i k a b h1 J h3 h4 (by simp)
 | some p =>
  obtain ⟨i0,C⟩:=p
  obtain ⟨D,f,u⟩:=X _ rfl
  intro M hs vs ck N an E w i
  by_cases hi:i=i0
  ·subst hi
   refine ⟨some C,fun k a b h1 J h3 h4 h5=>main i k a b h1 J h3 h4 (fun e=>h5 (by simp at e; rw[e])),fun k a b o hk V S ho=>?_⟩
   simp at hk; subst hk
   unfold GR at f
   simp only at f
   split at f
   ·rename_i oa ob O L
    rw[ho] at O
    have O:=Zh O
    subst O
    split at f
    ·rename_i t m q t' m' q' l z bn bq
     split at f
     ·rename_i F
      simp only[Xl,Yo,Xr,XI,XU] at F
      obtain ⟨⟨⟨⟨⟨⟨⟨⟨rfl,rfl⟩,rfl⟩,s1⟩,s2⟩,s3⟩,s4⟩,K⟩,U⟩:=F
      simp only[Xe] at f
      subst f
      simp only at u
      have br:C < all.length:=(Xq.1 L).1
      have bs:∀ j r,j < C→d[j]?=some r→r.wr=[]:=fun j r hj bx=>by
       have h1:=U j hj
       have aq:j < ls.length:=by omega
       rw[Xb,Xc aq] at h1
       exact (hr j _ r (Xc aq) bx).2 h1
      have G:=Uy w E (Nat.le_of_lt br) bs
      have em:∀ j,i≤j→j≤all.length→M j m=I m:=fun j h1 J=>by
       rw[← an,qN w E s1 j h1 J,qN w E s1 all.length (by omega) (Xo _)]
      have eq:∀ j,i≤j→j≤all.length→M j q=I q:=fun j h1 J=>by
       rw[← an,qN w E s2 j h1 J,qN w E s2 all.length (by omega) (Xo _)]
      obtain ⟨b0,_,_,b1,b2⟩:=w i o a ho V
      obtain ⟨b3,_,_,_,_⟩:=w C ob b L S
      have gi:dH n all (M i) o=some true:=by unfold dH; rw[bn]
      have gk:dH n all (M C) ob=some true:=by unfold dH; rw[bq]
      unfold M1 at u
      split at u
      ·rename_i id c
       obtain ⟨⟨cu,c0,H⟩,u⟩:=u
       have Q:id < hp.length:=iS (by rw[H]; simp)
       have ar:(hs C).view id=hp.view id:=by rw[(G C (Xo _)).2 id (by rw[N]; exact Q),N]
       have a1:(hs i).view id=hp.view id:=by rw[(G i (Nat.le_of_lt K)).2 id (by rw[N]; exact Q),N]
       obtain ⟨cg,A,b4,b5,b7⟩:=IP b0 gi (by rw[l]; simp) (by rw[l]; simp) (by rw[l]; simp)
       obtain ⟨ch,B,b8,b9,cv⟩:=IP b3 gk (by rw[z]; simp) (by rw[z]; simp) (by rw[z]; simp)
       simp only[cp,l] at A
       simp only[cp,z] at B
       have y:ev (M i) (.tmp m)=.mp id:=(em i (Xo _) (by omega)).trans c
       have s:ev (M i) (.tmp q)=I q:=eq i (Xo _) (by omega)
       have Y:ev (M C) (.tmp m)=.mp id:=(em C (by omega) (by omega)).trans c
       have e4:ev (M C) (.tmp q)=I q:=eq C (by omega) (by omega)
       rw[y,s] at A
       rw[Y,e4,LZ ar] at B
       obtain ⟨l1,l2⟩:=R3 A
       obtain ⟨obj,l3⟩:=Oy B
       subst l1 l3
       have ca:(hs (C+1)).view id=obj:=by
        rw[b8,mg (fun cA R=>by
         simp only[bA.wr,X8] at R
         subst R
         rw[ar,H]; simp)]
        simp[bA.view,View.set]
       refine ⟨K,b5,b7,by rw[b1,b2,b4]; rfl,fun g hg cc=>?_⟩
       have a6:id < (hs i).length:=iS (by rw[a1,H]; simp)
       have a7:g.view id=(hp.view.set id obj) id:=by
        rw[cc id a6,b9,Xg (by simp[bA.wr]),ca]
        simp[View.set]
       have cf:=u _ _ _ B
       have a8:cp P o (M i) g.view g.length=some (vs i,.none,a.rd):=by
        simp only[cp,l]
        rw[y,s,FO a7,cf,← FO a1]
        exact A
       exact .op gi a8
      ·exact u.elim
     ·simp at f
    ·simp at f
   ·simp at f
  ·exact ⟨none,fun k a b h1 J h3 h4 _=>main i k a b h1 J h3 h4 (fun e=>hi (by simp at e; exact e.1.symm)),fun k a b o h1=>by simp at h1⟩
theorem RZ (hm:P.follows .mixedOrders=true) {p:Fz} {id:Nat} {ops:Array Oper} {q:SC} {T:Env} {h:aC} {Q:Exit→Env→View→Prop} (a:DW P n p ops.toList=some q) (hw:wS P q T h.view Q) :
  ∃ e g d,c4 P n (.region id ops true) T h e g d∧(jE h d∧h.length≤d.length)∧Q e g d.view:=by
 unfold DW at a
 split at a
 ·simp at a
 ·rename_i l hl
  split at a
  ·simp at a
  ·rename_i b
   have b:(group l).all uH=true:=by simpa using b
   have j:dN P n ops.toList p ops.toList=some (kW (group l)):=by rw[gU]; exact hl
   split at a
   ·rename_i v
    simp only[Xn] at a
    obtain ⟨w,k,rfl⟩:=a
    obtain ⟨f,g,d,t,m,hk,c⟩:=zl (group l) ops.toList T h j b hw
    rw[gU] at c
    refine ⟨.normal,g,d,?_,m,hk.rest⟩
    have o:uQ ops.toList f:=SK t k (BJ hk) (by simpa using c.1) (fun i x r u hr=>by
     simp only[Xf,Xn] at u
     obtain ⟨s,hs,rfl⟩:=u
     exact c.2 i s r hs hr)
    simpa using Aj hm (id:=id) t v o
   ·simp at a
theorem RI (hm:P.follows .mixedOrders=true) {z:Fz} {id:Nat} {ops:Array Oper} {A:SC} {T:Env} {h:aC} {Q:Exit→Env→View→Prop} (b:DN P n z ops.toList=some A) (hw:wS P A T h.view Q) :
  ∃ e k d,c4 P n (.region id ops true) T h e k d∧(jE h d∧h.length≤d.length)∧Q e k d.view:=by
 unfold DN at b
 split at b
 ·simp at b
 ·rename_i l hl
  split at b
  ·simp at b
  ·rename_i c
   have c:(group l).all uH=true:=by simpa using c
   have m:dN P n ops.toList z ops.toList=some (kW (group l)):=by rw[gU]; exact hl
   split at b
   ·rename_i B
    split at b
    ·simp only[Xn] at b
     obtain ⟨v,f,rfl⟩:=b
     obtain ⟨o,k,d,q,g,hk,a⟩:=zl (group l) ops.toList T h m c hw
     rw[gU] at a
     refine ⟨.normal,k,d,?_,g,hk.rest⟩
     have j:=IG q f (BJ hk) (by simpa using a.1) (fun i x r t hr=>by
      simp only[Xf,Xn] at t
      obtain ⟨s,hs,rfl⟩:=t
      exact a.2 i s r hs hr) (fun p hp=>by simp at hp)
     simpa using xl hm (id:=id) q B j
    ·rename_i p hp
     split at b
     ·rename_i w y
      simp only[Xn] at b
      obtain ⟨v,f,rfl⟩:=b
      obtain ⟨o,k,d,q,g,hk,a⟩:=zl (group l) ops.toList T h m c hw
      rw[gU] at a
      refine ⟨.normal,k,d,?_,g,hk.2.rest⟩
      have j:=IG q f (BJ hk.2) (by simpa using a.1) (fun i x r t hr=>by
       simp only[Xf,Xn] at t
       obtain ⟨s,hs,rfl⟩:=t
       exact a.2 i s r hs hr) (fun C u=>by
        simp only[Xe] at u
        subst u
        exact ⟨w,y,hk.1⟩)
      simpa using xl hm (id:=id) q B j
     ·simp at b
   ·simp at b
theorem tD (hm:P.follows .mixedOrders=true) {t:Fz} {id:Nat} {ops:Array Oper} {draw quiet:Bool} {u:SC} {T:Env} {h:aC} {Q:Exit→Env→View→Prop} (a:sH P n t ops.toList draw quiet=some u) (hw:wS P u T h.view Q) :
  ∃ e d c,c4 P n (.region id ops draw) T h e d c∧(jE h c∧h.length≤c.length)∧Q e d c.view:=by
 unfold sH at a
 split at a
 ·simp at a
 ·rename_i l hl
  split at a
  ·simp at a
  ·rename_i f
   have f:(group l).all uH=true:=by simpa using f
   have k:dN P n ops.toList t ops.toList=some (kW (group l)):=by rw[gU]; exact hl
   have key:yf P quiet (group l) T h.view (Q .normal)→(draw=true→mQ ops.toList=true∧GZ ops.toList (l.map fun s=>jz P quiet s.b)=true) →
     ∃ e d c,c4 P n (.region id ops draw) T h e d c∧(jE h c∧h.length≤c.length)∧Q e d c.view:=by
    intro hw m
    obtain ⟨j,d,c,o,p,hk,g⟩:=zl (group l) ops.toList T h k f hw
    rw[gU] at g
    refine ⟨.normal,d,c,?_,p,hk⟩
    cases hd:draw with
    | false=>simpa using Jq (id:=id) o
    | true =>
     obtain ⟨h1,w⟩:=m hd
     have q:uQ ops.toList j:=RJ o w (by simpa using g.1) (fun i x r v hr=>by
      simp only[Xf,Xn] at v
      obtain ⟨s,hs,rfl⟩:=v
      exact g.2 i s r hs hr)
     simpa using Aj hm (id:=id) o h1 q
   split at a
   ·rename_i hd
    split at a
    ·rename_i y
     simp at a; subst a
     exact key hw (fun _=>by simpa using y)
    ·simp at a
   ·rename_i hd
    simp at a; subst a
    exact key hw (fun e=>absurd e hd)
theorem fw {a b:Option SC} {c:SC} (h:orElse' a b=some c):a=some c∨b=some c:=by
 cases a with
 | none=>exact .inr h
 | some x=>exact .inl h
theorem Pa (hm:P.follows .mixedOrders=true) {k:List Nat} {id:Nat} {ops:Array Oper} {draw:Bool} {i:SC} {T:Env} {h:aC} {Q:Exit→Env→View→Prop} (c:De P n k ops.toList draw=some i) (hw:wS P i T h.view Q) :
  ∃ e j b,c4 P n (.region id ops draw) T h e j b∧(jE h b∧h.length≤b.length)∧Q e j b.view:=by
 unfold De at c
 rcases fw c with h1 | h1
 ·exact tD hm h1 hw
 ·clear c
  split at h1
  ·rename_i hd
   subst hd
   rcases fw h1 with a | h1
   ·split at a
    ·exact RI hm a hw
    ·simp at a
   rcases fw h1 with a | h1
   ·split at a
    ·exact tD hm a hw
    ·simp at a
   rcases fw h1 with d | d
   ·exact RZ hm d hw
   ·rcases fw d with f | f
    ·exact tD hm f hw
    ·rcases fw f with g | g
     ·exact tD hm g hw
     ·exact tD hm g hw
  ·simp at h1
theorem E5 {e:Exit} {a b:Prop} (h:Bl e a b):(e=.normal∧a)∨(e≠.normal∧b):=by
 cases e with
 | normal=>exact .inl ⟨rfl,h⟩
 | _=>exact .inr ⟨by simp,h⟩
def sG (P:Program) (n:Nat) (fz:List Nat) (c:Code):Prop:=∀ sc:SC,dp P n fz c=some sc→∀ (T:Env) (h:aC) (Q:Exit→Env→View→Prop),wS P sc T h.view Q →
 ∃ e T' h',c4 P n c T h e T' h'∧(jE h h'∧h.length≤h'.length)∧Q e T' h'.view
theorem E1 {b:List Nat} : sG P n b .skip:=by
 intro c a T h Q hw; simp[dp] at a; subst a; exact ⟨_,T,h,.skip,⟨.refl _,Xo _⟩,hw⟩
theorem HS {f:List Nat} {x y:Code} (g:sG P n f x) (i:sG P n f y):sG P n f (.seq x y):=by
 intro t c T h Q hw
 simp only[dp] at c
 split at c
 ·rename_i a b h1 p
  simp at c; subst c
  simp only[wS] at hw
  obtain ⟨e,m,d,o,st1,hq⟩:=g a h1 T h _ hw
  rcases E5 hq with ⟨rfl,hq⟩ | ⟨j,hq⟩
  ·obtain ⟨q,r,k,s,st2,l⟩:=i b p m d _ hq
   exact ⟨q,r,k,o.seq s,⟨st1.1.trans st2.1 st1.2,X7 st1.2 st2.2⟩,l⟩
  ·exact ⟨e,m,d,o.K6 j,st1,hq⟩
 ·simp at c
theorem pA {b:Fz} {ops:List Oper} {draw quiet:Bool} {a:SC} (h:sH P n b ops draw quiet=some a) (l:Nat):pG a l=none:=by
 unfold sH at h
 repeat' (first | (simp only[Xe] at h; subst h; rfl) | (split at h) | (simp at h; done))
theorem LY {b:Fz} {ops:List Oper} {a:SC} (h:DW P n b ops=some a) (l:Nat):pG a l=none:=by
 unfold DW at h
 repeat' (first | (simp only[Xn] at h; obtain ⟨_,_,rfl⟩:=h; rfl) | (split at h) | (simp at h; done))
theorem ND {b:Fz} {ops:List Oper} {a:SC} (h:DN P n b ops=some a) (l:Nat):pG a l=none:=by
 unfold DN at h
 repeat' (first | (simp only[Xn] at h; obtain ⟨_,_,rfl⟩:=h; rfl) | (split at h) | (simp at h; done))
theorem NB {f:List Nat} {ops:List Oper} {draw:Bool} {e:SC} (h:De P n f ops draw=some e) (l:Nat):pG e l=none:=by
 unfold De at h
 rcases fw h with h1 | h1
 ·exact pA h1 l
 ·split at h1
  ·rcases fw h1 with a | h1
   ·split at a
    ·exact ND a l
    ·simp at a
   rcases fw h1 with a | h1
   ·split at a
    ·exact pA a l
    ·simp at a
   rcases fw h1 with b | b
   ·exact LY b l
   ·rcases fw b with c | c
    ·exact pA c l
    ·rcases fw c with d | d
     ·exact pA d l
     ·exact pA d l
  ·simp at h1
theorem OO {j:List Nat} : ∀ (c:Code) (f:SC),dp P n j c=some f→∀ l,match findLabel c l with
  | some rest=>∃ r,pG f l=some r∧dp P n j rest=some r
  | none=>pG f l=none:=by
 intro c
 induction c with
 | seq x y h i =>
  intro f d l
  simp only[dp] at d
  split at d
  ·rename_i a b h1 k
   simp at d; subst d
   have g:=h a h1 l
   have o:=i b k l
   simp only[findLabel,pG]
   cases m:findLabel x l with
   | some rx =>
    rw[m] at g
    obtain ⟨r,p,q⟩:=g
    exact ⟨.seq r b,by rw[p],by simp only[dp,q,k]⟩
   | none =>
    rw[m] at g
    simp only at g ⊢
    rw[g]
    exact o
  ·simp at d
 | label l' =>
  intro f d l
  simp[dp] at d; subst d
  simp only[findLabel,pG]
  by_cases e:(l' == l)=true
  ·rw[Xg e]; exact ⟨.skip,by rw[Xg e],by simp[dp]⟩
  ·rw[Xd e]; simp only; rw[Xd e]
 | region id ops draw=>intro f d l; simp only[dp] at d; simp only[findLabel]; exact NB d l
 | cond x y z _ _ =>
  intro f d l
  simp only[dp] at d
  split at d
  ·simp at d; subst d; rfl
  ·simp at d
 | block id c _=>intro f d l; simp only[dp,Xn] at d; obtain ⟨_,_,rfl⟩:=d; rfl
 | loop c _=>intro f d l; simp only[dp,Xn] at d; obtain ⟨_,_,rfl⟩:=d; rfl
 | scope c _ =>
  intro f d l
  simp only[dp] at d
  split at d
  ·split at d
   ·simp only[Xn] at d; obtain ⟨_,_,rfl⟩:=d; rfl
   ·simp at d
  ·simp at d
 | skip=>intro f d l; simp[dp] at d; subst d; rfl
 | exit id=>intro f d l; simp[dp] at d; subst d; rfl
 | ret=>intro f d l; simp[dp] at d; subst d; rfl
 | goto l'=>intro f d l; simp[dp] at d; subst d; rfl
 | _=>intro f d; simp[dp] at d
theorem Nf {u:List Nat} {c:Code} (E:sG P n u c) (hr:∀ l rest,findLabel c l=some rest→sG P n u rest):sG P n u (.scope c):=by
 intro G d T h Q hw
 simp only[dp] at d
 split at d
 ·rename_i a h1
  split at d
  ·rename_i l H
   simp only[Xn] at d
   obtain ⟨r,v,rfl⟩:=d
   have j:=OO c a h1 l
   cases m:findLabel c l with
   | none=>rw[m] at j; simp only at j; rw[j] at v; simp at v
   | some rest =>
    rw[m] at j
    obtain ⟨J,s,o⟩:=j
    rw[v] at s
    have s:=Zh s
    subst s
    simp only[wS] at hw
    obtain ⟨I,K,w,x⟩:=hw
    have go:∀ k T (h:aC),I k T h.view→∃ e D t,sn P n c rest T h e D t∧(jE h t∧h.length≤t.length)∧Q e D t.view:=by
     intro k
     induction k using Nat.strongRecOn with
     | ind k y =>
      intro T h F
      obtain ⟨e,p,b,q,st1,hq⟩:=hr l rest m r o T h _ (x k T h.view F)
      cases e with
      | goto l' =>
       obtain ⟨rfl,z,A,f⟩:=hq
       obtain ⟨o,B,g,C,st2,i⟩:=y z A p b f
       exact ⟨o,B,g,sn.jump q m C,⟨st1.1.trans st2.1 st1.2,X7 st1.2 st2.2⟩,i⟩
      | _=>exact ⟨_,p,b,.out q rfl,st1,hq⟩
    obtain ⟨e,p,b,q,st1,hq⟩:=E a h1 T h _ w
    cases e with
    | goto l' =>
     obtain ⟨rfl,z,_,f⟩:=hq
     obtain ⟨o,B,g,C,st2,i⟩:=go z p b f
     exact ⟨o,B,g,.scope (sn.jump q m C),⟨st1.1.trans st2.1 st1.2,X7 st1.2 st2.2⟩,i⟩
    | _=>exact ⟨_,p,b,.scope (.out q rfl),st1,hq⟩
  ·simp at d
 ·simp at d
theorem Rk (hm:P.follows .mixedOrders=true) {D:List Nat} : ∀ c:Code,sG P n D c∧∀ l rest,findLabel c l=some rest→sG P n D rest:=by
 intro c
 induction c with
 | skip=>exact ⟨E1,fun l rest h=>by simp[findLabel] at h⟩
 | region id ops draw=>exact ⟨fun o d T h Q hw=>Pa hm d hw,fun l rest h=>by simp[findLabel] at h⟩
 | seq x y m g =>
  refine ⟨HS m.1 g.1,fun l rest h=>?_⟩
  simp only[findLabel] at h
  split at h
  ·rename_i r hr
   simp only[Xe] at h; subst h
   exact HS (m.2 _ _ hr) g.1
  ·exact g.2 _ _ h
 | cond c x y m g =>
  refine ⟨?_,fun l rest h=>by simp[findLabel] at h⟩
  intro o d T h Q hw
  simp only[dp] at d
  split at d
  ·rename_i a b h1 G
   simp at d; subst d
   simp only[wS] at hw
   split at hw
   ·rename_i t s
    have E:qL (SX.of c) t T=T:=by
     unfold qL
     split
     ·rename_i k hk
      rw[hk] at s
      exact BN s
     ·rfl
    rw[SX.cP] at s
    cases t with
    | true =>
     have:=hw.1 rfl
     rw[E] at this
     obtain ⟨e,i,f,j,st,hq⟩:=m.1 a h1 T h Q this
     exact ⟨e,i,f,.cond s j,st,hq⟩
    | false =>
     have:=hw.2 rfl
     rw[E] at this
     obtain ⟨e,i,f,j,st,hq⟩:=g.1 b G T h Q this
     exact ⟨e,i,f,.cond s j,st,hq⟩
   ·exact hw.elim
  ·simp at d
 | block id c q =>
  refine ⟨?_,fun l rest h=>by simp[findLabel] at h⟩
  intro o d T h Q hw
  simp only[dp,Xn] at d
  obtain ⟨a,h1,rfl⟩:=d
  simp only[wS] at hw
  obtain ⟨e,i,f,j,st,hq⟩:=q.1 a h1 T h _ hw
  exact ⟨_,i,f,j.block,st,hq⟩
 | loop c q =>
  refine ⟨?_,fun l rest h=>by simp[findLabel] at h⟩
  intro o d T h Q hw
  simp only[dp,Xn] at d
  obtain ⟨a,h1,rfl⟩:=d
  simp only[wS] at hw
  obtain ⟨I,⟨k,hk⟩,p⟩:=hw
  have go:∀ k T (h:aC),I k T h.view→∃ e i f,qG P n c T h e i f∧(jE h f∧h.length≤f.length)∧Q e i f.view:=by
   intro k
   induction k using Nat.strongRecOn with
   | ind k v =>
    intro T h H
    obtain ⟨e,F,u,j,st1,hq⟩:=q.1 a h1 T h _ (p k T h.view H)
    rcases E5 hq with ⟨rfl,J,w,z⟩ | ⟨A,hq⟩
    ·obtain ⟨K,L,B,M,st2,C⟩:=v J w F u z
     exact ⟨K,L,B,.step j M,⟨st1.1.trans st2.1 st1.2,X7 st1.2 st2.2⟩,C⟩
    ·exact ⟨e,F,u,.out j A,st1,hq⟩
  obtain ⟨e,i,f,j,st,hq⟩:=go k T h hk
  exact ⟨e,i,f,.loop j,st,hq⟩
 | exit id=>exact ⟨fun o d T h Q hw=>by simp[dp] at d; subst d; exact ⟨_,T,h,.exit,⟨.refl _,Xo _⟩,hw⟩,fun l rest h=>by simp[findLabel] at h⟩
 | ret=>exact ⟨fun o d T h Q hw=>by simp[dp] at d; subst d; exact ⟨_,T,h,.ret,⟨.refl _,Xo _⟩,hw⟩,fun l rest h=>by simp[findLabel] at h⟩
 | label l'=>exact ⟨fun o d T h Q hw=>by simp[dp] at d; subst d; exact ⟨_,T,h,.label,⟨.refl _,Xo _⟩,hw⟩,fun l rest h=>by
   simp only[findLabel] at h
   split at h
   ·simp only[Xe] at h; subst h; exact E1
   ·simp at h⟩
 | goto l'=>exact ⟨fun o d T h Q hw=>by simp[dp] at d; subst d; exact ⟨_,T,h,.goto,⟨.refl _,Xo _⟩,hw⟩,fun l rest h=>by simp[findLabel] at h⟩
 | scope c q=>exact ⟨Nf q.1 q.2,fun l rest h=>by simp[findLabel] at h⟩
 | _=>exact ⟨fun o d=>by simp[dp] at d,fun l rest h=>by simp[findLabel] at h⟩
theorem VN (hm:P.follows .mixedOrders=true) {f:List Nat} (c:Code) (b:SC) (g:dp P n f c=some b) (T:Env) (h:aC) (Q:Exit→Env→View→Prop) (hw:wS P b T h.view Q) :
 ∃ e d a,c4 P n c T h e d a∧(jE h a∧h.length≤a.length)∧Q e d a.view:=(Rk hm c).1 b g T h Q hw
theorem Vz {T:Env} {h:aC} {r:ResultVar} {l:List SR} {rest:List ResultVar} (b:ga P (r :: rest)=some l):∃ s l',l=s :: l'∧ga P rest=some l'∧∀ K:V→Prop,wR T h.view s K→∃ v,tg P T h r=some v∧K v:=by
 cases r with
 | tmp t =>
  simp only[ga,Xn] at b
  obtain ⟨l',h1,rfl⟩:=b
  exact ⟨.tmp t,l',rfl,h1,fun K hk=>⟨_,rfl,hk⟩⟩
 | cell a t =>
  simp only[ga] at b
  split at b
  ·rename_i k l' h1 g
   simp at b; subst b
   refine ⟨.cell a k,l',rfl,g,fun K hk=>?_⟩
   simp only[wR] at hk
   simp only[tg,na,xV h1]
   split at hk
   ·rename_i id i j c
    split at hk
    ·rename_i es hH
     obtain ⟨d,hk⟩:=hk
     obtain ⟨v,f,hk⟩:=qj hk
     exact ⟨v,by rw[c]; simp only[hH]; rw[Xg d,f]; rfl,hk⟩
    ·exact hk.elim
   ·rename_i e j c
    obtain ⟨v,f,hk⟩:=qj hk
    exact ⟨v,by rw[c]; simp only; rw[f]; rfl,hk⟩
   ·exact hk.elim
  ·simp at b
theorem QC {T:Env} {h:aC} {K:List V→Prop} : ∀ (rs:List ResultVar) (l:List SR) (acc:List V),ga P rs=some l→C6 T h.view l acc K→∃ vs,mW P T h rs=some vs∧K (acc ++ vs)
 | [],l,acc,a,hw=>by simp[ga] at a; subst a; exact ⟨[],rfl,by simpa [C6] using hw⟩
 | r :: rest,l,acc,a,hw=>by
  obtain ⟨s,l',rfl,h1,c⟩:=Vz (T:=T) (h:=h) a
  simp only[C6] at hw
  obtain ⟨v,d,hk⟩:=c _ hw
  obtain ⟨vs,b,hk⟩:=QC rest l' (acc ++ [v]) h1 hk
  exact ⟨v :: vs,by simp[mW,d,b],by simpa using hk⟩
def wF (P:Program) (F:SF) (vs:List V) (H:View) (K:V→View→Prop):Prop :=
 vs.length≤F.n∧wS P F.code (lW vs) H fun e T' H'=>(e=.ret∨e=.normal)∧C6 T' H' F.res [] fun l=>K (xZ l) H'
theorem aw.of (hm:P.follows .mixedOrders=true) {f:FuncId} {j:List Nat} {F:SF} (b:aR P f j=some F) {vs:List V} {H:View} {K:V→View→Prop} (hw:wF P F vs H K):aw P f vs H K:=by
 unfold aR at b
 split at b
 ·rename_i fn g
  split at b
  ·rename_i c k
   split at b
   ·rename_i m rs h1 n o
    simp at b; subst b
    refine ⟨o,?_⟩
    rintro h rfl
    obtain ⟨e,r,p,q,st,he,hr⟩:=VN hm c m h1 _ h _ hw.2
    obtain ⟨d,i,hk⟩:=QC _ _ [] n hr
    refine ⟨xZ d,p,bS.Ko g k hw.1 q he ?_,st.1,by simpa using hk⟩
    unfold MY
    rw[i]
    cases d with
    | nil=>rfl
    | cons a l=>cases l <;> rfl
   ·simp at b
  ·simp at b
 ·simp at b
theorem aw.mono {f:FuncId} {vs:List V} {H:View} {K c:V→View→Prop} (h:aw P f vs H K) (hk:∀ r H',K r H'→c r H'):aw P f vs H c :=
 ⟨h.1,fun d e=>let ⟨r,g,a,s,b⟩:=h.2 d e; ⟨r,g,a,s,hk _ _ b⟩⟩
theorem aA.M0 {f:FuncId} {vs:List V} {H:View} {t:V} {K:V→View→Prop} (h:aA P f vs t) (a:dJ P f=true) (hk:K t H):DR P f vs H K :=
 ⟨a,fun b e=>⟨t,b,bS.gJ h b,fun _ _=>rfl,e ▸ hk⟩⟩
theorem aw.M0 {f:FuncId} {vs:List V} {H:View} {K:V→View→Prop} (h:aw P f vs H fun r H'=>(∀ id,H id≠.dead→H' id=H id)∧K r H'):DR P f vs H K :=
 ⟨h.1,fun b e=>by
  obtain ⟨r,d,g,st,c,hk⟩:=h.2 b e
  refine ⟨r,d,g,fun id a=>?_,hk⟩
  by_cases hd:b.view id=.dead
  ·rw[hd]; exact st id a hd
  ·rw[← e] at c; exact c id hd⟩
end
inductive cD {α:Type} (x:α):Type where
 | mk
def fQ (s:ByteArray):List Int:=s.data.toList.map fun b=>(b.toNat:Int)
theorem eV (s:ByteArray):s.size=(fQ s).length:=by rw[fQ,Xj,bsize]
def aU (P:Program) (c:SC) (T:Env) (H:View) (Q:Exit→Env→View→Prop) (_:cD (T,H,Q)):Prop:=wS P (.loop c) T H Q
def Vn (P:Program) (l:Nat) (c r:SC) (T:Env) (H:View) (Q:Exit→Env→View→Prop) (_:cD (T,H,Q)):Prop:=wS P (.scope l c r) T H Q
def ay (P:Program) (quiet:Bool) (f:FuncId) (vs:List V) (H:View) (K:V→View→Prop) (_:cD (H,K)):Prop :=
 if quiet then DR P f vs H K else aw P f vs H K
def CJ {α:Type} (v:α) (F:α→Prop) (_:cD F):Prop:=F v
def ef (v:V) (F:V→Prop) (_:cD F):Prop:=F v
def G9 (o:c6) (F:c6→Prop) (_:cD F):Prop:=F o
def rH {α:Type} (o:Option α) (F:Option α→Prop) (_:cD F):Prop:=F o
def ah (b:Bool) (A B:Prop) (_:cD (A,B)):Prop:=(b=true→A)∧(b=false→B)
theorem VX {α:Type} (v:α) (F:α→Prop) (w:cD F):CJ v F w=F v:=propext Iff.rfl
section
variable (F:V→Prop) (w:cD F)
theorem KJ (v:Value):ef (.val v) F w=F (.val v):=propext Iff.rfl
theorem Lm (k:Nat):ef (.emp k) F w=F (.emp k):=propext Iff.rfl
theorem Ku:ef .dS F w=F .dS:=propext Iff.rfl
theorem LW (es:List (List V)):ef (.aE es) F w=F (.aE es):=propext Iff.rfl
theorem O3 (a b c d:Nat):ef (.sl a b c d) F w=F (.sl a b c d):=propext Iff.rfl
theorem K0 (a b c:Nat):ef (.ptr a b c) F w=F (.ptr a b c):=propext Iff.rfl
theorem Il (e:List V) (j:Nat):ef (.aJ e j) F w=F (.aJ e j):=propext Iff.rfl
theorem NP (a:Nat):ef (.mp a) F w=F (.mp a):=propext Iff.rfl
theorem N4 (f:FuncId) (a b:List V):ef (.fn f a b) F w=F (.fn f a b):=propext Iff.rfl
theorem Kv (cs:List V):ef (.agg cs) F w=F (.agg cs):=propext Iff.rfl
theorem Ky (cs:List V):ef (.bp cs) F w=F (.bp cs):=propext Iff.rfl
end
theorem Lz (F:c6→Prop) (w:cD F) (k:Nat) (es:List (List V)):G9 (.arr k es) F w=F (.arr k es):=propext Iff.rfl
theorem Kj (F:c6→Prop) (w:cD F) (es:List (V × V × Nat)) (k:Nat):G9 (.map es k) F w=F (.map es k):=propext Iff.rfl
theorem IA {α:Type} (F:Option α→Prop) (w:cD F) (x:α):rH (some x) F w=F (some x):=propext Iff.rfl
theorem Hf (A B:Prop) (w:cD (A,B)):ah true A B w=A:=by simp[ah]
theorem Gq (A B:Prop) (w:cD (A,B)):ah false A B w=B:=by simp[ah]
theorem Kz (b:Bool) (A B:Prop) (w:cD (A,B)):ah (!b) A B w=ah b B A .mk:=by cases b <;> simp[ah]
theorem ah.split {b:Bool} {A B:Prop} {w:cD (A,B)} (h1:b=true→A) (a:b=false→B):ah b A B w:=⟨h1,a⟩
theorem ah.dec {p:Prop} [Decidable p] {A B:Prop} {w:cD (A,B)} (h1:p→A) (a:¬ p→B):ah (decide p) A B w:=⟨fun h=>h1 (by simpa using h),fun h=>a (by simpa using h)⟩
theorem ah.eq {a b:Int} {A B:Prop} {w:cD (A,B)} (h1:a=b→A) (c:¬ a=b→B):ah (a == b) A B w:=⟨fun h=>h1 (by simpa using h),fun h=>c (by simpa using h)⟩
theorem ah.ne {a b:Int} {A B:Prop} {w:cD (A,B)} (h1:¬ a=b→A) (c:a=b→B):ah (a != b) A B w:=⟨fun h=>h1 (by simpa using h),fun h=>c (by simpa using h)⟩
section
variable (P:Program) (T:Env) (H:View)
theorem Tt (F:SF) (vs:List V) (K:V→View→Prop):wF P F vs H K=(vs.length≤F.n∧wS P F.code (lW vs) H fun e a H'=>(e=.ret∨e=.normal)∧C6 a H' F.res [] fun l=>CJ (xZ l) (fun v=>K v H') .mk):=propext Iff.rfl
theorem LR (Q:Exit→Env→View→Prop):wS P .skip T H Q=Q .normal T H:=propext Iff.rfl
theorem Fg (q:Bool) (gs:List SG) (Q:Exit→Env→View→Prop):wS P (.region q gs) T H Q=yf P q gs T H (Q .normal):=propext Iff.rfl
theorem Cy (a:List (Nat × Nat)) (gs:List SG) (Q:Exit→Env→View→Prop):wS P (.nT a gs) T H Q=yf P false gs T H (fun b H'=>yQ a b (Q .normal b H')):=propext Iff.rfl
theorem CC (a:Nat × Nat × Nat) (b:List (Nat × Nat)) (gs:List SG) (Q:Exit→Env→View→Prop):wS P (.D7 a b gs) T H Q=yf P false gs T H (fun c H'=>M1 P a.1 (c a.2.1) (c a.2.2) H∧yQ b c (Q .normal c H')):=propext Iff.rfl
theorem K4 (K:Prop):yQ [] T K=K:=propext Iff.rfl
theorem IM (a b:Nat) (l:List (Nat × Nat)) (K:Prop):yQ ((a,b) :: l) T K=(iN (T a) (T b)∧yQ l T K):=propext Iff.rfl
theorem Lj (i j k a b c:Nat):iN (.ptr i j k) (.ptr a b c)=(i≠a):=propext Iff.rfl
theorem AK (i j k a b c d:Nat):iN (.ptr i j k) (.sl a b c d)=(i≠a):=propext Iff.rfl
theorem w7 (i j k e:Nat):iN (.ptr i j k) (.emp e)=True:=id rfl
theorem Jm (i j k:Nat):iN (.ptr i j k) .dS=True:=id rfl
theorem Hd (i j k:Nat) (es:List (List V)):iN (.ptr i j k) (.aE es)=True:=id rfl
theorem LG (a b c d e f g h:Nat):iN (.sl a b c d) (.sl e f g h)=(a≠e):=propext Iff.rfl
theorem PS (a b c d e:Nat):iN (.sl a b c d) (.emp e)=True:=id rfl
theorem Qw (a b c d:Nat):iN (.sl a b c d) .dS=True:=id rfl
theorem NQ (a b c d:Nat) (es:List (List V)):iN (.sl a b c d) (.aE es)=True:=id rfl
theorem KD (k:Nat) (v:V):iN (.emp k) v=True:=by cases v <;> rfl
theorem Kq (v:V):iN .dS v=True:=by cases v <;> rfl
theorem Ln (es:List (List V)) (v:V):iN (.aE es) v=True:=by cases v <;> rfl
theorem II (e:List V) (j:Nat) (v:V):iN (.aJ e j) v=True:=by cases v <;> rfl
theorem OD (x y:SC) (Q:Exit→Env→View→Prop):wS P (.seq x y) T H Q=wS P x T H fun e a H'=>Bl e (wS P y a H' Q) (Q e a H'):=propext Iff.rfl
theorem KY (c:SX) (x y:SC) (Q:Exit→Env→View→Prop):wS P (.cond c x y) T H Q=ef (c.at T) (fun v=>match v with
 | .val (.bool b)=>ah b (wS P x (qL c true T) H Q) (wS P y (qL c false T) H Q) .mk
 | _=>False) .mk:=propext Iff.rfl
theorem HV (id:Nat) (c:SC) (Q:Exit→Env→View→Prop):wS P (.block id c) T H Q=wS P c T H fun e=>Q (qQ id e):=propext Iff.rfl
theorem Lx (id:Nat) (Q:Exit→Env→View→Prop):wS P (.exit id) T H Q=Q (.exit id) T H:=propext Iff.rfl
theorem Qq (Q:Exit→Env→View→Prop):wS P .ret T H Q=Q .ret T H:=propext Iff.rfl
theorem Hq (l:Nat) (c r:SC) (Q:Exit→Env→View→Prop):wS P (.scope l c r) T H Q=Vn P l c r T H Q .mk:=propext Iff.rfl
theorem Ha (l:Nat) (Q:Exit→Env→View→Prop):wS P (.label l) T H Q=Q .normal T H:=propext Iff.rfl
theorem Kh (l:Nat) (Q:Exit→Env→View→Prop):wS P (.goto l) T H Q=Q (.goto l) T H:=propext Iff.rfl
theorem CA (l l':Nat) (a b:Prop):Az l (.goto l') a b=(l'=l∧a):=propext Iff.rfl
theorem Al (l:Nat) (a b:Prop):Az l .normal a b=b:=propext Iff.rfl
theorem C0 (l i:Nat) (a b:Prop):Az l (.exit i) a b=b:=propext Iff.rfl
theorem Fa (l:Nat) (a b:Prop):Az l .ret a b=b:=propext Iff.rfl
theorem I0 (l:Nat) (a b:Prop):Bl (.goto l) a b=b:=propext Iff.rfl
theorem Dk (i l:Nat):qQ i (.goto l)=.goto l:=id rfl
theorem KO (c:SC) (Q:Exit→Env→View→Prop):wS P (.loop c) T H Q=aU P c T H Q .mk:=propext Iff.rfl
theorem Lv (q:Bool) (K:Env→View→Prop):yf P q [] T H K=K T H:=propext Iff.rfl
theorem Hr (q:Bool) (g:SG) (r:List SG) (K:Env→View→Prop):yf P q (g :: r) T H K=wG P q g T H fun a H'=>yf P q r a H' K:=propext Iff.rfl
theorem KV (q:Bool) (ops:List (Option Nat × SB)) (K:Env→View→Prop):wG P q ⟨none,ops⟩ T H K=yT P q ops T H K:=propext Iff.rfl
theorem Ll (q:Bool) (d:Nat) (ops:List (Option Nat × SB)) (K:Env→View→Prop):wG P q ⟨some (d,true),ops⟩ T H K=ef (T d) (fun v=>match v with
 | .val (.bool b)=>ah b (yT P q ops (T.put (some d) (.val (.bool true))) H K) (K (jh ops (T.put (some d) (.val (.bool false)))) H) .mk
 | .bp []=>K (jh ops T) H
 | _=>False) .mk:=propext Iff.rfl
theorem HD (q:Bool) (d:Nat) (ops:List (Option Nat × SB)) (K:Env→View→Prop):wG P q ⟨some (d,false),ops⟩ T H K=ef (T d) (fun v=>match v with
  | .val (.bool b)=>ah b (K (jh ops (T.put (some d) (.val (.bool true)))) H) (yT P q ops (T.put (some d) (.val (.bool false))) H K) .mk
  | .bp []=>K (jh ops T) H
  | _=>False) .mk:=by
 simp only[wG,ef]
 generalize T d=v
 cases v with
 | val x=>cases x <;> simp[ah,and_comm]
 | bp l=>cases l <;> simp
 | _=>simp
theorem Bn:jh [] T=T:=id rfl
theorem zX (d:Option Nat) (b:SB) (r:List (Option Nat × SB)):jh ((d,b) :: r) T=jh r (T.put d (.bp [])):=id rfl
theorem KN (q:Bool) (K:Env→View→Prop):yT P q [] T H K=K T H:=propext Iff.rfl
theorem I6 (q:Bool) (d:Option Nat) (b:SB) (r:List (Option Nat × SB)) (K:Env→View→Prop):yT P q ((d,b) :: r) T H K=wB P q b T H fun v H'=>CJ v (fun v'=>yT P q r (T.put d v') H' K) .mk:=propext Iff.rfl
theorem SZ (q:Bool) (s:SI) (K:V→View→Prop):wB P q (.op s) T H K=wI P s T H K:=propext Iff.rfl
theorem Lq (q:Bool) (f:SX) (args:List SX) (K:V→View→Prop):wB P q (.call f args) T H K=ef (f.at T) (fun v=>match v with
 | .fn g first cap=>ay P q g (first ++ args.map (SX.at T) ++ cap) H K .mk
 | _=>False) .mk:=propext Iff.rfl
theorem Ie (q:Bool) (f:SX) (args:List SX) (K:V→View→Prop):wB P q (.wW f args) T H K=ef (f.at T) (fun v=>match v with
 | .fn g first cap=>ay P true g (first ++ args.map (SX.at T) ++ cap) H K .mk
 | _=>False) .mk:=propext Iff.rfl
theorem Qk (x:SX) (K:V→View→Prop):wI P (.fa x) T H K=K (x.at T) H:=propext Iff.rfl
theorem Lt (c a b:SX) (K:V→View→Prop):wI P (.pick c a b) T H K=ef (c.at T) (fun v=>match v with
  | .val (.bool t)=>ah t (K (a.at T) H) (K (b.at T) H) .mk
  | _=>False) .mk:=by
 simp only[wI,ef]
 generalize c.at T=v
 cases v with
 | val x =>
  cases x with
  | bool t=>cases t <;> simp[ah]
  | _=>simp
 | _=>simp
theorem Oo (x:SX) (K:V→View→Prop):wI P (.box x) T H K=ef (x.at T) (fun v=>v.cells.all aO=true∧CJ v.cells (fun cs=>∀ n,H n=.dead→K (.ptr n 0 0) (H.set n (.arr cs.length [cs]))) .mk) .mk:=propext Iff.rfl
theorem Of (x:SX) (K:V→View→Prop):wI P (.jQ x) T H K=ef (x.at T) (fun v=>v.cells.all aO=true∧CJ v.cells (fun cs=>K (.aJ cs 0) H) .mk) .mk:=propext Iff.rfl
theorem IT (z:List V) (K:V→View→Prop):wI P (.alloc z) T H K=(z.all aO=true∧∀ n,H n=.dead→K (.ptr n 0 0) (H.set n (.arr z.length [z]))):=propext Iff.rfl
theorem LL (sz:Option Nat) (a:SX) (K:V→View→Prop):wI P (.load sz a) T H K=ef (a.at T) (fun v=>match v with
 | .ptr id i j=>G9 (H id) (fun o=>match o with
  | .arr _ es=>i < es.length∧CJ (es.getD i []) (fun e=>kj sz e j fun v=>K v H) .mk
  | _=>False) .mk
 | .aJ e j=>kj sz e j fun v=>K v H
 | _=>False) .mk:=propext Iff.rfl
theorem HQ (sz:Option Nat) (a:SX) (K:V→View→Prop):wI P (.Aw sz a) T H K=ef (a.at T) (fun v=>match v with
 | .aJ e j=>kj sz e j fun v=>K v H
 | _=>False) .mk:=propext Iff.rfl
theorem Jk (sz:Nat) (a x:SX) (K:V→View→Prop):wI P (.store sz a x) T H K=ef (a.at T) (fun v=>match v with
 | .ptr id i j=>G9 (H id) (fun o=>match o with
  | .arr esz es=>CJ (x.at T).cells (fun cs=>(i < es.length∧cs.length=sz∧j+cs.length≤esz∧cs.all aO=true) ∧
   CJ (es.set i (fJ (es.getD i []) j cs)) (fun es'=>K .any (H.set id (.arr esz es'))) .mk) .mk
  | _=>False) .mk
 | _=>False) .mk:=propext Iff.rfl
theorem La (x:SX) (K:V→View→Prop):wI P (.B5 x) T H K=ef (x.at T) (fun v=>match v with
 | .ptr id i j=>K (.ptr id i j) H
 | .aJ e j=>K (.aJ e j) H
 | .fn f a b=>K (.fn f a b) H
 | _=>False) .mk:=propext Iff.rfl
theorem KU (off:Nat) (x:SX) (K:V→View→Prop):wI P (.addr off x) T H K=ef (x.at T) (fun v=>match v with
 | .ptr id i j=>K (.ptr id i (j+off)) H
 | .aJ e j=>K (.aJ e (j+off)) H
 | _=>False) .mk:=propext Iff.rfl
theorem HO (off:Nat) (sz:Option Nat) (x:SX) (K:V→View→Prop):wI P (.field off sz x) T H K=ef (x.at T) (fun v=>match v with
 | .agg cs=>kj sz cs off fun v=>K v H
 | _=>False) .mk:=propext Iff.rfl
theorem NV (sz:Nat) (x i:SX) (K:V→View→Prop):wI P (.idx sz x i) T H K=rH (asNat (i.at T)) (fun o=>match o with
  | none=>False
  | some q=>ef (x.at T) (fun v=>match v with
   | .sl id off len esz=>(q < len∧esz=sz)∧K (.ptr id (off+q) 0) H
   | .aE es=>rH es[q]? (fun o=>match o with
    | some e=>e.length=sz∧K (.aJ e 0) H
    | none=>False) .mk
   | _=>False) .mk) .mk:=by
 simp only[wI,rH,ef]
 cases asNat (i.at T) with
 | none=>rfl
 | some q =>
  simp only
  cases x.at T with
  | aE es =>
   simp only
   cases h:es[q]? with
   | none=>simp
   | some e=>simp
  | _=>rfl
theorem KR (f:FuncId) (first cap:List SX) (K:V→View→Prop):wI P (.s9 f first cap) T H K=K (.fn f (first.map (SX.at T)) (cap.map (SX.at T))) H:=propext Iff.rfl
theorem Jw (K:V→View→Prop):wI P .pD T H K=(∀ n,H n=.dead→K (.mp n) (H.set n (.map [] 0))):=propext Iff.rfl
theorem N9 (i:Nat) (x:SX) (K:V→View→Prop):wI P (.ext i x) T H K=ef (x.at T) (fun v=>match v with
 | .bp vs=>i < vs.length∧K (vs.getD i .any) H
 | _=>False) .mk:=propext Iff.rfl
theorem Qi (x:SX) (K:V→View→Prop):wI P (.len x) T H K=rH (cH (x.at T)) (fun o=>match o with
 | some n=>K (iL n) H
 | none=>False) .mk:=propext Iff.rfl
theorem Ls (x:SX) (K:V→View→Prop):wI P (.qp x) T H K=ef (x.at T) (fun v=>match v with
 | .val (.string s)=>K (iL s.size) H
 | _=>False) .mk:=propext Iff.rfl
theorem Ic (op:BinOp) (x y:SX) (K:V→View→Prop):wI P (.arith op x y) T H K=ef (x.at T) (fun v=>ef (y.at T) (fun v'=>match v,v' with
 | .val (.int k a),.val (.int c b)=>k=c∧rH (iD op k a b) (fun o=>match o with | some v=>K (.val v) H | none=>False) .mk
 | _,_=>False) .mk) .mk:=propext Iff.rfl
theorem Ti (l:Bool) (x y:SX) (K:V→View→Prop):wI P (.sh l x y) T H K=ef (x.at T) (fun v=>ef (y.at T) (fun v'=>match v,v' with
 | .val (.int k a),.val (.int _ b)=>0≤b∧K (.val (.int k (El l k a b))) H
 | _,_=>False) .mk) .mk:=propext Iff.rfl
theorem PM (op:BinOp) (x y:SX) (K:V→View→Prop):wI P (.yc op x y) T H K=ef (x.at T) (fun v=>ef (y.at T) (fun v'=>match v,v' with
 | .val (.string a),.val (.string b)=>(match op with
  | .eql=>K (.val (.bool (jo a b))) H
  | .neq=>K (.val (.bool (!jo a b))) H
  | _=>False)
 | _,_=>False) .mk) .mk:=propext Iff.rfl
theorem Ke (x i:SX) (K:V→View→Prop):wI P (.ja x i) T H K=ef (x.at T) (fun v=>rH (asNat (i.at T)) (fun o=>match v,o with
  | .val (.string s),some q=>rH (fQ s)[q]? (fun o=>match o with
   | some c=>K (.val (.int .u8 c)) H
   | none=>False) .mk
  | _,_=>False) .mk) .mk:=by
 simp only[wI,rH,ef]
 generalize x.at T=v
 generalize asNat (i.at T)=o
 cases v with
 | val u =>
  cases u with
  | string s =>
   cases o with
   | none=>rfl
   | some q =>
    simp only[fQ,Xf]
    cases h:s.data.toList[q]? with
    | none=>simp
    | some e=>simp
  | _=>rfl
 | _=>rfl
theorem QD (x:SX) (K:V→View→Prop):wI P (.not x) T H K=ef (x.at T) (fun v=>match v with
 | .val (.bool t)=>K (.val (.bool (!t))) H
 | _=>False) .mk:=propext Iff.rfl
theorem Om (eq:Bool) (k:Nat) (x y:SX) (K:V→View→Prop):wI P (.nil eq k x y) T H K=rH (Bu (fh k (x.at T)) (fh k (y.at T))) (fun o=>match o with
 | some b=>K (.val (.bool (if eq=true then b else !b))) H
 | none=>False) .mk:=propext Iff.rfl
theorem K3 (x y:SX) (K:V→View→Prop):wI P (.beq true x y) T H K=ef (x.at T) (fun v=>ef (y.at T) (fun v'=>match v,v' with
 | .val (.bool a),.val (.bool b)=>K (.val (.bool (a == b))) H
 | _,_=>False) .mk) .mk:=propext Iff.rfl
theorem Kc (x y:SX) (K:V→View→Prop):wI P (.beq false x y) T H K=ef (x.at T) (fun v=>ef (y.at T) (fun v'=>match v,v' with
 | .val (.bool a),.val (.bool b)=>K (.val (.bool (a != b))) H
 | _,_=>False) .mk) .mk:=propext Iff.rfl
theorem O7 (x y:SX) (K:V→View→Prop):wI P (.mm true x y) T H K=ef (x.at T) (fun v=>ef (y.at T) (fun v'=>match v,v' with
 | .val (.int k a),.val (.int _ b)=>K (.val (.int k (if b > a then b else a))) H
 | _,_=>False) .mk) .mk:=propext Iff.rfl
theorem NH (x y:SX) (K:V→View→Prop):wI P (.mm false x y) T H K=ef (x.at T) (fun v=>ef (y.at T) (fun v'=>match v,v' with
 | .val (.int k a),.val (.int _ b)=>K (.val (.int k (if b < a then b else a))) H
 | _,_=>False) .mk) .mk:=propext Iff.rfl
theorem J8 (k:IntKind) (x:SX) (K:V→View→Prop):wI P (.conv k x) T H K=ef (x.at T) (fun v=>match v with
 | .val (.int _ a)=>K (.val (.int k (k.wrap a))) H
 | _=>False) .mk:=propext Iff.rfl
theorem Io (n k:Nat) (o:c6):View.set H n o k=if k=n then o else H k:=id rfl
theorem Ia (z:List V) (parts:List (Nat × Nat × SX)) (K:V→View→Prop):wI P (.build z parts) T H K=rH (mT z (parts.map fun p=>(p.1,p.2.1,p.2.2.at T))) (fun o=>match o with
 | some cs=>K (.agg cs) H
 | none=>False) .mk:=propext Iff.rfl
theorem F5 (len sz:Nat) (z:List V) (parts:List (Nat × SX)) (K:V→View→Prop):wI P (.bV len sz z parts) T H K=rH (mb sz (List.replicate len z) (parts.map fun p=>(p.1,p.2.at T))) (fun o=>match o with
 | some es=>∀ n,H n=.dead→K (.sl n 0 len sz) (H.set n (.arr sz es))
 | none=>False) .mk:=propext Iff.rfl
theorem Hk (sz:Nat) (x:SX) (lo hi:Option SX) (K:V→View→Prop):wI P (.slice sz x lo hi) T H K=rH (dx sz (x.at T) (lo.map (SX.at T)) (hi.map (SX.at T))) (fun o=>match o with
 | some (v,.none,_)=>K v H
 | _=>False) .mk:=propext Iff.rfl
theorem KB (sz bytes:Nat) (z:List V) (l c:SX) (K:V→View→Prop):wI P (.make sz bytes z l c) T H K=rH (asNat (l.at T)) (fun a=>rH (asNat (c.at T)) (fun b=>match a,b with
 | some l,some c=>(l≤c∧c < aB∧bytes * c < aB)∧(c=0→K (.emp 2) H)∧(c≠0→∀ n,H n=.dead→K (.sl n 0 l sz) (H.set n (.arr sz (List.replicate l z))))
 | _,_=>False) .mk) .mk:=propext Iff.rfl
def oD (sz bytes:Nat) (x:V) (xs:List (List V)) (H:View) (K:V→View→Prop) (_:cD (H,K)):Prop:=if xs.isEmpty=true then (match x with
  | .emp k=>K (.emp k) H
  | .dS=>K .dS H
  | .aE es=>K (.aE es) H
  | .sl a b c d=>K (.sl a b c d) H
  | _=>False)
 else (xs.all fun e=>e.length == sz && e.all aO)=true∧(match x with
  | .emp _=>(xs.length * bytes < aB∧xs.length < aB)∧∀ n,H n=.dead→K (.sl n 0 xs.length sz) (H.set n (.arr sz xs))
  | .sl id off len esz=>match H id with
   | .arr _ es=>(off+len≤es.length∧esz=sz∧(len+xs.length) * bytes < aB∧len+xs.length < aB) ∧
    ∀ n,H n=.dead→K (.sl n 0 (len+xs.length) esz) ((H.set id .dead).set n (.arr esz ((es.drop off).take len ++ xs)))
   | _=>False
  | _=>False)
theorem QP (sz bytes:Nat) (x y:SX) (K:V→View→Prop):wI P (.app sz bytes x y) T H K=rH (bI H (y.at T)) (fun o=>match o with
 | some (xs,_)=>oD sz bytes (x.at T) xs H K .mk
 | none=>False) .mk:=propext Iff.rfl
theorem zH (sz bytes k:Nat) (xs:List (List V)) (K:V→View→Prop) (w:cD (H,K)) (a:xs.isEmpty=false):oD sz bytes (.emp k) xs H K w=((xs.all fun e=>e.length == sz && e.all aO)=true∧(xs.length * bytes < aB∧xs.length < aB)∧∀ n,H n=.dead→K (.sl n 0 xs.length sz) (H.set n (.arr sz xs))):=by
 unfold oD; rw[Xd (by rw[a]; simp)]
theorem xJ (sz bytes id off len esz:Nat) (xs:List (List V)) (K:V→View→Prop) (w:cD (H,K)) (a:xs.isEmpty=false):oD sz bytes (.sl id off len esz) xs H K w=((xs.all fun e=>e.length == sz && e.all aO)=true∧G9 (H id) (fun o=>match o with
  | .arr _ es=>(off+len≤es.length∧esz=sz∧(len+xs.length) * bytes < aB∧len+xs.length < aB) ∧
   ∀ n,H n=.dead→K (.sl n 0 (len+xs.length) esz) ((H.set id .dead).set n (.arr esz ((es.drop off).take len ++ xs)))
  | _=>False) .mk):=by
 unfold oD G9; rw[Xd (by rw[a]; simp)]
theorem sB (id off len esz z:Nat) (es:List (List V)) (hH:H id=.arr z es) (hl:off+(len+1)≤es.length):bI H (.sl id off (len+1) esz)=some ((es.drop off).take (len+1),[id]):=by
 simp only[bI,hH]; rw[Xg hl]
theorem Bh (es:List (List V)):bI H (.aE es)=some (es,[]):=id rfl
theorem vu (k:Nat):bI H (.emp k)=some ([],[]):=id rfl
theorem LH (x:SX) (K:V→View→Prop):wI P (.Es x) T H K=ef (x.at T) (fun v=>match v with
 | .aE es=>rH (lI es) (fun o=>match o with
  | some l=>K (.val (.string ⟨l.toArray⟩)) H
  | none=>False) .mk
 | _=>False) .mk:=propext Iff.rfl
theorem KW (x:SX) (K:V→View→Prop):wI P (.gH x) T H K=ef (x.at T) (fun v=>match v with
 | .val (.string s)=>K (.aE (gX s)) H
 | _=>False) .mk:=propext Iff.rfl
def jH (P:Program) (op:Op) (ty:TypeId) (T:Env) (H:View) (K:V→View→Prop) (_:cD (T,H,K)):Prop:=wI P (.old op ty) T H K
theorem PZ (op:Op) (ty:TypeId) (K:V→View→Prop):wI P (.old op ty) T H K=jH P op ty T H K .mk:=propext Iff.rfl
theorem NW (t:Nat):ev T (.tmp t)=T t:=id rfl
theorem HZ (v:Value):ev T (.const v)=fN v:=id rfl
theorem Ow (t:Nat):(SX.tmp t).at T=T t:=id rfl
theorem Pr (v:V):(SX.val v).at T=v:=id rfl
theorem KK (d t:Nat) (v:V):(T.put (some d) v) t=if t=d then v else T t:=id rfl
theorem IJ (v:V):T.put none v=T:=id rfl
theorem Js (vs:List V) (t:Nat):lW vs t=vs.getD t .any:=id rfl
theorem CH (e:List V) (j:Nat) (K:V→Prop):kj none e j K=(j < e.length∧K (e.getD j .any)):=propext Iff.rfl
theorem DH (n:Nat) (e:List V) (j:Nat) (K:V→Prop):kj (some n) e j K=(j+n≤e.length∧K (.agg ((e.drop j).take n))):=propext Iff.rfl
theorem CW (a b:Prop):Bl .normal a b=a:=propext Iff.rfl
theorem Ja (i:Nat) (a b:Prop):Bl (.exit i) a b=b:=propext Iff.rfl
theorem Ki (a b:Prop):Bl .ret a b=b:=propext Iff.rfl
theorem zQ (i:Nat):qQ i .normal=.normal:=id rfl
theorem F7 (i:Nat):qQ i .ret=.ret:=id rfl
theorem Cg (i j:Nat):qQ i (.exit j)=if j=i then .normal else .exit j:=by simp only[qQ]
theorem Kn (acc:List V) (K:List V→Prop):C6 T H [] acc K=K acc:=propext Iff.rfl
theorem Jl (r:SR) (l:List SR) (acc:List V) (K:List V→Prop):C6 T H (r :: l) acc K=wR T H r fun v=>C6 T H l (acc ++ [v]) K:=propext Iff.rfl
theorem Ox (t:Nat) (K:V→Prop):wR T H (.tmp t) K=K (T t):=propext Iff.rfl
theorem KX (t:Nat) (sz:Option Nat) (K:V→Prop):wR T H (.cell t sz) K=ef (T t) (fun v=>match v with
 | .ptr id i j=>G9 (H id) (fun o=>match o with
  | .arr _ es=>i < es.length∧CJ (es.getD i []) (fun e=>kj sz e j K) .mk
  | _=>False) .mk
 | .aJ e j=>kj sz e j K
 | _=>False) .mk:=propext Iff.rfl
theorem FJ (t:Nat) (b:Bool):qL (.tmp t) b T=T.put (some t) (.val (.bool b)):=id rfl
theorem EX (v:V) (b:Bool):qL (.val v) b T=T:=id rfl
theorem O4:(Exit.ret=Exit.ret∨Exit.ret=Exit.normal)=True:=by simp
theorem EY:(Exit.normal=Exit.ret∨Exit.normal=Exit.normal)=True:=by simp
end
section
variable {P:Program} {T:Env} {H:View}
theorem aU.intro {c:SC} {Q:Exit→Env→View→Prop} {v:cD (T,H,Q)} (I:Nat→Env→View→Prop) (k:Nat) (d:I k T H)
  (hs:∀ k T H,I k T H→wS P c T H fun e a H'=>Bl e (∃ b,b < k∧I b a H') (Q e a H')):aU P c T H Q v:=by
 simp only[aU,wS]
 exact ⟨I,⟨k,d⟩,hs⟩
theorem ay.pure {q:Bool} {f:FuncId} {vs:List V} {K:V→View→Prop} {v:cD (H,K)} {t:V} (b:aA P f vs t) (hk:K t H) (a:dJ P f=true:=by kernel_rfl):ay P q f vs H K v:=by
 unfold ay
 cases q with
 | true=>exact b.M0 a hk
 | false =>
  refine ⟨a,?_⟩
  rintro h rfl
  exact ⟨t,h,bS.gJ b h,.refl _,hk⟩
theorem ay.dZ {f:FuncId} {vs:List V} {K:V→View→Prop} {v:cD (H,K)} (a:aw P f vs H K):ay P false f vs H K v:=a
theorem Gr:aC.view []=fun _=>c6.dead:=by funext id; simp[aC.view]
theorem aA.of {f:FuncId} {vs:List V} {t:V} (b:∀ v∈vs,Tree v) (h:aw P f vs (fun _=>.dead) fun r H'=>∀ a:aC,a.view=H'→Fr a r t):aA P f vs t:=by
 obtain ⟨r,a,c,_,d⟩:=h.2 [] Gr
 exact aA.wV b c (d a rfl)
theorem wrap64 {x:Int} (h1 : -9223372036854775808≤x) (d:x≤9223372036854775807):IntKind.wrap .i64 x=x:=by
 unfold IntKind.wrap
 have a:(2:Int) ^ IntKind.i64.bits=18446744073709551616:=by rfl
 have b:(2:Int) ^ (IntKind.i64.bits - 1)=9223372036854775808:=by rfl
 have c:IntKind.i64.signed=true:=by rfl
 simp only[a,b,c,Ys,Xr]
 split <;> omega
theorem Gl {k:IntKind} {i:Int} (h:0≤i):asNat (.val (.int k i))=some i.toNat:=by simp[asNat,h]
end
theorem F1 (v:Value):V.cells (.val v)=[.val v]:=id rfl
theorem AJ (v:Value):aO (.val v)=true:=id rfl
theorem Gc (k:Nat):V.cells (.emp k)=[.emp k]:=id rfl
theorem Av (k:Nat):aO (.emp k)=true:=id rfl
theorem Ge  : V.cells .dS=[.dS]:=id rfl
theorem Ly  : aO .dS=true:=id rfl
theorem Fe (es:List (List V)):V.cells (.aE es)=[.aE es]:=id rfl
theorem Lb (es:List (List V)):aO (.aE es)=true:=id rfl
theorem G7 (a b c d:Nat):V.cells (.sl a b c d)=[.sl a b c d]:=id rfl
theorem Pq (a b c d:Nat):aO (.sl a b c d)=true:=id rfl
theorem Gm (a b c:Nat):V.cells (.ptr a b c)=[.ptr a b c]:=id rfl
theorem Kr (a b c:Nat):aO (.ptr a b c)=true:=id rfl
theorem CK (e:List V) (j:Nat):V.cells (.aJ e j)=[.aJ e j]:=id rfl
theorem IE (e:List V) (j:Nat):aO (.aJ e j)=true:=id rfl
theorem Jb (a:Nat):V.cells (.mp a)=[.mp a]:=id rfl
theorem PI (a:Nat):aO (.mp a)=true:=id rfl
theorem Hx (f:FuncId) (a b:List V):V.cells (.fn f a b)=[.fn f a b]:=id rfl
theorem Qy (f:FuncId) (a b:List V):aO (.fn f a b)=true:=id rfl
theorem Gh (cs:List V):V.cells (.agg cs)=cs:=id rfl
theorem Lr (k:Nat):cH (.emp k)=some 0:=id rfl
theorem KG:cH .dS=some 0:=id rfl
theorem Li (es:List (List V)):cH (.aE es)=some es.length:=id rfl
theorem PU (a b c d:Nat):cH (.sl a b c d)=some c:=id rfl
abbrev V0 {p:Prop} (_:p):Prop:=p
theorem S9 (P:Program) (T:Env) (H:View) (a:SC) (Q:Exit→Env→View→Prop):wS P (ae [a]) T H Q=wS P a T H Q:=by rw[ae]
theorem S7 (P:Program) (T:Env) (H:View) (a b:SC) (l:List SC) (Q:Exit→Env→View→Prop):wS P (ae (a :: b :: l)) T H Q=wS P (.seq a (ae (b :: l))) T H Q:=by rw[ae]
abbrev Wr:Prop:=V0 (And.intro @S9 <| And.intro @S7 <| And.intro @Tt <| And.intro @LR <| And.intro @Fg <| And.intro @Cy <| And.intro @CC <| And.intro @K4 <| And.intro @IM <| And.intro @OD <|
 And.intro @KY <| And.intro @HV <| And.intro @Lx <| And.intro @Qq <| And.intro @Hq <| And.intro @Ha <| And.intro @Kh <| And.intro @CA <| And.intro @Al <| And.intro @C0 <| And.intro @Fa <| And.intro @I0 <| And.intro @Dk <|
 And.intro @KO <| And.intro @Lv <| And.intro @Hr <| And.intro @KV <|
 And.intro @Ll <| And.intro @HD <| And.intro @Bn <| And.intro @zX <|
 And.intro @KN <| And.intro @I6 <| And.intro @SZ <| And.intro @Lq <| And.intro @Ie <|
 And.intro @Qk <| And.intro @Lt <| And.intro @Oo <| And.intro @Of <|
 And.intro @IT <| And.intro @LL <| And.intro @HQ <| And.intro @Jk <|
 And.intro @La <| And.intro @KU <| And.intro @HO <| And.intro @NV <|
 And.intro @KR <| And.intro @Jw <| And.intro @N9 <| And.intro @Qi <|
 And.intro @Ls <| And.intro @Ic <| And.intro @Ti <| And.intro @PM <| And.intro @Ke <|
 And.intro @QD <| And.intro @Om <| And.intro @K3 <| And.intro @Kc <|
 And.intro @O7 <| And.intro @NH <| And.intro @J8 <| And.intro @LH <|
 And.intro @KW <| And.intro @Ia <| And.intro @F5 <| And.intro @Hk <|
 And.intro @KB <| And.intro @QP <| And.intro @PZ <| And.intro @NW <| And.intro @HZ <| And.intro @Ow <| And.intro @Pr <|
 And.intro @KK <| And.intro @IJ <| And.intro @Js <| And.intro @CH <|
 And.intro @DH <| And.intro @CW <| And.intro @Ja <| And.intro @Ki <|
 And.intro @zQ <| And.intro @F7 <| And.intro @Cg <| And.intro @Kn <|
 And.intro @Jl <| And.intro @Ox <| And.intro @KX <| And.intro @FJ @EX)
theorem wr:Wr:=⟨@S9,@S7,@Tt,@LR,@Fg,@Cy,@CC,@K4,@IM,@OD,@KY,@HV,@Lx,@Qq,@Hq,@Ha,@Kh,@CA,@Al,@C0,@Fa,@I0,@Dk,@KO,@Lv,@Hr,@KV,@Ll,@HD,@Bn,@zX,@KN,@I6,@SZ,@Lq,@Ie,@Qk,@Lt,@Oo,@Of,@IT,@LL,@HQ,@Jk,@La,@KU,@HO,@NV,@KR,@Jw,@N9,@Qi,@Ls,@Ic,@Ti,@PM,@Ke,@QD,@Om,@K3,@Kc,@O7,@NH,@J8,@LH,@KW,@Ia,@F5,@Hk,@KB,@QP,@PZ,@NW,@HZ,@Ow,@Pr,@KK,@IJ,@Js,@CH,@DH,@CW,@Ja,@Ki,@zQ,@F7,@Cg,@Kn,@Jl,@Ox,@KX,@FJ,@EX⟩
theorem Pu:xZ []=.bp []:=id rfl
theorem Ph (v:V):xZ [v]=v:=id rfl
theorem O5 (v w:V) (l:List V):xZ (v :: w :: l)=.bp (v :: w :: l):=id rfl
theorem Tn (n:Nat):iL n=.val (.int .i64 n):=id rfl
theorem Hl (e:List V) (j:Nat) (cs:List V):fJ e j cs=e.take j ++ cs ++ e.drop (j+cs.length):=id rfl
theorem G8 (z:List V):mT z []=some z:=id rfl
theorem HY (z:List V) (o n:Nat) (x:V) (r:List (Nat × Nat × V)):mT z ((o,n,x) :: r)=if x.cells.length=n∧o+n≤z.length∧x.cells.all aO=true then mT (fJ z o x.cells) r else none:=by rw[mT]
theorem Kg (k:Nat) (z:List (List V)):mb k z []=some z:=by rw[mb]
theorem K1 (k:Nat) (z:List (List V)) (i:Nat) (x:V) (r:List (Nat × V)):mb k z ((i,x) :: r)=if x.cells.length=k∧i < z.length∧x.cells.all aO=true then mb k (z.set i x.cells) r else none:=by rw[mb]
theorem QO (b:Bool):Bu (some true) (some b)=some b:=id rfl
theorem OX (b:Bool):Bu (some b) (some true)=some b:=by cases b <;> rfl
section
variable (k:IntKind) (a b:Int)
theorem LI:iD .add k a b=some (.int k (k.wrap (a+b))):=id rfl
theorem KQ:iD .sub k a b=some (.int k (k.wrap (a - b))):=id rfl
theorem KF:iD .mul k a b=some (.int k (k.wrap (a * b))):=id rfl
theorem Ld:iD .quo k a b=if b=0 then none else some (.int k (k.wrap (a.tdiv b))):=id rfl
theorem Lk:iD .rem k a b=if b=0 then none else some (.int k (a.tmod b)):=id rfl
theorem Km:iD .eql k a b=some (.bool (a == b)):=id rfl
theorem Ks:iD .neq k a b=some (.bool (a != b)):=id rfl
theorem LQ:iD .lss k a b=some (.bool (a < b)):=id rfl
theorem Lc:iD .leq k a b=some (.bool (a≤b)):=id rfl
theorem LU:iD .gtr k a b=some (.bool (a > b)):=id rfl
theorem LC:iD .geq k a b=some (.bool (a≥b)):=id rfl
theorem OZ:iD .or k a b=some (.int k (k.wrap (BitVec.ofInt k.bits a ||| BitVec.ofInt k.bits b).toNat)):=id rfl
theorem Kw:iD .and k a b=some (.int k (k.wrap (BitVec.ofInt k.bits a &&& BitVec.ofInt k.bits b).toNat)):=id rfl
theorem Db:iD .andNot k a b=some (.int k (k.wrap (BitVec.ofInt k.bits a &&& ~~~(BitVec.ofInt k.bits b)).toNat)):=id rfl
end
theorem Oz:fh 0 (.emp 1)=some true:=id rfl
theorem P7:fh 0 (.emp 2)=some false:=id rfl
theorem Lo:fh 0 .dS=some false:=id rfl
theorem Qg (a b n c:Nat):fh 0 (.sl a b (n+1) c)=some false:=id rfl
theorem Kx (e:List V) (l:List (List V)):fh 0 (.aE (e :: l))=some false:=id rfl
theorem J7 (a b c:Nat):fh 1 (.ptr a b c)=some false:=id rfl
theorem Ig (e:List V) (j:Nat):fh 1 (.aJ e j)=some false:=id rfl
theorem Pb (a:Nat):fh 2 (.mp a)=some false:=id rfl
theorem P4 (f:FuncId) (a b:List V):fh 3 (.fn f a b)=some false:=id rfl
theorem Og:fh 1 (.val (.pointer none))=some true:=id rfl
theorem Qh:fh 2 (.val (.map none))=some true:=id rfl
theorem Pk:fh 3 (.val .nilFunc)=some true:=id rfl
abbrev Wq:Prop:=V0 (And.intro @Pu <| And.intro @Ph <| And.intro @O5 <| And.intro @Tn <| And.intro @Hl <| And.intro @G8 <| And.intro @HY <| And.intro @Kg <| And.intro @K1 <| And.intro @QO <| And.intro @OX <| And.intro @LI <| And.intro @KQ <| And.intro @KF <| And.intro @Ld <| And.intro @Lk <| And.intro @Km <| And.intro @Ks <| And.intro @LQ <| And.intro @Lc <| And.intro @LU <| And.intro @LC <| And.intro @OZ <| And.intro @Kw <| And.intro @Db <| And.intro @Oz <| And.intro @P7 <| And.intro @Lo <| And.intro @Qg <| And.intro @Kx <| And.intro @J7 <| And.intro @Ig <| And.intro @Pb <| And.intro @P4 <| And.intro @Og <| And.intro @Qh <| And.intro @Pk <| And.intro @eq_self.{1} <| And.intro @ne_eq.{1} <| And.intro @implies_true.{1} <| And.intro @implies_true.{0} <| And.intro @decide_true <| And.intro @decide_false <| And.intro @Lj <| And.intro @AK <| And.intro @w7 <| And.intro @Jm <| And.intro @Hd <| And.intro @II <| And.intro @LG <| And.intro @PS <| And.intro @Qw <| And.intro @NQ <| And.intro @KD <| And.intro @Kq <| And.intro @Ln <| And.intro @F1 <| And.intro @AJ <| And.intro @Gc <| And.intro @Av <| And.intro @Ge <| And.intro @Ly <| And.intro @Fe <| And.intro @Lb <| And.intro @G7 <| And.intro @Pq <| And.intro @Gm <| And.intro @Kr <| And.intro @CK <| And.intro @IE <| And.intro @Jb <| And.intro @PI <| And.intro @Hx <| And.intro @Qy <| And.intro @Gh <| And.intro @Lr <| And.intro @KG <| And.intro @Li <| And.intro @PU <| And.intro @true_or <| And.intro @or_true <| And.intro @or_false <| And.intro @false_or <|
 And.intro @VX <| And.intro @KJ <| And.intro @Lm <| And.intro @Ku <|
 And.intro @LW <| And.intro @O3 <| And.intro @K0 <| And.intro @Il <|
 And.intro @NP <| And.intro @N4 <| And.intro @Kv <| And.intro @Ky <|
 And.intro @Lz <| And.intro @Kj <| And.intro @IA <| And.intro @Hf <|
 And.intro @Gq <| And.intro @Kz <| And.intro @List.getD_cons_zero.{0} <| And.intro @List.getD_cons_succ.{0} <|
 And.intro @List.length_cons.{0} <| And.intro @List.length_nil.{0} <| And.intro @List.length_map.{0,0} <| And.intro @wrap64 <|
 And.intro @true_and <| And.intro @and_true <| And.intro @and_self <| And.intro @Xr <|
 And.intro @YO <| And.intro @List.all_cons.{0} <| And.intro @List.all_nil.{0} <| And.intro @Bool.and_self <|
 And.intro @List.nil_append.{0} <| And.intro @List.cons_append.{0} <| And.intro @Yi <| And.intro @Gl <|
 And.intro @Xy <| And.intro @O4 <| And.intro @EY <| And.intro @bne_iff_ne.{0} <|
 And.intro @beq_iff_eq.{0} <| And.intro @Bool.not_eq_true <| And.intro @Zi <| And.intro @Bool.not_false <|
 And.intro @List.append_nil.{0} <| And.intro @List.map_cons.{0,0} <| And.intro @List.map_nil.{0,0} <| And.intro @Bool.true_eq_false <|
 And.intro @Xz <| And.intro @false_implies <| And.intro @true_implies <| And.intro @Bool.not_not <|
 And.intro @List.drop_zero.{0} <| And.intro @Io <| And.intro @List.set_cons_zero.{0} <| And.intro @List.set_cons_succ.{0} <|
 And.intro @List.drop_nil.{0} <| And.intro @Y2 <| And.intro @List.replicate_zero.{0} <| And.intro @List.replicate_succ.{0} <|
 And.intro @Bh <| And.intro @vu <| And.intro @zH <| And.intro @xJ <|
 And.intro @List.isEmpty_cons.{0} <| And.intro @Option.map_none.{0,0} <| And.intro @Option.map_some.{0,0} <| And.intro @Nat.succ_ne_zero <|
 And.intro @List.take_succ_cons.{0} <| And.intro @List.take_zero.{0} <| And.intro @List.drop_succ_cons.{0} <| And.intro @bne_eq_false_iff_eq.{0} <|
 And.intro @beq_eq_false_iff_ne.{0} <| And.intro @not_true_eq_false <| And.intro @not_false_eq_true @Decidable.not_not)
theorem wq:Wq:=⟨@Pu,@Ph,@O5,@Tn,@Hl,@G8,@HY,@Kg,@K1,@QO,@OX,@LI,@KQ,@KF,@Ld,@Lk,@Km,@Ks,@LQ,@Lc,@LU,@LC,@OZ,@Kw,@Db,@Oz,@P7,@Lo,@Qg,@Kx,@J7,@Ig,@Pb,@P4,@Og,@Qh,@Pk,@eq_self,@ne_eq,@implies_true,@implies_true,@decide_true,@decide_false,@Lj,@AK,@w7,@Jm,@Hd,@II,@LG,@PS,@Qw,@NQ,@KD,@Kq,@Ln,@F1,@AJ,@Gc,@Av,@Ge,@Ly,@Fe,@Lb,@G7,@Pq,@Gm,@Kr,@CK,@IE,@Jb,@PI,@Hx,@Qy,@Gh,@Lr,@KG,@Li,@PU,@true_or,@or_true,@or_false,@false_or,@VX,@KJ,@Lm,@Ku,@LW,@O3,@K0,@Il,@NP,@N4,@Kv,@Ky,@Lz,@Kj,@IA,@Hf,@Gq,@Kz,@Yk,@Y0,@Xt,@XN,@Xj,@wrap64,@true_and,@and_true,@and_self,@Xr,@YO,@Yv,@List.all_nil,@Bool.and_self,@Yq,@XQ,@Yi,@Gl,@Xy,@O4,@EY,@Zk,@Yo,@Bool.not_eq_true,@Zi,@Bool.not_false,@Yz,@XF,@YK,@Bool.true_eq_false,@Xz,@false_implies,@true_implies,@Bool.not_not,@Yt,@Io,@List.set_cons_zero,@List.set_cons_succ,@List.drop_nil,@Y2,@List.replicate_zero,@List.replicate_succ,@Bh,@vu,@zH,@xJ,@List.isEmpty_cons,@Option.map_none,@Xk,@Nat.succ_ne_zero,@YZ,@List.take_zero,@List.drop_succ_cons,@bne_eq_false_iff_eq,@beq_eq_false_iff_ne,@not_true_eq_false,@not_false_eq_true,@Decidable.not_not⟩
inductive BE:V→Prop
 | val (v:Value):BE (.val v)
 | bp (cs:List V):(∀ i,i < cs.length→∃ v,cs.getD i .any=.val v)→BE (.bp cs)
theorem RP {Z d:Nat→Prop} {μ μ':Mu} {hp b:Array Obj} {t:V} {x:Value} (e:BE t) (h:az Z μ hp t x):az d μ' b t x:=by
 cases e with
 | val=>cases h with | val _ a=>exact .val _ a
 | bp cs f =>
  cases h with
  | bp _ c h1 g =>
   refine .bp _ _ h1 fun i hi=>?_
   have:=g i hi
   obtain ⟨v,a⟩:=f i hi
   rw[a] at this ⊢
   generalize c.getD i undef=y at this ⊢
   cases this with | val _ a=>exact .val _ a
theorem bS.borrow {P:Program} {f:FuncId} {d vs:List V} {t:V} {h:aC} (p:aA P f d t) (q:BE t) (hl:d.length=vs.length)
  (j:∀ i,i < vs.length→Fr h (vs.getD i .any) (d.getD i .any)):bS P f vs h t h:=by
 refine ⟨Xo _,fun Z μ F w xs c hr k=>?_⟩
 have l:gA (fun b=>Z b∨jG μ b) μ w.heap d xs:=⟨by rw[hl,c.1],fun i hi=>CT hr (j i (by omega)) (c.2 i (by omega))⟩
 have m:∀ b,(Z b∨jG μ b)→b < w.heap.size:=by
  rintro b (a | ⟨id,o,s,a⟩)
  ·exact hr.cQ b a
  ·exact hr.lt _ _ _ _ a
 refine (p _ μ w xs l m).mono ?_
 rintro e w' ⟨x,v,rfl,r,hs,y,u,g⟩
 have hm:ix Z Z μ μ w.heap w'.heap:=⟨fun _ h=>h,fun b a=>g b (hr.cQ b a) (fun x=>x),fun _ _ h=>h,g.rv⟩
 exact ⟨x,Z,μ,rfl,RP q (r μ),⟨fun id=>(hr.obj id).mono hm rfl (fun b o s n=>g b (hr.lt _ _ _ _ n) (fun x=>x)),hr.inj,fun id b o s n=>XM (hr.lt _ _ _ _ n) hs.size,fun b a=>XM (hr.cQ b a) hs.size,hr.ie⟩,
  ⟨hs,hm,fun b a _=>g b a (fun x=>x),fun b a=>.inl a,fun _ _ _ _ h=>.inl h⟩,fun _ _=>rfl⟩
def eO (H:View) (v t:V):Prop:=∀ h:aC,h.view=H→Fr h v t
theorem eO.tree {H:View} {v:V} (h:Tree v):eO H v v:=fun _ _=>.tree _ h
theorem eO.sl {H:View} {id off len esz z:Nat} {es:List (List V)} (hH:H id=.arr z es) (hle:off+len≤es.length) (c:∀ e∈es,∀ v∈e,Tree v) :
  eO H (.sl id off len esz) (.aE ((es.drop off).take len)):=by
 rintro h rfl
 have b:∀ i,i < len→((es.drop off).take len).getD i []=es.getD (off+i) []:=fun i hi=>by
  simp[Xb,YN,hi]
 refine .sl id off len esz z es _ hH hle (by simp; omega) (fun i hi=>by rw[b i hi]) (fun i j hi a=>?_)
 rw[b i hi] at a ⊢
 refine .tree _ ?_
 have h1:off+i < es.length:=by omega
 have d:es.getD (off+i) []=es[off+i]:=by simp[Xb,h1]
 rw[d] at a ⊢
 have f:(es[off+i]).getD j .any=(es[off+i])[j]:=by simp[Xb,a]
 rw[f]
 exact c _ (Xm _) _ (Xm _)
theorem ay.borrow {P:Program} {q:Bool} {f:FuncId} {H:View} {vs c:List V} {K:V→View→Prop} {v:cD (H,K)} {t:V} (d:aA P f c t) (a:dJ P f=true) (g:BE t) (hl:c.length=vs.length)
  (b:∀ i,i < vs.length→eO H (vs.getD i .any) (c.getD i .any)) (hk:K t H):ay P q f vs H K v:=by
 unfold ay
 cases q with
 | true=>exact ⟨a,fun h e=>⟨t,h,bS.borrow d g hl (fun i hi=>b i hi h e),fun _ _=>rfl,e ▸ hk⟩⟩
 | false =>
  refine ⟨a,?_⟩
  rintro h rfl
  exact ⟨t,h,bS.borrow d g hl (fun i hi=>b i hi h rfl),.refl _,hk⟩
abbrev gi (x:Int):V:=.val (.int .i64 x)
abbrev gb (x:Bool):V:=.val (.bool x)
abbrev gs (x:ByteArray):V:=.val (.string x)
theorem mixed:(Tryz.prog).follows .mixedOrders=true:=by kernel_rfl
def encI (l:List Int):V:=.aE (l.map fun x=>[gi x])
def bO (l:List Bool):V:=.aE (l.map fun x=>[gb x])
theorem gp (l:List Int):Tree (encI l):=by
 refine .aE _ fun i j hi a=>?_
 simp only[Xj] at hi
 simp[Xb,hi] at a ⊢
 subst a
 exact .val _
def aL {α:Type} (l:List α):Prop:=l.length < 4611686018427387904
def ph:SC :=
 ae [ae [ab [aa 11 5,aa 12 0,aN 13 12,aV 14 .lss 11 13],bY 14 (.exit 0)],.block 1 (ae [ab [aa 17 0,aa 18 5,aQ 19 1 17 18,aj 20 19,aa 21 1,aa 22 5,aQ 23 1 21 22,aj 24 23,aV 25 .neq 20 24],bf 25 (ae [ab [bu 4 false],.ret])]),ab [aa 15 5,aH 16 .add 15 1,aa 5 16]]
def rL:SF:=⟨ae [ab [bu 4 false],ae [ab [aa 6 0,aN 7 6,aa 8 1,aN 9 8,aV 10 .neq 7 9],bf 10 (ae [ab [bu 4 false],.ret])],ae [ab [aS 5 0],b6 0 ph],ab [bu 4 true],.ret],
 [.tmp 4],26⟩
theorem vW:aR Tryz.prog 37 []=some rL:=by kernel_rfl
theorem TU {α:Type} [BEq α] [LawfulBEq α] {a b:List α} (h:a.length≠b.length):(a == b)=false:=by
 simp only[beq_eq_false_iff_ne]; intro e; exact h (by rw[e])
theorem Ud (a b:List Int) (j:aL a) (H:View):aw Tryz.prog 37 [encI a,encI b] H fun r H'=>r=gb (a == b)∧H'=H:=by
 refine aw.of mixed vW ?_
 unfold aL at j
 simp (disch:=omega)only[↓wr,seval,wq,rL,encI]
 apply ah.ne<;>intro h
 ·simp (disch:=omega)only[↓wr,seval,wq]
  rw[TU (by omega)]
 ·simp (disch:=omega)only[↓wr,seval,wq]
  refine aU.intro (fun k T H'=>∃ i:Nat,i+k=a.length∧a.take i=b.take i∧T 0=encI a∧T 1=encI b∧T 5=gi i∧H'=H) a.length ?_ ?_
  ·exact ⟨0,by omega,by simp,rfl,rfl,rfl,rfl⟩
  ·rintro k T H' ⟨i,hk,hi,c,h1,d,rfl⟩
   simp (disch:=omega)only[↓wr,seval,wq,ph,c,h1,d,encI]
   apply ah.dec<;>intro l
   ·have f:a[i]?=some (a[i]'(by omega)):=Xc (by omega)
    have g:b[i]?=some (b[i]'(by omega)):=Xc (by omega)
    simp (disch:=omega)only[↓wr,seval,wq,c,h1,d,encI,Xf,f,g,Xk]
    apply ah.ne<;>intro hd
    ·simp (disch:=omega)only[↓wr,seval,wq]
     have:(a == b)=false:=by
      simp only[beq_eq_false_iff_ne]; rintro rfl; exact hd rfl
     rw[this]
    ·simp (disch:=omega)only[↓wr,seval,wq,c,h1,d,encI]
     refine ⟨k - 1,by omega,i+1,by omega,?_,rfl⟩
     rw[XH,XH,hi,f,g,hd]
   ·simp (disch:=omega)only[↓wr,seval,wq,c,h1,d,encI]
    have:a=b:=by
     have e:i=a.length:=by omega
     rw[Xv (by omega),Xv (by omega)] at hi
     exact hi
    rw[this]; simp
theorem TS (a b:List Int) (c:aL a):aA Tryz.prog 37 [encI a,encI b] (gb (a == b)) :=
 aA.of (by simp[gp]) ((Ud a b c _).mono fun r H' h d _=>by rw[h.1]; exact .tree _ (.val _))
theorem j7 (l:List Bool):Tree (bO l):=by
 refine .aE _ fun i j hi a=>?_
 simp only[Xj] at hi
 simp[Xb,hi] at a ⊢
 subst a
 exact .val _
end Gv
