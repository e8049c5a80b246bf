/-
  Part 5 of the proof: what the machine does and what the functions answer.
  Conditions: those that each lemma names.
-/
import Derived.Test.YtihmlbdfcmfbdaaGreatProg
import Derived.KernelRfl
import Derived.Test.YtihmlbdfcmfbdaaGreatSGzB1D
set_option linter.unusedSimpArgs false
set_option linter.unusedVariables false
set_option maxRecDepth 100000
namespace Gv
open Go Go.Proofs
section
variable {P:Program} {n:Nat} {all:List Oper}
theorem Ms (h:aE):h.view h.length=.dead:=by simp[aE.view,Q6]
theorem PQ {o:Oper} {T:Env} {h:aE} {s:SI} {K:V→View→Prop} (hg:cZ n all T o=some true) (hc:∀ v eff rd,sI P s T h.view h.length=some (v,eff,rd)→bV P o T h.view h.length=some (v,eff,rd)) (hw:wI P s T h.view K) :
  ∃ v h' rd wr,di P n all o T h v h' rd wr false∧iB h h'∧K v h'.view∧jW (rj P s) rd wr false h.length h'.length:=by
 obtain ⟨v,eff,rd,hs,hk⟩:=P2 hw (Ms h)
 have ha:=hc _ _ _ hs
 have hlive:∀ id,id∈eff.wr→h.view id≠.dead:=fun id hid=>(lp ha id hid).1
 refine ⟨v,eff.apply h,rd,eff.wr,.op hg ha,?_,?_,?_,?_⟩
 ·intro id hid hd
  rw[kq hlive]
  cases eff with
  | none=>exact hd
  | new o=>simp only[bf.view,View.set]; rw[Q9 (by omega)]; exact hd
  | ep k o =>
   simp only[bf.view,View.set]
   rw[Q9 (by rintro rfl; exact hlive id (by simp[bf.wr]) hd)]; exact hd
  | bN k o =>
   simp only[bf.view,View.set]
   rw[Q9 (by omega)]
   split
   ·rfl
   ·exact hd
 ·rw[kq (fun id hid=>(lp ha id hid).1)]; exact hk
 ·intro h0
  obtain ⟨rfl,rfl⟩:=(pU hs).1 h0
  exact ⟨rfl,rfl,rfl,rfl⟩
 ·intro h1
  rcases Rw (rj P s) 1 with h2 | h2
  ·obtain ⟨rfl,rfl⟩:=(pU hs).1 (by omega); rfl
  ·exact (pU hs).2 (by omega)
theorem G3 {P:Program} {fr:Bool} {s:SI} {T:Env} {H:View} {n:Nat} {v:V} {eff:bf} {rd:List Nat} (h:sI P (wJ P fr s) T H n=some (v,eff,rd)):sI P s T H n=some (v,eff,rd):=by
 unfold wJ at h
 split at h
 ·split at h
  ·exact MG h
  ·exact h
 ·split at h
  ·rename_i hc
   simp only[Rg] at hc
   exact Oh hc.2 h
  ·exact h
 ·exact h
theorem xO (P:Program) (fz:Fz) (o:Oper) :
  (∃ f args ats,o.op=.call { callee:=.value f,args:=args,argTypes:=ats }∧(lf P fz o=.call (SX.of f) (args.toList.map SX.of)∨lf P fz o=.w5 (SX.of f) (args.toList.map SX.of))) ∨
  (∃ t x,o.op=.box t x∧lf P fz o=.op (.iK (SX.of x)))∨(∃ s d x,o.op=.convert s d x∧sS P s d=true∧lf P fz o=.op (.fv (SX.of x)))∨lf P fz o=.op (wJ P fz.fr (comp P o)):=by
 unfold lf
 split
 ·rename_i f args ats ho
  refine .inl ⟨f,args,ats,ho,?_⟩
  by_cases hq:(match o.dst with | some d=>fz.l.contains (200000+d) | none=>false)=true
  ·exact .inr (Ra hq)
  ·exact .inl (Q9 hq)
 ·rename_i t x ho
  by_cases hd:(match o.dst with | some d=>fz.l.contains d | none=>false)=true
  ·exact .inr (.inl ⟨t,x,ho,Ra hd⟩)
  ·refine .inr (.inr (.inr ?_))
   refine (Q9 hd).trans ?_
   simp only[comp,ho,wJ]
 ·rename_i s d x ho
  by_cases hd:((match o.dst with | some d=>fz.l.contains d | none=>false) && sS P s d)=true
  ·exact .inr (.inr (.inl ⟨s,d,x,ho,by simp only[Rg] at hd; exact hd.2,Ra hd⟩))
  ·exact .inr (.inr (.inr (Q9 hd)))
 ·exact .inr (.inr (.inr rfl))
theorem di.len {o:Oper} {T:Env} {h h':aE} {v:V} {rd wr:List Nat} {call:Bool} (st:di P n all o T h v h' rd wr call):h.length≤h'.length:=by
 cases st with
 | skip=>exact Ri _
 | op _ _=>rename_i eff _ _ ; cases eff <;> simp[bf.apply]
 | iK _ _ _=>exact Ri _
 | fv _ _ _ _ _ _=>exact Ri _
 | call _ _ _ _ ha _ _=>exact ha.1
theorem OF {fz:Fz} {o:Oper} {T:Env} {h:aE} {quiet:Bool} {K:V→View→Prop} (hg:cZ n all T o=some true) (hw:wB P quiet (lf P fz o) T h.view K) :
  ∃ v h' rd wr call,di P n all o T h v h' rd wr call∧iB h h'∧K v h'.view∧jW (iq P quiet (lf P fz o)) rd wr call h.length h'.length:=by
 rcases xO P fz o with ⟨f,args,ats,ho,hc | hc⟩ | ⟨t,x,ho,hc⟩ | ⟨s,d,x,ho,hcv,hc⟩ | hc
 rotate_left
 ·rw[hc] at hw ⊢
  simp only[wB] at hw
  split at hw
  ·rename_i g first cap hf
   rw[zV] at hw
   rw[SX.cd] at hf
   obtain ⟨hok,hq'⟩:=hw
   obtain ⟨r,h',hr,hold,hk⟩:=hq' h rfl
   refine ⟨r,h',[],[],true,.call hg ho hf hok hr (fun id hid _=>hold id hid) (fun id hid=>by simp at hid),fun id hid hd=>(hold id hid).trans hd,hk,?_,?_⟩
   ·intro h0; simp[iq] at h0
   ·intro _; rfl
  ·exact hw.elim
 rotate_right
 ·rw[hc] at hw ⊢
  simp only[wB] at hw
  split at hw
  ·rename_i g first cap hf
   rw[zV] at hw
   rw[SX.cd] at hf
   split at hw
   ·rename_i hq
    obtain ⟨hok,hq'⟩:=hw
    obtain ⟨r,h',hr,hold,hk⟩:=hq' h rfl
    refine ⟨r,h',[],[],true,.call hg ho hf hok hr (fun id hid _=>hold id hid) (fun id hid=>by simp at hid),fun id hid hd=>(hold id hid).trans hd,hk,?_,?_⟩
    ·intro h0; simp[iq,hq] at h0
    ·intro _; rfl
   ·rename_i hq
    obtain ⟨hok,hq'⟩:=hw
    obtain ⟨r,h',hr,hst,hk⟩:=hq' h rfl
    refine ⟨r,h',[],List.range h.length,true,.call hg ho hf hok hr (fun id hid hn=>?_) (fun id hid=>by simpa using hid),hst,hk,NS (by simp[iq,hq])⟩
    exact absurd (by simpa using hid) hn
  ·exact hw.elim
 ·rw[hc] at hw ⊢
  simp only[wB,wI,SX.cd] at hw
  exact ⟨_,h,[],[],false,.iK hg ho hw.1,.refl _,hw.2,fun _=>⟨rfl,rfl,rfl,rfl⟩,fun _=>rfl⟩
 ·rw[hc] at hw ⊢
  simp only[wB,wI,SX.cd] at hw
  obtain ⟨e,h1,h2,h3⟩:=xG hcv
  split at hw
  ·rename_i st hx
   exact ⟨_,h,[],[],false,.fv hg ho h1 h2 h3 hx,.refl _,hw,fun _=>⟨rfl,rfl,rfl,rfl⟩,fun _=>rfl⟩
  ·exact hw.elim
 ·rw[hc] at hw ⊢
  obtain ⟨v,h',rd,wr,h1,h0,h2,h3⟩:=PQ (s:=wJ P fz.fr (comp P o)) hg (fun v eff rd hs=>Ht (G3 hs)) hw
  exact ⟨v,h',rd,wr,false,h1,h0,h2,h3⟩
def fo (P:Program) (quiet:Bool) (l:List SO) (recs:List Rec):Prop :=
 l.length=recs.length∧∀ (i:Nat) (s:SO) (r:Rec),l[i]?=some s→recs[i]?=some r→jW (iq P quiet s.b) r.rd r.wr r.call r.lo r.hi
theorem fo.nil {quiet:Bool} : fo P quiet [] []:=⟨rfl,fun i s r h=>by simp at h⟩
theorem fo.cons {quiet:Bool} {l:List SO} {recs:List Rec} {s:SO} {r:Rec} (h:fo P quiet l recs) (hr:jW (iq P quiet s.b) r.rd r.wr r.call r.lo r.hi):fo P quiet (s :: l) (r :: recs):=by
 refine ⟨by simp[h.1],fun i s' r' hs hr'=>?_⟩
 cases i with
 | zero=>simp at hs hr'; subst hs hr'; exact hr
 | succ i=>exact h.2 i s' r' (by simpa using hs) (by simpa using hr')
theorem fo.append {quiet:Bool} {l l':List SO} {recs recs':List Rec} (h:fo P quiet l recs) (h':fo P quiet l' recs'):fo P quiet (l ++ l') (recs ++ recs'):=by
 refine ⟨by simp[h.1,h'.1],fun i s r hs hr=>?_⟩
 by_cases hi:i < l.length
 ·rw[Rt hi] at hs
  rw[Rt (h.1 ▸ hi)] at hr
  exact h.2 i s r hs hr
 ·rw[RL (by omega)] at hs
  rw[RL (by have:=h.1; omega)] at hr
  exact h'.2 (i - l.length) s r hs (by rw[h.1]; exact hr)
theorem rG {fz:Fz} {o:Oper} {s:SO} (h:C6 P n all fz o=some s):pG n o=true∧s.dst=o.dst∧s.b=lf P fz o∧sn n all o=some s.guard:=by
 unfold C6 at h
 split at h
 ·rename_i hd
  simp only[Rf] at h
  obtain ⟨g,hg,rfl⟩:=h
  exact ⟨hd,rfl,rfl,hg⟩
 ·simp at h
theorem zo {o:Oper} {T:Env} (h:sn n all o=some none):cZ n all T o=some true:=by
 unfold sn at h
 unfold cZ
 split at h
 ·rename_i hg; rw[hg]
 ·split at h
  ·split at h
   ·simp at h
   ·simp at h
  ·simp at h
theorem km {o:Oper} {T:Env} {d:Nat} {want:Bool} (h:sn n all o=some (some (d,want))) :
  (∀ b,T d=.val (.bool b)→cZ n all T o=some (b == want))∧(T d=.bt []→cZ n all T o=some false):=by
 unfold sn at h
 unfold cZ
 split at h
 ·simp at h
 ·rename_i j w hg
  rw[hg]
  split at h
  ·rename_i d' hd
   split at h
   ·rename_i hlt
    simp at h
    obtain ⟨rfl,rfl⟩:=h
    simp only[hd,hlt,if_true]
    exact ⟨fun b hb=>by rw[hb],fun hb=>by rw[hb]⟩
   ·simp at h
  ·simp at h
theorem kc {fz:Fz} {os:List Oper} (h:dd P n all fz os=some []):os=[]:=by
 cases os with
 | nil=>rfl
 | cons o r =>
  simp only[dd] at h
  split at h <;> simp at h
theorem kP {fz:Fz} {os:List Oper} {s:SO} {l:List SO} (h:dd P n all fz os=some (s :: l)):∃ o r,os=o :: r∧C6 P n all fz o=some s∧dd P n all fz r=some l:=by
 cases os with
 | nil=>simp[dd] at h
 | cons o r =>
  simp only[dd] at h
  split at h
  ·rename_i s' l' h1 h2
   simp at h
   obtain ⟨rfl,rfl⟩:=h
   exact ⟨o,r,rfl,h1,h2⟩
  ·simp at h
theorem pc {fz:Fz} : ∀ {l l':List SO} {os:List Oper},dd P n all fz os=some (l ++ l')→∃ a b,os=a ++ b∧dd P n all fz a=some l∧dd P n all fz b=some l'
 | [],l',os,h=>⟨[],os,rfl,rfl,h⟩
 | s :: l,l',os,h=>by
  obtain ⟨o,r,rfl,h1,h2⟩:=kP h
  obtain ⟨a,b,rfl,h3,h4⟩:=pc h2
  exact ⟨o :: a,b,rfl,by simp[dd,h1,h3],h4⟩
theorem Tr.append {a b:List Oper} {T T1 T2:Env} {h h1 h2:aE} {r1 r2:List Rec} (x:Tr P n all a T h r1 T1 h1) (y:Tr P n all b T1 h1 r2 T2 h2):Tr P n all (a ++ b) T h (r1 ++ r2) T2 h2:=by
 induction x with
 | nil=>exact y
 | cons st hd _ ih=>exact .cons st hd (ih y)
theorem yD {T:Env} {d:Nat} {v:V} (h:T d=v):T.put (some d) v=T:=by
 funext t
 simp only[Env.put]
 split
 ·rename_i e; subst e; exact h.symm
 ·rfl
theorem D1 {fz:Fz} {quiet:Bool} {K:Env→View→Prop} (g:Option (Nat × Bool)):∀ (l:List (Option Nat × SB)) (os:List Oper) (T:Env) (h:aE),
  dd P n all fz os=some (l.map fun (d,b)=>⟨d,g,b⟩)→(∀ d w,g=some (d,w)→T d=.val (.bool w)∧(l.all fun x=>x.1 != some d)=true)→vD P quiet l T h.view K →
  ∃ recs T' h',Tr P n all os T h recs T' h'∧(iB h h'∧h.length≤h'.length)∧K T' h'.view∧fo P quiet (l.map fun (d,b)=>⟨d,g,b⟩) recs
 | [],os,T,h,hc,hg,hw=>by
  have:=kc hc; subst this
  exact ⟨[],T,h,.nil,⟨.refl _,Ri _⟩,hw,.nil⟩
 | (d,b) :: l,os,T,h,hc,hg,hw=>by
  obtain ⟨o,r,rfl,h1,h2⟩:=kP hc
  obtain ⟨hd,hd1,hb1,hg1⟩:=rG h1
  simp only at hd1 hb1 hg1
  have hgv:cZ n all T o=some true:=by
   cases g with
   | none=>exact zo hg1
   | some p =>
    obtain ⟨d',w⟩:=p
    have:=(km (T:=T) hg1).1 w (hg d' w rfl).1
    rw[this]; simp
  simp only[vD] at hw
  rw[hb1] at hw
  obtain ⟨v,h',rd,wr,call,st,hst,hk,hl⟩:=OF hgv hw
  obtain ⟨recs,T',h'',tr,hst',hk',hro⟩:=D1 g l r (T.put d v) h' h2 (fun d' w e=>by
   have:=hg d' w e
   simp only[Sn,Rg,bne_iff_ne,ne_eq] at this
   refine ⟨?_,this.2.2⟩
   rw[← this.1]
   cases d with
   | none=>rfl
   | some t=>simp only[Env.put]; rw[Q9]; intro e; subst e; exact this.2.1 rfl) hk
  rw[hd1] at tr
  have hlen:=st.len
  exact ⟨_,T',h'',.cons st hd tr,⟨hst.trans hst'.1 hlen,RT hlen hst'.2⟩,hk',hro.cons (by rw[hb1]; exact hl)⟩
theorem A4 {fz:Fz} {quiet:Bool} (d:Nat) (w:Bool) (h:aE):∀ (l:List (Option Nat × SB)) (os:List Oper) (T:Env),
  dd P n all fz os=some (l.map fun (d',b)=>⟨d',some (d,w),b⟩)→(T d=.val (.bool !w)∨T d=.bt [])→(l.all fun x=>x.1 != some d)=true →
  ∃ recs,Tr P n all os T h recs (ic l T) h∧fo P quiet (l.map fun (d',b)=>⟨d',some (d,w),b⟩) recs
 | [],os,T,hc,hd,hl=>by
  have:=kc hc; subst this
  exact ⟨[],.nil,.nil⟩
 | (d',b) :: l,os,T,hc,hd,hl=>by
  obtain ⟨o,r,rfl,h1,h2⟩:=kP hc
  obtain ⟨hd0,hd1,hb1,hg1⟩:=rG h1
  simp only at hd1 hb1 hg1
  have hgv:cZ n all T o=some false:=by
   rcases hd with hd | hd
   ·rw[(km (T:=T) hg1).1 _ hd]; cases w <;> rfl
   ·exact (km (T:=T) hg1).2 hd
  simp only[Sn,Rg,bne_iff_ne,ne_eq] at hl
  obtain ⟨recs,tr,hro⟩:=A4 d w h l r (T.put d' (.bt [])) h2 (by
   have:(T.put d' (.bt [])) d=T d:=by
    cases d' with
    | none=>rfl
    | some t=>simp only[Env.put]; rw[Q9]; intro e; subst e; exact hl.1 rfl
   rw[this]; exact hd) hl.2
  rw[hd1] at tr
  refine ⟨_,?_,hro.cons (r:=⟨[],[],false,h.length,h.length⟩) ⟨fun _=>⟨rfl,rfl,rfl,rfl⟩,fun _=>rfl⟩⟩
  have:=Tr.cons (.skip hgv) hd0 tr
  rw[ic,hd1]
  exact this
theorem P5 {fz:Fz} {quiet:Bool} {K:Env→View→Prop} {g:SG} {os:List Oper} {T:Env} {h:aE} (hc:dd P n all fz os=some g.flat) (hok:qO g=true) (hw:wG P quiet g T h.view K) :
  ∃ recs T' h',Tr P n all os T h recs T' h'∧(iB h h'∧h.length≤h'.length)∧K T' h'.view∧fo P quiet g.flat recs:=by
 unfold wG at hw
 unfold SG.flat at hc ⊢
 unfold qO at hok
 split at hw
 ·rename_i hg
  rw[hg] at hc ⊢
  exact D1 none g.ops os T h hc (fun d w e=>by simp at e) hw
 ·rename_i d want hg
  rw[hg] at hc hok ⊢
  simp only at hok
  split at hw
  ·rename_i b hb
   by_cases e:b=want
   ·subst e
    have:=hw.1 rfl
    rw[yD hb] at this
    exact D1 (some (d,b)) g.ops os T h hc (fun d' w e=>by simp at e; obtain ⟨rfl,rfl⟩:=e; exact ⟨hb,hok⟩) this
   ·have e':b = !want:=by cases b <;> cases want <;> simp_all
    have:=hw.2 e'
    subst e'
    rw[yD hb] at this
    obtain ⟨recs,tr,hro⟩:=A4 (quiet:=quiet) d want h g.ops os T hc (.inl hb) hok
    exact ⟨recs,_,h,tr,⟨.refl _,Ri _⟩,this,hro⟩
  ·rename_i hb
   obtain ⟨recs,tr,hro⟩:=A4 (quiet:=quiet) d want h g.ops os T hc (.inr hb) hok
   exact ⟨recs,_,h,tr,⟨.refl _,Ri _⟩,hw,hro⟩
  ·exact hw.elim
theorem vK {fz:Fz} {quiet:Bool} {K:Env→View→Prop} : ∀ (gs:List SG) (os:List Oper) (T:Env) (h:aE),dd P n all fz os=some (jL gs)→gs.all qO=true→uG P quiet gs T h.view K →
  ∃ recs T' h',Tr P n all os T h recs T' h'∧(iB h h'∧h.length≤h'.length)∧K T' h'.view∧fo P quiet (jL gs) recs
 | [],os,T,h,hc,_,hw=>by
  have:=kc hc; subst this
  exact ⟨[],T,h,.nil,⟨.refl _,Ri _⟩,hw,.nil⟩
 | g :: gs,os,T,h,hc,hok,hw=>by
  simp only[jL,RE,List.flatten_cons] at hc ⊢
  simp only[Sn,Rg] at hok
  obtain ⟨a,b,rfl,h1,h2⟩:=pc hc
  obtain ⟨r1,T1,h1',tr1,st1,hk1,ro1⟩:=P5 h1 hok.1 hw
  obtain ⟨r2,T2,h2',tr2,st2,hk2,ro2⟩:=vK gs b T1 h1' h2 hok.2 hk1
  exact ⟨_,T2,h2',tr1.append tr2,⟨st1.1.trans st2.1 st1.2,RT st1.2 st2.2⟩,hk2,ro1.append ro2⟩
theorem Tr.at_ {os:List Oper} {T T':Env} {h h':aE} {recs:List Rec} (tr:Tr P n all os T h recs T' h'):∀ (i:Nat) (o:Oper),os[i]?=some o →
  ∃ T1 h1 v h2 rd wr call recs2,recs[i]?=some ⟨rd,wr,call,h1.length,h2.length⟩∧di P n all o T1 h1 v h2 rd wr call∧h.length≤h1.length∧Tr P n all (os.drop (i+1)) (T1.put o.dst v) h2 recs2 T' h'∧(∀ m,recs2[m]?=recs[i+1+m]?) ∧
   (∀ t,(∀ o'∈os.take i,o'.dst≠some t)→T1 t=T t):=by
 induction tr with
 | nil=>intro i o hi; simp at hi
 | @cons o0 rest T T' h h1 h' v rd wr call recs st hd tr ih =>
  intro i o hi
  cases i with
  | zero =>
   simp at hi; subst hi
   exact ⟨T,h,v,h1,rd,wr,call,recs,rfl,st,Ri _,by simpa using tr,fun m=>by rw[show 0+1+m=m+1 by omega,RS],fun t _=>rfl⟩
  | succ i =>
   simp at hi
   obtain ⟨T1,h2,v2,h3,rd2,Pw,call2,recs2,e1,e2,e3,e4,e5,e6⟩:=ih i o hi
   have hlen:h.length≤h1.length:=by
    cases st with
    | skip=>exact Ri _
    | op _ _=>rename_i eff _ _; cases eff <;> simp[bf.apply]
    | iK _ _ _=>exact Ri _
    | fv _ _ _ _ _ _=>exact Ri _
    | call _ _ _ _ ha _ _=>exact ha.1
   refine ⟨T1,h2,v2,h3,rd2,Pw,call2,recs2,by simpa using e1,e2,RT hlen e3,by simpa using e4,fun m=>?_,fun t ht=>?_⟩
   ·rw[e5,show i+1+1+m=(i+1+m)+1 by omega,RS]
   ·simp only[List.take_succ_cons,Rm] at ht
    rw[e6 t fun o' ho'=>ht o' (.inr ho')]
    have:=ht o0 (.inl rfl)
    cases hdst:o0.dst with
    | none=>rfl
    | some d=>simp only[Env.put]; rw[Q9]; rintro rfl; exact this hdst
theorem Jd {o:Oper} {T:Env} {h h':aE} {v:V} {rd wr:List Nat} {call:Bool} (st:di P n all o T h v h' rd wr call) (ha:yq o=true) (hg:o.guard=none):v=.ptr h.length 0 0:=by
 unfold yq at ha
 have hgv:cZ n all T o=some true:=by unfold cZ; rw[hg]
 cases st with
 | skip hs=>rw[hgv] at hs; simp at hs
 | op _ hop =>
  split at ha
  ·rename_i e ho
   simp only[bV,ho] at hop
   split at hop
   ·unfold kE at hop
    split at hop
    ·simp at hop; exact hop.1.symm
    ·simp at hop
   ·simp at hop
  ·simp at ha
 | iK _ ho _=>rw[ho] at ha; simp at ha
 | fv _ ho _ _ _ _=>rw[ho] at ha; simp at ha
 | call _ ho _ _ _ _ _=>rw[ho] at ha; simp at ha
theorem Iz {o:Oper} {T:Env} {h h':aE} {v:V} {rd wr:List Nat} {call:Bool} {t id i j:Nat} (st:di P n all o T h v h' rd wr call) (ha:jR o=some t) (ht:T t=.ptr id i j):wr=[id]∧call=false:=by
 unfold jR at ha
 split at ha
 ·rename_i ty t' x ho hg
  simp at ha; subst ha
  have hgv:cZ n all T o=some true:=by unfold cZ; rw[hg]
  cases st with
  | skip hs=>rw[hgv] at hs; simp at hs
  | op _ hop =>
   have e1:ev T (.tmp t')=.ptr id i j:=ht
   simp only[bV,ho,e1,oR] at hop
   split at hop
   ·split at hop
    ·simp only[Q8,Rb] at hop
     obtain ⟨_,he,_⟩:=hop
     rw[← he]; exact ⟨rfl,rfl⟩
    ·simp at hop
   ·simp at hop
  | iK _ ho' _=>rw[ho] at ho'; simp at ho'
  | fv _ ho' _ _ _ _=>rw[ho] at ho'; simp at ho'
  | call _ ho' _ _ _ _ _=>rw[ho] at ho'; simp at ho'
 ·simp at ha
theorem Kg {o:Oper} {T:Env} {h h':aE} {v:V} {rd wr:List Nat} {call:Bool} (st:di P n all o T h v h' rd wr call) (ha:Ba o=true):wr=[]∧call=false∧∀ id,id∈rd→id < h.length:=by
 unfold Ba at ha
 cases st with
 | skip _=>exact ⟨rfl,rfl,fun id hid=>by simp at hid⟩
 | op _ hop =>
  split at ha
  ·rename_i e a ho
   simp only[bV,ho,kW] at hop
   split at hop
   ·rename_i id i j hx
    split at hop
    ·rename_i z es hH
     split at hop
     ·simp only[Rf] at hop
      obtain ⟨_,_,hop⟩:=hop
      simp at hop
      obtain ⟨_,rfl,rfl⟩:=hop
      refine ⟨rfl,rfl,fun id' hid=>?_⟩
      simp at hid; subst hid
      exact gJ (by rw[hH]; simp)
     ·simp at hop
    ·simp at hop
   ·simp only[Rf] at hop
    obtain ⟨_,_,hop⟩:=hop
    simp at hop
    obtain ⟨_,rfl,rfl⟩:=hop
    exact ⟨rfl,rfl,fun id hid=>by simp at hid⟩
   ·simp at hop
  ·simp at ha
 | iK _ ho _=>rw[ho] at ha; simp at ha
 | fv _ ho _ _ _ _=>rw[ho] at ha; simp at ha
 | call _ ho _ _ _ _ _=>rw[ho] at ha; simp at ha
theorem tu {T T':Env} {h h':aE} {recs:List Rec} (tr:Tr P n all all T h recs T' h') {i k:Nat} {a b:Rec} (hp:xc all i k=true) (ha:recs[i]?=some a) (hb:recs[k]?=some b):l0 a b:=by
 unfold xc at hp
 split at hp
 ·rename_i oa ob hoa hob
  rw[Rg] at hp
  obtain ⟨hl,hp⟩:=hp
  split at hp
  ·rename_i t hst
   rw[List.any_eq_true] at hp
   obtain ⟨j,hj,hp⟩:=hp
   rw[R3] at hj
   rw[Rg,Rn] at hp
   obtain ⟨hij,hown⟩:=hp
   unfold Pc at hown
   split at hown
   ·rename_i oj hoj
    simp only[Rg,Sd,RD,bne_iff_ne,ne_eq,Option.isNone_iff_eq_none] at hown
    obtain ⟨⟨⟨w1,w2⟩,w3⟩,w4⟩:=hown
    obtain ⟨T1,h1,v1,h2,rd1,P6,c1,recs1,e1,e2,e3,e4,e5,_⟩:=tr.at_ i oa hoa
    obtain ⟨Tj,hj1,vj,hj2,rdj,wrj,cj,recsj,f1,f2,f3,f4,f5,_⟩:=e4.at_ (j - (i+1)) oj (by rw[Tq,show i+1+(j - (i+1))=j by omega]; exact hoj)
    have hdr:(all.drop (i+1)).drop (j - (i+1)+1)=all.drop (j+1):=by rw[List.drop_drop]; congr 1; omega
    rw[hdr] at f4
    obtain ⟨Tk,hk1,vk,hk2,rdk,wrk,ck,recsk,g1,g2,g3,_,_,g6⟩:=f4.at_ (k - (j+1)) ob (by rw[Tq,show j+1+(k - (j+1))=k by omega]; exact hob)
    rw[ha] at e1
    have hae:=(Tv e1)
    have hbe:recs[k]?=some ⟨rdk,wrk,ck,hk1.length,hk2.length⟩:=by
     rw[← g1,f5,e5]; congr 1; omega
    rw[hb] at hbe
    have hbe:=Tv hbe
    have hv:=Jd f2 w3 w2
    have hTk:Tk t=.ptr hj1.length 0 0:=by
     rw[g6 t fun o' ho'=>w4 o' ho',w1,hv]
     simp[Env.put]
    obtain ⟨s1,s2⟩:=Iz g2 hst hTk
    obtain ⟨l1,l2,l3⟩:=Kg e2 hl
    rw[hae,hbe]
    have hlen:h1.length≤h2.length:=by
     cases e2 with
     | skip=>exact Ri _
     | op _ _=>rename_i eff _ _; cases eff <;> simp[bf.apply]
     | iK _ _ _=>exact Ri _
     | fv _ _ _ _ _ _=>exact Ri _
     | call _ _ _ _ ha _ _=>exact ha.1
    refine ⟨fun id hid=>by simp[l1] at hid,fun id hid=>?_,fun hc=>by simp[l2] at hc,fun _=>l1,fun id hid=>?_⟩
    ·simp only[s1,RU] at hid
     subst hid
     intro hr
     have:=l3 _ hr
     omega
    ·simp only[s1,RU] at hid
     subst hid
     simp only
     omega
   ·simp at hown
  ·simp at hp
 ·simp at hp
theorem My {ls:List Nat} {recs:List Rec} {T T':Env} {hp hp':aE} (tr:Tr P n all all T hp recs T' hp') (h:C8 all ls=true) (hl:ls.length=recs.length) (hr:∀ (i x:Nat) (r:Rec),ls[i]?=some x→recs[i]?=some r→jW x r.rd r.wr r.call r.lo r.hi):r9 all recs:=by
 intro i k a b hik ha hb ho
 have hi:i < recs.length:=(Rl.1 ha).1
 have hk:k < recs.length:=(Rl.1 hb).1
 unfold C8 at h
 simp only[RD] at h
 have h1:=h (ls[i]'(by omega),i) (by rw[Sc]; simp[Q7 (show i < ls.length by omega)])
  (ls[k]'(by omega),k) (by rw[Sc]; simp[Q7 (show k < ls.length by omega)])
 have la:=hr i _ a (Q7 (by omega)) ha
 have lb:=hr k _ b (Q7 (by omega)) hb
 simp only[hik,decide_true,Tw,ho,Bool.false_or,Se,Sd,Rg,Rn] at h1
 rcases h1 with ((h1 | h1) | h1) | h1
 ·obtain ⟨e1,e2,e3,e4⟩:=la.1 h1
  exact ⟨fun id hid=>by simp[e2] at hid,fun id _=>by simp[e1],fun hc=>by simp[e3] at hc,fun _=>e2,fun id _ hx=>by omega⟩
 ·obtain ⟨e1,e2,e3,e4⟩:=lb.1 h1
  exact ⟨fun id _=>by simp[e1],fun id hid=>by simp[e2] at hid,fun _=>e2,fun hc=>by simp[e3] at hc,fun id hid=>by simp[e2] at hid⟩
 ·have e1:=la.2 h1.1
  have e2:=lb.2 h1.2
  exact ⟨fun id hid=>by simp[e1] at hid,fun id hid=>by simp[e2] at hid,fun _=>e2,fun _=>e1,fun id hid=>by simp[e2] at hid⟩
 ·exact tu tr h1 ha hb
theorem Tr.keep {os:List Oper} {T T':Env} {h h':aE} {recs:List Rec} (tr:Tr P n all os T h recs T' h') {t:Nat} (ht:∀ o∈os,o.dst≠some t):T' t=T t:=by
 induction tr with
 | nil=>rfl
 | @cons o0 rest T T' h h1 h' v rd wr call recs st hd tr ih =>
  rw[ih fun o ho=>ht o (by simp[ho])]
  have:=ht o0 (by simp)
  cases hdst:o0.dst with
  | none=>rfl
  | some d=>simp only[Env.put]; rw[Q9]; rintro rfl; exact this hdst
theorem tg {o:Oper} {T:Env} {h h':aE} {v:V} {rd wr:List Nat} {call:Bool} {t:Nat} (st:di P n all o T h v h' rd wr call) (ha:pQ o=some t):wr=[]∧call=false∧h'.length=h.length∧∀ id,id∈rd→∃ i j,T t=.ptr id i j:=by
 unfold pQ at ha
 split at ha
 ·rename_i e t' ho
  simp at ha; subst ha
  cases st with
  | skip _=>exact ⟨rfl,rfl,rfl,fun id hid=>by simp at hid⟩
  | op _ hop =>
   simp only[bV,ho,kW] at hop
   split at hop
   ·rename_i id i j hx
    split at hop
    ·split at hop
     ·simp only[Rf] at hop
      obtain ⟨_,_,hop⟩:=hop
      simp at hop
      obtain ⟨_,rfl,rfl⟩:=hop
      refine ⟨rfl,rfl,rfl,fun id' hid=>?_⟩
      simp at hid; subst hid
      exact ⟨i,j,hx⟩
     ·simp at hop
    ·simp at hop
   ·simp only[Rf] at hop
    obtain ⟨_,_,hop⟩:=hop
    simp at hop
    obtain ⟨_,rfl,rfl⟩:=hop
    exact ⟨rfl,rfl,rfl,fun id hid=>by simp at hid⟩
   ·simp at hop
  | iK _ ho' _=>rw[ho] at ho'; simp at ho'
  | fv _ ho' _ _ _ _=>rw[ho] at ho'; simp at ho'
  | call _ ho' _ _ _ _ _=>rw[ho] at ho'; simp at ho'
 ·simp at ha
theorem tY {i t:Nat} (h:stays all i t=true):∀ o∈all.drop i,o.dst≠some t:=by
 intro o ho
 have:=RD.1 h o ho
 simpa using this
theorem xU {aps:List (Nat × Nat)} {T:Env} {K:Prop} (hA:vt aps T K):∀ p∈aps,ig (T p.1) (T p.2):=by
 induction aps with
 | nil=>intro p hp; simp at hp
 | cons q l ih =>
  intro p hp
  rcases Rm.1 hp with rfl | hp
  ·exact hA.1
  ·exact ih hA.2 p hp
theorem vt.rest {aps:List (Nat × Nat)} {T:Env} {K:Prop} (hA:vt aps T K):K:=by
 induction aps with
 | nil=>exact hA
 | cons q l ih=>exact ih hA.2
theorem oz {T T':Env} {h h':aE} {recs:List Rec} (tr:Tr P n all all T h recs T' h') {i t:Nat} {o:Oper} (ho:all[i]?=some o) (hs:stays all i t=true) {r:Rec} (hr:recs[i]?=some r) :
  ∃ T1 h1 v h2,di P n all o T1 h1 v h2 r.rd r.wr r.call∧r.lo=h1.length∧r.hi=h2.length∧T1 t=T' t:=by
 obtain ⟨T1,h1,v,h2,rd,wr,call,recs2,e1,e2,e3,e4,e5,e6⟩:=tr.at_ i o ho
 rw[hr] at e1
 have e1:=Tv e1
 subst e1
 refine ⟨T1,h1,v,h2,e2,rfl,rfl,?_⟩
 have hk:=tY hs
 have hi:i < all.length:=(Rl.1 ho).1
 have ho':all[i]=o:=(Rl.1 ho).2
 rw[RX hi,ho'] at hk
 rw[e4.keep fun o' ho'=>hk o' (by simp[ho'])]
 have:=hk o (by simp)
 cases hdst:o.dst with
 | none=>rfl
 | some d=>simp only[Env.put]; rw[Q9]; rintro rfl; exact this hdst
theorem xe {i a b j c d:Nat} (h:ig (.ptr i a b) (.ptr j c d)):i≠j:=h
theorem Aq {i a b j c d e:Nat} (h:ig (.ptr i a b) (.sl j c d e)):i≠j:=h
theorem pK {o:Oper} {T:Env} {h h':aE} {v:V} {rd wr:List Nat} {call:Bool} {t:Nat} (st:di P n all o T h v h' rd wr call) (ha:nL o=some t) :
  call=false∧∀ id,id∈wr→(∃ i j,T t=.ptr id i j)∨∃ a b c,T t=.sl id a b c:=by
 unfold nL at ha
 split at ha
 ·rename_i t' hs
  simp at ha; subst ha
  unfold jR at hs
  split at hs
  ·rename_i ty t2 x ho hg
   simp at hs; subst hs
   cases st with
   | skip _=>exact ⟨rfl,fun id hid=>by simp at hid⟩
   | op _ hop =>
    simp only[bV,ho,oR] at hop
    split at hop
    ·rename_i id i j hx
     split at hop
     ·split at hop
      ·simp only[Q8,Rb] at hop
       obtain ⟨_,he,_⟩:=hop
       rw[← he]
       refine ⟨rfl,fun id' hid=>?_⟩
       simp[bf.wr] at hid; subst hid
       exact .inl ⟨i,j,hx⟩
      ·simp at hop
     ·simp at hop
    ·simp at hop
   | iK _ ho' _=>rw[ho] at ho'; simp at ho'
   | fv _ ho' _ _ _ _=>rw[ho] at ho'; simp at ho'
   | call _ ho' _ _ _ _ _=>rw[ho] at ho'; simp at ho'
  ·simp at hs
 ·unfold J6 at ha
  split at ha
  ·rename_i args ats ho hg
   split at ha
   ·rename_i t2 y hl
    simp at ha; subst ha
    cases st with
    | skip _=>exact ⟨rfl,fun id hid=>by simp at hid⟩
    | op _ hop =>
     simp only[bV,ho,hl] at hop
     split at hop
     ·unfold lH at hop
      split at hop
      ·split at hop
       ·simp at hop
       ·split at hop
        ·split at hop <;> first | (simp only[Q8,Rb] at hop; obtain ⟨_,he,_⟩:=hop; rw[← he]; exact ⟨rfl,fun id' hid=>by simp[bf.wr] at hid⟩) | simp at hop
        ·split at hop
         ·simp at hop
         ·split at hop
          ·split at hop
           ·simp only[Q8,Rb] at hop
            obtain ⟨_,he,_⟩:=hop
            rw[← he]; exact ⟨rfl,fun id' hid=>by simp[bf.wr] at hid⟩
           ·simp at hop
          ·rename_i id off len esz hx
           split at hop
           ·split at hop
            ·simp only[Q8,Rb] at hop
             obtain ⟨_,he,_⟩:=hop
             rw[← he]
             refine ⟨rfl,fun id' hid=>?_⟩
             simp[bf.wr] at hid; subst hid
             exact .inr ⟨off,len,esz,hx⟩
            ·simp at hop
           ·simp at hop
          ·simp at hop
      ·simp at hop
     ·split at hop
      ·unfold ub at hop
       repeat' (split at hop)
       all_goals first | (simp only[Q8,Rb] at hop; obtain ⟨_,he,_⟩:=hop; rw[← he]; exact ⟨rfl,fun id' hid=>by simp[bf.wr] at hid⟩) | simp at hop
      ·simp at hop
    | iK _ ho' _=>rw[ho] at ho'; simp at ho'
    | fv _ ho' _ _ _ _=>rw[ho] at ho'; simp at ho'
    | call _ ho' _ _ _ _ _=>rw[ho] at ho'; simp at ho'
   ·simp at ha
  ·simp at ha
theorem yA {o:Oper} {T:Env} {h h':aE} {v:V} {rd wr:List Nat} {call:Bool} (st:di P n all o T h v h' rd wr call) (ha:FG o=true):rd=[]∧wr=[]∧call=false:=by
 unfold FG at ha
 cases st with
 | skip _=>exact ⟨rfl,rfl,rfl⟩
 | op _ hop =>
  split at ha
  ·rename_i ty len parts ho
   simp only[bV,ho,gE] at hop
   have key:∀ {x:Option (V × bf × List Nat)} {e:bf},x=some (v,e,rd)→(∀ y,x=some y→y.2.1.wr=[]∧y.2.2=[])→rd=[]∧e.wr=[]:=fun hx hy=>⟨(hy _ hx).2,(hy _ hx).1⟩
   obtain ⟨k1,k2⟩:=key hop (by
    intro y hy
    repeat' (first | (split at hy) | (simp only[Q8] at hy; subst hy; exact ⟨rfl,rfl⟩) | (simp at hy; done)))
   exact ⟨k1,k2,rfl⟩
  ·rename_i e ho
   simp only[bV,ho] at hop
   split at hop
   ·unfold kE at hop
    split at hop
    ·simp only[Q8,Rb] at hop
     obtain ⟨_,he,hr⟩:=hop
     rw[← he,← hr]; exact ⟨rfl,rfl,rfl⟩
    ·simp at hop
   ·simp at hop
  ·simp at ha
 | iK _ ho _=>rw[ho] at ha; simp at ha
 | fv _ ho _ _ _ _=>rw[ho] at ha; simp at ha
 | call _ ho _ _ _ _ _=>rw[ho] at ha; simp at ha
theorem sm {o:Oper} {t:Nat} (h:jR o=some t):nL o=some t:=by unfold nL; rw[h]
theorem JD {T T':Env} {h h':aE} {recs:List Rec} (tr:Tr P n all all T h recs T' h') {i k:Nat} {a b:Rec} {p:Nat × Nat} (hp:zS all i k=some p) (hA:ig (T' p.1) (T' p.2)) (ha:recs[i]?=some a) (hb:recs[k]?=some b):l0 a b:=by
 unfold zS at hp
 split at hp
 ·rename_i oa ob hoa hob
  split at hp
  ·rename_i s t hl hs
   split at hp
   ·rename_i hst
    simp only[Rg] at hst
    simp at hp; subst hp
    obtain ⟨Ta,ha1,va,ha2,sa,la1,la2,ea⟩:=oz tr hoa hst.1 ha
    obtain ⟨Tb,hb1,vb,hb2,sb,_,_,eb⟩:=oz tr hob hst.2 hb
    obtain ⟨l1,l2,l3,l4⟩:=tg sa hl
    have hA:ig (Ta s) (Tb t):=by rw[ea,eb]; exact hA
    refine ⟨fun id hid=>by simp[l1] at hid,fun id hid hr=>?_,fun hc=>by simp[l2] at hc,fun _=>l1,fun id _ hx=>by omega⟩
    obtain ⟨i',j',e1⟩:=l4 id hr
    rw[e1] at hA
    rcases (pK sb (sm hs)).2 id hid with ⟨c,d,hy⟩ | ⟨c,d,e,hy⟩
    ·rw[hy] at hA; exact xe hA rfl
    ·rw[hy] at hA; exact Aq hA rfl
   ·simp at hp
  ·split at hp
   ·rename_i t s hs hl
    split at hp
    ·rename_i hst
     simp only[Rg] at hst
     simp at hp; subst hp
     obtain ⟨Ta,ha1,va,ha2,sa,la1,la2,ea⟩:=oz tr hoa hst.1 ha
     obtain ⟨Tb,hb1,vb,hb2,sb,lb1,lb2,eb⟩:=oz tr hob hst.2 hb
     obtain ⟨l1,l2,l3,l4⟩:=tg sb hl
     have hA:ig (Tb s) (Ta t):=by rw[ea,eb]; exact hA
     refine ⟨fun id hid hr=>?_,fun id hid=>by simp[l1] at hid,fun hc=>l1,fun hc=>by simp[l2] at hc,fun id hid=>by simp[l1] at hid⟩
     obtain ⟨i',j',e1⟩:=l4 id hr
     rw[e1] at hA
     rcases (pK sa (sm hs)).2 id hid with ⟨c,d,hy⟩ | ⟨c,d,e,hy⟩
     ·rw[hy] at hA; exact xe hA rfl
     ·rw[hy] at hA; exact Aq hA rfl
    ·simp at hp
   ·simp at hp
 ·simp at hp
theorem Im {T T':Env} {h h':aE} {recs:List Rec} (tr:Tr P n all all T h recs T' h') {i k:Nat} {a b:Rec} {p:Nat × Nat} (hp:Be all i k=some p) (hA:ig (T' p.1) (T' p.2)) (ha:recs[i]?=some a) (hb:recs[k]?=some b):l0 a b:=by
 unfold Be at hp
 split at hp
 ·rename_i oa ob hoa hob
  split at hp
  ·rename_i s t hl hs
   split at hp
   ·rename_i hst
    simp only[Rg] at hst
    simp at hp; subst hp
    obtain ⟨Ta,ha1,va,ha2,sa,la1,la2,ea⟩:=oz tr hoa hst.1 ha
    obtain ⟨Tb,hb1,vb,hb2,sb,_,_,eb⟩:=oz tr hob hst.2 hb
    obtain ⟨l1,l2,l3,l4⟩:=tg sa hl
    have hA:ig (Ta s) (Tb t):=by rw[ea,eb]; exact hA
    refine ⟨fun id hid=>by simp[l1] at hid,fun id hid hr=>?_,fun hc=>by simp[l2] at hc,fun _=>l1,fun id _ hx=>by omega⟩
    obtain ⟨i',j',e1⟩:=l4 id hr
    rw[e1] at hA
    rcases (pK sb hs).2 id hid with ⟨c,d,hy⟩ | ⟨c,d,e,hy⟩
    ·rw[hy] at hA; exact xe hA rfl
    ·rw[hy] at hA; exact Aq hA rfl
   ·simp at hp
  ·split at hp
   ·rename_i t s hs hl
    split at hp
    ·rename_i hst
     simp only[Rg] at hst
     simp at hp; subst hp
     obtain ⟨Ta,ha1,va,ha2,sa,la1,la2,ea⟩:=oz tr hoa hst.1 ha
     obtain ⟨Tb,hb1,vb,hb2,sb,lb1,lb2,eb⟩:=oz tr hob hst.2 hb
     obtain ⟨l1,l2,l3,l4⟩:=tg sb hl
     have hA:ig (Tb s) (Ta t):=by rw[ea,eb]; exact hA
     refine ⟨fun id hid hr=>?_,fun id hid=>by simp[l1] at hid,fun hc=>l1,fun hc=>by simp[l2] at hc,fun id hid=>by simp[l1] at hid⟩
     obtain ⟨i',j',e1⟩:=l4 id hr
     rw[e1] at hA
     rcases (pK sa hs).2 id hid with ⟨c,d,hy⟩ | ⟨c,d,e,hy⟩
     ·rw[hy] at hA; exact xe hA rfl
     ·rw[hy] at hA; exact Aq hA rfl
    ·simp at hp
   ·simp at hp
 ·simp at hp
theorem LJ {l:List (Nat × Nat)} {aps:List (Nat × Nat)} (h:zu all l=some aps):∀ q∈l,∃ p∈aps,zS all q.1 q.2=some p:=by
 induction l generalizing aps with
 | nil=>intro q hq; simp at hq
 | cons x r ih =>
  obtain ⟨i,k⟩:=x
  simp only[zu] at h
  split at h
  ·rename_i p l' h1 h2
   simp at h; subst h
   intro q hq
   rcases Rm.1 hq with rfl | hq
   ·exact ⟨p,by simp,h1⟩
   ·obtain ⟨p',hp',e⟩:=ih h2 q hq
    exact ⟨p',by simp[hp'],e⟩
  ·simp at h
theorem Ir {l:List (Nat × Nat)} {aps:List (Nat × Nat)} (h:sy all l=some aps):∀ q∈l,∃ ps,(∀ p∈ps,p∈aps)∧xm all q.1 q.2=some ps:=by
 induction l generalizing aps with
 | nil=>intro q hq; simp at hq
 | cons x r ih =>
  obtain ⟨i,k⟩:=x
  simp only[sy] at h
  split at h
  ·rename_i p l' h1 h2
   simp at h; subst h
   intro q hq
   rcases Rm.1 hq with rfl | hq
   ·exact ⟨p,fun x hx=>by simp[hx],h1⟩
   ·obtain ⟨p',hp',e⟩:=ih h2 q hq
    exact ⟨p',fun x hx=>by simp[hp' x hx],e⟩
  ·simp at h
theorem Jx {H:View} {x:V} {xs:List (List V)} {rd:List Nat} (h:bR H x=some (xs,rd)):∀ id,id∈rd→∃ a b c,x=.sl id a b c:=by
 unfold bR at h
 split at h
 ·simp at h; obtain ⟨_,rfl⟩:=h; intro id hid; simp at hid
 ·simp at h; obtain ⟨_,rfl⟩:=h; intro id hid; simp at hid
 ·simp at h; obtain ⟨_,rfl⟩:=h; intro id hid; simp at hid
 ·simp at h; obtain ⟨_,rfl⟩:=h; intro id hid; simp at hid
 ·split at h
  ·split at h
   ·simp at h
    obtain ⟨_,rfl⟩:=h
    intro id hid
    simp at hid; subst hid
    exact ⟨_,_,_,rfl⟩
   ·simp at h
  ·simp at h
 ·simp at h; obtain ⟨_,rfl⟩:=h; intro id hid; simp at hid
 ·simp at h
theorem Fq {o:Oper} {T:Env} {h h':aE} {v:V} {rd wr:List Nat} {call:Bool} {t y d:Nat} (st:di P n all o T h v h' rd wr call) (ha:xi o=some (t,y,d)) :
  call=false∧(∀ id,id∈wr→∃ a b c,T t=.sl id a b c)∧(∀ id,id∈rd→(∃ a b c,T t=.sl id a b c)∨∃ a b c,T y=.sl id a b c)∧(h.length < h'.length→∃ a b c,v=.sl h.length a b c)∧h'.length≤h.length+1∧o.dst=some d:=by
 unfold xi at ha
 split at ha
 ·rename_i args ats d' ho hg hd
  split at ha
  ·rename_i t2 y2 hl
   simp at ha
   obtain ⟨rfl,rfl,rfl⟩:=ha
   cases st with
   | skip _=>exact ⟨rfl,fun id hid=>by simp at hid,fun id hid=>by simp at hid,fun h=>by omega,by omega,hd⟩
   | op _ hop =>
    simp only[bV,ho,hl] at hop
    have nn:∀ {v':V} {eff':bf} {rd':List Nat},some (v',bf.none,([]:List Nat))=some (v,eff',rd')→false=false∧(∀ id,id∈eff'.wr→∃ a b c,T t2=.sl id a b c)∧(∀ id,id∈rd'→(∃ a b c,T t2=.sl id a b c)∨∃ a b c,T y2=.sl id a b c)∧(h.length < (eff'.apply h).length→∃ a b c,v=.sl h.length a b c)∧(eff'.apply h).length≤h.length+1∧o.dst=some d':=by
     intro v' eff' rd' e
     simp only[Q8,Rb] at e
     obtain ⟨_,rfl,rfl⟩:=e
     exact ⟨rfl,fun id hid=>by simp[bf.wr] at hid,fun id hid=>by simp at hid,fun h=>by simp[bf.apply] at h,by simp[bf.apply],hd⟩
    split at hop
    ·unfold lH at hop
     split at hop
     ·rename_i e xs rd' _ hel
      have hrd:=Jx hel
      split at hop
      ·simp at hop
      ·split at hop
       ·split at hop <;> first | exact nn hop | simp at hop
       ·split at hop
        ·simp at hop
        ·split at hop
         ·split at hop
          ·simp only[Q8,Rb] at hop
           obtain ⟨rfl,rfl,rfl⟩:=hop
           exact ⟨rfl,fun id hid=>by simp[bf.wr] at hid,fun id hid=>.inr (hrd id hid),fun _=>⟨_,_,_,rfl⟩,by simp[bf.apply],hd⟩
          ·simp at hop
         ·rename_i id off len esz hx
          split at hop
          ·split at hop
           ·simp only[Q8,Rb] at hop
            obtain ⟨rfl,rfl,rfl⟩:=hop
            refine ⟨rfl,fun id' hid=>?_,fun id' hid=>?_,fun _=>⟨_,_,_,rfl⟩,by simp[bf.apply],hd⟩
            ·simp[bf.wr] at hid; subst hid
             exact ⟨off,len,esz,hx⟩
            ·rcases Rm.1 hid with rfl | hid
             ·exact .inl ⟨off,len,esz,hx⟩
             ·exact .inr (hrd id' hid)
           ·simp at hop
          ·simp at hop
         ·simp at hop
     ·simp at hop
    ·split at hop
     ·unfold ub at hop
      split at hop
      ·split at hop
       ·split at hop
        ·exact nn hop
        ·split at hop
         ·simp only[Q8,Rb] at hop
          obtain ⟨rfl,rfl,rfl⟩:=hop
          exact ⟨rfl,fun id hid=>by simp[bf.wr] at hid,fun id hid=>by simp at hid,fun _=>⟨_,_,_,rfl⟩,by simp[bf.apply],hd⟩
         ·simp at hop
       ·simp at hop
      ·simp at hop
     ·simp at hop
   | iK _ ho' _=>rw[ho] at ho'; simp at ho'
   | fv _ ho' _ _ _ _=>rw[ho] at ho'; simp at ho'
   | call _ ho' _ _ _ _ _=>rw[ho] at ho'; simp at ho'
  ·simp at ha
 ·simp at ha
theorem Kz {T T':Env} {h h':aE} {recs:List Rec} (tr:Tr P n all all T h recs T' h') {i:Nat} {o:Oper} (ho:all[i]?=some o) {r:Rec} (hr:recs[i]?=some r) :
  ∃ T1 h1 v h2,di P n all o T1 h1 v h2 r.rd r.wr r.call∧r.lo=h1.length∧r.hi=h2.length∧(∀ t,stays all i t=true→T1 t=T' t)∧∀ d,o.dst=some d→stays all (i+1) d=true→T' d=v:=by
 obtain ⟨T1,h1,v,h2,rd,wr,call,recs2,e1,e2,e3,e4,e5,e6⟩:=tr.at_ i o ho
 rw[hr] at e1
 have e1:=Tv e1
 subst e1
 refine ⟨T1,h1,v,h2,e2,rfl,rfl,fun t hs=>?_,fun d hd hs=>?_⟩
 ·have hk:=tY hs
  have hi:i < all.length:=(Rl.1 ho).1
  have ho':all[i]=o:=(Rl.1 ho).2
  rw[RX hi,ho'] at hk
  rw[e4.keep fun o' ho'=>hk o' (by simp[ho'])]
  have:=hk o (by simp)
  cases hdst:o.dst with
  | none=>rfl
  | some d=>simp only[Env.put]; rw[Q9]; rintro rfl; exact this hdst
 ·rw[e4.keep (tY hs),hd]
  simp[Env.put]
theorem wm {i a b c j d e f:Nat} (h:ig (.sl i a b c) (.sl j d e f)):i≠j:=h
theorem IL {T T':Env} {h h':aE} {recs:List Rec} (tr:Tr P n all all T h recs T' h') {i k:Nat} {a b:Rec} {ps:List (Nat × Nat)} (hp:Bu all i k=some ps) (hA:∀ p∈ps,ig (T' p.1) (T' p.2)) (ha:recs[i]?=some a) (hb:recs[k]?=some b):l0 a b:=by
 unfold Bu at hp
 split at hp
 ·rename_i oa ob hoa hob
  split at hp
  ·rename_i t y d t' y' d' h1 h2
   split at hp
   ·rename_i hst
    simp only[Rg] at hst
    obtain ⟨⟨⟨⟨s1,s2⟩,s3⟩,s4⟩,s5⟩:=hst
    simp at hp; subst hp
    have a1:=hA (t,t') (by simp)
    have a2:=hA (t,y') (by simp)
    have a3:=hA (t',y) (by simp)
    have a4:=hA (d,t') (by simp)
    simp only at a1 a2 a3 a4
    obtain ⟨Ta,ha1,va,ha2,sa,la1,la2,ea,da⟩:=Kz tr hoa ha
    obtain ⟨Tb,hb1,vb,hb2,sb,_,_,eb,_⟩:=Kz tr hob hb
    obtain ⟨p1,p2,p3,p4,p5,p6⟩:=Fq sa h1
    obtain ⟨q1,q2,q3,_⟩:=Fq sb h2
    have da:=da d p6 s3
    rw[← ea t s1,← eb t' s4] at a1
    rw[← ea t s1,← eb y' s5] at a2
    rw[← eb t' s4,← ea y s2] at a3
    rw[da,← eb t' s4] at a4
    refine ⟨fun id hid hr=>?_,fun id hid hr=>?_,fun hc=>by rw[p1] at hc; simp at hc,fun hc=>by rw[q1] at hc; simp at hc,fun id hid hx=>?_⟩
    ·obtain ⟨_,_,_,e⟩:=p2 id hid
     rcases q3 id hr with ⟨_,_,_,e'⟩ | ⟨_,_,_,e'⟩
     ·rw[e,e'] at a1; exact wm a1 rfl
     ·rw[e,e'] at a2; exact wm a2 rfl
    ·obtain ⟨_,_,_,e⟩:=q2 id hid
     rcases p3 id hr with ⟨_,_,_,e'⟩ | ⟨_,_,_,e'⟩
     ·rw[e',e] at a1; exact wm a1 rfl
     ·rw[e,e'] at a3; exact wm a3 rfl
    ·obtain ⟨_,_,_,e⟩:=q2 id hid
     obtain ⟨_,_,_,e'⟩:=p4 (by omega)
     have:id=ha1.length:=by omega
     subst this
     rw[e,e'] at a4; exact wm a4 rfl
   ·simp at hp
  ·simp at hp
 ·simp at hp
theorem II {T T':Env} {h h':aE} {recs:List Rec} (tr:Tr P n all all T h recs T' h') {i k:Nat} {a b:Rec} {ps:List (Nat × Nat)} (hp:xm all i k=some ps) (hA:∀ p∈ps,ig (T' p.1) (T' p.2)) (ha:recs[i]?=some a) (hb:recs[k]?=some b):l0 a b:=by
 unfold xm at hp
 split at hp
 ·rename_i p h1
  simp at hp; subst hp
  exact Im tr h1 (hA p (by simp)) ha hb
 ·exact IL tr hp hA ha hb
theorem MZ {ls:List Nat} {recs:List Rec} {T T':Env} {hp hp':aE} {aps:List (Nat × Nat)} (tr:Tr P n all all T hp recs T' hp') (h:zu all (jU all ls)=some aps) (hA:∀ p∈aps,ig (T' p.1) (T' p.2)) (hl:ls.length=recs.length)
  (hr:∀ (i x:Nat) (r:Rec),ls[i]?=some x→recs[i]?=some r→jW x r.rd r.wr r.call r.lo r.hi):r9 all recs:=by
 intro i k a b hik ha hb ho
 have hi:i < recs.length:=(Rl.1 ha).1
 have hk:k < recs.length:=(Rl.1 hb).1
 have la:=hr i _ a (Q7 (by omega)) ha
 have lb:=hr k _ b (Q7 (by omega)) hb
 have mi:(ls[i]'(by omega),i)∈ls.zipIdx:=by rw[Sc]; simp[Q7 (show i < ls.length by omega)]
 have mk:(ls[k]'(by omega),k)∈ls.zipIdx:=by rw[Sc]; simp[Q7 (show k < ls.length by omega)]
 by_cases h1:wc all (ls[i]'(by omega)) i (ls[k]'(by omega)) k=true
 ·unfold wc at h1
  simp only[hik,decide_true,Tw,ho,Bool.false_or,Se,Sd,Rg,Rn] at h1
  rcases h1 with ((h1 | h1) | h1) | h1
  ·obtain ⟨e1,e2,e3,e4⟩:=la.1 h1
   exact ⟨fun id hid=>by simp[e2] at hid,fun id _=>by simp[e1],fun hc=>by simp[e3] at hc,fun _=>e2,fun id _ hx=>by omega⟩
  ·obtain ⟨e1,e2,e3,e4⟩:=lb.1 h1
   exact ⟨fun id _=>by simp[e1],fun id hid=>by simp[e2] at hid,fun _=>e2,fun hc=>by simp[e3] at hc,fun id hid=>by simp[e2] at hid⟩
  ·have e1:=la.2 h1.1
   have e2:=lb.2 h1.2
   exact ⟨fun id hid=>by simp[e1] at hid,fun id hid=>by simp[e2] at hid,fun _=>e2,fun _=>e1,fun id hid=>by simp[e2] at hid⟩
  ·exact tu tr h1 ha hb
 ·have hm:(i,k)∈jU all ls:=by
   unfold jU
   rw[List.mem_flatMap]
   refine ⟨_,mi,?_⟩
   rw[Sf]
   exact ⟨_,mk,by simp only; rw[Q9 h1]⟩
  obtain ⟨p,hp,e⟩:=LJ h (i,k) hm
  exact JD tr e (hA p hp) ha hb
theorem CO {P:Program} {t:TypeId} {id:Nat} {q:V} {ok:Bool} {H1 H2:View} (h:H1 id=H2 id):eV P t (.mp id) q ok H1=eV P t (.mp id) q ok H2:=by
 unfold eV
 simp only[h]
theorem IU {P:Program} {t:TypeId} {id:Nat} {q:V} {H1 H2:View} (h:H1 id=H2 id):dH P t (.mp id) q H1=dH P t (.mp id) q H2:=by
 cases hm:cT P t with
 | none=>simp only[dH,hm]
 | some x=>simp only[dH,hm,h]
theorem MV {P:Program} {t:TypeId} {id:Nat} {q:V} {H:View} {v:V} {eff:bf} {rd:List Nat} (h:eV P t (.mp id) q false H=some (v,eff,rd)):eff=.none∧rd=[id]:=by
 simp only[eV,Ru,if_false] at h
 repeat' (first | (simp only[Q8,Rb] at h; exact ⟨h.2.1.symm,h.2.2.symm⟩) | (split at h) | (simp at h; done))
theorem Ka {P:Program} {t:TypeId} {id:Nat} {q:V} {H:View} {v:V} {eff:bf} {rd:List Nat} (h:dH P t (.mp id) q H=some (v,eff,rd)):∃ obj,eff=.ep id obj:=by
 cases hm:cT P t with
 | none=>simp[dH,hm] at h
 | some x =>
  simp only[dH,hm] at h
  repeat' (first | (simp only[Q8,Rb] at h; exact ⟨_,h.2.1.symm⟩) | (split at h) | (simp at h; done))
theorem EZ {o:Oper} {T:Env} {h h':aE} {v:V} {rd wr:List Nat} {call:Bool} (st:di P n all o T h v h' rd wr call) (hg:cZ n all T o=some true) (hb:∀ e x,o.op≠.box e x) (hc:∀ s d x,o.op≠.convert s d x) (hl:∀ c,o.op≠.call c) :
  ∃ eff,bV P o T h.view h.length=some (v,eff,rd)∧h'=eff.apply h∧wr=eff.wr∧call=false:=by
 cases st with
 | skip hs=>rw[hg] at hs; simp at hs
 | op _ hop=>exact ⟨_,hop,rfl,rfl,rfl⟩
 | iK _ ho _=>exact absurd ho (hb _ _)
 | fv _ ho _ _ _ _=>exact absurd ho (hc _ _ _)
 | call _ ho _ _ _ _ _=>exact absurd ho (hl _)
theorem Oc {recs:List Rec} {Ts:Nat→Env} {hs:Nat→aE} {vs:Nat→V} (hst:xZ P n all recs Ts hs vs) (hl:recs.length=all.length) {k:Nat} (hk:k≤all.length) (hw:∀ j r,j < k→recs[j]?=some r→r.wr=[]) :
  ∀ j,j≤k→(hs 0).length≤(hs j).length∧∀ id,id < (hs 0).length→(hs j).view id=(hs 0).view id:=by
 intro j
 induction j with
 | zero=>intro _; exact ⟨Ri _,fun _ _=>rfl⟩
 | succ j ih =>
  intro hj
  obtain ⟨l1,l2⟩:=ih (by omega)
  obtain ⟨st,_,_,_,_⟩:=hst j all[j] (recs[j]'(by omega)) (Q7 (by omega)) (Q7 (by omega))
  refine ⟨RT l1 (ra st),fun id hid=>?_⟩
  rw[pD st (RC hid l1) (by rw[hw j _ (by omega) (Q7 (by omega))]; simp)]
  exact l2 id hid
theorem nZ {recs:List Rec} {Ts:Nat→Env} {hs:Nat→aE} {vs:Nat→V} (hst:xZ P n all recs Ts hs vs) (hl:recs.length=all.length) {i t:Nat} (h:stays all i t=true):∀ j,i≤j→j≤all.length→Ts j t=Ts i t:=by
 intro j hij hj
 refine xg (vs:=vs) (N:=all.length) (fun k o hk=>?_) rfl i j hij hj fun k o h1 h2 h3=>tY h o (by
  rw[List.mem_iff_getElem?]
  exact ⟨k - i,by rw[Tq,show i+(k - i)=k by omega]; exact h3⟩)
 have hk':k < all.length:=(Rl.1 hk).1
 exact (hst k o (recs[k]'(by omega)) hk (Q7 (by omega))).2.2.1
theorem Eb {ls:List Nat} {recs:List Rec} {T T':Env} {hp hp':aE} {aps:List (Nat × Nat)} {tp:Option (Nat × Nat)} (tr:Tr P n all all T hp recs T' hp') (h:sy all (Dh all ls tp)=some aps) (hA:∀ p∈aps,ig (T' p.1) (T' p.2)) (hl:ls.length=recs.length)
  (hr:∀ (i x:Nat) (r:Rec),ls[i]?=some x→recs[i]?=some r→jW x r.rd r.wr r.call r.lo r.hi) (htol:∀ p,tp=some p→∃ tol,C5 all ls p.1 p.2=some tol∧IH P tol.1 (T' tol.2.1) (T' tol.2.2) hp.view):HV P n all recs T T' hp:=by
 have main:∀ i k a b,i < k→recs[i]?=some a→recs[k]?=some b→ordered (eS all []) i k=false→tp≠some (i,k)→l0 a b:=by
  intro i k a b hik ha hb ho hne
  have hi:i < recs.length:=(Rl.1 ha).1
  have hk:k < recs.length:=(Rl.1 hb).1
  have la:=hr i _ a (Q7 (by omega)) ha
  have lb:=hr k _ b (Q7 (by omega)) hb
  have mi:(ls[i]'(by omega),i)∈ls.zipIdx:=by rw[Sc]; simp[Q7 (show i < ls.length by omega)]
  have mk:(ls[k]'(by omega),k)∈ls.zipIdx:=by rw[Sc]; simp[Q7 (show k < ls.length by omega)]
  by_cases h1:wc all (ls[i]'(by omega)) i (ls[k]'(by omega)) k=true
  ·unfold wc at h1
   simp only[hik,decide_true,Tw,ho,Bool.false_or,Se,Sd,Rg,Rn] at h1
   rcases h1 with ((h1 | h1) | h1) | h1
   ·obtain ⟨e1,e2,e3,e4⟩:=la.1 h1
    exact ⟨fun id hid=>by simp[e2] at hid,fun id _=>by simp[e1],fun hc=>by simp[e3] at hc,fun _=>e2,fun id _ hx=>by omega⟩
   ·obtain ⟨e1,e2,e3,e4⟩:=lb.1 h1
    exact ⟨fun id _=>by simp[e1],fun id hid=>by simp[e2] at hid,fun _=>e2,fun hc=>by simp[e3] at hc,fun id hid=>by simp[e2] at hid⟩
   ·have e1:=la.2 h1.1
    have e2:=lb.2 h1.2
    exact ⟨fun id hid=>by simp[e1] at hid,fun id hid=>by simp[e2] at hid,fun _=>e2,fun _=>e1,fun id hid=>by simp[e2] at hid⟩
   ·exact tu tr h1 ha hb
  ·have hm:(i,k)∈jU all ls:=by
    unfold jU
    rw[List.mem_flatMap]
    refine ⟨_,mi,?_⟩
    rw[Sf]
    exact ⟨_,mk,by simp only; rw[Q9 h1]⟩
   by_cases hn:newAt all k=true
   ·unfold newAt at hn
    split at hn
    ·rename_i ob hob
     obtain ⟨T1,h1',v,h2,rd,wr,call,recs2,e1,e2,_⟩:=tr.at_ k ob hob
     rw[hb] at e1
     have e1:=Tv e1
     subst e1
     obtain ⟨n1,n2,n3⟩:=yA e2 hn
     exact ⟨fun id _=>by simp[n1],fun id hid=>by simp[n2] at hid,fun _=>n2,fun hc=>by simp[n3] at hc,fun id hid=>by simp[n2] at hid⟩
    ·simp at hn
   ·obtain ⟨p,hp,e⟩:=Ir h (i,k) (by
     unfold Dh
     rw[RQ]
     refine ⟨hm,?_⟩
     simp only[Rg,Tx,bne_iff_ne,ne_eq]
     exact ⟨by simpa using hn,hne⟩)
    exact II tr e (fun q hq=>hA q (hp q hq)) ha hb
 cases tp with
 | none=>exact r9.P9 fun i k a b h1 h2 h3 h4=>main i k a b h1 h2 h3 h4 (by simp)
 | some p =>
  obtain ⟨i0,k0⟩:=p
  obtain ⟨tol,hto,htv⟩:=htol _ rfl
  intro Ts hs vs eT0 eh0 eTN hrl hst i
  by_cases hi:i=i0
  ·subst hi
   refine ⟨some k0,fun k a b h1 h2 h3 h4 h5=>main i k a b h1 h2 h3 h4 (fun e=>h5 (by simp at e; rw[e])),fun k a b o hk ha hb ho=>?_⟩
   simp at hk; subst hk
   unfold C5 at hto
   simp only at hto
   split at hto
   ·rename_i oa ob hoa hob
    rw[ho] at hoa
    have hoa:=Tv hoa
    subst hoa
    split at hto
    ·rename_i t m q t' m' q' hop1 hop2 hg1 hg2
     split at hto
     ·rename_i hcond
      simp only[Rg,Sd,Rn,RD,R3] at hcond
      obtain ⟨⟨⟨⟨⟨⟨⟨⟨rfl,rfl⟩,rfl⟩,s1⟩,s2⟩,s3⟩,s4⟩,hik⟩,hloud⟩:=hcond
      simp only[Q8] at hto
      subst hto
      simp only at htv
      have hkl:k0 < all.length:=(Rl.1 hob).1
      have hwr:∀ j r,j < k0→recs[j]?=some r→r.wr=[]:=fun j r hj hrj=>by
       have h1:=hloud j hj
       have hj':j < ls.length:=by omega
       rw[Q6,Q7 hj'] at h1
       exact (hr j _ r (Q7 hj') hrj).2 h1
      have hsame:=Oc hst hrl (Nat.le_of_lt hkl) hwr
      have em:∀ j,i≤j→j≤all.length→Ts j m=T' m:=fun j h1 h2=>by
       rw[← eTN,nZ hst hrl s1 j h1 h2,nZ hst hrl s1 all.length (by omega) (Ri _)]
      have eq:∀ j,i≤j→j≤all.length→Ts j q=T' q:=fun j h1 h2=>by
       rw[← eTN,nZ hst hrl s2 j h1 h2,nZ hst hrl s2 all.length (by omega) (Ri _)]
      obtain ⟨sti,_,_,hlo,hhi⟩:=hst i o a ho ha
      obtain ⟨stk,_,_,_,_⟩:=hst k0 ob b hob hb
      have gi:cZ n all (Ts i) o=some true:=by unfold cZ; rw[hg1]
      have gk:cZ n all (Ts k0) ob=some true:=by unfold cZ; rw[hg2]
      unfold IH at htv
      split at htv
      ·rename_i id hid
       obtain ⟨⟨es0,c0,hmap⟩,htv⟩:=htv
       have hidl:id < hp.length:=gJ (by rw[hmap]; simp)
       have hvk:(hs k0).view id=hp.view id:=by rw[(hsame k0 (Ri _)).2 id (by rw[eh0]; exact hidl),eh0]
       have hvi:(hs i).view id=hp.view id:=by rw[(hsame i (Nat.le_of_lt hik)).2 id (by rw[eh0]; exact hidl),eh0]
       obtain ⟨effi,hopi,hi',wri,cai⟩:=EZ sti gi (by rw[hop1]; simp) (by rw[hop1]; simp) (by rw[hop1]; simp)
       obtain ⟨effk,hopk,hk',wrk,cak⟩:=EZ stk gk (by rw[hop2]; simp) (by rw[hop2]; simp) (by rw[hop2]; simp)
       simp only[bV,hop1] at hopi
       simp only[bV,hop2] at hopk
       have e1:ev (Ts i) (.tmp m)=.mp id:=(em i (Ri _) (by omega)).trans hid
       have e2:ev (Ts i) (.tmp q)=T' q:=eq i (Ri _) (by omega)
       have e3:ev (Ts k0) (.tmp m)=.mp id:=(em k0 (by omega) (by omega)).trans hid
       have e4:ev (Ts k0) (.tmp q)=T' q:=eq k0 (by omega) (by omega)
       rw[e1,e2] at hopi
       rw[e3,e4,IU hvk] at hopk
       obtain ⟨l1,l2⟩:=MV hopi
       obtain ⟨obj,l3⟩:=Ka hopk
       subst l1 l3
       have hkb:(hs (k0+1)).view id=obj:=by
        rw[hk',kq (fun id' hid'=>by
         simp only[bf.wr,RU] at hid'
         subst hid'
         rw[hvk,hmap]; simp)]
        simp[bf.view,View.set]
       refine ⟨hik,wri,cai,by rw[hlo,hhi,hi']; rfl,fun g hg hgv=>?_⟩
       have hidi:id < (hs i).length:=gJ (by rw[hvi,hmap]; simp)
       have hgid:g.view id=(hp.view.set id obj) id:=by
        rw[hgv id hidi,wrk,Ra (by simp[bf.wr]),hkb]
        simp[View.set]
       have hlk:=htv _ _ _ hopk
       have hfin:bV P o (Ts i) g.view g.length=some (vs i,.none,a.rd):=by
        simp only[bV,hop1]
        rw[e1,e2,CO hgid,hlk,← CO hvi]
        exact hopi
       exact .op gi hfin
      ·exact htv.elim
     ·simp at hto
    ·simp at hto
   ·simp at hto
  ·exact ⟨none,fun k a b h1 h2 h3 h4 _=>main i k a b h1 h2 h3 h4 (fun e=>hi (by simp at e; exact e.1.symm)),fun k a b o h1=>by simp at h1⟩
theorem Mg (hm:P.follows .mixedOrders=true) {fz:Fz} {id:Nat} {ops:Array Oper} {sc:SC} {T:Env} {h:aE} {Q:Exit→Env→View→Prop} (hc:yY P n fz ops.toList=some sc) (hw:wS P sc T h.view Q) :
  ∃ e T' h',cy P n (.region id ops true) T h e T' h'∧(iB h h'∧h.length≤h'.length)∧Q e T' h'.view:=by
 unfold yY at hc
 split at hc
 ·simp at hc
 ·rename_i l hl
  split at hc
  ·simp at hc
  ·rename_i hok
   have hok:(group l).all qO=true:=by simpa using hok
   have hl':dd P n ops.toList fz ops.toList=some (jL (group l)):=by rw[fF]; exact hl
   split at hc
   ·rename_i ht
    simp only[Rf] at hc
    obtain ⟨aps,hap,rfl⟩:=hc
    obtain ⟨recs,T',h',tr,hst,hk,hro⟩:=vK (group l) ops.toList T h hl' hok hw
    rw[fF] at hro
    refine ⟨.normal,T',h',?_,hst,hk.rest⟩
    have hcf:r9 ops.toList recs:=MZ tr hap (xU hk) (by simpa using hro.1) (fun i x r hx hr=>by
     simp only[Rc,Rf] at hx
     obtain ⟨s,hs,rfl⟩:=hx
     exact hro.2 i s r hs hr)
    simpa using vA hm (id:=id) tr ht hcf
   ·simp at hc
theorem Ny (hm:P.follows .mixedOrders=true) {fz:Fz} {id:Nat} {ops:Array Oper} {sc:SC} {T:Env} {h:aE} {Q:Exit→Env→View→Prop} (hc:y8 P n fz ops.toList=some sc) (hw:wS P sc T h.view Q) :
  ∃ e T' h',cy P n (.region id ops true) T h e T' h'∧(iB h h'∧h.length≤h'.length)∧Q e T' h'.view:=by
 unfold y8 at hc
 split at hc
 ·simp at hc
 ·rename_i l hl
  split at hc
  ·simp at hc
  ·rename_i hok
   have hok:(group l).all qO=true:=by simpa using hok
   have hl':dd P n ops.toList fz ops.toList=some (jL (group l)):=by rw[fF]; exact hl
   split at hc
   ·rename_i ht
    split at hc
    ·simp only[Rf] at hc
     obtain ⟨aps,hap,rfl⟩:=hc
     obtain ⟨recs,T',h',tr,hst,hk,hro⟩:=vK (group l) ops.toList T h hl' hok hw
     rw[fF] at hro
     refine ⟨.normal,T',h',?_,hst,hk.rest⟩
     have hcf:=Eb tr hap (xU hk) (by simpa using hro.1) (fun i x r hx hr=>by
      simp only[Rc,Rf] at hx
      obtain ⟨s,hs,rfl⟩:=hx
      exact hro.2 i s r hs hr) (fun p hp=>by simp at hp)
     simpa using uh hm (id:=id) tr ht hcf
    ·rename_i p hp
     split at hc
     ·rename_i tol hto
      simp only[Rf] at hc
      obtain ⟨aps,hap,rfl⟩:=hc
      obtain ⟨recs,T',h',tr,hst,hk,hro⟩:=vK (group l) ops.toList T h hl' hok hw
      rw[fF] at hro
      refine ⟨.normal,T',h',?_,hst,hk.2.rest⟩
      have hcf:=Eb tr hap (xU hk.2) (by simpa using hro.1) (fun i x r hx hr=>by
       simp only[Rc,Rf] at hx
       obtain ⟨s,hs,rfl⟩:=hx
       exact hro.2 i s r hs hr) (fun p' hp'=>by
        simp only[Q8] at hp'
        subst hp'
        exact ⟨tol,hto,hk.1⟩)
      simpa using uh hm (id:=id) tr ht hcf
     ·simp at hc
   ·simp at hc
theorem qo (hm:P.follows .mixedOrders=true) {fz:Fz} {id:Nat} {ops:Array Oper} {draw quiet:Bool} {sc:SC} {T:Env} {h:aE} {Q:Exit→Env→View→Prop} (hc:pF P n fz ops.toList draw quiet=some sc) (hw:wS P sc T h.view Q) :
  ∃ e T' h',cy P n (.region id ops draw) T h e T' h'∧(iB h h'∧h.length≤h'.length)∧Q e T' h'.view:=by
 unfold pF at hc
 split at hc
 ·simp at hc
 ·rename_i l hl
  split at hc
  ·simp at hc
  ·rename_i hok
   have hok:(group l).all qO=true:=by simpa using hok
   have hl':dd P n ops.toList fz ops.toList=some (jL (group l)):=by rw[fF]; exact hl
   have key:uG P quiet (group l) T h.view (Q .normal)→(draw=true→kF ops.toList=true∧C8 ops.toList (l.map fun s=>iq P quiet s.b)=true) →
     ∃ e T' h',cy P n (.region id ops draw) T h e T' h'∧(iB h h'∧h.length≤h'.length)∧Q e T' h'.view:=by
    intro hw hdr
    obtain ⟨recs,T',h',tr,hst,hk,hro⟩:=vK (group l) ops.toList T h hl' hok hw
    rw[fF] at hro
    refine ⟨.normal,T',h',?_,hst,hk⟩
    cases hd:draw with
    | false=>simpa using Du (id:=id) tr
    | true =>
     obtain ⟨h1,h2⟩:=hdr hd
     have hcf:r9 ops.toList recs:=My tr h2 (by simpa using hro.1) (fun i x r hx hr=>by
      simp only[Rc,Rf] at hx
      obtain ⟨s,hs,rfl⟩:=hx
      exact hro.2 i s r hs hr)
     simpa using vA hm (id:=id) tr h1 hcf
   split at hc
   ·rename_i hd
    split at hc
    ·rename_i ht
     simp at hc; subst hc
     exact key hw (fun _=>by simpa using ht)
    ·simp at hc
   ·rename_i hd
    simp at hc; subst hc
    exact key hw (fun e=>absurd e hd)
theorem ew {a b:Option SC} {sc:SC} (h:orElse' a b=some sc):a=some sc∨b=some sc:=by
 cases a with
 | none=>exact .inr h
 | some x=>exact .inl h
theorem Ll (hm:P.follows .mixedOrders=true) {fz:List Nat} {id:Nat} {ops:Array Oper} {draw:Bool} {sc:SC} {T:Env} {h:aE} {Q:Exit→Env→View→Prop} (hc:z7 P n fz ops.toList draw=some sc) (hw:wS P sc T h.view Q) :
  ∃ e T' h',cy P n (.region id ops draw) T h e T' h'∧(iB h h'∧h.length≤h'.length)∧Q e T' h'.view:=by
 unfold z7 at hc
 rcases ew hc with h1 | h1
 ·exact qo hm h1 hw
 ·clear hc
  split at h1
  ·rename_i hd
   subst hd
   rcases ew h1 with h0 | h1
   ·split at h0
    ·exact Ny hm h0 hw
    ·simp at h0
   rcases ew h1 with h0 | h1
   ·split at h0
    ·exact qo hm h0 hw
    ·simp at h0
   rcases ew h1 with h2 | h2
   ·exact Mg hm h2 hw
   ·rcases ew h2 with h3 | h3
    ·exact qo hm h3 hw
    ·rcases ew h3 with h4 | h4
     ·exact qo hm h4 hw
     ·exact qo hm h4 hw
  ·simp at h1
theorem Cr {e:Exit} {a b:Prop} (h:xQ e a b):(e=.normal∧a)∨(e≠.normal∧b):=by
 cases e with
 | normal=>exact .inl ⟨rfl,h⟩
 | _=>exact .inr ⟨by simp,h⟩
def pB (P:Program) (n:Nat) (fz:List Nat) (c:Code):Prop:=∀ sc:SC,cH P n fz c=some sc→∀ (T:Env) (h:aE) (Q:Exit→Env→View→Prop),wS P sc T h.view Q →
 ∃ e T' h',cy P n c T h e T' h'∧(iB h h'∧h.length≤h'.length)∧Q e T' h'.view
theorem Ch {fz:List Nat} : pB P n fz .skip:=by
 intro sc hc T h Q hw; simp[cH] at hc; subst hc; exact ⟨_,T,h,.skip,⟨.refl _,Ri _⟩,hw⟩
theorem Ev {fz:List Nat} {x y:Code} (ihx:pB P n fz x) (ihy:pB P n fz y):pB P n fz (.seq x y):=by
 intro sc hc T h Q hw
 simp only[cH] at hc
 split at hc
 ·rename_i a b h1 h2
  simp at hc; subst hc
  simp only[wS] at hw
  obtain ⟨e,T1,h1',hx,st1,hq⟩:=ihx a h1 T h _ hw
  rcases Cr hq with ⟨rfl,hq⟩ | ⟨hne,hq⟩
  ·obtain ⟨e2,T2,h2',hy,st2,hq2⟩:=ihy b h2 T1 h1' _ hq
   exact ⟨e2,T2,h2',hx.seq hy,⟨st1.1.trans st2.1 st1.2,RT st1.2 st2.2⟩,hq2⟩
  ·exact ⟨e,T1,h1',hx.HD hne,st1,hq⟩
 ·simp at hc
theorem mz {fz:Fz} {ops:List Oper} {draw quiet:Bool} {sc:SC} (h:pF P n fz ops draw quiet=some sc) (l:Nat):ml sc l=none:=by
 unfold pF at h
 repeat' (first | (simp only[Q8] at h; subst h; rfl) | (split at h) | (simp at h; done))
theorem Iy {fz:Fz} {ops:List Oper} {sc:SC} (h:yY P n fz ops=some sc) (l:Nat):ml sc l=none:=by
 unfold yY at h
 repeat' (first | (simp only[Rf] at h; obtain ⟨_,_,rfl⟩:=h; rfl) | (split at h) | (simp at h; done))
theorem Ib {fz:Fz} {ops:List Oper} {sc:SC} (h:y8 P n fz ops=some sc) (l:Nat):ml sc l=none:=by
 unfold y8 at h
 repeat' (first | (simp only[Rf] at h; obtain ⟨_,_,rfl⟩:=h; rfl) | (split at h) | (simp at h; done))
theorem Jc {fz:List Nat} {ops:List Oper} {draw:Bool} {sc:SC} (h:z7 P n fz ops draw=some sc) (l:Nat):ml sc l=none:=by
 unfold z7 at h
 rcases ew h with h1 | h1
 ·exact mz h1 l
 ·split at h1
  ·rcases ew h1 with h0 | h1
   ·split at h0
    ·exact Ib h0 l
    ·simp at h0
   rcases ew h1 with h0 | h1
   ·split at h0
    ·exact mz h0 l
    ·simp at h0
   rcases ew h1 with h2 | h2
   ·exact Iy h2 l
   ·rcases ew h2 with h3 | h3
    ·exact mz h3 l
    ·rcases ew h3 with h4 | h4
     ·exact mz h4 l
     ·exact mz h4 l
  ·simp at h1
theorem LN {fz:List Nat} : ∀ (c:Code) (sc:SC),cH P n fz c=some sc→∀ l,match findLabel c l with
  | some rest=>∃ r,ml sc l=some r∧cH P n fz rest=some r
  | none=>ml sc l=none:=by
 intro c
 induction c with
 | seq x y ihx ihy =>
  intro sc hc l
  simp only[cH] at hc
  split at hc
  ·rename_i a b h1 h2
   simp at hc; subst hc
   have hx:=ihx a h1 l
   have hy:=ihy b h2 l
   simp only[findLabel,ml]
   cases h3:findLabel x l with
   | some rx =>
    rw[h3] at hx
    obtain ⟨r,e1,e2⟩:=hx
    exact ⟨.seq r b,by rw[e1],by simp only[cH,e2,h2]⟩
   | none =>
    rw[h3] at hx
    simp only at hx ⊢
    rw[hx]
    exact hy
  ·simp at hc
 | label l' =>
  intro sc hc l
  simp[cH] at hc; subst hc
  simp only[findLabel,ml]
  by_cases e:(l' == l)=true
  ·rw[Ra e]; exact ⟨.skip,by rw[Ra e],by simp[cH]⟩
  ·rw[Q9 e]; simp only; rw[Q9 e]
 | region id ops draw=>intro sc hc l; simp only[cH] at hc; simp only[findLabel]; exact Jc hc l
 | cond x y z _ _ =>
  intro sc hc l
  simp only[cH] at hc
  split at hc
  ·simp at hc; subst hc; rfl
  ·simp at hc
 | block id c _=>intro sc hc l; simp only[cH,Rf] at hc; obtain ⟨_,_,rfl⟩:=hc; rfl
 | loop c _=>intro sc hc l; simp only[cH,Rf] at hc; obtain ⟨_,_,rfl⟩:=hc; rfl
 | scope c _ =>
  intro sc hc l
  simp only[cH] at hc
  split at hc
  ·split at hc
   ·simp only[Rf] at hc; obtain ⟨_,_,rfl⟩:=hc; rfl
   ·simp at hc
  ·simp at hc
 | skip=>intro sc hc l; simp[cH] at hc; subst hc; rfl
 | exit id=>intro sc hc l; simp[cH] at hc; subst hc; rfl
 | ret=>intro sc hc l; simp[cH] at hc; subst hc; rfl
 | goto l'=>intro sc hc l; simp[cH] at hc; subst hc; rfl
 | _=>intro sc hc; simp[cH] at hc
theorem Ji {fz:List Nat} {c:Code} (h0:pB P n fz c) (hr:∀ l rest,findLabel c l=some rest→pB P n fz rest):pB P n fz (.scope c):=by
 intro sc hc T h Q hw
 simp only[cH] at hc
 split at hc
 ·rename_i a h1
  split at hc
  ·rename_i l h2
   simp only[Rf] at hc
   obtain ⟨r,h3,rfl⟩:=hc
   have hf:=LN c a h1 l
   cases h4:findLabel c l with
   | none=>rw[h4] at hf; simp only at hf; rw[hf] at h3; simp at h3
   | some rest =>
    rw[h4] at hf
    obtain ⟨r',e1,e2⟩:=hf
    rw[h3] at e1
    have e1:=Tv e1
    subst e1
    simp only[wS] at hw
    obtain ⟨I,K,hw1,hw2⟩:=hw
    have go:∀ k T (h:aE),I k T h.view→∃ e T' h',pE P n c rest T h e T' h'∧(iB h h'∧h.length≤h'.length)∧Q e T' h'.view:=by
     intro k
     induction k using Nat.strongRecOn with
     | ind k ihk =>
      intro T h hI
      obtain ⟨e,T1,h1',hx,st1,hq⟩:=hr l rest h4 r e2 T h _ (hw2 k T h.view hI)
      cases e with
      | goto l' =>
       obtain ⟨rfl,k',hlt,hI'⟩:=hq
       obtain ⟨e2,T2,h2',hy,st2,hq2⟩:=ihk k' hlt T1 h1' hI'
       exact ⟨e2,T2,h2',pE.jump hx h4 hy,⟨st1.1.trans st2.1 st1.2,RT st1.2 st2.2⟩,hq2⟩
      | _=>exact ⟨_,T1,h1',.out hx rfl,st1,hq⟩
    obtain ⟨e,T1,h1',hx,st1,hq⟩:=h0 a h1 T h _ hw1
    cases e with
    | goto l' =>
     obtain ⟨rfl,k',_,hI'⟩:=hq
     obtain ⟨e2,T2,h2',hy,st2,hq2⟩:=go k' T1 h1' hI'
     exact ⟨e2,T2,h2',.scope (pE.jump hx h4 hy),⟨st1.1.trans st2.1 st1.2,RT st1.2 st2.2⟩,hq2⟩
    | _=>exact ⟨_,T1,h1',.scope (.out hx rfl),st1,hq⟩
  ·simp at hc
 ·simp at hc
theorem Mn (hm:P.follows .mixedOrders=true) {fz:List Nat} : ∀ c:Code,pB P n fz c∧∀ l rest,findLabel c l=some rest→pB P n fz rest:=by
 intro c
 induction c with
 | skip=>exact ⟨Ch,fun l rest h=>by simp[findLabel] at h⟩
 | region id ops draw=>exact ⟨fun sc hc T h Q hw=>Ll hm hc hw,fun l rest h=>by simp[findLabel] at h⟩
 | seq x y ihx ihy =>
  refine ⟨Ev ihx.1 ihy.1,fun l rest h=>?_⟩
  simp only[findLabel] at h
  split at h
  ·rename_i r hr
   simp only[Q8] at h; subst h
   exact Ev (ihx.2 _ _ hr) ihy.1
  ·exact ihy.2 _ _ h
 | cond c x y ihx ihy =>
  refine ⟨?_,fun l rest h=>by simp[findLabel] at h⟩
  intro sc hc T h Q hw
  simp only[cH] at hc
  split at hc
  ·rename_i a b h1 h2
   simp at hc; subst hc
   simp only[wS] at hw
   split at hw
   ·rename_i t ht
    have hT:oo (SX.of c) t T=T:=by
     unfold oo
     split
     ·rename_i k hk
      rw[hk] at ht
      exact yD ht
     ·rfl
    rw[SX.cd] at ht
    cases t with
    | true =>
     have:=hw.1 rfl
     rw[hT] at this
     obtain ⟨e,T',h',hx,st,hq⟩:=ihx.1 a h1 T h Q this
     exact ⟨e,T',h',.cond ht hx,st,hq⟩
    | false =>
     have:=hw.2 rfl
     rw[hT] at this
     obtain ⟨e,T',h',hx,st,hq⟩:=ihy.1 b h2 T h Q this
     exact ⟨e,T',h',.cond ht hx,st,hq⟩
   ·exact hw.elim
  ·simp at hc
 | block id c ih =>
  refine ⟨?_,fun l rest h=>by simp[findLabel] at h⟩
  intro sc hc T h Q hw
  simp only[cH,Rf] at hc
  obtain ⟨a,h1,rfl⟩:=hc
  simp only[wS] at hw
  obtain ⟨e,T',h',hx,st,hq⟩:=ih.1 a h1 T h _ hw
  exact ⟨_,T',h',hx.block,st,hq⟩
 | loop c ih =>
  refine ⟨?_,fun l rest h=>by simp[findLabel] at h⟩
  intro sc hc T h Q hw
  simp only[cH,Rf] at hc
  obtain ⟨a,h1,rfl⟩:=hc
  simp only[wS] at hw
  obtain ⟨I,⟨k,hk⟩,hstep⟩:=hw
  have go:∀ k T (h:aE),I k T h.view→∃ e T' h',nX P n c T h e T' h'∧(iB h h'∧h.length≤h'.length)∧Q e T' h'.view:=by
   intro k
   induction k using Nat.strongRecOn with
   | ind k ihk =>
    intro T h hI
    obtain ⟨e,T1,h1',hx,st1,hq⟩:=ih.1 a h1 T h _ (hstep k T h.view hI)
    rcases Cr hq with ⟨rfl,k',hlt,hI'⟩ | ⟨hne,hq⟩
    ·obtain ⟨e2,T2,h2',hy,st2,hq2⟩:=ihk k' hlt T1 h1' hI'
     exact ⟨e2,T2,h2',.step hx hy,⟨st1.1.trans st2.1 st1.2,RT st1.2 st2.2⟩,hq2⟩
    ·exact ⟨e,T1,h1',.out hx hne,st1,hq⟩
  obtain ⟨e,T',h',hx,st,hq⟩:=go k T h hk
  exact ⟨e,T',h',.loop hx,st,hq⟩
 | exit id=>exact ⟨fun sc hc T h Q hw=>by simp[cH] at hc; subst hc; exact ⟨_,T,h,.exit,⟨.refl _,Ri _⟩,hw⟩,fun l rest h=>by simp[findLabel] at h⟩
 | ret=>exact ⟨fun sc hc T h Q hw=>by simp[cH] at hc; subst hc; exact ⟨_,T,h,.ret,⟨.refl _,Ri _⟩,hw⟩,fun l rest h=>by simp[findLabel] at h⟩
 | label l'=>exact ⟨fun sc hc T h Q hw=>by simp[cH] at hc; subst hc; exact ⟨_,T,h,.label,⟨.refl _,Ri _⟩,hw⟩,fun l rest h=>by
   simp only[findLabel] at h
   split at h
   ·simp only[Q8] at h; subst h; exact Ch
   ·simp at h⟩
 | goto l'=>exact ⟨fun sc hc T h Q hw=>by simp[cH] at hc; subst hc; exact ⟨_,T,h,.goto,⟨.refl _,Ri _⟩,hw⟩,fun l rest h=>by simp[findLabel] at h⟩
 | scope c ih=>exact ⟨Ji ih.1 ih.2,fun l rest h=>by simp[findLabel] at h⟩
 | _=>exact ⟨fun sc hc=>by simp[cH] at hc,fun l rest h=>by simp[findLabel] at h⟩
theorem PV (hm:P.follows .mixedOrders=true) {fz:List Nat} (c:Code) (sc:SC) (hc:cH P n fz c=some sc) (T:Env) (h:aE) (Q:Exit→Env→View→Prop) (hw:wS P sc T h.view Q) :
 ∃ e T' h',cy P n c T h e T' h'∧(iB h h'∧h.length≤h'.length)∧Q e T' h'.view:=(Mn hm c).1 sc hc T h Q hw
theorem PN {T:Env} {h:aE} {r:ResultVar} {l:List SR} {rest:List ResultVar} (hc:eW P (r :: rest)=some l):∃ s l',l=s :: l'∧eW P rest=some l'∧∀ K:V→Prop,wR T h.view s K→∃ v,qB P T h r=some v∧K v:=by
 cases r with
 | tmp t =>
  simp only[eW,Rf] at hc
  obtain ⟨l',h1,rfl⟩:=hc
  exact ⟨.tmp t,l',rfl,h1,fun K hk=>⟨_,rfl,hk⟩⟩
 | cell a t =>
  simp only[eW] at hc
  split at hc
  ·rename_i k l' h1 h2
   simp at hc; subst hc
   refine ⟨.cell a k,l',rfl,h2,fun K hk=>?_⟩
   simp only[wR] at hk
   simp only[qB,kW,te h1]
   split at hk
   ·rename_i id i j ha
    split at hk
    ·rename_i es hH
     obtain ⟨hlt,hk⟩:=hk
     obtain ⟨v,hv,hk⟩:=nU hk
     exact ⟨v,by rw[ha]; simp only[hH]; rw[Ra hlt,hv]; rfl,hk⟩
    ·exact hk.elim
   ·rename_i e j ha
    obtain ⟨v,hv,hk⟩:=nU hk
    exact ⟨v,by rw[ha]; simp only; rw[hv]; rfl,hk⟩
   ·exact hk.elim
  ·simp at hc
theorem Kr {T:Env} {h:aE} {K:List V→Prop} : ∀ (rs:List ResultVar) (l:List SR) (acc:List V),eW P rs=some l→za T h.view l acc K→∃ vs,kJ P T h rs=some vs∧K (acc ++ vs)
 | [],l,acc,hc,hw=>by simp[eW] at hc; subst hc; exact ⟨[],rfl,by simpa [za] using hw⟩
 | r :: rest,l,acc,hc,hw=>by
  obtain ⟨s,l',rfl,h1,h2⟩:=PN (T:=T) (h:=h) hc
  simp only[za] at hw
  obtain ⟨v,hv,hk⟩:=h2 _ hw
  obtain ⟨vs,hvs,hk⟩:=Kr rest l' (acc ++ [v]) h1 hk
  exact ⟨v :: vs,by simp[kJ,hv,hvs],by simpa using hk⟩
def wF (P:Program) (F:SF) (vs:List V) (H:View) (K:V→View→Prop):Prop :=
 vs.length≤F.n∧wS P F.code (kh vs) H fun e T' H'=>(e=.ret∨e=.normal)∧za T' H' F.res [] fun l=>K (ah l) H'
theorem aB.of (hm:P.follows .mixedOrders=true) {f:FuncId} {fz:List Nat} {F:SF} (hF:aU P f fz=some F) {vs:List V} {H:View} {K:V→View→Prop} (hw:wF P F vs H K):aB P f vs H K:=by
 unfold aU at hF
 split at hF
 ·rename_i fn hfn
  split at hF
  ·rename_i c hb
   split at hF
   ·rename_i sc rs h1 h2 h3
    simp at hF; subst hF
    refine ⟨h3,?_⟩
    rintro h rfl
    obtain ⟨e,T',h',hx,st,he,hr⟩:=PV hm c sc h1 _ h _ hw.2
    obtain ⟨vs',hvs,hk⟩:=Kr _ _ [] h2 hr
    refine ⟨ah vs',h',bH.GO hfn hb hw.1 hx he ?_,st.1,by simpa using hk⟩
    unfold Ih
    rw[hvs]
    cases vs' with
    | nil=>rfl
    | cons a l=>cases l <;> rfl
   ·simp at hF
  ·simp at hF
 ·simp at hF
theorem aB.mono {f:FuncId} {vs:List V} {H:View} {K K':V→View→Prop} (h:aB P f vs H K) (hk:∀ r H',K r H'→K' r H'):aB P f vs H K' :=
 ⟨h.1,fun h0 e=>let ⟨r,h',a,s,b⟩:=h.2 h0 e; ⟨r,h',a,s,hk _ _ b⟩⟩
theorem aG.IQ {f:FuncId} {vs:List V} {H:View} {t:V} {K:V→View→Prop} (h:aG P f vs t) (hok:db P f=true) (hk:K t H):Ae P f vs H K :=
 ⟨hok,fun h0 e=>⟨t,h0,bH.fy h h0,fun _ _=>rfl,e ▸ hk⟩⟩
theorem aB.IQ {f:FuncId} {vs:List V} {H:View} {K:V→View→Prop} (h:aB P f vs H fun r H'=>(∀ id,H id≠.dead→H' id=H id)∧K r H'):Ae P f vs H K :=
 ⟨h.1,fun h0 e=>by
  obtain ⟨r,h',ha,st,hf,hk⟩:=h.2 h0 e
  refine ⟨r,h',ha,fun id hid=>?_,hk⟩
  by_cases hd:h0.view id=.dead
  ·rw[hd]; exact st id hid hd
  ·rw[← e] at hf; exact hf id hd⟩
end
inductive bX {α:Type} (x:α):Type where
 | mk
def eO (s:ByteArray):List Int:=s.data.toList.map fun b=>(b.toNat:Int)
theorem ef (s:ByteArray):s.size=(eO s).length:=by rw[eO,Ro,bsize]
def bg (P:Program) (c:SC) (T:Env) (H:View) (Q:Exit→Env→View→Prop) (_:bX (T,H,Q)):Prop:=wS P (.loop c) T H Q
def O0 (P:Program) (l:Nat) (c r:SC) (T:Env) (H:View) (Q:Exit→Env→View→Prop) (_:bX (T,H,Q)):Prop:=wS P (.scope l c r) T H Q
def aF (P:Program) (quiet:Bool) (f:FuncId) (vs:List V) (H:View) (K:V→View→Prop) (_:bX (H,K)):Prop :=
 if quiet then Ae P f vs H K else aB P f vs H K
def An {α:Type} (v:α) (F:α→Prop) (_:bX F):Prop:=F v
def dw (v:V) (F:V→Prop) (_:bX F):Prop:=F v
def E8 (o:dh) (F:dh→Prop) (_:bX F):Prop:=F o
def oA {α:Type} (o:Option α) (F:Option α→Prop) (_:bX F):Prop:=F o
def aq (b:Bool) (A B:Prop) (_:bX (A,B)):Prop:=(b=true→A)∧(b=false→B)
theorem Qa {α:Type} (v:α) (F:α→Prop) (w:bX F):An v F w=F v:=propext Iff.rfl
section
variable (F:V→Prop) (w:bX F)
theorem GF (v:Value):dw (.val v) F w=F (.val v):=propext Iff.rfl
theorem He (k:Nat):dw (.emp k) F w=F (.emp k):=propext Iff.rfl
theorem Hh:dw .dt F w=F .dt:=propext Iff.rfl
theorem Hp (es:List (List V)):dw (.aH es) F w=F (.aH es):=propext Iff.rfl
theorem Lo (a b c d:Nat):dw (.sl a b c d) F w=F (.sl a b c d):=propext Iff.rfl
theorem GQ (a b c:Nat):dw (.ptr a b c) F w=F (.ptr a b c):=propext Iff.rfl
theorem DN (e:List V) (j:Nat):dw (.aL e j) F w=F (.aL e j):=propext Iff.rfl
theorem KC (a:Nat):dw (.mp a) F w=F (.mp a):=propext Iff.rfl
theorem JK (f:FuncId) (a b:List V):dw (.fn f a b) F w=F (.fn f a b):=propext Iff.rfl
theorem G6 (cs:List V):dw (.agg cs) F w=F (.agg cs):=propext Iff.rfl
theorem Hq (cs:List V):dw (.bt cs) F w=F (.bt cs):=propext Iff.rfl
end
theorem GX (F:dh→Prop) (w:bX F) (k:Nat) (es:List (List V)):E8 (.arr k es) F w=F (.arr k es):=propext Iff.rfl
theorem Gl (F:dh→Prop) (w:bX F) (es:List (V × V × Nat)) (k:Nat):E8 (.map es k) F w=F (.map es k):=propext Iff.rfl
theorem Ep {α:Type} (F:Option α→Prop) (w:bX F) (x:α):oA (some x) F w=F (some x):=propext Iff.rfl
theorem Dk (A B:Prop) (w:bX (A,B)):aq true A B w=A:=by simp[aq]
theorem BD (A B:Prop) (w:bX (A,B)):aq false A B w=B:=by simp[aq]
theorem GP (b:Bool) (A B:Prop) (w:bX (A,B)):aq (!b) A B w=aq b B A .mk:=by cases b <;> simp[aq]
theorem aq.split {b:Bool} {A B:Prop} {w:bX (A,B)} (h1:b=true→A) (h2:b=false→B):aq b A B w:=⟨h1,h2⟩
theorem aq.dec {p:Prop} [Decidable p] {A B:Prop} {w:bX (A,B)} (h1:p→A) (h2:¬ p→B):aq (decide p) A B w:=⟨fun h=>h1 (by simpa using h),fun h=>h2 (by simpa using h)⟩
theorem aq.eq {a b:Int} {A B:Prop} {w:bX (A,B)} (h1:a=b→A) (h2:¬ a=b→B):aq (a == b) A B w:=⟨fun h=>h1 (by simpa using h),fun h=>h2 (by simpa using h)⟩
theorem aq.ne {a b:Int} {A B:Prop} {w:bX (A,B)} (h1:¬ a=b→A) (h2:a=b→B):aq (a != b) A B w:=⟨fun h=>h1 (by simpa using h),fun h=>h2 (by simpa using h)⟩
section
variable (P:Program) (T:Env) (H:View)
theorem NP (F:SF) (vs:List V) (K:V→View→Prop):wF P F vs H K=(vs.length≤F.n∧wS P F.code (kh vs) H fun e T' H'=>(e=.ret∨e=.normal)∧za T' H' F.res [] fun l=>An (ah l) (fun v=>K v H') .mk):=propext Iff.rfl
theorem Ha (Q:Exit→Env→View→Prop):wS P .skip T H Q=Q .normal T H:=propext Iff.rfl
theorem B7 (q:Bool) (gs:List SG) (Q:Exit→Env→View→Prop):wS P (.region q gs) T H Q=uG P q gs T H (Q .normal):=propext Iff.rfl
theorem z6 (aps:List (Nat × Nat)) (gs:List SG) (Q:Exit→Env→View→Prop):wS P (.pT aps gs) T H Q=uG P false gs T H (fun T' H'=>vt aps T' (Q .normal T' H')):=propext Iff.rfl
theorem zJ (tol:Nat × Nat × Nat) (aps:List (Nat × Nat)) (gs:List SG) (Q:Exit→Env→View→Prop):wS P (.Bq tol aps gs) T H Q=uG P false gs T H (fun T' H'=>IH P tol.1 (T' tol.2.1) (T' tol.2.2) H∧vt aps T' (Q .normal T' H')):=propext Iff.rfl
theorem Hc (K:Prop):vt [] T K=K:=propext Iff.rfl
theorem EH (a b:Nat) (l:List (Nat × Nat)) (K:Prop):vt ((a,b) :: l) T K=(ig (T a) (T b)∧vt l T K):=propext Iff.rfl
theorem GI (i j k i' j' k':Nat):ig (.ptr i j k) (.ptr i' j' k')=(i≠i'):=propext Iff.rfl
theorem wV (i j k a b c d:Nat):ig (.ptr i j k) (.sl a b c d)=(i≠a):=propext Iff.rfl
theorem tf (i j k e:Nat):ig (.ptr i j k) (.emp e)=True:=id rfl
theorem Ed (i j k:Nat):ig (.ptr i j k) .dt=True:=id rfl
theorem DI (i j k:Nat) (es:List (List V)):ig (.ptr i j k) (.aH es)=True:=id rfl
theorem HE (a b c d e f g h:Nat):ig (.sl a b c d) (.sl e f g h)=(a≠e):=propext Iff.rfl
theorem KU (a b c d e:Nat):ig (.sl a b c d) (.emp e)=True:=id rfl
theorem JL (a b c d:Nat):ig (.sl a b c d) .dt=True:=id rfl
theorem Kb (a b c d:Nat) (es:List (List V)):ig (.sl a b c d) (.aH es)=True:=id rfl
theorem Gj (k:Nat) (v:V):ig (.emp k) v=True:=by cases v <;> rfl
theorem Hd (v:V):ig .dt v=True:=by cases v <;> rfl
theorem Gn (es:List (List V)) (v:V):ig (.aH es) v=True:=by cases v <;> rfl
theorem Fu (e:List V) (j:Nat) (v:V):ig (.aL e j) v=True:=by cases v <;> rfl
theorem LD (x y:SC) (Q:Exit→Env→View→Prop):wS P (.seq x y) T H Q=wS P x T H fun e T' H'=>xQ e (wS P y T' H' Q) (Q e T' H'):=propext Iff.rfl
theorem G1 (c:SX) (x y:SC) (Q:Exit→Env→View→Prop):wS P (.cond c x y) T H Q=dw (c.at T) (fun v=>match v with
 | .val (.bool b)=>aq b (wS P x (oo c true T) H Q) (wS P y (oo c false T) H Q) .mk
 | _=>False) .mk:=propext Iff.rfl
theorem Fv (id:Nat) (c:SC) (Q:Exit→Env→View→Prop):wS P (.block id c) T H Q=wS P c T H fun e=>Q (ov id e):=propext Iff.rfl
theorem GD (id:Nat) (Q:Exit→Env→View→Prop):wS P (.exit id) T H Q=Q (.exit id) T H:=propext Iff.rfl
theorem K4 (Q:Exit→Env→View→Prop):wS P .ret T H Q=Q .ret T H:=propext Iff.rfl
theorem Ey (l:Nat) (c r:SC) (Q:Exit→Env→View→Prop):wS P (.scope l c r) T H Q=O0 P l c r T H Q .mk:=propext Iff.rfl
theorem DE (l:Nat) (Q:Exit→Env→View→Prop):wS P (.label l) T H Q=Q .normal T H:=propext Iff.rfl
theorem Hv (l:Nat) (Q:Exit→Env→View→Prop):wS P (.goto l) T H Q=Q (.goto l) T H:=propext Iff.rfl
theorem zQ (l l':Nat) (a b:Prop):xb l (.goto l') a b=(l'=l∧a):=propext Iff.rfl
theorem vz (l:Nat) (a b:Prop):xb l .normal a b=b:=propext Iff.rfl
theorem ze (l i:Nat) (a b:Prop):xb l (.exit i) a b=b:=propext Iff.rfl
theorem CG (l:Nat) (a b:Prop):xb l .ret a b=b:=propext Iff.rfl
theorem FB (l:Nat) (a b:Prop):xQ (.goto l) a b=b:=propext Iff.rfl
theorem zM (i l:Nat):ov i (.goto l)=.goto l:=id rfl
theorem Gm (c:SC) (Q:Exit→Env→View→Prop):wS P (.loop c) T H Q=bg P c T H Q .mk:=propext Iff.rfl
theorem GW (q:Bool) (K:Env→View→Prop):uG P q [] T H K=K T H:=propext Iff.rfl
theorem Dt (q:Bool) (g:SG) (r:List SG) (K:Env→View→Prop):uG P q (g :: r) T H K=wG P q g T H fun T' H'=>uG P q r T' H' K:=propext Iff.rfl
theorem Gg (q:Bool) (ops:List (Option Nat × SB)) (K:Env→View→Prop):wG P q ⟨none,ops⟩ T H K=vD P q ops T H K:=propext Iff.rfl
theorem GJ (q:Bool) (d:Nat) (ops:List (Option Nat × SB)) (K:Env→View→Prop):wG P q ⟨some (d,true),ops⟩ T H K=dw (T d) (fun v=>match v with
 | .val (.bool b)=>aq b (vD P q ops (T.put (some d) (.val (.bool true))) H K) (K (ic ops (T.put (some d) (.val (.bool false)))) H) .mk
 | .bt []=>K (ic ops T) H
 | _=>False) .mk:=propext Iff.rfl
theorem E6 (q:Bool) (d:Nat) (ops:List (Option Nat × SB)) (K:Env→View→Prop):wG P q ⟨some (d,false),ops⟩ T H K=dw (T d) (fun v=>match v with
  | .val (.bool b)=>aq b (K (ic ops (T.put (some d) (.val (.bool true)))) H) (vD P q ops (T.put (some d) (.val (.bool false))) H K) .mk
  | .bt []=>K (ic ops T) H
  | _=>False) .mk:=by
 simp only[wG,dw]
 generalize T d=v
 cases v with
 | val x=>cases x <;> simp[aq,and_comm]
 | bt l=>cases l <;> simp
 | _=>simp
theorem xC:ic [] T=T:=id rfl
theorem wE (d:Option Nat) (b:SB) (r:List (Option Nat × SB)):ic ((d,b) :: r) T=ic r (T.put d (.bt [])):=id rfl
theorem GA (q:Bool) (K:Env→View→Prop):vD P q [] T H K=K T H:=propext Iff.rfl
theorem ET (q:Bool) (d:Option Nat) (b:SB) (r:List (Option Nat × SB)) (K:Env→View→Prop):vD P q ((d,b) :: r) T H K=wB P q b T H fun v H'=>An v (fun v'=>vD P q r (T.put d v') H' K) .mk:=propext Iff.rfl
theorem NQ (q:Bool) (s:SI) (K:V→View→Prop):wB P q (.op s) T H K=wI P s T H K:=propext Iff.rfl
theorem G0 (q:Bool) (f:SX) (args:List SX) (K:V→View→Prop):wB P q (.call f args) T H K=dw (f.at T) (fun v=>match v with
 | .fn g first cap=>aF P q g (first ++ args.map (SX.at T) ++ cap) H K .mk
 | _=>False) .mk:=propext Iff.rfl
theorem Dp (q:Bool) (f:SX) (args:List SX) (K:V→View→Prop):wB P q (.w5 f args) T H K=dw (f.at T) (fun v=>match v with
 | .fn g first cap=>aF P true g (first ++ args.map (SX.at T) ++ cap) H K .mk
 | _=>False) .mk:=propext Iff.rfl
theorem Ly (x:SX) (K:V→View→Prop):wI P (.bN x) T H K=K (x.at T) H:=propext Iff.rfl
theorem GU (c a b:SX) (K:V→View→Prop):wI P (.pick c a b) T H K=dw (c.at T) (fun v=>match v with
  | .val (.bool t)=>aq t (K (a.at T) H) (K (b.at T) H) .mk
  | _=>False) .mk:=by
 simp only[wI,dw]
 generalize c.at T=v
 cases v with
 | val x =>
  cases x with
  | bool t=>cases t <;> simp[aq]
  | _=>simp
 | _=>simp
theorem K0 (x:SX) (K:V→View→Prop):wI P (.box x) T H K=dw (x.at T) (fun v=>v.cells.all aS=true∧An v.cells (fun cs=>∀ n,H n=.dead→K (.ptr n 0 0) (H.set n (.arr cs.length [cs]))) .mk) .mk:=propext Iff.rfl
theorem KM (x:SX) (K:V→View→Prop):wI P (.iK x) T H K=dw (x.at T) (fun v=>v.cells.all aS=true∧An v.cells (fun cs=>K (.aL cs 0) H) .mk) .mk:=propext Iff.rfl
theorem EM (z:List V) (K:V→View→Prop):wI P (.alloc z) T H K=(z.all aS=true∧∀ n,H n=.dead→K (.ptr n 0 0) (H.set n (.arr z.length [z]))):=propext Iff.rfl
theorem Ho (sz:Option Nat) (a:SX) (K:V→View→Prop):wI P (.load sz a) T H K=dw (a.at T) (fun v=>match v with
 | .ptr id i j=>E8 (H id) (fun o=>match o with
  | .arr _ es=>i < es.length∧An (es.getD i []) (fun e=>jb sz e j fun v=>K v H) .mk
  | _=>False) .mk
 | .aL e j=>jb sz e j fun v=>K v H
 | _=>False) .mk:=propext Iff.rfl
theorem DG (sz:Option Nat) (a:SX) (K:V→View→Prop):wI P (.xj sz a) T H K=dw (a.at T) (fun v=>match v with
 | .aL e j=>jb sz e j fun v=>K v H
 | _=>False) .mk:=propext Iff.rfl
theorem DQ (sz:Nat) (a x:SX) (K:V→View→Prop):wI P (.store sz a x) T H K=dw (a.at T) (fun v=>match v with
 | .ptr id i j=>E8 (H id) (fun o=>match o with
  | .arr esz es=>An (x.at T).cells (fun cs=>(i < es.length∧cs.length=sz∧j+cs.length≤esz∧cs.all aS=true) ∧
   An (es.set i (aa (es.getD i []) j cs)) (fun es'=>K .any (H.set id (.arr esz es'))) .mk) .mk
  | _=>False) .mk
 | _=>False) .mk:=propext Iff.rfl
theorem HJ (x:SX) (K:V→View→Prop):wI P (.yB x) T H K=dw (x.at T) (fun v=>match v with
 | .ptr id i j=>K (.ptr id i j) H
 | .aL e j=>K (.aL e j) H
 | .fn f a b=>K (.fn f a b) H
 | _=>False) .mk:=propext Iff.rfl
theorem Hi (off:Nat) (x:SX) (K:V→View→Prop):wI P (.addr off x) T H K=dw (x.at T) (fun v=>match v with
 | .ptr id i j=>K (.ptr id i (j+off)) H
 | .aL e j=>K (.aL e (j+off)) H
 | _=>False) .mk:=propext Iff.rfl
theorem Dz (off:Nat) (sz:Option Nat) (x:SX) (K:V→View→Prop):wI P (.field off sz x) T H K=dw (x.at T) (fun v=>match v with
 | .agg cs=>jb sz cs off fun v=>K v H
 | _=>False) .mk:=propext Iff.rfl
theorem KR (sz:Nat) (x i:SX) (K:V→View→Prop):wI P (.idx sz x i) T H K=oA (asNat (i.at T)) (fun o=>match o with
  | none=>False
  | some q=>dw (x.at T) (fun v=>match v with
   | .sl id off len esz=>(q < len∧esz=sz)∧K (.ptr id (off+q) 0) H
   | .aH es=>oA es[q]? (fun o=>match o with
    | some e=>e.length=sz∧K (.aL e 0) H
    | none=>False) .mk
   | _=>False) .mk) .mk:=by
 simp only[wI,oA,dw]
 cases asNat (i.at T) with
 | none=>rfl
 | some q =>
  simp only
  cases x.at T with
  | aH es =>
   simp only
   cases h:es[q]? with
   | none=>simp
   | some e=>simp
  | _=>rfl
theorem Hf (f:FuncId) (first cap:List SX) (K:V→View→Prop):wI P (.qk f first cap) T H K=K (.fn f (first.map (SX.at T)) (cap.map (SX.at T))) H:=propext Iff.rfl
theorem DT (K:V→View→Prop):wI P .mJ T H K=(∀ n,H n=.dead→K (.mp n) (H.set n (.map [] 0))):=propext Iff.rfl
theorem Jm (i:Nat) (x:SX) (K:V→View→Prop):wI P (.ext i x) T H K=dw (x.at T) (fun v=>match v with
 | .bt vs=>i < vs.length∧K (vs.getD i .any) H
 | _=>False) .mk:=propext Iff.rfl
theorem Kj (x:SX) (K:V→View→Prop):wI P (.len x) T H K=oA (cY (x.at T)) (fun o=>match o with
 | some n=>K (ak n) H
 | none=>False) .mk:=propext Iff.rfl
theorem Hn (x:SX) (K:V→View→Prop):wI P (.nK x) T H K=dw (x.at T) (fun v=>match v with
 | .val (.string s)=>K (ak s.size) H
 | _=>False) .mk:=propext Iff.rfl
theorem EN (op:BinOp) (x y:SX) (K:V→View→Prop):wI P (.arith op x y) T H K=dw (x.at T) (fun v=>dw (y.at T) (fun v'=>match v,v' with
 | .val (.int k a),.val (.int k' b)=>k=k'∧oA (ag op k a b) (fun o=>match o with | some v=>K (.val v) H | none=>False) .mk
 | _,_=>False) .mk) .mk:=propext Iff.rfl
theorem NL (l:Bool) (x y:SX) (K:V→View→Prop):wI P (.sh l x y) T H K=dw (x.at T) (fun v=>dw (y.at T) (fun v'=>match v,v' with
 | .val (.int k a),.val (.int _ b)=>0≤b∧K (.val (.int k (AH l k a b))) H
 | _,_=>False) .mk) .mk:=propext Iff.rfl
theorem Jt (op:BinOp) (x y:SX) (K:V→View→Prop):wI P (.uU op x y) T H K=dw (x.at T) (fun v=>dw (y.at T) (fun v'=>match v,v' with
 | .val (.string a),.val (.string b)=>(match op with
  | .eql=>K (.val (.bool (ir a b))) H
  | .neq=>K (.val (.bool (!ir a b))) H
  | _=>False)
 | _,_=>False) .mk) .mk:=propext Iff.rfl
theorem Gk (x i:SX) (K:V→View→Prop):wI P (.gU x i) T H K=dw (x.at T) (fun v=>oA (asNat (i.at T)) (fun o=>match v,o with
  | .val (.string s),some q=>oA (eO s)[q]? (fun o=>match o with
   | some c=>K (.val (.int .u8 c)) H
   | none=>False) .mk
  | _,_=>False) .mk) .mk:=by
 simp only[wI,oA,dw]
 generalize x.at T=v
 generalize asNat (i.at T)=o
 cases v with
 | val u =>
  cases u with
  | string s =>
   cases o with
   | none=>rfl
   | some q =>
    simp only[eO,Rc]
    cases h:s.data.toList[q]? with
    | none=>simp
    | some e=>simp
  | _=>rfl
 | _=>rfl
theorem Jj (x:SX) (K:V→View→Prop):wI P (.not x) T H K=dw (x.at T) (fun v=>match v with
 | .val (.bool t)=>K (.val (.bool (!t))) H
 | _=>False) .mk:=propext Iff.rfl
theorem Lb (eq:Bool) (k:Nat) (x y:SX) (K:V→View→Prop):wI P (.nil eq k x y) T H K=oA (ai (ae k (x.at T)) (ae k (y.at T))) (fun o=>match o with
 | some b=>K (.val (.bool (if eq=true then b else !b))) H
 | none=>False) .mk:=propext Iff.rfl
theorem HI (x y:SX) (K:V→View→Prop):wI P (.beq true x y) T H K=dw (x.at T) (fun v=>dw (y.at T) (fun v'=>match v,v' with
 | .val (.bool a),.val (.bool b)=>K (.val (.bool (a == b))) H
 | _,_=>False) .mk) .mk:=propext Iff.rfl
theorem HG (x y:SX) (K:V→View→Prop):wI P (.beq false x y) T H K=dw (x.at T) (fun v=>dw (y.at T) (fun v'=>match v,v' with
 | .val (.bool a),.val (.bool b)=>K (.val (.bool (a != b))) H
 | _,_=>False) .mk) .mk:=propext Iff.rfl
theorem LP (x y:SX) (K:V→View→Prop):wI P (.mm true x y) T H K=dw (x.at T) (fun v=>dw (y.at T) (fun v'=>match v,v' with
 | .val (.int k a),.val (.int _ b)=>K (.val (.int k (if b > a then b else a))) H
 | _,_=>False) .mk) .mk:=propext Iff.rfl
theorem Kx (x y:SX) (K:V→View→Prop):wI P (.mm false x y) T H K=dw (x.at T) (fun v=>dw (y.at T) (fun v'=>match v,v' with
 | .val (.int k a),.val (.int _ b)=>K (.val (.int k (if b < a then b else a))) H
 | _,_=>False) .mk) .mk:=propext Iff.rfl
theorem GV (k:IntKind) (x:SX) (K:V→View→Prop):wI P (.conv k x) T H K=dw (x.at T) (fun v=>match v with
 | .val (.int _ a)=>K (.val (.int k (k.wrap a))) H
 | _=>False) .mk:=propext Iff.rfl
theorem DW (n k:Nat) (o:dh):View.set H n o k=if k=n then o else H k:=id rfl
theorem Ek (z:List V) (parts:List (Nat × Nat × SX)) (K:V→View→Prop):wI P (.build z parts) T H K=oA (ab z (parts.map fun p=>(p.1,p.2.1,p.2.2.at T))) (fun o=>match o with
 | some cs=>K (.agg cs) H
 | none=>False) .mk:=propext Iff.rfl
theorem BB (len sz:Nat) (z:List V) (parts:List (Nat × SX)) (K:V→View→Prop):wI P (.c4 len sz z parts) T H K=oA (af sz (List.replicate len z) (parts.map fun p=>(p.1,p.2.at T))) (fun o=>match o with
 | some es=>∀ n,H n=.dead→K (.sl n 0 len sz) (H.set n (.arr sz es))
 | none=>False) .mk:=propext Iff.rfl
theorem EB (sz:Nat) (x:SX) (lo hi:Option SX) (K:V→View→Prop):wI P (.slice sz x lo hi) T H K=oA (eQ sz (x.at T) (lo.map (SX.at T)) (hi.map (SX.at T))) (fun o=>match o with
 | some (v,.none,_)=>K v H
 | _=>False) .mk:=propext Iff.rfl
theorem Hk (sz bytes:Nat) (z:List V) (l c:SX) (K:V→View→Prop):wI P (.make sz bytes z l c) T H K=oA (asNat (l.at T)) (fun a=>oA (asNat (c.at T)) (fun b=>match a,b with
 | some l,some c=>(l≤c∧c < aK∧bytes * c < aK)∧(c=0→K (.emp 2) H)∧(c≠0→∀ n,H n=.dead→K (.sl n 0 l sz) (H.set n (.arr sz (List.replicate l z))))
 | _,_=>False) .mk) .mk:=propext Iff.rfl
def px (sz bytes:Nat) (x:V) (xs:List (List V)) (H:View) (K:V→View→Prop) (_:bX (H,K)):Prop:=if xs.isEmpty=true then (match x with
  | .emp k=>K (.emp k) H
  | .dt=>K .dt H
  | .aH es=>K (.aH es) H
  | .sl a b c d=>K (.sl a b c d) H
  | _=>False)
 else (xs.all fun e=>e.length == sz && e.all aS)=true∧(match x with
  | .emp _=>(xs.length * bytes < aK∧xs.length < aK)∧∀ n,H n=.dead→K (.sl n 0 xs.length sz) (H.set n (.arr sz xs))
  | .sl id off len esz=>match H id with
   | .arr _ es=>(off+len≤es.length∧esz=sz∧(len+xs.length) * bytes < aK∧len+xs.length < aK) ∧
    ∀ n,H n=.dead→K (.sl n 0 (len+xs.length) esz) ((H.set id .dead).set n (.arr esz ((es.drop off).take len ++ xs)))
   | _=>False
  | _=>False)
theorem K7 (sz bytes:Nat) (x y:SX) (K:V→View→Prop):wI P (.app sz bytes x y) T H K=oA (bR H (y.at T)) (fun o=>match o with
 | some (xs,_)=>px sz bytes (x.at T) xs H K .mk
 | none=>False) .mk:=propext Iff.rfl
theorem vT (sz bytes k:Nat) (xs:List (List V)) (K:V→View→Prop) (w:bX (H,K)) (h0:xs.isEmpty=false):px sz bytes (.emp k) xs H K w=((xs.all fun e=>e.length == sz && e.all aS)=true∧(xs.length * bytes < aK∧xs.length < aK)∧∀ n,H n=.dead→K (.sl n 0 xs.length sz) (H.set n (.arr sz xs))):=by
 unfold px; rw[Q9 (by rw[h0]; simp)]
theorem yn (sz bytes id off len esz:Nat) (xs:List (List V)) (K:V→View→Prop) (w:bX (H,K)) (h0:xs.isEmpty=false):px sz bytes (.sl id off len esz) xs H K w=((xs.all fun e=>e.length == sz && e.all aS)=true∧E8 (H id) (fun o=>match o with
  | .arr _ es=>(off+len≤es.length∧esz=sz∧(len+xs.length) * bytes < aK∧len+xs.length < aK) ∧
   ∀ n,H n=.dead→K (.sl n 0 (len+xs.length) esz) ((H.set id .dead).set n (.arr esz ((es.drop off).take len ++ xs)))
  | _=>False) .mk):=by
 unfold px E8; rw[Q9 (by rw[h0]; simp)]
theorem zd (id off len esz z:Nat) (es:List (List V)) (hH:H id=.arr z es) (hl:off+(len+1)≤es.length):bR H (.sl id off (len+1) esz)=some ((es.drop off).take (len+1),[id]):=by
 simp only[bR,hH]; rw[Ra hl]
theorem xq (es:List (List V)):bR H (.aH es)=some (es,[]):=id rfl
theorem xE (k:Nat):bR H (.emp k)=some ([],[]):=id rfl
theorem Hw (x:SX) (K:V→View→Prop):wI P (.AO x) T H K=dw (x.at T) (fun v=>match v with
 | .aH es=>oA (j9 es) (fun o=>match o with
  | some l=>K (.val (.string ⟨l.toArray⟩)) H
  | none=>False) .mk
 | _=>False) .mk:=propext Iff.rfl
theorem GG (x:SX) (K:V→View→Prop):wI P (.fv x) T H K=dw (x.at T) (fun v=>match v with
 | .val (.string s)=>K (.aH (fU s)) H
 | _=>False) .mk:=propext Iff.rfl
def jD (P:Program) (op:Op) (ty:TypeId) (T:Env) (H:View) (K:V→View→Prop) (_:bX (T,H,K)):Prop:=wI P (.old op ty) T H K
theorem JQ (op:Op) (ty:TypeId) (K:V→View→Prop):wI P (.old op ty) T H K=jD P op ty T H K .mk:=propext Iff.rfl
theorem Lk (t:Nat):ev T (.tmp t)=T t:=id rfl
theorem Ea (v:Value):ev T (.const v)=eE v:=id rfl
theorem KW (t:Nat):(SX.tmp t).at T=T t:=id rfl
theorem Lt (v:V):(SX.val v).at T=v:=id rfl
theorem GC (d t:Nat) (v:V):(T.put (some d) v) t=if t=d then v else T t:=id rfl
theorem DB (v:V):T.put none v=T:=id rfl
theorem DV (vs:List V) (t:Nat):kh vs t=vs.getD t .any:=id rfl
theorem zW (e:List V) (j:Nat) (K:V→Prop):jb none e j K=(j < e.length∧K (e.getD j .any)):=propext Iff.rfl
theorem yW (n:Nat) (e:List V) (j:Nat) (K:V→Prop):jb (some n) e j K=(j+n≤e.length∧K (.agg ((e.drop j).take n))):=propext Iff.rfl
theorem yV (a b:Prop):xQ .normal a b=a:=propext Iff.rfl
theorem Fk (i:Nat) (a b:Prop):xQ (.exit i) a b=b:=propext Iff.rfl
theorem HC (a b:Prop):xQ .ret a b=b:=propext Iff.rfl
theorem vl (i:Nat):ov i .normal=.normal:=id rfl
theorem CD (i:Nat):ov i .ret=.ret:=id rfl
theorem y9 (i j:Nat):ov i (.exit j)=if j=i then .normal else .exit j:=by simp only[ov]
theorem Hb (acc:List V) (K:List V→Prop):za T H [] acc K=K acc:=propext Iff.rfl
theorem DU (r:SR) (l:List SR) (acc:List V) (K:List V→Prop):za T H (r :: l) acc K=wR T H r fun v=>za T H l (acc ++ [v]) K:=propext Iff.rfl
theorem LL (t:Nat) (K:V→Prop):wR T H (.tmp t) K=K (T t):=propext Iff.rfl
theorem G2 (t:Nat) (sz:Option Nat) (K:V→Prop):wR T H (.cell t sz) K=dw (T t) (fun v=>match v with
 | .ptr id i j=>E8 (H id) (fun o=>match o with
  | .arr _ es=>i < es.length∧An (es.getD i []) (fun e=>jb sz e j K) .mk
  | _=>False) .mk
 | .aL e j=>jb sz e j K
 | _=>False) .mk:=propext Iff.rfl
theorem Cq (t:Nat) (b:Bool):oo (.tmp t) b T=T.put (some t) (.val (.bool b)):=id rfl
theorem CL (v:V) (b:Bool):oo (.val v) b T=T:=id rfl
theorem JA:(Exit.ret=Exit.ret∨Exit.ret=Exit.normal)=True:=by simp
theorem Cv:(Exit.normal=Exit.ret∨Exit.normal=Exit.normal)=True:=by simp
end
section
variable {P:Program} {T:Env} {H:View}
theorem bg.intro {c:SC} {Q:Exit→Env→View→Prop} {v:bX (T,H,Q)} (I:Nat→Env→View→Prop) (k:Nat) (h0:I k T H)
  (hs:∀ k T H,I k T H→wS P c T H fun e T' H'=>xQ e (∃ k',k' < k∧I k' T' H') (Q e T' H')):bg P c T H Q v:=by
 simp only[bg,wS]
 exact ⟨I,⟨k,h0⟩,hs⟩
theorem aF.pure {q:Bool} {f:FuncId} {vs:List V} {K:V→View→Prop} {v:bX (H,K)} {t:V} (hc:aG P f vs t) (hok:db P f=true) (hk:K t H):aF P q f vs H K v:=by
 unfold aF
 cases q with
 | true=>exact hc.IQ hok hk
 | false =>
  refine ⟨hok,?_⟩
  rintro h rfl
  exact ⟨t,h,bH.fy hc h,.refl _,hk⟩
theorem aF.eJ {f:FuncId} {vs:List V} {K:V→View→Prop} {v:bX (H,K)} (hc:aB P f vs H K):aF P false f vs H K v:=hc
theorem CK:aE.view []=fun _=>dh.dead:=by funext id; simp[aE.view]
theorem aG.of {f:FuncId} {vs:List V} {t:V} (ht:∀ v∈vs,Tree v) (h:aB P f vs (fun _=>.dead) fun r H'=>∀ h':aE,h'.view=H'→Fr h' r t):aG P f vs t:=by
 obtain ⟨r,h',ha,_,hf⟩:=h.2 [] CK
 exact aG.tv ht ha (hf h' rfl)
theorem wrap64 {x:Int} (h1 : -9223372036854775808≤x) (h2:x≤9223372036854775807):IntKind.wrap .i64 x=x:=by
 unfold IntKind.wrap
 have e1:(2:Int) ^ IntKind.i64.bits=18446744073709551616:=by rfl
 have e2:(2:Int) ^ (IntKind.i64.bits - 1)=9223372036854775808:=by rfl
 have e3:IntKind.i64.signed=true:=by rfl
 simp only[e1,e2,e3,Sq,Rn]
 split <;> omega
theorem Cg {k:IntKind} {i:Int} (h:0≤i):asNat (.val (.int k i))=some i.toNat:=by simp[asNat,h]
end
theorem BK (v:Value):V.cells (.val v)=[.val v]:=id rfl
theorem AS (v:Value):aS (.val v)=true:=id rfl
theorem Cp (k:Nat):V.cells (.emp k)=[.emp k]:=id rfl
theorem AV (k:Nat):aS (.emp k)=true:=id rfl
theorem Bx  : V.cells .dt=[.dt]:=id rfl
theorem HB  : aS .dt=true:=id rfl
theorem Cm (es:List (List V)):V.cells (.aH es)=[.aH es]:=id rfl
theorem Gp (es:List (List V)):aS (.aH es)=true:=id rfl
theorem Eg (a b c d:Nat):V.cells (.sl a b c d)=[.sl a b c d]:=id rfl
theorem K5 (a b c d:Nat):aS (.sl a b c d)=true:=id rfl
theorem Cn (a b c:Nat):V.cells (.ptr a b c)=[.ptr a b c]:=id rfl
theorem HM (a b c:Nat):aS (.ptr a b c)=true:=id rfl
theorem zk (e:List V) (j:Nat):V.cells (.aL e j)=[.aL e j]:=id rfl
theorem Ef (e:List V) (j:Nat):aS (.aL e j)=true:=id rfl
theorem Ee (a:Nat):V.cells (.mp a)=[.mp a]:=id rfl
theorem Lg (a:Nat):aS (.mp a)=true:=id rfl
theorem Fx (f:FuncId) (a b:List V):V.cells (.fn f a b)=[.fn f a b]:=id rfl
theorem J4 (f:FuncId) (a b:List V):aS (.fn f a b)=true:=id rfl
theorem CI (cs:List V):V.cells (.agg cs)=cs:=id rfl
theorem Gi (k:Nat):cY (.emp k)=some 0:=id rfl
theorem GN:cY .dt=some 0:=id rfl
theorem Gd (es:List (List V)):cY (.aH es)=some es.length:=id rfl
theorem LF (a b c d:Nat):cY (.sl a b c d)=some c:=id rfl
abbrev P7 {p:Prop} (_:p):Prop:=p
abbrev Wr:Prop:=P7 (And.intro @NP <| And.intro @Ha <| And.intro @B7 <| And.intro @z6 <| And.intro @zJ <| And.intro @Hc <| And.intro @EH <| And.intro @LD <|
 And.intro @G1 <| And.intro @Fv <| And.intro @GD <| And.intro @K4 <| And.intro @Ey <| And.intro @DE <| And.intro @Hv <| And.intro @zQ <| And.intro @vz <| And.intro @ze <| And.intro @CG <| And.intro @FB <| And.intro @zM <|
 And.intro @Gm <| And.intro @GW <| And.intro @Dt <| And.intro @Gg <|
 And.intro @GJ <| And.intro @E6 <| And.intro @xC <| And.intro @wE <|
 And.intro @GA <| And.intro @ET <| And.intro @NQ <| And.intro @G0 <| And.intro @Dp <|
 And.intro @Ly <| And.intro @GU <| And.intro @K0 <| And.intro @KM <|
 And.intro @EM <| And.intro @Ho <| And.intro @DG <| And.intro @DQ <|
 And.intro @HJ <| And.intro @Hi <| And.intro @Dz <| And.intro @KR <|
 And.intro @Hf <| And.intro @DT <| And.intro @Jm <| And.intro @Kj <|
 And.intro @Hn <| And.intro @EN <| And.intro @NL <| And.intro @Jt <| And.intro @Gk <|
 And.intro @Jj <| And.intro @Lb <| And.intro @HI <| And.intro @HG <|
 And.intro @LP <| And.intro @Kx <| And.intro @GV <| And.intro @Hw <|
 And.intro @GG <| And.intro @Ek <| And.intro @BB <| And.intro @EB <|
 And.intro @Hk <| And.intro @K7 <| And.intro @JQ <| And.intro @Lk <| And.intro @Ea <| And.intro @KW <| And.intro @Lt <|
 And.intro @GC <| And.intro @DB <| And.intro @DV <| And.intro @zW <|
 And.intro @yW <| And.intro @yV <| And.intro @Fk <| And.intro @HC <|
 And.intro @vl <| And.intro @CD <| And.intro @y9 <| And.intro @Hb <|
 And.intro @DU <| And.intro @LL <| And.intro @G2 <| And.intro @Cq @CL)
theorem wr:Wr:=⟨@NP,@Ha,@B7,@z6,@zJ,@Hc,@EH,@LD,@G1,@Fv,@GD,@K4,@Ey,@DE,@Hv,@zQ,@vz,@ze,@CG,@FB,@zM,@Gm,@GW,@Dt,@Gg,@GJ,@E6,@xC,@wE,@GA,@ET,@NQ,@G0,@Dp,@Ly,@GU,@K0,@KM,@EM,@Ho,@DG,@DQ,@HJ,@Hi,@Dz,@KR,@Hf,@DT,@Jm,@Kj,@Hn,@EN,@NL,@Jt,@Gk,@Jj,@Lb,@HI,@HG,@LP,@Kx,@GV,@Hw,@GG,@Ek,@BB,@EB,@Hk,@K7,@JQ,@Lk,@Ea,@KW,@Lt,@GC,@DB,@DV,@zW,@yW,@yV,@Fk,@HC,@vl,@CD,@y9,@Hb,@DU,@LL,@G2,@Cq,@CL⟩
abbrev Wq:Prop:=P7 (And.intro @eq_self.{1} <| And.intro @ne_eq.{1} <| And.intro @implies_true.{1} <| And.intro @implies_true.{0} <| And.intro @decide_true <| And.intro @decide_false <| And.intro @GI <| And.intro @wV <| And.intro @tf <| And.intro @Ed <| And.intro @DI <| And.intro @Fu <| And.intro @HE <| And.intro @KU <| And.intro @JL <| And.intro @Kb <| And.intro @Gj <| And.intro @Hd <| And.intro @Gn <| And.intro @BK <| And.intro @AS <| And.intro @Cp <| And.intro @AV <| And.intro @Bx <| And.intro @HB <| And.intro @Cm <| And.intro @Gp <| And.intro @Eg <| And.intro @K5 <| And.intro @Cn <| And.intro @HM <| And.intro @zk <| And.intro @Ef <| And.intro @Ee <| And.intro @Lg <| And.intro @Fx <| And.intro @J4 <| And.intro @CI <| And.intro @Gi <| And.intro @GN <| And.intro @Gd <| And.intro @LF <| And.intro @true_or <| And.intro @or_true <| And.intro @or_false <| And.intro @false_or <|
 And.intro @Qa <| And.intro @GF <| And.intro @He <| And.intro @Hh <|
 And.intro @Hp <| And.intro @Lo <| And.intro @GQ <| And.intro @DN <|
 And.intro @KC <| And.intro @JK <| And.intro @G6 <| And.intro @Hq <|
 And.intro @GX <| And.intro @Gl <| And.intro @Ep <| And.intro @Dk <|
 And.intro @BD <| And.intro @GP <| And.intro @List.getD_cons_zero.{0} <| And.intro @List.getD_cons_succ.{0} <|
 And.intro @List.length_cons.{0} <| And.intro @List.length_nil.{0} <| And.intro @List.length_map.{0,0} <| And.intro @wrap64 <|
 And.intro @true_and <| And.intro @and_true <| And.intro @and_self <| And.intro @Rn <|
 And.intro @SH <| And.intro @List.all_cons.{0} <| And.intro @List.all_nil.{0} <| And.intro @Bool.and_self <|
 And.intro @List.nil_append.{0} <| And.intro @List.cons_append.{0} <| And.intro @R8 <| And.intro @Cg <|
 And.intro @Rs <| And.intro @JA <| And.intro @Cv <| And.intro @bne_iff_ne.{0} <|
 And.intro @beq_iff_eq.{0} <| And.intro @Bool.not_eq_true <| And.intro @Tw <| And.intro @Bool.not_false <|
 And.intro @List.append_nil.{0} <| And.intro @List.map_cons.{0,0} <| And.intro @List.map_nil.{0,0} <| And.intro @Bool.true_eq_false <|
 And.intro @Ru <| And.intro @false_implies <| And.intro @true_implies <| And.intro @Bool.not_not <|
 And.intro @List.drop_zero.{0} <| And.intro @DW <| And.intro @List.set_cons_zero.{0} <| And.intro @List.set_cons_succ.{0} <|
 And.intro @List.drop_nil.{0} <| And.intro @S6 <| And.intro @List.replicate_zero.{0} <| And.intro @List.replicate_succ.{0} <|
 And.intro @xq <| And.intro @xE <| And.intro @vT <| And.intro @yn <|
 And.intro @List.isEmpty_cons.{0} <| And.intro @Option.map_none.{0,0} <| And.intro @Option.map_some.{0,0} <| And.intro @Nat.succ_ne_zero <|
 And.intro @List.take_succ_cons.{0} <| And.intro @List.take_zero.{0} <| And.intro @List.drop_succ_cons.{0} <| And.intro @bne_eq_false_iff_eq.{0} <|
 And.intro @beq_eq_false_iff_ne.{0} <| And.intro @not_true_eq_false <| And.intro @not_false_eq_true @Decidable.not_not)
theorem wq:Wq:=⟨@eq_self,@ne_eq,@implies_true,@implies_true,@decide_true,@decide_false,@GI,@wV,@tf,@Ed,@DI,@Fu,@HE,@KU,@JL,@Kb,@Gj,@Hd,@Gn,@BK,@AS,@Cp,@AV,@Bx,@HB,@Cm,@Gp,@Eg,@K5,@Cn,@HM,@zk,@Ef,@Ee,@Lg,@Fx,@J4,@CI,@Gi,@GN,@Gd,@LF,@true_or,@or_true,@or_false,@false_or,@Qa,@GF,@He,@Hh,@Hp,@Lo,@GQ,@DN,@KC,@JK,@G6,@Hq,@GX,@Gl,@Ep,@Dk,@BD,@GP,@Sh,@S4,@Rp,@RF,@Ro,@wrap64,@true_and,@and_true,@and_self,@Rn,@SH,@Sn,@List.all_nil,@Bool.and_self,@Sm,@RM,@R8,@Cg,@Rs,@JA,@Cv,@bne_iff_ne,@Sd,@Bool.not_eq_true,@Tw,@Bool.not_false,@SM,@RE,@List.map_nil,@Bool.true_eq_false,@Ru,@false_implies,@true_implies,@Bool.not_not,@SK,@DW,@List.set_cons_zero,@List.set_cons_succ,@List.drop_nil,@S6,@List.replicate_zero,@List.replicate_succ,@xq,@xE,@vT,@yn,@List.isEmpty_cons,@Option.map_none,@Rk,@Nat.succ_ne_zero,@List.take_succ_cons,@List.take_zero,@List.drop_succ_cons,@bne_eq_false_iff_eq,@beq_eq_false_iff_ne,@not_true_eq_false,@not_false_eq_true,@Decidable.not_not⟩
inductive yw:V→Prop
 | val (v:Value):yw (.val v)
 | bt (cs:List V):(∀ i,i < cs.length→∃ v,cs.getD i .any=.val v)→yw (.bt cs)
theorem No {Z Z':Nat→Prop} {μ μ':Mu} {hp hp':Array Obj} {t:V} {x:Value} (hf:yw t) (h:aA Z μ hp t x):aA Z' μ' hp' t x:=by
 cases hf with
 | val=>cases h with | val _ hv=>exact .val _ hv
 | bt cs hc =>
  cases h with
  | bt _ aas h1 h2 =>
   refine .bt _ _ h1 fun i hi=>?_
   have:=h2 i hi
   obtain ⟨v,hv⟩:=hc i hi
   rw[hv] at this ⊢
   generalize aas.getD i undef=y at this ⊢
   cases this with | val _ hv=>exact .val _ hv
theorem bH.borrow {P:Program} {f:FuncId} {ts vs:List V} {t:V} {h:aE} (hc:aG P f ts t) (hf:yw t) (hl:ts.length=vs.length)
  (hfr:∀ i,i < vs.length→Fr h (vs.getD i .any) (ts.getD i .any)):bH P f vs h t h:=by
 refine ⟨Ri _,fun Z μ F w xs hrel hr hfree=>?_⟩
 have hts:fi (fun b=>Z b∨iG μ b) μ w.heap ts xs:=⟨by rw[hl,hrel.1],fun i hi=>zj hr (hfr i (by omega)) (hrel.2 i (by omega))⟩
 have hzl:∀ b,(Z b∨iG μ b)→b < w.heap.size:=by
  rintro b (hb | ⟨id,o,s,hb⟩)
  ·exact hr.cg b hb
  ·exact hr.lt _ _ _ _ hb
 refine (hc _ μ w xs hts hzl).mono ?_
 rintro e w' ⟨x,Z',rfl,hv,hs,hz,hz',ho⟩
 have hm:gj Z Z μ μ w.heap w'.heap:=⟨fun _ h=>h,fun b hb=>ho b (hr.cg b hb) (fun x=>x),fun _ _ h=>h,ho.oB⟩
 exact ⟨x,Z,μ,rfl,No hf (hv μ),⟨fun id=>(hr.obj id).mono hm rfl (fun b o s hx=>ho b (hr.lt _ _ _ _ hx) (fun x=>x)),hr.inj,fun id b o s hx=>RC (hr.lt _ _ _ _ hx) hs.size,fun b hb=>RC (hr.cg b hb) hs.size,hr.gf⟩,
  ⟨hs,hm,fun b hb _=>ho b hb (fun x=>x),fun b hb=>.inl hb,fun _ _ _ _ h=>.inl h⟩,fun _ _=>rfl⟩
def fh (H:View) (v t:V):Prop:=∀ h:aE,h.view=H→Fr h v t
theorem fh.tree {H:View} {v:V} (h:Tree v):fh H v v:=fun _ _=>.tree _ h
theorem fh.sl {H:View} {id off len esz z:Nat} {es:List (List V)} (hH:H id=.arr z es) (hle:off+len≤es.length) (ht:∀ e∈es,∀ v∈e,Tree v) :
  fh H (.sl id off len esz) (.aH ((es.drop off).take len)):=by
 rintro h rfl
 have hg:∀ i,i < len→((es.drop off).take len).getD i []=es.getD (off+i) []:=fun i hi=>by
  simp[Q6,SE,hi]
 refine .sl id off len esz z es _ hH hle (by simp; omega) (fun i hi=>by rw[hg i hi]) (fun i j hi hj=>?_)
 rw[hg i hi] at hj ⊢
 refine .tree _ ?_
 have h1:off+i < es.length:=by omega
 have e1:es.getD (off+i) []=es[off+i]:=by simp[Q6,h1]
 rw[e1] at hj ⊢
 have e2:(es[off+i]).getD j .any=(es[off+i])[j]:=by simp[Q6,hj]
 rw[e2]
 exact ht _ (Rj _) _ (Rj _)
theorem aF.borrow {P:Program} {q:Bool} {f:FuncId} {H:View} {vs ts:List V} {K:V→View→Prop} {v:bX (H,K)} {t:V} (hc:aG P f ts t) (hok:db P f=true) (hf:yw t) (hl:ts.length=vs.length)
  (hfr:∀ i,i < vs.length→fh H (vs.getD i .any) (ts.getD i .any)) (hk:K t H):aF P q f vs H K v:=by
 unfold aF
 cases q with
 | true=>exact ⟨hok,fun h e=>⟨t,h,bH.borrow hc hf hl (fun i hi=>hfr i hi h e),fun _ _=>rfl,e ▸ hk⟩⟩
 | false =>
  refine ⟨hok,?_⟩
  rintro h rfl
  exact ⟨t,h,bH.borrow hc hf hl (fun i hi=>hfr i hi h rfl),.refl _,hk⟩
abbrev gi (x:Int):V:=.val (.int .i64 x)
abbrev gb (x:Bool):V:=.val (.bool x)
abbrev gs (x:ByteArray):V:=.val (.string x)
theorem mixed:(Tryz.prog).follows .mixedOrders=true:=by kernel_rfl
def encI (l:List Int):V:=.aH (l.map fun x=>[gi x])
def bG (l:List Bool):V:=.aH (l.map fun x=>[gb x])
theorem gD (l:List Int):Tree (encI l):=by
 refine .aH _ fun i j hi hj=>?_
 simp only[Ro] at hi
 simp[Q6,hi] at hj ⊢
 subst hj
 exact .val _
def aV {α:Type} (l:List α):Prop:=l.length < 4611686018427387904
theorem gG (l:List Bool):Tree (bG l):=by
 refine .aH _ fun i j hi hj=>?_
 simp only[Ro] at hi
 simp[Q6,hi] at hj ⊢
 subst hj
 exact .val _
structure Term where
 name:ByteArray
 level:Int
 assoc:Int
structure aM where
 left:Int
 right:List Int
 prec:Int
structure ao where
 av:List Term
 az:List ByteArray
 rules:List aM
 start:Int
instance:Inhabited Term:=⟨⟨.empty,0,0⟩⟩
instance:Inhabited aM:=⟨⟨0,[],0⟩⟩
def ca (t:Term):List V:=[gs t.name,gi t.level,gi t.assoc]
def aO (r:aM):List V:=[gi r.left,encI r.right,gi r.prec]
def encS (l:List ByteArray):V:=.aH (l.map fun s=>[gs s])
def aw (g:ao):List V:=[.aH (g.av.map ca),encS g.az,.aH (g.rules.map aO),gi g.start]
theorem eT {α:Type} (l:List α) (f:α→List V) (h:∀ x∈l,∀ v∈f x,Tree v):Tree (.aH (l.map f)):=by
 refine .aH _ fun i j hi hj=>?_
 simp only[Ro] at hi
 have e:(l.map f).getD i []=f l[i]:=by simp[Q6,hi]
 rw[e] at hj ⊢
 have e2:(f l[i]).getD j .any=(f l[i])[j]:=by simp[Q6,hj]
 rw[e2]
 exact h _ (Rj _) _ (Rj _)
theorem dS (cs:List V) (h:∀ v∈cs,Tree v):Tree (.agg cs):=by
 refine .agg _ fun i hi=>?_
 have e2:cs.getD i .any=cs[i]:=by simp[Q6,hi]
 rw[e2]; exact h _ (Rj _)
theorem uT (l:List ByteArray):Tree (encS l):=eT _ _ fun x _ v hv=>by simp at hv; subst hv; exact .val _
theorem qP (t:Term):∀ v∈ca t,Tree v:=by intro v hv; simp[ca] at hv; rcases hv with rfl | rfl | rfl <;> exact .val _
theorem fO (r:aM):∀ v∈aO r,Tree v:=by
 intro v hv; simp[aO] at hv; rcases hv with rfl | rfl | rfl
 ·exact .val _
 ·exact gD _
 ·exact .val _
theorem eX (g:ao):∀ v∈aw g,Tree v:=by
 intro v hv; simp[aw] at hv; rcases hv with rfl | rfl | rfl | rfl
 ·exact eT _ _ fun x _=>qP x
 ·exact uT _
 ·exact eT _ _ fun x _=>fO x
 ·exact .val _
def cm (x:Int):Prop:=-9223372036854775808≤x∧x≤9223372036854775807
structure ao.Ok (g:ao):Prop where
 av:aV g.av
 az:aV g.az
 rules:aV g.rules
 start:cm g.start
 term:∀ t∈g.av,cm t.level∧cm t.assoc
 aD:∀ r∈g.rules,cm r.left∧cm r.prec∧aV r.right∧∀ x∈r.right,cm x
def gP (g:ao) (s:Int):Bool:=if 0≤s then decide (s < g.av.length) else decide (-1 - s < g.az.length)
def ph:SF:=⟨.seq (an [dN 2 0,bK 4 false]) <|
 .seq (.seq (an [aj 5 1,aR 6 .geq 5 0]) <|
 .cond (.tmp 6) (.seq (an [aj 7 1,aC 8 0 2,ay 9 8,bj 10 9,bz 11 .lss 7 10,aj 4 11]) <|
 .ret) (.skip)) <|
 .seq (an [aj 12 1,((some 13),.op (.arith .sub (.val (.val (.int .i64 (-1)))) (.tmp 12))),aC 14 1 2,ay 15 14,bj 16 15,bz 17 .lss 13 16,aj 4 17]) <|
 .ret,
 [.tmp 4],18⟩
theorem uj:aU Tryz.prog 155 [2]=some ph:=by kernel_rfl
theorem OW (g:ao) (s:Int) (hs:cm s) (H:View):aB Tryz.prog 155 [.agg (aw g),gi s] H fun r H'=>r=gb (gP g s)∧H'=H:=by
 refine aB.of mixed uj ?_
 obtain ⟨h1,h2⟩:=hs
 simp (disch:=omega) only [↓wr,seval,wq,ah,ag,ak,aa,ab,af,ai,ae,ph,aw,encS]
 refine aq.dec (fun h=>?_) (fun h=>?_)
 ·simp (disch:=omega) only [↓wr,seval,wq,ah,ag,ak,aa,ab,af,ai,ae]
  simp[gP,show (0:Int)≤s from h]
 ·simp (disch:=omega) only [↓wr,seval,wq,ah,ag,ak,aa,ab,af,ai,ae]
  simp[gP,show ¬ (0:Int)≤s from h]
theorem Po (g:ao) (s:Int) (hs:cm s):aG Tryz.prog 155 [.agg (aw g),gi s] (gb (gP g s)) :=
 aG.of (by
  intro v hv; simp at hv
  rcases hv with rfl | rfl
  ·exact dS _ (eX g)
  ·exact .val _) ((OW g s hs _).mono fun r H' h h' _=>by rw[h.1]; exact .tree _ (.val _))
def mo (g:ao):Bool:=decide (40 < g.av.length) || decide (40 < g.az.length) || decide (60 < g.rules.length) || g.rules.any fun r=>decide (20 < r.right.length)
def lK:SC :=
 .seq (.seq (an [aj 20 3,aC 21 2 1,ay 22 21,bj 23 22,bz 24 .lss 20 23]) <|
 .cond (.tmp 24) (.skip) (.exit 0)) <|
 .seq (.block 1 (.seq (an [aC 27 2 1,ay 28 27,aj 29 3,aY 30 3 28 29,aC 31 1 30,ay 32 31,bj 33 32,aR 34 .gtr 33 20]) <|
 .cond (.tmp 34) (.seq (an [bK 2 true]) <|
 .ret) (.skip))) <|
 an [aj 25 3,aR 26 .add 25 1,aj 3 26]
def mW:SF:=⟨.seq (an [dN 1 0,bK 2 false]) <|
 .seq (.seq (.region false [⟨none,[aC 4 0 1,ay 5 4,bj 6 5,aR 7 .gtr 6 40,aj 8 7]⟩,⟨(some (8,false)),[aC 9 1 1,ay 10 9,bj 11 10,aR 12 .gtr 11 40]⟩,⟨none,[cU 13 8 12,aj 14 13]⟩,⟨(some (14,false)),[aC 15 2 1,ay 16 15,bj 17 16,aR 18 .gtr 17 60]⟩,⟨none,[cU 19 14 18]⟩]) <|
 .cond (.tmp 19) (.seq (an [bK 2 true]) <|
 .ret) (.skip)) <|
 .seq (.seq (an [bA 3 0]) <|
 .block 0 (.loop lK)) <|
 .seq (an [bK 2 false]) <|
 .ret,
 [.tmp 2],35⟩
theorem rJ:aU Tryz.prog 16 [1]=some mW:=by kernel_rfl
theorem MC (g:ao) (H:View):aB Tryz.prog 16 [.agg (aw g)] H fun r H'=>r=gb (mo g)∧H'=H:=by
 refine aB.of mixed rJ ?_
 simp (disch:=omega) only [↓wr,seval,wq,ah,ag,ak,aa,ab,af,ai,ae,mW,aw,encS]
 refine aq.dec (fun h1=>?_) (fun h1=>?_)
 ·simp (disch:=omega) only [↓wr,seval,wq,ah,ag,ak,aa,ab,af,ai,ae]
  simp[mo,show 40 < g.av.length by omega]
 ·simp (disch:=omega) only [↓wr,seval,wq,ah,ag,ak,aa,ab,af,ai,ae]
  refine aq.dec (fun h2=>?_) (fun h2=>?_)
  ·simp (disch:=omega) only [↓wr,seval,wq,ah,ag,ak,aa,ab,af,ai,ae]
   simp[mo,show 40 < g.az.length by omega]
  ·simp (disch:=omega) only [↓wr,seval,wq,ah,ag,ak,aa,ab,af,ai,ae]
   refine aq.dec (fun h3=>?_) (fun h3=>?_)
   ·simp (disch:=omega) only [↓wr,seval,wq,ah,ag,ak,aa,ab,af,ai,ae]
    simp[mo,show 60 < g.rules.length by omega]
   ·simp (disch:=omega) only [↓wr,seval,wq,ah,ag,ak,aa,ab,af,ai,ae]
    refine bg.intro (fun k T H'=>∃ i:Nat,i+k=g.rules.length∧(∀ r∈g.rules.take i,¬ 20 < r.right.length)∧T 1=.aL (aw g) 0∧T 3=gi i∧H'=H) g.rules.length ?_ ?_
    ·exact ⟨0,by omega,by simp,rfl,rfl,rfl⟩
    ·rintro k T H' ⟨i,hk,hi,e1,e3,rfl⟩
     simp (disch:=omega) only [↓wr,seval,wq,ah,ag,ak,aa,ab,af,ai,ae,lK,e1,e3,aw]
     refine aq.dec (fun hc=>?_) (fun hc=>?_)
     ·have hg:g.rules[i]?=some (g.rules[i]'(by omega)):=Q7 (by omega)
      simp (disch:=omega) only [↓wr,seval,wq,ah,ag,ak,aa,ab,af,ai,ae,e1,e3,aw,aO,encI,Rc,hg,Rk]
      refine aq.dec (fun hd=>?_) (fun hd=>?_)
      ·simp (disch:=omega) only [↓wr,seval,wq,ah,ag,ak,aa,ab,af,ai,ae]
       have:g.rules.any (fun r=>decide (20 < r.right.length))=true:=by
        simp only[List.any_eq_true,Rn]
        exact ⟨g.rules[i]'(by omega),Rj _,by omega⟩
       simp[mo,this]
      ·simp (disch:=omega) only [↓wr,seval,wq,ah,ag,ak,aa,ab,af,ai,ae,e1,e3]
       refine ⟨k - 1,by omega,i+1,by omega,?_,rfl,rfl⟩
       intro r hr
       rw[RG,hg] at hr
       simp only[Option.toList_some,Ry,RU] at hr
       rcases hr with hr | rfl
       ·exact hi r hr
       ·omega
     ·simp (disch:=omega) only [↓wr,seval,wq,ah,ag,ak,aa,ab,af,ai,ae,e1,e3]
      have e:i=g.rules.length:=by omega
      rw[Rz (by omega)] at hi
      have:g.rules.any (fun r=>decide (20 < r.right.length))=false:=by
       simp only[List.any_eq_false,Rn]; exact hi
      simp only[mo,this]
      simp; omega
end Gv
