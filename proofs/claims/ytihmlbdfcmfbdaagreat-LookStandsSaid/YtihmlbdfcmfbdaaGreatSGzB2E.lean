/-
  Part 5 of the proof: what the machine does and what the functions answer.
  Conditions: those that each lemma names.
-/
import Derived.Test.YtihmlbdfcmfbdaaGreatProg
import Derived.KernelRfl
import Derived.Test.YtihmlbdfcmfbdaaGreatSGzB2D
set_option linter.unusedSimpArgs false
set_option linter.unusedVariables false
set_option maxRecDepth 100000
namespace Gv
open Go Go.Proofs
section
variable {P:Program} {n:Nat} {all:List Oper}
theorem PN (h:aJ):h.view h.length=.dead:=by simp[aJ.view,T0]
theorem Sm {o:Oper} {T:Env} {h:aJ} {s:SI} {K:V→View→Prop} (hg:dB n all T o=some true) (hc:∀ v eff rd,sI P s T h.view h.length=some (v,eff,rd)→cm P o T h.view h.length=some (v,eff,rd)) (hw:wI P s T h.view K) :
  ∃ v h' rd wr,dM P n all o T h v h' rd wr false∧iY h h'∧K v h'.view∧km (tA P s) rd wr false h.length h'.length:=by
 obtain ⟨v,eff,rd,hs,hk⟩:=Si hw (PN h)
 have ha:=hc _ _ _ hs
 have hlive:∀ id,id∈eff.wr→h.view id≠.dead:=fun id hid=>(mD ha id hid).1
 refine ⟨v,eff.apply h,rd,eff.wr,.op hg ha,?_,?_,?_,?_⟩
 ·intro id hid hd
  rw[kX hlive]
  cases eff with
  | none=>exact hd
  | new o=>simp only[bC.view,View.set]; rw[T6 (by omega)]; exact hd
  | eW k o =>
   simp only[bC.view,View.set]
   rw[T6 (by rintro rfl; exact hlive id (by simp[bC.wr]) hd)]; exact hd
  | bP k o =>
   simp only[bC.view,View.set]
   rw[T6 (by omega)]
   split
   ·rfl
   ·exact hd
 ·rw[kX (fun id hid=>(mD ha id hid).1)]; exact hk
 ·intro h0
  obtain ⟨rfl,rfl⟩:=(rK hs).1 h0
  exact ⟨rfl,rfl,rfl,rfl⟩
 ·intro h1
  rcases Uv (tA P s) 1 with h2 | h2
  ·obtain ⟨rfl,rfl⟩:=(rK hs).1 (by omega); rfl
  ·exact (rK hs).2 (by omega)
theorem Jw {P:Program} {fr:Bool} {s:SI} {T:Env} {H:View} {n:Nat} {v:V} {eff:bC} {rd:List Nat} (h:sI P (yU P fr s) T H n=some (v,eff,rd)):sI P s T H n=some (v,eff,rd):=by
 unfold yU at h
 split at h
 ·split at h
  ·exact Py h
  ·exact h
 ·split at h
  ·rename_i hc
   simp only[Uh] at hc
   exact Ra hc.2 h
  ·exact h
 ·exact h
theorem zY (P:Program) (fz:Fz) (o:Oper) :
  (∃ f args ats,o.op=.call { callee:=.value f,args:=args,argTypes:=ats }∧(mj P fz o=.call (SX.of f) (args.toList.map SX.of)∨mj P fz o=.zm (SX.of f) (args.toList.map SX.of))) ∨
  (∃ t x,o.op=.box t x∧mj P fz o=.op (.jn (SX.of x)))∨(∃ s d x,o.op=.convert s d x∧uy P s d=true∧mj P fz o=.op (.gf (SX.of x)))∨mj P fz o=.op (yU P fz.fr (comp P o)):=by
 unfold mj
 split
 ·rename_i f args ats ho
  refine .inl ⟨f,args,ats,ho,?_⟩
  by_cases hq:(match o.dst with | some d=>fz.l.contains (200000+d) | none=>false)=true
  ·exact .inr (T9 hq)
  ·exact .inl (T6 hq)
 ·rename_i t x ho
  by_cases hd:(match o.dst with | some d=>fz.l.contains d | none=>false)=true
  ·exact .inr (.inl ⟨t,x,ho,T9 hd⟩)
  ·refine .inr (.inr (.inr ?_))
   refine (T6 hd).trans ?_
   simp only[comp,ho,yU]
 ·rename_i s d x ho
  by_cases hd:((match o.dst with | some d=>fz.l.contains d | none=>false) && uy P s d)=true
  ·exact .inr (.inr (.inl ⟨s,d,x,ho,by simp only[Uh] at hd; exact hd.2,T9 hd⟩))
  ·exact .inr (.inr (.inr (T6 hd)))
 ·exact .inr (.inr (.inr rfl))
theorem dM.len {o:Oper} {T:Env} {h h':aJ} {v:V} {rd wr:List Nat} {call:Bool} (st:dM P n all o T h v h' rd wr call):h.length≤h'.length:=by
 cases st with
 | skip=>exact Ug _
 | op _ _=>rename_i eff _ _ ; cases eff <;> simp[bC.apply]
 | jn _ _ _=>exact Ug _
 | gf _ _ _ _ _ _=>exact Ug _
 | call _ _ _ _ ha _ _=>exact ha.1
theorem Q7 {fz:Fz} {o:Oper} {T:Env} {h:aJ} {quiet:Bool} {K:V→View→Prop} (hg:dB n all T o=some true) (hw:wB P quiet (mj P fz o) T h.view K) :
  ∃ v h' rd wr call,dM P n all o T h v h' rd wr call∧iY h h'∧K v h'.view∧km (iM P quiet (mj P fz o)) rd wr call h.length h'.length:=by
 rcases zY P fz o with ⟨f,args,ats,ho,hc | hc⟩ | ⟨t,x,ho,hc⟩ | ⟨s,d,x,ho,hcv,hc⟩ | hc
 rotate_left
 ·rw[hc] at hw ⊢
  simp only[wB] at hw
  split at hw
  ·rename_i g first cap hf
   rw[B3] at hw
   rw[SX.cK] at hf
   obtain ⟨hok,hq'⟩:=hw
   obtain ⟨r,h',hr,hold,hk⟩:=hq' h rfl
   refine ⟨r,h',[],[],true,.call hg ho hf hok hr (fun id hid _=>hold id hid) (fun id hid=>by simp at hid),fun id hid hd=>(hold id hid).trans hd,hk,?_,?_⟩
   ·intro h0; simp[iM] at h0
   ·intro _; rfl
  ·exact hw.elim
 rotate_right
 ·rw[hc] at hw ⊢
  simp only[wB] at hw
  split at hw
  ·rename_i g first cap hf
   rw[B3] at hw
   rw[SX.cK] at hf
   split at hw
   ·rename_i hq
    obtain ⟨hok,hq'⟩:=hw
    obtain ⟨r,h',hr,hold,hk⟩:=hq' h rfl
    refine ⟨r,h',[],[],true,.call hg ho hf hok hr (fun id hid _=>hold id hid) (fun id hid=>by simp at hid),fun id hid hd=>(hold id hid).trans hd,hk,?_,?_⟩
    ·intro h0; simp[iM,hq] at h0
    ·intro _; rfl
   ·rename_i hq
    obtain ⟨hok,hq'⟩:=hw
    obtain ⟨r,h',hr,hst,hk⟩:=hq' h rfl
    refine ⟨r,h',[],List.range h.length,true,.call hg ho hf hok hr (fun id hid hn=>?_) (fun id hid=>by simpa using hid),hst,hk,Qh (by simp[iM,hq])⟩
    exact absurd (by simpa using hid) hn
  ·exact hw.elim
 ·rw[hc] at hw ⊢
  simp only[wB,wI,SX.cK] at hw
  exact ⟨_,h,[],[],false,.jn hg ho hw.1,.refl _,hw.2,fun _=>⟨rfl,rfl,rfl,rfl⟩,fun _=>rfl⟩
 ·rw[hc] at hw ⊢
  simp only[wB,wI,SX.cK] at hw
  obtain ⟨e,h1,h2,h3⟩:=zH hcv
  split at hw
  ·rename_i st hx
   exact ⟨_,h,[],[],false,.gf hg ho h1 h2 h3 hx,.refl _,hw,fun _=>⟨rfl,rfl,rfl,rfl⟩,fun _=>rfl⟩
  ·exact hw.elim
 ·rw[hc] at hw ⊢
  obtain ⟨v,h',rd,wr,h1,h0,h2,h3⟩:=Sm (s:=yU P fz.fr (comp P o)) hg (fun v eff rd hs=>Js (Jw hs)) hw
  exact ⟨v,h',rd,wr,false,h1,h0,h2,h3⟩
def fX (P:Program) (quiet:Bool) (l:List SO) (recs:List Rec):Prop :=
 l.length=recs.length∧∀ (i:Nat) (s:SO) (r:Rec),l[i]?=some s→recs[i]?=some r→km (iM P quiet s.b) r.rd r.wr r.call r.lo r.hi
theorem fX.nil {quiet:Bool} : fX P quiet [] []:=⟨rfl,fun i s r h=>by simp at h⟩
theorem fX.cons {quiet:Bool} {l:List SO} {recs:List Rec} {s:SO} {r:Rec} (h:fX P quiet l recs) (hr:km (iM P quiet s.b) r.rd r.wr r.call r.lo r.hi):fX P quiet (s :: l) (r :: recs):=by
 refine ⟨by simp[h.1],fun i s' r' hs hr'=>?_⟩
 cases i with
 | zero=>simp at hs hr'; subst hs hr'; exact hr
 | succ i=>exact h.2 i s' r' (by simpa using hs) (by simpa using hr')
theorem fX.append {quiet:Bool} {l l':List SO} {recs recs':List Rec} (h:fX P quiet l recs) (h':fX P quiet l' recs'):fX P quiet (l ++ l') (recs ++ recs'):=by
 refine ⟨by simp[h.1,h'.1],fun i s r hs hr=>?_⟩
 by_cases hi:i < l.length
 ·rw[Us hi] at hs
  rw[Us (h.1 ▸ hi)] at hr
  exact h.2 i s r hs hr
 ·rw[UH (by omega)] at hs
  rw[UH (by have:=h.1; omega)] at hr
  exact h'.2 (i - l.length) s r hs (by rw[h.1]; exact hr)
theorem sX {fz:Fz} {o:Oper} {s:SO} (h:Fq P n all fz o=some s):rE n o=true∧s.dst=o.dst∧s.b=mj P fz o∧uZ n all o=some s.guard:=by
 unfold Fq at h
 split at h
 ·rename_i hd
  simp only[Uf] at h
  obtain ⟨g,hg,rfl⟩:=h
  exact ⟨hd,rfl,rfl,hg⟩
 ·simp at h
theorem Bu {o:Oper} {T:Env} (h:uZ n all o=some none):dB n all T o=some true:=by
 unfold uZ at h
 unfold dB
 split at h
 ·rename_i hg; rw[hg]
 ·split at h
  ·split at h
   ·simp at h
   ·simp at h
  ·simp at h
theorem kP {o:Oper} {T:Env} {d:Nat} {want:Bool} (h:uZ n all o=some (some (d,want))) :
  (∀ b,T d=.val (.bool b)→dB n all T o=some (b == want))∧(T d=.bE []→dB n all T o=some false):=by
 unfold uZ at h
 unfold dB
 split at h
 ·simp at h
 ·rename_i j w hg
  rw[hg]
  split at h
  ·rename_i d' hd
   split at h
   ·rename_i hlt
    simp at h
    obtain ⟨rfl,rfl⟩:=h
    simp only[hd,hlt,if_true]
    exact ⟨fun b hb=>by rw[hb],fun hb=>by rw[hb]⟩
   ·simp at h
  ·simp at h
theorem kS {fz:Fz} {os:List Oper} (h:dI P n all fz os=some []):os=[]:=by
 cases os with
 | nil=>rfl
 | cons o r =>
  simp only[dI] at h
  split at h <;> simp at h
theorem l0 {fz:Fz} {os:List Oper} {s:SO} {l:List SO} (h:dI P n all fz os=some (s :: l)):∃ o r,os=o :: r∧Fq P n all fz o=some s∧dI P n all fz r=some l:=by
 cases os with
 | nil=>simp[dI] at h
 | cons o r =>
  simp only[dI] at h
  split at h
  ·rename_i s' l' h1 h2
   simp at h
   obtain ⟨rfl,rfl⟩:=h
   exact ⟨o,r,rfl,h1,h2⟩
  ·simp at h
theorem qU {fz:Fz} : ∀ {l l':List SO} {os:List Oper},dI P n all fz os=some (l ++ l')→∃ a b,os=a ++ b∧dI P n all fz a=some l∧dI P n all fz b=some l'
 | [],l',os,h=>⟨[],os,rfl,rfl,h⟩
 | s :: l,l',os,h=>by
  obtain ⟨o,r,rfl,h1,h2⟩:=l0 h
  obtain ⟨a,b,rfl,h3,h4⟩:=qU h2
  exact ⟨o :: a,b,rfl,by simp[dI,h1,h3],h4⟩
theorem Tr.append {a b:List Oper} {T T1 T2:Env} {h h1 h2:aJ} {r1 r2:List Rec} (x:Tr P n all a T h r1 T1 h1) (y:Tr P n all b T1 h1 r2 T2 h2):Tr P n all (a ++ b) T h (r1 ++ r2) T2 h2:=by
 induction x with
 | nil=>exact y
 | cons st hd _ ih=>exact .cons st hd (ih y)
theorem AV {T:Env} {d:Nat} {v:V} (h:T d=v):T.put (some d) v=T:=by
 funext t
 simp only[Env.put]
 split
 ·rename_i e; subst e; exact h.symm
 ·rfl
theorem Hb {fz:Fz} {quiet:Bool} {K:Env→View→Prop} (g:Option (Nat × Bool)):∀ (l:List (Option Nat × SB)) (os:List Oper) (T:Env) (h:aJ),
  dI P n all fz os=some (l.map fun (d,b)=>⟨d,g,b⟩)→(∀ d w,g=some (d,w)→T d=.val (.bool w)∧(l.all fun x=>x.1 != some d)=true)→yN P quiet l T h.view K →
  ∃ recs T' h',Tr P n all os T h recs T' h'∧(iY h h'∧h.length≤h'.length)∧K T' h'.view∧fX P quiet (l.map fun (d,b)=>⟨d,g,b⟩) recs
 | [],os,T,h,hc,hg,hw=>by
  have:=kS hc; subst this
  exact ⟨[],T,h,.nil,⟨.refl _,Ug _⟩,hw,.nil⟩
 | (d,b) :: l,os,T,h,hc,hg,hw=>by
  obtain ⟨o,r,rfl,h1,h2⟩:=l0 hc
  obtain ⟨hd,hd1,hb1,hg1⟩:=sX h1
  simp only at hd1 hb1 hg1
  have hgv:dB n all T o=some true:=by
   cases g with
   | none=>exact Bu hg1
   | some p =>
    obtain ⟨d',w⟩:=p
    have:=(kP (T:=T) hg1).1 w (hg d' w rfl).1
    rw[this]; simp
  simp only[yN] at hw
  rw[hb1] at hw
  obtain ⟨v,h',rd,wr,call,st,hst,hk,hl⟩:=Q7 hgv hw
  obtain ⟨recs,T',h'',tr,hst',hk',hro⟩:=Hb g l r (T.put d v) h' h2 (fun d' w e=>by
   have:=hg d' w e
   simp only[Vg,Uh,bne_iff_ne,ne_eq] at this
   refine ⟨?_,this.2.2⟩
   rw[← this.1]
   cases d with
   | none=>rfl
   | some t=>simp only[Env.put]; rw[T6]; intro e; subst e; exact this.2.1 rfl) hk
  rw[hd1] at tr
  have hlen:=st.len
  exact ⟨_,T',h'',.cons st hd tr,⟨hst.trans hst'.1 hlen,U0 hlen hst'.2⟩,hk',hro.cons (by rw[hb1]; exact hl)⟩
theorem CW {fz:Fz} {quiet:Bool} (d:Nat) (w:Bool) (h:aJ):∀ (l:List (Option Nat × SB)) (os:List Oper) (T:Env),
  dI P n all fz os=some (l.map fun (d',b)=>⟨d',some (d,w),b⟩)→(T d=.val (.bool !w)∨T d=.bE [])→(l.all fun x=>x.1 != some d)=true →
  ∃ recs,Tr P n all os T h recs (iK l T) h∧fX P quiet (l.map fun (d',b)=>⟨d',some (d,w),b⟩) recs
 | [],os,T,hc,hd,hl=>by
  have:=kS hc; subst this
  exact ⟨[],.nil,.nil⟩
 | (d',b) :: l,os,T,hc,hd,hl=>by
  obtain ⟨o,r,rfl,h1,h2⟩:=l0 hc
  obtain ⟨hd0,hd1,hb1,hg1⟩:=sX h1
  simp only at hd1 hb1 hg1
  have hgv:dB n all T o=some false:=by
   rcases hd with hd | hd
   ·rw[(kP (T:=T) hg1).1 _ hd]; cases w <;> rfl
   ·exact (kP (T:=T) hg1).2 hd
  simp only[Vg,Uh,bne_iff_ne,ne_eq] at hl
  obtain ⟨recs,tr,hro⟩:=CW d w h l r (T.put d' (.bE [])) h2 (by
   have:(T.put d' (.bE [])) d=T d:=by
    cases d' with
    | none=>rfl
    | some t=>simp only[Env.put]; rw[T6]; intro e; subst e; exact hl.1 rfl
   rw[this]; exact hd) hl.2
  rw[hd1] at tr
  refine ⟨_,?_,hro.cons (r:=⟨[],[],false,h.length,h.length⟩) ⟨fun _=>⟨rfl,rfl,rfl,rfl⟩,fun _=>rfl⟩⟩
  have:=Tr.cons (.skip hgv) hd0 tr
  rw[iK,hd1]
  exact this
theorem Sa {fz:Fz} {quiet:Bool} {K:Env→View→Prop} {g:SG} {os:List Oper} {T:Env} {h:aJ} (hc:dI P n all fz os=some g.flat) (hok:tH g=true) (hw:wG P quiet g T h.view K) :
  ∃ recs T' h',Tr P n all os T h recs T' h'∧(iY h h'∧h.length≤h'.length)∧K T' h'.view∧fX P quiet g.flat recs:=by
 unfold wG at hw
 unfold SG.flat at hc ⊢
 unfold tH at hok
 split at hw
 ·rename_i hg
  rw[hg] at hc ⊢
  exact Hb none g.ops os T h hc (fun d w e=>by simp at e) hw
 ·rename_i d want hg
  rw[hg] at hc hok ⊢
  simp only at hok
  split at hw
  ·rename_i b hb
   by_cases e:b=want
   ·subst e
    have:=hw.1 rfl
    rw[AV hb] at this
    exact Hb (some (d,b)) g.ops os T h hc (fun d' w e=>by simp at e; obtain ⟨rfl,rfl⟩:=e; exact ⟨hb,hok⟩) this
   ·have e':b = !want:=by cases b <;> cases want <;> simp_all
    have:=hw.2 e'
    subst e'
    rw[AV hb] at this
    obtain ⟨recs,tr,hro⟩:=CW (quiet:=quiet) d want h g.ops os T hc (.inl hb) hok
    exact ⟨recs,_,h,tr,⟨.refl _,Ug _⟩,this,hro⟩
  ·rename_i hb
   obtain ⟨recs,tr,hro⟩:=CW (quiet:=quiet) d want h g.ops os T hc (.inr hb) hok
   exact ⟨recs,_,h,tr,⟨.refl _,Ug _⟩,hw,hro⟩
  ·exact hw.elim
theorem yY {fz:Fz} {quiet:Bool} {K:Env→View→Prop} : ∀ (gs:List SG) (os:List Oper) (T:Env) (h:aJ),dI P n all fz os=some (kh gs)→gs.all tH=true→xo P quiet gs T h.view K →
  ∃ recs T' h',Tr P n all os T h recs T' h'∧(iY h h'∧h.length≤h'.length)∧K T' h'.view∧fX P quiet (kh gs) recs
 | [],os,T,h,hc,_,hw=>by
  have:=kS hc; subst this
  exact ⟨[],T,h,.nil,⟨.refl _,Ug _⟩,hw,.nil⟩
 | g :: gs,os,T,h,hc,hok,hw=>by
  simp only[kh,Uz,List.flatten_cons] at hc ⊢
  simp only[Vg,Uh] at hok
  obtain ⟨a,b,rfl,h1,h2⟩:=qU hc
  obtain ⟨r1,T1,h1',tr1,st1,hk1,ro1⟩:=Sa h1 hok.1 hw
  obtain ⟨r2,T2,h2',tr2,st2,hk2,ro2⟩:=yY gs b T1 h1' h2 hok.2 hk1
  exact ⟨_,T2,h2',tr1.append tr2,⟨st1.1.trans st2.1 st1.2,U0 st1.2 st2.2⟩,hk2,ro1.append ro2⟩
theorem Tr.at_ {os:List Oper} {T T':Env} {h h':aJ} {recs:List Rec} (tr:Tr P n all os T h recs T' h'):∀ (i:Nat) (o:Oper),os[i]?=some o →
  ∃ T1 h1 v h2 rd wr call recs2,recs[i]?=some ⟨rd,wr,call,h1.length,h2.length⟩∧dM P n all o T1 h1 v h2 rd wr call∧h.length≤h1.length∧Tr P n all (os.drop (i+1)) (T1.put o.dst v) h2 recs2 T' h'∧(∀ m,recs2[m]?=recs[i+1+m]?) ∧
   (∀ t,(∀ o'∈os.take i,o'.dst≠some t)→T1 t=T t):=by
 induction tr with
 | nil=>intro i o hi; simp at hi
 | @cons o0 rest T T' h h1 h' v rd wr call recs st hd tr ih =>
  intro i o hi
  cases i with
  | zero =>
   simp at hi; subst hi
   exact ⟨T,h,v,h1,rd,wr,call,recs,rfl,st,Ug _,by simpa using tr,fun m=>by rw[show 0+1+m=m+1 by omega,UP],fun t _=>rfl⟩
  | succ i =>
   simp at hi
   obtain ⟨T1,h2,v2,h3,rd2,RH,call2,recs2,e1,e2,e3,e4,e5,e6⟩:=ih i o hi
   have hlen:h.length≤h1.length:=by
    cases st with
    | skip=>exact Ug _
    | op _ _=>rename_i eff _ _; cases eff <;> simp[bC.apply]
    | jn _ _ _=>exact Ug _
    | gf _ _ _ _ _ _=>exact Ug _
    | call _ _ _ _ ha _ _=>exact ha.1
   refine ⟨T1,h2,v2,h3,rd2,RH,call2,recs2,by simpa using e1,e2,U0 hlen e3,by simpa using e4,fun m=>?_,fun t ht=>?_⟩
   ·rw[e5,show i+1+1+m=(i+1+m)+1 by omega,UP]
   ·simp only[VJ,Uk] at ht
    rw[e6 t fun o' ho'=>ht o' (.inr ho')]
    have:=ht o0 (.inl rfl)
    cases hdst:o0.dst with
    | none=>rfl
    | some d=>simp only[Env.put]; rw[T6]; rintro rfl; exact this hdst
theorem KU {o:Oper} {T:Env} {h h':aJ} {v:V} {rd wr:List Nat} {call:Bool} (st:dM P n all o T h v h' rd wr call) (ha:AE o=true) (hg:o.guard=none):v=.ptr h.length 0 0:=by
 unfold AE at ha
 have hgv:dB n all T o=some true:=by unfold dB; rw[hg]
 cases st with
 | skip hs=>rw[hgv] at hs; simp at hs
 | op _ hop =>
  split at ha
  ·rename_i e ho
   simp only[cm,ho] at hop
   split at hop
   ·unfold lG at hop
    split at hop
    ·simp at hop; exact hop.1.symm
    ·simp at hop
   ·simp at hop
  ·simp at ha
 | jn _ ho _=>rw[ho] at ha; simp at ha
 | gf _ ho _ _ _ _=>rw[ho] at ha; simp at ha
 | call _ ho _ _ _ _ _=>rw[ho] at ha; simp at ha
theorem Kp {o:Oper} {T:Env} {h h':aJ} {v:V} {rd wr:List Nat} {call:Bool} {t id i j:Nat} (st:dM P n all o T h v h' rd wr call) (ha:kF o=some t) (ht:T t=.ptr id i j):wr=[id]∧call=false:=by
 unfold kF at ha
 split at ha
 ·rename_i ty t' x ho hg
  simp at ha; subst ha
  have hgv:dB n all T o=some true:=by unfold dB; rw[hg]
  cases st with
  | skip hs=>rw[hgv] at hs; simp at hs
  | op _ hop =>
   have e1:ev T (.tmp t')=.ptr id i j:=ht
   simp only[cm,ho,e1,qq] at hop
   split at hop
   ·split at hop
    ·simp only[T7,Ua] at hop
     obtain ⟨_,he,_⟩:=hop
     rw[← he]; exact ⟨rfl,rfl⟩
    ·simp at hop
   ·simp at hop
  | jn _ ho' _=>rw[ho] at ho'; simp at ho'
  | gf _ ho' _ _ _ _=>rw[ho] at ho'; simp at ho'
  | call _ ho' _ _ _ _ _=>rw[ho] at ho'; simp at ho'
 ·simp at ha
theorem Lx {o:Oper} {T:Env} {h h':aJ} {v:V} {rd wr:List Nat} {call:Bool} (st:dM P n all o T h v h' rd wr call) (ha:CZ o=true):wr=[]∧call=false∧∀ id,id∈rd→id < h.length:=by
 unfold CZ at ha
 cases st with
 | skip _=>exact ⟨rfl,rfl,fun id hid=>by simp at hid⟩
 | op _ hop =>
  split at ha
  ·rename_i e a ho
   simp only[cm,ho,mg] at hop
   split at hop
   ·rename_i id i j hx
    split at hop
    ·rename_i z es hH
     split at hop
     ·simp only[Uf] at hop
      obtain ⟨_,_,hop⟩:=hop
      simp at hop
      obtain ⟨_,rfl,rfl⟩:=hop
      refine ⟨rfl,rfl,fun id' hid=>?_⟩
      simp at hid; subst hid
      exact ig (by rw[hH]; simp)
     ·simp at hop
    ·simp at hop
   ·simp only[Uf] at hop
    obtain ⟨_,_,hop⟩:=hop
    simp at hop
    obtain ⟨_,rfl,rfl⟩:=hop
    exact ⟨rfl,rfl,fun id hid=>by simp at hid⟩
   ·simp at hop
  ·simp at ha
 | jn _ ho _=>rw[ho] at ha; simp at ha
 | gf _ ho _ _ _ _=>rw[ho] at ha; simp at ha
 | call _ ho _ _ _ _ _=>rw[ho] at ha; simp at ha
theorem we {T T':Env} {h h':aJ} {recs:List Rec} (tr:Tr P n all all T h recs T' h') {i k:Nat} {a b:Rec} (hp:zn all i k=true) (ha:recs[i]?=some a) (hb:recs[k]?=some b):oo a b:=by
 unfold zn at hp
 split at hp
 ·rename_i oa ob hoa hob
  rw[Uh] at hp
  obtain ⟨hl,hp⟩:=hp
  split at hp
  ·rename_i t hst
   rw[List.any_eq_true] at hp
   obtain ⟨j,hj,hp⟩:=hp
   rw[UR] at hj
   rw[Uh,Ul] at hp
   obtain ⟨hij,hown⟩:=hp
   unfold Rf at hown
   split at hown
   ·rename_i oj hoj
    simp only[Uh,Va,UE,bne_iff_ne,ne_eq,Option.isNone_iff_eq_none] at hown
    obtain ⟨⟨⟨w1,w2⟩,w3⟩,w4⟩:=hown
    obtain ⟨T1,h1,v1,h2,rd1,SD,c1,recs1,e1,e2,e3,e4,e5,_⟩:=tr.at_ i oa hoa
    obtain ⟨Tj,hj1,vj,hj2,rdj,wrj,cj,recsj,f1,f2,f3,f4,f5,_⟩:=e4.at_ (j - (i+1)) oj (by rw[V0,show i+1+(j - (i+1))=j by omega]; exact hoj)
    have hdr:(all.drop (i+1)).drop (j - (i+1)+1)=all.drop (j+1):=by rw[List.drop_drop]; congr 1; omega
    rw[hdr] at f4
    obtain ⟨Tk,hk1,vk,hk2,rdk,wrk,ck,recsk,g1,g2,g3,_,_,g6⟩:=f4.at_ (k - (j+1)) ob (by rw[V0,show j+1+(k - (j+1))=k by omega]; exact hob)
    rw[ha] at e1
    have hae:=(V4 e1)
    have hbe:recs[k]?=some ⟨rdk,wrk,ck,hk1.length,hk2.length⟩:=by
     rw[← g1,f5,e5]; congr 1; omega
    rw[hb] at hbe
    have hbe:=V4 hbe
    have hv:=KU f2 w3 w2
    have hTk:Tk t=.ptr hj1.length 0 0:=by
     rw[g6 t fun o' ho'=>w4 o' ho',w1,hv]
     simp[Env.put]
    obtain ⟨s1,s2⟩:=Kp g2 hst hTk
    obtain ⟨l1,l2,l3⟩:=Lx e2 hl
    rw[hae,hbe]
    have hlen:h1.length≤h2.length:=by
     cases e2 with
     | skip=>exact Ug _
     | op _ _=>rename_i eff _ _; cases eff <;> simp[bC.apply]
     | jn _ _ _=>exact Ug _
     | gf _ _ _ _ _ _=>exact Ug _
     | call _ _ _ _ ha _ _=>exact ha.1
    refine ⟨fun id hid=>by simp[l1] at hid,fun id hid=>?_,fun hc=>by simp[l2] at hc,fun _=>l1,fun id hid=>?_⟩
    ·simp only[s1,UT] at hid
     subst hid
     intro hr
     have:=l3 _ hr
     omega
    ·simp only[s1,UT] at hid
     subst hid
     simp only
     omega
   ·simp at hown
  ·simp at hp
 ·simp at hp
theorem P2 {ls:List Nat} {recs:List Rec} {T T':Env} {hp hp':aJ} (tr:Tr P n all all T hp recs T' hp') (h:Fw all ls=true) (hl:ls.length=recs.length) (hr:∀ (i x:Nat) (r:Rec),ls[i]?=some x→recs[i]?=some r→km x r.rd r.wr r.call r.lo r.hi):ur all recs:=by
 intro i k a b hik ha hb ho
 have hi:i < recs.length:=(Uj.1 ha).1
 have hk:k < recs.length:=(Uj.1 hb).1
 unfold Fw at h
 simp only[UE] at h
 have h1:=h (ls[i]'(by omega),i) (by rw[U9]; simp[T4 (show i < ls.length by omega)])
  (ls[k]'(by omega),k) (by rw[U9]; simp[T4 (show k < ls.length by omega)])
 have la:=hr i _ a (T4 (by omega)) ha
 have lb:=hr k _ b (T4 (by omega)) hb
 simp only[hik,decide_true,V5,ho,Bool.false_or,U8,Va,Uh,Ul] at h1
 rcases h1 with ((h1 | h1) | h1) | h1
 ·obtain ⟨e1,e2,e3,e4⟩:=la.1 h1
  exact ⟨fun id hid=>by simp[e2] at hid,fun id _=>by simp[e1],fun hc=>by simp[e3] at hc,fun _=>e2,fun id _ hx=>by omega⟩
 ·obtain ⟨e1,e2,e3,e4⟩:=lb.1 h1
  exact ⟨fun id _=>by simp[e1],fun id hid=>by simp[e2] at hid,fun _=>e2,fun hc=>by simp[e3] at hc,fun id hid=>by simp[e2] at hid⟩
 ·have e1:=la.2 h1.1
  have e2:=lb.2 h1.2
  exact ⟨fun id hid=>by simp[e1] at hid,fun id hid=>by simp[e2] at hid,fun _=>e2,fun _=>e1,fun id hid=>by simp[e2] at hid⟩
 ·exact we tr h1 ha hb
theorem Tr.keep {os:List Oper} {T T':Env} {h h':aJ} {recs:List Rec} (tr:Tr P n all os T h recs T' h') {t:Nat} (ht:∀ o∈os,o.dst≠some t):T' t=T t:=by
 induction tr with
 | nil=>rfl
 | @cons o0 rest T T' h h1 h' v rd wr call recs st hd tr ih =>
  rw[ih fun o ho=>ht o (by simp[ho])]
  have:=ht o0 (by simp)
  cases hdst:o0.dst with
  | none=>rfl
  | some d=>simp only[Env.put]; rw[T6]; rintro rfl; exact this hdst
theorem vX {o:Oper} {T:Env} {h h':aJ} {v:V} {rd wr:List Nat} {call:Bool} {t:Nat} (st:dM P n all o T h v h' rd wr call) (ha:rL o=some t):wr=[]∧call=false∧h'.length=h.length∧∀ id,id∈rd→∃ i j,T t=.ptr id i j:=by
 unfold rL at ha
 split at ha
 ·rename_i e t' ho
  simp at ha; subst ha
  cases st with
  | skip _=>exact ⟨rfl,rfl,rfl,fun id hid=>by simp at hid⟩
  | op _ hop =>
   simp only[cm,ho,mg] at hop
   split at hop
   ·rename_i id i j hx
    split at hop
    ·split at hop
     ·simp only[Uf] at hop
      obtain ⟨_,_,hop⟩:=hop
      simp at hop
      obtain ⟨_,rfl,rfl⟩:=hop
      refine ⟨rfl,rfl,rfl,fun id' hid=>?_⟩
      simp at hid; subst hid
      exact ⟨i,j,hx⟩
     ·simp at hop
    ·simp at hop
   ·simp only[Uf] at hop
    obtain ⟨_,_,hop⟩:=hop
    simp at hop
    obtain ⟨_,rfl,rfl⟩:=hop
    exact ⟨rfl,rfl,rfl,fun id hid=>by simp at hid⟩
   ·simp at hop
  | jn _ ho' _=>rw[ho] at ho'; simp at ho'
  | gf _ ho' _ _ _ _=>rw[ho] at ho'; simp at ho'
  | call _ ho' _ _ _ _ _=>rw[ho] at ho'; simp at ho'
 ·simp at ha
theorem wH {i t:Nat} (h:stays all i t=true):∀ o∈all.drop i,o.dst≠some t:=by
 intro o ho
 have:=UE.1 h o ho
 simpa using this
theorem Aj {aps:List (Nat × Nat)} {T:Env} {K:Prop} (hA:xO aps T K):∀ p∈aps,iS (T p.1) (T p.2):=by
 induction aps with
 | nil=>intro p hp; simp at hp
 | cons q l ih =>
  intro p hp
  rcases Uk.1 hp with rfl | hp
  ·exact hA.1
  ·exact ih hA.2 p hp
theorem xO.rest {aps:List (Nat × Nat)} {T:Env} {K:Prop} (hA:xO aps T K):K:=by
 induction aps with
 | nil=>exact hA
 | cons q l ih=>exact ih hA.2
theorem qj {T T':Env} {h h':aJ} {recs:List Rec} (tr:Tr P n all all T h recs T' h') {i t:Nat} {o:Oper} (ho:all[i]?=some o) (hs:stays all i t=true) {r:Rec} (hr:recs[i]?=some r) :
  ∃ T1 h1 v h2,dM P n all o T1 h1 v h2 r.rd r.wr r.call∧r.lo=h1.length∧r.hi=h2.length∧T1 t=T' t:=by
 obtain ⟨T1,h1,v,h2,rd,wr,call,recs2,e1,e2,e3,e4,e5,e6⟩:=tr.at_ i o ho
 rw[hr] at e1
 have e1:=V4 e1
 subst e1
 refine ⟨T1,h1,v,h2,e2,rfl,rfl,?_⟩
 have hk:=wH hs
 have hi:i < all.length:=(Uj.1 ho).1
 have ho':all[i]=o:=(Uj.1 ho).2
 rw[UO hi,ho'] at hk
 rw[e4.keep fun o' ho'=>hk o' (by simp[ho'])]
 have:=hk o (by simp)
 cases hdst:o.dst with
 | none=>rfl
 | some d=>simp only[Env.put]; rw[T6]; rintro rfl; exact this hdst
theorem zo {i a b j c d:Nat} (h:iS (.ptr i a b) (.ptr j c d)):i≠j:=h
theorem Bo {i a b j c d e:Nat} (h:iS (.ptr i a b) (.sl j c d e)):i≠j:=h
theorem rq {o:Oper} {T:Env} {h h':aJ} {v:V} {rd wr:List Nat} {call:Bool} {t:Nat} (st:dM P n all o T h v h' rd wr call) (ha:pJ o=some t) :
  call=false∧∀ id,id∈wr→(∃ i j,T t=.ptr id i j)∨∃ a b c,T t=.sl id a b c:=by
 unfold pJ at ha
 split at ha
 ·rename_i t' hs
  simp at ha; subst ha
  unfold kF at hs
  split at hs
  ·rename_i ty t2 x ho hg
   simp at hs; subst hs
   cases st with
   | skip _=>exact ⟨rfl,fun id hid=>by simp at hid⟩
   | op _ hop =>
    simp only[cm,ho,qq] at hop
    split at hop
    ·rename_i id i j hx
     split at hop
     ·split at hop
      ·simp only[T7,Ua] at hop
       obtain ⟨_,he,_⟩:=hop
       rw[← he]
       refine ⟨rfl,fun id' hid=>?_⟩
       simp[bC.wr] at hid; subst hid
       exact .inl ⟨i,j,hx⟩
      ·simp at hop
     ·simp at hop
    ·simp at hop
   | jn _ ho' _=>rw[ho] at ho'; simp at ho'
   | gf _ ho' _ _ _ _=>rw[ho] at ho'; simp at ho'
   | call _ ho' _ _ _ _ _=>rw[ho] at ho'; simp at ho'
  ·simp at hs
 ·unfold L9 at ha
  split at ha
  ·rename_i args ats ho hg
   split at ha
   ·rename_i t2 y hl
    simp at ha; subst ha
    cases st with
    | skip _=>exact ⟨rfl,fun id hid=>by simp at hid⟩
    | op _ hop =>
     simp only[cm,ho,hl] at hop
     split at hop
     ·unfold mN at hop
      split at hop
      ·split at hop
       ·simp at hop
       ·split at hop
        ·split at hop <;> first | (simp only[T7,Ua] at hop; obtain ⟨_,he,_⟩:=hop; rw[← he]; exact ⟨rfl,fun id' hid=>by simp[bC.wr] at hid⟩) | simp at hop
        ·split at hop
         ·simp at hop
         ·split at hop
          ·split at hop
           ·simp only[T7,Ua] at hop
            obtain ⟨_,he,_⟩:=hop
            rw[← he]; exact ⟨rfl,fun id' hid=>by simp[bC.wr] at hid⟩
           ·simp at hop
          ·rename_i id off len esz hx
           split at hop
           ·split at hop
            ·simp only[T7,Ua] at hop
             obtain ⟨_,he,_⟩:=hop
             rw[← he]
             refine ⟨rfl,fun id' hid=>?_⟩
             simp[bC.wr] at hid; subst hid
             exact .inr ⟨off,len,esz,hx⟩
            ·simp at hop
           ·simp at hop
          ·simp at hop
      ·simp at hop
     ·split at hop
      ·unfold wo at hop
       repeat' (split at hop)
       all_goals first | (simp only[T7,Ua] at hop; obtain ⟨_,he,_⟩:=hop; rw[← he]; exact ⟨rfl,fun id' hid=>by simp[bC.wr] at hid⟩) | simp at hop
      ·simp at hop
    | jn _ ho' _=>rw[ho] at ho'; simp at ho'
    | gf _ ho' _ _ _ _=>rw[ho] at ho'; simp at ho'
    | call _ ho' _ _ _ _ _=>rw[ho] at ho'; simp at ho'
   ·simp at ha
  ·simp at ha
theorem AN {o:Oper} {T:Env} {h h':aJ} {v:V} {rd wr:List Nat} {call:Bool} (st:dM P n all o T h v h' rd wr call) (ha:He o=true):rd=[]∧wr=[]∧call=false:=by
 unfold He at ha
 cases st with
 | skip _=>exact ⟨rfl,rfl,rfl⟩
 | op _ hop =>
  split at ha
  ·rename_i ty len parts ho
   simp only[cm,ho,ic] at hop
   have key:∀ {x:Option (V × bC × List Nat)} {e:bC},x=some (v,e,rd)→(∀ y,x=some y→y.2.1.wr=[]∧y.2.2=[])→rd=[]∧e.wr=[]:=fun hx hy=>⟨(hy _ hx).2,(hy _ hx).1⟩
   obtain ⟨k1,k2⟩:=key hop (by
    intro y hy
    repeat' (first | (split at hy) | (simp only[T7] at hy; subst hy; exact ⟨rfl,rfl⟩) | (simp at hy; done)))
   exact ⟨k1,k2,rfl⟩
  ·rename_i e ho
   simp only[cm,ho] at hop
   split at hop
   ·unfold lG at hop
    split at hop
    ·simp only[T7,Ua] at hop
     obtain ⟨_,he,hr⟩:=hop
     rw[← he,← hr]; exact ⟨rfl,rfl,rfl⟩
    ·simp at hop
   ·simp at hop
  ·simp at ha
 | jn _ ho _=>rw[ho] at ha; simp at ha
 | gf _ ho _ _ _ _=>rw[ho] at ha; simp at ha
 | call _ ho _ _ _ _ _=>rw[ho] at ha; simp at ha
theorem vr {o:Oper} {t:Nat} (h:kF o=some t):pJ o=some t:=by unfold pJ; rw[h]
theorem L7 {T T':Env} {h h':aJ} {recs:List Rec} (tr:Tr P n all all T h recs T' h') {i k:Nat} {a b:Rec} {p:Nat × Nat} (hp:Cu all i k=some p) (hA:iS (T' p.1) (T' p.2)) (ha:recs[i]?=some a) (hb:recs[k]?=some b):oo a b:=by
 unfold Cu at hp
 split at hp
 ·rename_i oa ob hoa hob
  split at hp
  ·rename_i s t hl hs
   split at hp
   ·rename_i hst
    simp only[Uh] at hst
    simp at hp; subst hp
    obtain ⟨Ta,ha1,va,ha2,sa,la1,la2,ea⟩:=qj tr hoa hst.1 ha
    obtain ⟨Tb,hb1,vb,hb2,sb,_,_,eb⟩:=qj tr hob hst.2 hb
    obtain ⟨l1,l2,l3,l4⟩:=vX sa hl
    have hA:iS (Ta s) (Tb t):=by rw[ea,eb]; exact hA
    refine ⟨fun id hid=>by simp[l1] at hid,fun id hid hr=>?_,fun hc=>by simp[l2] at hc,fun _=>l1,fun id _ hx=>by omega⟩
    obtain ⟨i',j',e1⟩:=l4 id hr
    rw[e1] at hA
    rcases (rq sb (vr hs)).2 id hid with ⟨c,d,hy⟩ | ⟨c,d,e,hy⟩
    ·rw[hy] at hA; exact zo hA rfl
    ·rw[hy] at hA; exact Bo hA rfl
   ·simp at hp
  ·split at hp
   ·rename_i t s hs hl
    split at hp
    ·rename_i hst
     simp only[Uh] at hst
     simp at hp; subst hp
     obtain ⟨Ta,ha1,va,ha2,sa,la1,la2,ea⟩:=qj tr hoa hst.1 ha
     obtain ⟨Tb,hb1,vb,hb2,sb,lb1,lb2,eb⟩:=qj tr hob hst.2 hb
     obtain ⟨l1,l2,l3,l4⟩:=vX sb hl
     have hA:iS (Tb s) (Ta t):=by rw[ea,eb]; exact hA
     refine ⟨fun id hid hr=>?_,fun id hid=>by simp[l1] at hid,fun hc=>l1,fun hc=>by simp[l2] at hc,fun id hid=>by simp[l1] at hid⟩
     obtain ⟨i',j',e1⟩:=l4 id hr
     rw[e1] at hA
     rcases (rq sa (vr hs)).2 id hid with ⟨c,d,hy⟩ | ⟨c,d,e,hy⟩
     ·rw[hy] at hA; exact zo hA rfl
     ·rw[hy] at hA; exact Bo hA rfl
    ·simp at hp
   ·simp at hp
 ·simp at hp
theorem KY {T T':Env} {h h':aJ} {recs:List Rec} (tr:Tr P n all all T h recs T' h') {i k:Nat} {a b:Rec} {p:Nat × Nat} (hp:Dn all i k=some p) (hA:iS (T' p.1) (T' p.2)) (ha:recs[i]?=some a) (hb:recs[k]?=some b):oo a b:=by
 unfold Dn at hp
 split at hp
 ·rename_i oa ob hoa hob
  split at hp
  ·rename_i s t hl hs
   split at hp
   ·rename_i hst
    simp only[Uh] at hst
    simp at hp; subst hp
    obtain ⟨Ta,ha1,va,ha2,sa,la1,la2,ea⟩:=qj tr hoa hst.1 ha
    obtain ⟨Tb,hb1,vb,hb2,sb,_,_,eb⟩:=qj tr hob hst.2 hb
    obtain ⟨l1,l2,l3,l4⟩:=vX sa hl
    have hA:iS (Ta s) (Tb t):=by rw[ea,eb]; exact hA
    refine ⟨fun id hid=>by simp[l1] at hid,fun id hid hr=>?_,fun hc=>by simp[l2] at hc,fun _=>l1,fun id _ hx=>by omega⟩
    obtain ⟨i',j',e1⟩:=l4 id hr
    rw[e1] at hA
    rcases (rq sb hs).2 id hid with ⟨c,d,hy⟩ | ⟨c,d,e,hy⟩
    ·rw[hy] at hA; exact zo hA rfl
    ·rw[hy] at hA; exact Bo hA rfl
   ·simp at hp
  ·split at hp
   ·rename_i t s hs hl
    split at hp
    ·rename_i hst
     simp only[Uh] at hst
     simp at hp; subst hp
     obtain ⟨Ta,ha1,va,ha2,sa,la1,la2,ea⟩:=qj tr hoa hst.1 ha
     obtain ⟨Tb,hb1,vb,hb2,sb,lb1,lb2,eb⟩:=qj tr hob hst.2 hb
     obtain ⟨l1,l2,l3,l4⟩:=vX sb hl
     have hA:iS (Tb s) (Ta t):=by rw[ea,eb]; exact hA
     refine ⟨fun id hid hr=>?_,fun id hid=>by simp[l1] at hid,fun hc=>l1,fun hc=>by simp[l2] at hc,fun id hid=>by simp[l1] at hid⟩
     obtain ⟨i',j',e1⟩:=l4 id hr
     rw[e1] at hA
     rcases (rq sa hs).2 id hid with ⟨c,d,hy⟩ | ⟨c,d,e,hy⟩
     ·rw[hy] at hA; exact zo hA rfl
     ·rw[hy] at hA; exact Bo hA rfl
    ·simp at hp
   ·simp at hp
 ·simp at hp
theorem Oi {l:List (Nat × Nat)} {aps:List (Nat × Nat)} (h:Cv all l=some aps):∀ q∈l,∃ p∈aps,Cu all q.1 q.2=some p:=by
 induction l generalizing aps with
 | nil=>intro q hq; simp at hq
 | cons x r ih =>
  obtain ⟨i,k⟩:=x
  simp only[Cv] at h
  split at h
  ·rename_i p l' h1 h2
   simp at h; subst h
   intro q hq
   rcases Uk.1 hq with rfl | hq
   ·exact ⟨p,by simp,h1⟩
   ·obtain ⟨p',hp',e⟩:=ih h2 q hq
    exact ⟨p',by simp[hp'],e⟩
  ·simp at h
theorem Lu {l:List (Nat × Nat)} {aps:List (Nat × Nat)} (h:u9 all l=some aps):∀ q∈l,∃ ps,(∀ p∈ps,p∈aps)∧zi all q.1 q.2=some ps:=by
 induction l generalizing aps with
 | nil=>intro q hq; simp at hq
 | cons x r ih =>
  obtain ⟨i,k⟩:=x
  simp only[u9] at h
  split at h
  ·rename_i p l' h1 h2
   simp at h; subst h
   intro q hq
   rcases Uk.1 hq with rfl | hq
   ·exact ⟨p,fun x hx=>by simp[hx],h1⟩
   ·obtain ⟨p',hp',e⟩:=ih h2 q hq
    exact ⟨p',fun x hx=>by simp[hp' x hx],e⟩
  ·simp at h
theorem Nn {H:View} {x:V} {xs:List (List V)} {rd:List Nat} (h:bX H x=some (xs,rd)):∀ id,id∈rd→∃ a b c,x=.sl id a b c:=by
 unfold bX at h
 split at h
 ·simp at h; obtain ⟨_,rfl⟩:=h; intro id hid; simp at hid
 ·simp at h; obtain ⟨_,rfl⟩:=h; intro id hid; simp at hid
 ·simp at h; obtain ⟨_,rfl⟩:=h; intro id hid; simp at hid
 ·simp at h; obtain ⟨_,rfl⟩:=h; intro id hid; simp at hid
 ·split at h
  ·split at h
   ·simp at h
    obtain ⟨_,rfl⟩:=h
    intro id hid
    simp at hid; subst hid
    exact ⟨_,_,_,rfl⟩
   ·simp at h
  ·simp at h
 ·simp at h; obtain ⟨_,rfl⟩:=h; intro id hid; simp at hid
 ·simp at h
theorem HM {o:Oper} {T:Env} {h h':aJ} {v:V} {rd wr:List Nat} {call:Bool} {t y d:Nat} (st:dM P n all o T h v h' rd wr call) (ha:zw o=some (t,y,d)) :
  call=false∧(∀ id,id∈wr→∃ a b c,T t=.sl id a b c)∧(∀ id,id∈rd→(∃ a b c,T t=.sl id a b c)∨∃ a b c,T y=.sl id a b c)∧(h.length < h'.length→∃ a b c,v=.sl h.length a b c)∧h'.length≤h.length+1∧o.dst=some d:=by
 unfold zw at ha
 split at ha
 ·rename_i args ats d' ho hg hd
  split at ha
  ·rename_i t2 y2 hl
   simp at ha
   obtain ⟨rfl,rfl,rfl⟩:=ha
   cases st with
   | skip _=>exact ⟨rfl,fun id hid=>by simp at hid,fun id hid=>by simp at hid,fun h=>by omega,by omega,hd⟩
   | op _ hop =>
    simp only[cm,ho,hl] at hop
    have nn:∀ {v':V} {eff':bC} {rd':List Nat},some (v',bC.none,([]:List Nat))=some (v,eff',rd')→false=false∧(∀ id,id∈eff'.wr→∃ a b c,T t2=.sl id a b c)∧(∀ id,id∈rd'→(∃ a b c,T t2=.sl id a b c)∨∃ a b c,T y2=.sl id a b c)∧(h.length < (eff'.apply h).length→∃ a b c,v=.sl h.length a b c)∧(eff'.apply h).length≤h.length+1∧o.dst=some d':=by
     intro v' eff' rd' e
     simp only[T7,Ua] at e
     obtain ⟨_,rfl,rfl⟩:=e
     exact ⟨rfl,fun id hid=>by simp[bC.wr] at hid,fun id hid=>by simp at hid,fun h=>by simp[bC.apply] at h,by simp[bC.apply],hd⟩
    split at hop
    ·unfold mN at hop
     split at hop
     ·rename_i e xs rd' _ hel
      have hrd:=Nn hel
      split at hop
      ·simp at hop
      ·split at hop
       ·split at hop <;> first | exact nn hop | simp at hop
       ·split at hop
        ·simp at hop
        ·split at hop
         ·split at hop
          ·simp only[T7,Ua] at hop
           obtain ⟨rfl,rfl,rfl⟩:=hop
           exact ⟨rfl,fun id hid=>by simp[bC.wr] at hid,fun id hid=>.inr (hrd id hid),fun _=>⟨_,_,_,rfl⟩,by simp[bC.apply],hd⟩
          ·simp at hop
         ·rename_i id off len esz hx
          split at hop
          ·split at hop
           ·simp only[T7,Ua] at hop
            obtain ⟨rfl,rfl,rfl⟩:=hop
            refine ⟨rfl,fun id' hid=>?_,fun id' hid=>?_,fun _=>⟨_,_,_,rfl⟩,by simp[bC.apply],hd⟩
            ·simp[bC.wr] at hid; subst hid
             exact ⟨off,len,esz,hx⟩
            ·rcases Uk.1 hid with rfl | hid
             ·exact .inl ⟨off,len,esz,hx⟩
             ·exact .inr (hrd id' hid)
           ·simp at hop
          ·simp at hop
         ·simp at hop
     ·simp at hop
    ·split at hop
     ·unfold wo at hop
      split at hop
      ·split at hop
       ·split at hop
        ·exact nn hop
        ·split at hop
         ·simp only[T7,Ua] at hop
          obtain ⟨rfl,rfl,rfl⟩:=hop
          exact ⟨rfl,fun id hid=>by simp[bC.wr] at hid,fun id hid=>by simp at hid,fun _=>⟨_,_,_,rfl⟩,by simp[bC.apply],hd⟩
         ·simp at hop
       ·simp at hop
      ·simp at hop
     ·simp at hop
   | jn _ ho' _=>rw[ho] at ho'; simp at ho'
   | gf _ ho' _ _ _ _=>rw[ho] at ho'; simp at ho'
   | call _ ho' _ _ _ _ _=>rw[ho] at ho'; simp at ho'
  ·simp at ha
 ·simp at ha
theorem NY {T T':Env} {h h':aJ} {recs:List Rec} (tr:Tr P n all all T h recs T' h') {i:Nat} {o:Oper} (ho:all[i]?=some o) {r:Rec} (hr:recs[i]?=some r) :
  ∃ T1 h1 v h2,dM P n all o T1 h1 v h2 r.rd r.wr r.call∧r.lo=h1.length∧r.hi=h2.length∧(∀ t,stays all i t=true→T1 t=T' t)∧∀ d,o.dst=some d→stays all (i+1) d=true→T' d=v:=by
 obtain ⟨T1,h1,v,h2,rd,wr,call,recs2,e1,e2,e3,e4,e5,e6⟩:=tr.at_ i o ho
 rw[hr] at e1
 have e1:=V4 e1
 subst e1
 refine ⟨T1,h1,v,h2,e2,rfl,rfl,fun t hs=>?_,fun d hd hs=>?_⟩
 ·have hk:=wH hs
  have hi:i < all.length:=(Uj.1 ho).1
  have ho':all[i]=o:=(Uj.1 ho).2
  rw[UO hi,ho'] at hk
  rw[e4.keep fun o' ho'=>hk o' (by simp[ho'])]
  have:=hk o (by simp)
  cases hdst:o.dst with
  | none=>rfl
  | some d=>simp only[Env.put]; rw[T6]; rintro rfl; exact this hdst
 ·rw[e4.keep (wH hs),hd]
  simp[Env.put]
theorem xD {i a b c j d e f:Nat} (h:iS (.sl i a b c) (.sl j d e f)):i≠j:=h
theorem K4 {T T':Env} {h h':aJ} {recs:List Rec} (tr:Tr P n all all T h recs T' h') {i k:Nat} {a b:Rec} {ps:List (Nat × Nat)} (hp:C8 all i k=some ps) (hA:∀ p∈ps,iS (T' p.1) (T' p.2)) (ha:recs[i]?=some a) (hb:recs[k]?=some b):oo a b:=by
 unfold C8 at hp
 split at hp
 ·rename_i oa ob hoa hob
  split at hp
  ·rename_i t y d t' y' d' h1 h2
   split at hp
   ·rename_i hst
    simp only[Uh] at hst
    obtain ⟨⟨⟨⟨s1,s2⟩,s3⟩,s4⟩,s5⟩:=hst
    simp at hp; subst hp
    have a1:=hA (t,t') (by simp)
    have a2:=hA (t,y') (by simp)
    have a3:=hA (t',y) (by simp)
    have a4:=hA (d,t') (by simp)
    simp only at a1 a2 a3 a4
    obtain ⟨Ta,ha1,va,ha2,sa,la1,la2,ea,da⟩:=NY tr hoa ha
    obtain ⟨Tb,hb1,vb,hb2,sb,_,_,eb,_⟩:=NY tr hob hb
    obtain ⟨p1,p2,p3,p4,p5,p6⟩:=HM sa h1
    obtain ⟨q1,q2,q3,_⟩:=HM sb h2
    have da:=da d p6 s3
    rw[← ea t s1,← eb t' s4] at a1
    rw[← ea t s1,← eb y' s5] at a2
    rw[← eb t' s4,← ea y s2] at a3
    rw[da,← eb t' s4] at a4
    refine ⟨fun id hid hr=>?_,fun id hid hr=>?_,fun hc=>by rw[p1] at hc; simp at hc,fun hc=>by rw[q1] at hc; simp at hc,fun id hid hx=>?_⟩
    ·obtain ⟨_,_,_,e⟩:=p2 id hid
     rcases q3 id hr with ⟨_,_,_,e'⟩ | ⟨_,_,_,e'⟩
     ·rw[e,e'] at a1; exact xD a1 rfl
     ·rw[e,e'] at a2; exact xD a2 rfl
    ·obtain ⟨_,_,_,e⟩:=q2 id hid
     rcases p3 id hr with ⟨_,_,_,e'⟩ | ⟨_,_,_,e'⟩
     ·rw[e',e] at a1; exact xD a1 rfl
     ·rw[e,e'] at a3; exact xD a3 rfl
    ·obtain ⟨_,_,_,e⟩:=q2 id hid
     obtain ⟨_,_,_,e'⟩:=p4 (by omega)
     have:id=ha1.length:=by omega
     subst this
     rw[e,e'] at a4; exact xD a4 rfl
   ·simp at hp
  ·simp at hp
 ·simp at hp
theorem Ki {T T':Env} {h h':aJ} {recs:List Rec} (tr:Tr P n all all T h recs T' h') {i k:Nat} {a b:Rec} {ps:List (Nat × Nat)} (hp:zi all i k=some ps) (hA:∀ p∈ps,iS (T' p.1) (T' p.2)) (ha:recs[i]?=some a) (hb:recs[k]?=some b):oo a b:=by
 unfold zi at hp
 split at hp
 ·rename_i p h1
  simp at hp; subst hp
  exact KY tr h1 (hA p (by simp)) ha hb
 ·exact K4 tr hp hA ha hb
theorem Ow {ls:List Nat} {recs:List Rec} {T T':Env} {hp hp':aJ} {aps:List (Nat × Nat)} (tr:Tr P n all all T hp recs T' hp') (h:Cv all (ky all ls)=some aps) (hA:∀ p∈aps,iS (T' p.1) (T' p.2)) (hl:ls.length=recs.length)
  (hr:∀ (i x:Nat) (r:Rec),ls[i]?=some x→recs[i]?=some r→km x r.rd r.wr r.call r.lo r.hi):ur all recs:=by
 intro i k a b hik ha hb ho
 have hi:i < recs.length:=(Uj.1 ha).1
 have hk:k < recs.length:=(Uj.1 hb).1
 have la:=hr i _ a (T4 (by omega)) ha
 have lb:=hr k _ b (T4 (by omega)) hb
 have mi:(ls[i]'(by omega),i)∈ls.zipIdx:=by rw[U9]; simp[T4 (show i < ls.length by omega)]
 have mk:(ls[k]'(by omega),k)∈ls.zipIdx:=by rw[U9]; simp[T4 (show k < ls.length by omega)]
 by_cases h1:yk all (ls[i]'(by omega)) i (ls[k]'(by omega)) k=true
 ·unfold yk at h1
  simp only[hik,decide_true,V5,ho,Bool.false_or,U8,Va,Uh,Ul] at h1
  rcases h1 with ((h1 | h1) | h1) | h1
  ·obtain ⟨e1,e2,e3,e4⟩:=la.1 h1
   exact ⟨fun id hid=>by simp[e2] at hid,fun id _=>by simp[e1],fun hc=>by simp[e3] at hc,fun _=>e2,fun id _ hx=>by omega⟩
  ·obtain ⟨e1,e2,e3,e4⟩:=lb.1 h1
   exact ⟨fun id _=>by simp[e1],fun id hid=>by simp[e2] at hid,fun _=>e2,fun hc=>by simp[e3] at hc,fun id hid=>by simp[e2] at hid⟩
  ·have e1:=la.2 h1.1
   have e2:=lb.2 h1.2
   exact ⟨fun id hid=>by simp[e1] at hid,fun id hid=>by simp[e2] at hid,fun _=>e2,fun _=>e1,fun id hid=>by simp[e2] at hid⟩
  ·exact we tr h1 ha hb
 ·have hm:(i,k)∈ky all ls:=by
   unfold ky
   rw[VQ]
   refine ⟨_,mi,?_⟩
   rw[Vd]
   exact ⟨_,mk,by simp only; rw[T6 h1]⟩
  obtain ⟨p,hp,e⟩:=Oi h (i,k) hm
  exact L7 tr e (hA p hp) ha hb
theorem ET {P:Program} {t:TypeId} {id:Nat} {q:V} {ok:Bool} {H1 H2:View} (h:H1 id=H2 id):fE P t (.mp id) q ok H1=fE P t (.mp id) q ok H2:=by
 unfold fE
 simp only[h]
theorem Kt {P:Program} {t:TypeId} {id:Nat} {q:V} {H1 H2:View} (h:H1 id=H2 id):eh P t (.mp id) q H1=eh P t (.mp id) q H2:=by
 cases hm:dz P t with
 | none=>simp only[eh,hm]
 | some x=>simp only[eh,hm,h]
theorem PZ {P:Program} {t:TypeId} {id:Nat} {q:V} {H:View} {v:V} {eff:bC} {rd:List Nat} (h:fE P t (.mp id) q false H=some (v,eff,rd)):eff=.none∧rd=[id]:=by
 simp only[fE,Ut,if_false] at h
 repeat' (first | (simp only[T7,Ua] at h; exact ⟨h.2.1.symm,h.2.2.symm⟩) | (split at h) | (simp at h; done))
theorem Mf {P:Program} {t:TypeId} {id:Nat} {q:V} {H:View} {v:V} {eff:bC} {rd:List Nat} (h:eh P t (.mp id) q H=some (v,eff,rd)):∃ obj,eff=.eW id obj:=by
 cases hm:dz P t with
 | none=>simp[eh,hm] at h
 | some x =>
  simp only[eh,hm] at h
  repeat' (first | (simp only[T7,Ua] at h; exact ⟨_,h.2.1.symm⟩) | (split at h) | (simp at h; done))
theorem GV {o:Oper} {T:Env} {h h':aJ} {v:V} {rd wr:List Nat} {call:Bool} (st:dM P n all o T h v h' rd wr call) (hg:dB n all T o=some true) (hb:∀ e x,o.op≠.box e x) (hc:∀ s d x,o.op≠.convert s d x) (hl:∀ c,o.op≠.call c) :
  ∃ eff,cm P o T h.view h.length=some (v,eff,rd)∧h'=eff.apply h∧wr=eff.wr∧call=false:=by
 cases st with
 | skip hs=>rw[hg] at hs; simp at hs
 | op _ hop=>exact ⟨_,hop,rfl,rfl,rfl⟩
 | jn _ ho _=>exact absurd ho (hb _ _)
 | gf _ ho _ _ _ _=>exact absurd ho (hc _ _ _)
 | call _ ho _ _ _ _ _=>exact absurd ho (hl _)
theorem QP {recs:List Rec} {Ts:Nat→Env} {hs:Nat→aJ} {vs:Nat→V} (hst:AG P n all recs Ts hs vs) (hl:recs.length=all.length) {k:Nat} (hk:k≤all.length) (hw:∀ j r,j < k→recs[j]?=some r→r.wr=[]) :
  ∀ j,j≤k→(hs 0).length≤(hs j).length∧∀ id,id < (hs 0).length→(hs j).view id=(hs 0).view id:=by
 intro j
 induction j with
 | zero=>intro _; exact ⟨Ug _,fun _ _=>rfl⟩
 | succ j ih =>
  intro hj
  obtain ⟨l1,l2⟩:=ih (by omega)
  obtain ⟨st,_,_,_,_⟩:=hst j all[j] (recs[j]'(by omega)) (T4 (by omega)) (T4 (by omega))
  refine ⟨U0 l1 (tJ st),fun id hid=>?_⟩
  rw[rB st (UD hid l1) (by rw[hw j _ (by omega) (T4 (by omega))]; simp)]
  exact l2 id hid
theorem pP {recs:List Rec} {Ts:Nat→Env} {hs:Nat→aJ} {vs:Nat→V} (hst:AG P n all recs Ts hs vs) (hl:recs.length=all.length) {i t:Nat} (h:stays all i t=true):∀ j,i≤j→j≤all.length→Ts j t=Ts i t:=by
 intro j hij hj
 refine zA (vs:=vs) (N:=all.length) (fun k o hk=>?_) rfl i j hij hj fun k o h1 h2 h3=>wH h o (by
  rw[List.mem_iff_getElem?]
  exact ⟨k - i,by rw[V0,show i+(k - i)=k by omega]; exact h3⟩)
 have hk':k < all.length:=(Uj.1 hk).1
 exact (hst k o (recs[k]'(by omega)) hk (T4 (by omega))).2.2.1
theorem G8 {ls:List Nat} {recs:List Rec} {T T':Env} {hp hp':aJ} {aps:List (Nat × Nat)} {tp:Option (Nat × Nat)} (tr:Tr P n all all T hp recs T' hp') (h:u9 all (Ft all ls tp)=some aps) (hA:∀ p∈aps,iS (T' p.1) (T' p.2)) (hl:ls.length=recs.length)
  (hr:∀ (i x:Nat) (r:Rec),ls[i]?=some x→recs[i]?=some r→km x r.rd r.wr r.call r.lo r.hi) (htol:∀ p,tp=some p→∃ tol,Fk all ls p.1 p.2=some tol∧KM P tol.1 (T' tol.2.1) (T' tol.2.2) hp.view):Kh P n all recs T T' hp:=by
 have main:∀ i k a b,i < k→recs[i]?=some a→recs[k]?=some b→ordered (fw all []) i k=false→tp≠some (i,k)→oo a b:=by
  intro i k a b hik ha hb ho hne
  have hi:i < recs.length:=(Uj.1 ha).1
  have hk:k < recs.length:=(Uj.1 hb).1
  have la:=hr i _ a (T4 (by omega)) ha
  have lb:=hr k _ b (T4 (by omega)) hb
  have mi:(ls[i]'(by omega),i)∈ls.zipIdx:=by rw[U9]; simp[T4 (show i < ls.length by omega)]
  have mk:(ls[k]'(by omega),k)∈ls.zipIdx:=by rw[U9]; simp[T4 (show k < ls.length by omega)]
  by_cases h1:yk all (ls[i]'(by omega)) i (ls[k]'(by omega)) k=true
  ·unfold yk at h1
   simp only[hik,decide_true,V5,ho,Bool.false_or,U8,Va,Uh,Ul] at h1
   rcases h1 with ((h1 | h1) | h1) | h1
   ·obtain ⟨e1,e2,e3,e4⟩:=la.1 h1
    exact ⟨fun id hid=>by simp[e2] at hid,fun id _=>by simp[e1],fun hc=>by simp[e3] at hc,fun _=>e2,fun id _ hx=>by omega⟩
   ·obtain ⟨e1,e2,e3,e4⟩:=lb.1 h1
    exact ⟨fun id _=>by simp[e1],fun id hid=>by simp[e2] at hid,fun _=>e2,fun hc=>by simp[e3] at hc,fun id hid=>by simp[e2] at hid⟩
   ·have e1:=la.2 h1.1
    have e2:=lb.2 h1.2
    exact ⟨fun id hid=>by simp[e1] at hid,fun id hid=>by simp[e2] at hid,fun _=>e2,fun _=>e1,fun id hid=>by simp[e2] at hid⟩
   ·exact we tr h1 ha hb
  ·have hm:(i,k)∈ky all ls:=by
    unfold ky
    rw[VQ]
    refine ⟨_,mi,?_⟩
    rw[Vd]
    exact ⟨_,mk,by simp only; rw[T6 h1]⟩
   by_cases hn:newAt all k=true
   ·unfold newAt at hn
    split at hn
    ·rename_i ob hob
     obtain ⟨T1,h1',v,h2,rd,wr,call,recs2,e1,e2,_⟩:=tr.at_ k ob hob
     rw[hb] at e1
     have e1:=V4 e1
     subst e1
     obtain ⟨n1,n2,n3⟩:=AN e2 hn
     exact ⟨fun id _=>by simp[n1],fun id hid=>by simp[n2] at hid,fun _=>n2,fun hc=>by simp[n3] at hc,fun id hid=>by simp[n2] at hid⟩
    ·simp at hn
   ·obtain ⟨p,hp,e⟩:=Lu h (i,k) (by
     unfold Ft
     rw[UQ]
     refine ⟨hm,?_⟩
     simp only[Uh,V6,bne_iff_ne,ne_eq]
     exact ⟨by simpa using hn,hne⟩)
    exact Ki tr e (fun q hq=>hA q (hp q hq)) ha hb
 cases tp with
 | none=>exact ur.SE fun i k a b h1 h2 h3 h4=>main i k a b h1 h2 h3 h4 (by simp)
 | some p =>
  obtain ⟨i0,k0⟩:=p
  obtain ⟨tol,hto,htv⟩:=htol _ rfl
  intro Ts hs vs eT0 eh0 eTN hrl hst i
  by_cases hi:i=i0
  ·subst hi
   refine ⟨some k0,fun k a b h1 h2 h3 h4 h5=>main i k a b h1 h2 h3 h4 (fun e=>h5 (by simp at e; rw[e])),fun k a b o hk ha hb ho=>?_⟩
   simp at hk; subst hk
   unfold Fk at hto
   simp only at hto
   split at hto
   ·rename_i oa ob hoa hob
    rw[ho] at hoa
    have hoa:=V4 hoa
    subst hoa
    split at hto
    ·rename_i t m q t' m' q' hop1 hop2 hg1 hg2
     split at hto
     ·rename_i hcond
      simp only[Uh,Va,Ul,UE,UR] at hcond
      obtain ⟨⟨⟨⟨⟨⟨⟨⟨rfl,rfl⟩,rfl⟩,s1⟩,s2⟩,s3⟩,s4⟩,hik⟩,hloud⟩:=hcond
      simp only[T7] at hto
      subst hto
      simp only at htv
      have hkl:k0 < all.length:=(Uj.1 hob).1
      have hwr:∀ j r,j < k0→recs[j]?=some r→r.wr=[]:=fun j r hj hrj=>by
       have h1:=hloud j hj
       have hj':j < ls.length:=by omega
       rw[T0,T4 hj'] at h1
       exact (hr j _ r (T4 hj') hrj).2 h1
      have hsame:=QP hst hrl (Nat.le_of_lt hkl) hwr
      have em:∀ j,i≤j→j≤all.length→Ts j m=T' m:=fun j h1 h2=>by
       rw[← eTN,pP hst hrl s1 j h1 h2,pP hst hrl s1 all.length (by omega) (Ug _)]
      have eq:∀ j,i≤j→j≤all.length→Ts j q=T' q:=fun j h1 h2=>by
       rw[← eTN,pP hst hrl s2 j h1 h2,pP hst hrl s2 all.length (by omega) (Ug _)]
      obtain ⟨sti,_,_,hlo,hhi⟩:=hst i o a ho ha
      obtain ⟨stk,_,_,_,_⟩:=hst k0 ob b hob hb
      have gi:dB n all (Ts i) o=some true:=by unfold dB; rw[hg1]
      have gk:dB n all (Ts k0) ob=some true:=by unfold dB; rw[hg2]
      unfold KM at htv
      split at htv
      ·rename_i id hid
       obtain ⟨⟨es0,c0,hmap⟩,htv⟩:=htv
       have hidl:id < hp.length:=ig (by rw[hmap]; simp)
       have hvk:(hs k0).view id=hp.view id:=by rw[(hsame k0 (Ug _)).2 id (by rw[eh0]; exact hidl),eh0]
       have hvi:(hs i).view id=hp.view id:=by rw[(hsame i (Nat.le_of_lt hik)).2 id (by rw[eh0]; exact hidl),eh0]
       obtain ⟨effi,hopi,hi',wri,cai⟩:=GV sti gi (by rw[hop1]; simp) (by rw[hop1]; simp) (by rw[hop1]; simp)
       obtain ⟨effk,hopk,hk',wrk,cak⟩:=GV stk gk (by rw[hop2]; simp) (by rw[hop2]; simp) (by rw[hop2]; simp)
       simp only[cm,hop1] at hopi
       simp only[cm,hop2] at hopk
       have e1:ev (Ts i) (.tmp m)=.mp id:=(em i (Ug _) (by omega)).trans hid
       have e2:ev (Ts i) (.tmp q)=T' q:=eq i (Ug _) (by omega)
       have e3:ev (Ts k0) (.tmp m)=.mp id:=(em k0 (by omega) (by omega)).trans hid
       have e4:ev (Ts k0) (.tmp q)=T' q:=eq k0 (by omega) (by omega)
       rw[e1,e2] at hopi
       rw[e3,e4,Kt hvk] at hopk
       obtain ⟨l1,l2⟩:=PZ hopi
       obtain ⟨obj,l3⟩:=Mf hopk
       subst l1 l3
       have hkb:(hs (k0+1)).view id=obj:=by
        rw[hk',kX (fun id' hid'=>by
         simp only[bC.wr,UT] at hid'
         subst hid'
         rw[hvk,hmap]; simp)]
        simp[bC.view,View.set]
       refine ⟨hik,wri,cai,by rw[hlo,hhi,hi']; rfl,fun g hg hgv=>?_⟩
       have hidi:id < (hs i).length:=ig (by rw[hvi,hmap]; simp)
       have hgid:g.view id=(hp.view.set id obj) id:=by
        rw[hgv id hidi,wrk,T9 (by simp[bC.wr]),hkb]
        simp[View.set]
       have hlk:=htv _ _ _ hopk
       have hfin:cm P o (Ts i) g.view g.length=some (vs i,.none,a.rd):=by
        simp only[cm,hop1]
        rw[e1,e2,ET hgid,hlk,← ET hvi]
        exact hopi
       exact .op gi hfin
      ·exact htv.elim
     ·simp at hto
    ·simp at hto
   ·simp at hto
  ·exact ⟨none,fun k a b h1 h2 h3 h4 _=>main i k a b h1 h2 h3 h4 (fun e=>hi (by simp at e; exact e.1.symm)),fun k a b o h1=>by simp at h1⟩
theorem Px (hm:P.follows .mixedOrders=true) {fz:Fz} {id:Nat} {ops:Array Oper} {sc:SC} {T:Env} {h:aJ} {Q:Exit→Env→View→Prop} (hc:Cc P n fz ops.toList=some sc) (hw:wS P sc T h.view Q) :
  ∃ e T' h',c4 P n (.region id ops true) T h e T' h'∧(iY h h'∧h.length≤h'.length)∧Q e T' h'.view:=by
 unfold Cc at hc
 split at hc
 ·simp at hc
 ·rename_i l hl
  split at hc
  ·simp at hc
  ·rename_i hok
   have hok:(group l).all tH=true:=by simpa using hok
   have hl':dI P n ops.toList fz ops.toList=some (kh (group l)):=by rw[gz]; exact hl
   split at hc
   ·rename_i ht
    simp only[Uf] at hc
    obtain ⟨aps,hap,rfl⟩:=hc
    obtain ⟨recs,T',h',tr,hst,hk,hro⟩:=yY (group l) ops.toList T h hl' hok hw
    rw[gz] at hro
    refine ⟨.normal,T',h',?_,hst,hk.rest⟩
    have hcf:ur ops.toList recs:=Ow tr hap (Aj hk) (by simpa using hro.1) (fun i x r hx hr=>by
     simp only[T8,Uf] at hx
     obtain ⟨s,hs,rfl⟩:=hx
     exact hro.2 i s r hs hr)
    simpa using xP hm (id:=id) tr ht hcf
   ·simp at hc
theorem OB (hm:P.follows .mixedOrders=true) {fz:Fz} {id:Nat} {ops:Array Oper} {sc:SC} {T:Env} {h:aJ} {Q:Exit→Env→View→Prop} (hc:Bk P n fz ops.toList=some sc) (hw:wS P sc T h.view Q) :
  ∃ e T' h',c4 P n (.region id ops true) T h e T' h'∧(iY h h'∧h.length≤h'.length)∧Q e T' h'.view:=by
 unfold Bk at hc
 split at hc
 ·simp at hc
 ·rename_i l hl
  split at hc
  ·simp at hc
  ·rename_i hok
   have hok:(group l).all tH=true:=by simpa using hok
   have hl':dI P n ops.toList fz ops.toList=some (kh (group l)):=by rw[gz]; exact hl
   split at hc
   ·rename_i ht
    split at hc
    ·simp only[Uf] at hc
     obtain ⟨aps,hap,rfl⟩:=hc
     obtain ⟨recs,T',h',tr,hst,hk,hro⟩:=yY (group l) ops.toList T h hl' hok hw
     rw[gz] at hro
     refine ⟨.normal,T',h',?_,hst,hk.rest⟩
     have hcf:=G8 tr hap (Aj hk) (by simpa using hro.1) (fun i x r hx hr=>by
      simp only[T8,Uf] at hx
      obtain ⟨s,hs,rfl⟩:=hx
      exact hro.2 i s r hs hr) (fun p hp=>by simp at hp)
     simpa using vQ hm (id:=id) tr ht hcf
    ·rename_i p hp
     split at hc
     ·rename_i tol hto
      simp only[Uf] at hc
      obtain ⟨aps,hap,rfl⟩:=hc
      obtain ⟨recs,T',h',tr,hst,hk,hro⟩:=yY (group l) ops.toList T h hl' hok hw
      rw[gz] at hro
      refine ⟨.normal,T',h',?_,hst,hk.2.rest⟩
      have hcf:=G8 tr hap (Aj hk.2) (by simpa using hro.1) (fun i x r hx hr=>by
       simp only[T8,Uf] at hx
       obtain ⟨s,hs,rfl⟩:=hx
       exact hro.2 i s r hs hr) (fun p' hp'=>by
        simp only[T7] at hp'
        subst hp'
        exact ⟨tol,hto,hk.1⟩)
      simpa using vQ hm (id:=id) tr ht hcf
     ·simp at hc
   ·simp at hc
theorem sj (hm:P.follows .mixedOrders=true) {fz:Fz} {id:Nat} {ops:Array Oper} {draw quiet:Bool} {sc:SC} {T:Env} {h:aJ} {Q:Exit→Env→View→Prop} (hc:rp P n fz ops.toList draw quiet=some sc) (hw:wS P sc T h.view Q) :
  ∃ e T' h',c4 P n (.region id ops draw) T h e T' h'∧(iY h h'∧h.length≤h'.length)∧Q e T' h'.view:=by
 unfold rp at hc
 split at hc
 ·simp at hc
 ·rename_i l hl
  split at hc
  ·simp at hc
  ·rename_i hok
   have hok:(group l).all tH=true:=by simpa using hok
   have hl':dI P n ops.toList fz ops.toList=some (kh (group l)):=by rw[gz]; exact hl
   have key:xo P quiet (group l) T h.view (Q .normal)→(draw=true→lS ops.toList=true∧Fw ops.toList (l.map fun s=>iM P quiet s.b)=true) →
     ∃ e T' h',c4 P n (.region id ops draw) T h e T' h'∧(iY h h'∧h.length≤h'.length)∧Q e T' h'.view:=by
    intro hw hdr
    obtain ⟨recs,T',h',tr,hst,hk,hro⟩:=yY (group l) ops.toList T h hl' hok hw
    rw[gz] at hro
    refine ⟨.normal,T',h',?_,hst,hk⟩
    cases hd:draw with
    | false=>simpa using FK (id:=id) tr
    | true =>
     obtain ⟨h1,h2⟩:=hdr hd
     have hcf:ur ops.toList recs:=P2 tr h2 (by simpa using hro.1) (fun i x r hx hr=>by
      simp only[T8,Uf] at hx
      obtain ⟨s,hs,rfl⟩:=hx
      exact hro.2 i s r hs hr)
     simpa using xP hm (id:=id) tr h1 hcf
   split at hc
   ·rename_i hd
    split at hc
    ·rename_i ht
     simp at hc; subst hc
     exact key hw (fun _=>by simpa using ht)
    ·simp at hc
   ·rename_i hd
    simp at hc; subst hc
    exact key hw (fun e=>absurd e hd)
theorem eX {a b:Option SC} {sc:SC} (h:orElse' a b=some sc):a=some sc∨b=some sc:=by
 cases a with
 | none=>exact .inr h
 | some x=>exact .inl h
theorem M8 (hm:P.follows .mixedOrders=true) {fz:List Nat} {id:Nat} {ops:Array Oper} {draw:Bool} {sc:SC} {T:Env} {h:aJ} {Q:Exit→Env→View→Prop} (hc:A6 P n fz ops.toList draw=some sc) (hw:wS P sc T h.view Q) :
  ∃ e T' h',c4 P n (.region id ops draw) T h e T' h'∧(iY h h'∧h.length≤h'.length)∧Q e T' h'.view:=by
 unfold A6 at hc
 rcases eX hc with h1 | h1
 ·exact sj hm h1 hw
 ·clear hc
  split at h1
  ·rename_i hd
   subst hd
   rcases eX h1 with h0 | h1
   ·split at h0
    ·exact OB hm h0 hw
    ·simp at h0
   rcases eX h1 with h0 | h1
   ·split at h0
    ·exact sj hm h0 hw
    ·simp at h0
   rcases eX h1 with h2 | h2
   ·exact Px hm h2 hw
   ·rcases eX h2 with h3 | h3
    ·exact sj hm h3 hw
    ·rcases eX h3 with h4 | h4
     ·exact sj hm h4 hw
     ·exact sj hm h4 hw
  ·simp at h1
theorem Ew {e:Exit} {a b:Prop} (h:zL e a b):(e=.normal∧a)∨(e≠.normal∧b):=by
 cases e with
 | normal=>exact .inl ⟨rfl,h⟩
 | _=>exact .inr ⟨by simp,h⟩
def rz (P:Program) (n:Nat) (fz:List Nat) (c:Code):Prop:=∀ sc:SC,dg P n fz c=some sc→∀ (T:Env) (h:aJ) (Q:Exit→Env→View→Prop),wS P sc T h.view Q →
 ∃ e T' h',c4 P n c T h e T' h'∧(iY h h'∧h.length≤h'.length)∧Q e T' h'.view
theorem Er {fz:List Nat} : rz P n fz .skip:=by
 intro sc hc T h Q hw; simp[dg] at hc; subst hc; exact ⟨_,T,h,.skip,⟨.refl _,Ug _⟩,hw⟩
theorem Gy {fz:List Nat} {x y:Code} (ihx:rz P n fz x) (ihy:rz P n fz y):rz P n fz (.seq x y):=by
 intro sc hc T h Q hw
 simp only[dg] at hc
 split at hc
 ·rename_i a b h1 h2
  simp at hc; subst hc
  simp only[wS] at hw
  obtain ⟨e,T1,h1',hx,st1,hq⟩:=ihx a h1 T h _ hw
  rcases Ew hq with ⟨rfl,hq⟩ | ⟨hne,hq⟩
  ·obtain ⟨e2,T2,h2',hy,st2,hq2⟩:=ihy b h2 T1 h1' _ hq
   exact ⟨e2,T2,h2',hx.seq hy,⟨st1.1.trans st2.1 st1.2,U0 st1.2 st2.2⟩,hq2⟩
  ·exact ⟨e,T1,h1',hx.Jq hne,st1,hq⟩
 ·simp at hc
theorem nI {fz:Fz} {ops:List Oper} {draw quiet:Bool} {sc:SC} (h:rp P n fz ops draw quiet=some sc) (l:Nat):nQ sc l=none:=by
 unfold rp at h
 repeat' (first | (simp only[T7] at h; subst h; rfl) | (split at h) | (simp at h; done))
theorem KG {fz:Fz} {ops:List Oper} {sc:SC} (h:Cc P n fz ops=some sc) (l:Nat):nQ sc l=none:=by
 unfold Cc at h
 repeat' (first | (simp only[Uf] at h; obtain ⟨_,_,rfl⟩:=h; rfl) | (split at h) | (simp at h; done))
theorem Ks {fz:Fz} {ops:List Oper} {sc:SC} (h:Bk P n fz ops=some sc) (l:Nat):nQ sc l=none:=by
 unfold Bk at h
 repeat' (first | (simp only[Uf] at h; obtain ⟨_,_,rfl⟩:=h; rfl) | (split at h) | (simp at h; done))
theorem Kr {fz:List Nat} {ops:List Oper} {draw:Bool} {sc:SC} (h:A6 P n fz ops draw=some sc) (l:Nat):nQ sc l=none:=by
 unfold A6 at h
 rcases eX h with h1 | h1
 ·exact nI h1 l
 ·split at h1
  ·rcases eX h1 with h0 | h1
   ·split at h0
    ·exact Ks h0 l
    ·simp at h0
   rcases eX h1 with h0 | h1
   ·split at h0
    ·exact nI h0 l
    ·simp at h0
   rcases eX h1 with h2 | h2
   ·exact KG h2 l
   ·rcases eX h2 with h3 | h3
    ·exact nI h3 l
    ·rcases eX h3 with h4 | h4
     ·exact nI h4 l
     ·exact nI h4 l
  ·simp at h1
theorem NQ {fz:List Nat} : ∀ (c:Code) (sc:SC),dg P n fz c=some sc→∀ l,match findLabel c l with
  | some rest=>∃ r,nQ sc l=some r∧dg P n fz rest=some r
  | none=>nQ sc l=none:=by
 intro c
 induction c with
 | seq x y ihx ihy =>
  intro sc hc l
  simp only[dg] at hc
  split at hc
  ·rename_i a b h1 h2
   simp at hc; subst hc
   have hx:=ihx a h1 l
   have hy:=ihy b h2 l
   simp only[findLabel,nQ]
   cases h3:findLabel x l with
   | some rx =>
    rw[h3] at hx
    obtain ⟨r,e1,e2⟩:=hx
    exact ⟨.seq r b,by rw[e1],by simp only[dg,e2,h2]⟩
   | none =>
    rw[h3] at hx
    simp only at hx ⊢
    rw[hx]
    exact hy
  ·simp at hc
 | label l' =>
  intro sc hc l
  simp[dg] at hc; subst hc
  simp only[findLabel,nQ]
  by_cases e:(l' == l)=true
  ·rw[T9 e]; exact ⟨.skip,by rw[T9 e],by simp[dg]⟩
  ·rw[T6 e]; simp only; rw[T6 e]
 | region id ops draw=>intro sc hc l; simp only[dg] at hc; simp only[findLabel]; exact Kr hc l
 | cond x y z _ _ =>
  intro sc hc l
  simp only[dg] at hc
  split at hc
  ·simp at hc; subst hc; rfl
  ·simp at hc
 | block id c _=>intro sc hc l; simp only[dg,Uf] at hc; obtain ⟨_,_,rfl⟩:=hc; rfl
 | loop c _=>intro sc hc l; simp only[dg,Uf] at hc; obtain ⟨_,_,rfl⟩:=hc; rfl
 | scope c _ =>
  intro sc hc l
  simp only[dg] at hc
  split at hc
  ·split at hc
   ·simp only[Uf] at hc; obtain ⟨_,_,rfl⟩:=hc; rfl
   ·simp at hc
  ·simp at hc
 | skip=>intro sc hc l; simp[dg] at hc; subst hc; rfl
 | exit id=>intro sc hc l; simp[dg] at hc; subst hc; rfl
 | ret=>intro sc hc l; simp[dg] at hc; subst hc; rfl
 | goto l'=>intro sc hc l; simp[dg] at hc; subst hc; rfl
 | _=>intro sc hc; simp[dg] at hc
theorem Lq {fz:List Nat} {c:Code} (h0:rz P n fz c) (hr:∀ l rest,findLabel c l=some rest→rz P n fz rest):rz P n fz (.scope c):=by
 intro sc hc T h Q hw
 simp only[dg] at hc
 split at hc
 ·rename_i a h1
  split at hc
  ·rename_i l h2
   simp only[Uf] at hc
   obtain ⟨r,h3,rfl⟩:=hc
   have hf:=NQ c a h1 l
   cases h4:findLabel c l with
   | none=>rw[h4] at hf; simp only at hf; rw[hf] at h3; simp at h3
   | some rest =>
    rw[h4] at hf
    obtain ⟨r',e1,e2⟩:=hf
    rw[h3] at e1
    have e1:=V4 e1
    subst e1
    simp only[wS] at hw
    obtain ⟨I,K,hw1,hw2⟩:=hw
    have go:∀ k T (h:aJ),I k T h.view→∃ e T' h',rl P n c rest T h e T' h'∧(iY h h'∧h.length≤h'.length)∧Q e T' h'.view:=by
     intro k
     induction k using Nat.strongRecOn with
     | ind k ihk =>
      intro T h hI
      obtain ⟨e,T1,h1',hx,st1,hq⟩:=hr l rest h4 r e2 T h _ (hw2 k T h.view hI)
      cases e with
      | goto l' =>
       obtain ⟨rfl,k',hlt,hI'⟩:=hq
       obtain ⟨e2,T2,h2',hy,st2,hq2⟩:=ihk k' hlt T1 h1' hI'
       exact ⟨e2,T2,h2',rl.jump hx h4 hy,⟨st1.1.trans st2.1 st1.2,U0 st1.2 st2.2⟩,hq2⟩
      | _=>exact ⟨_,T1,h1',.out hx rfl,st1,hq⟩
    obtain ⟨e,T1,h1',hx,st1,hq⟩:=h0 a h1 T h _ hw1
    cases e with
    | goto l' =>
     obtain ⟨rfl,k',_,hI'⟩:=hq
     obtain ⟨e2,T2,h2',hy,st2,hq2⟩:=go k' T1 h1' hI'
     exact ⟨e2,T2,h2',.scope (rl.jump hx h4 hy),⟨st1.1.trans st2.1 st1.2,U0 st1.2 st2.2⟩,hq2⟩
    | _=>exact ⟨_,T1,h1',.scope (.out hx rfl),st1,hq⟩
  ·simp at hc
 ·simp at hc
theorem OG (hm:P.follows .mixedOrders=true) {fz:List Nat} : ∀ c:Code,rz P n fz c∧∀ l rest,findLabel c l=some rest→rz P n fz rest:=by
 intro c
 induction c with
 | skip=>exact ⟨Er,fun l rest h=>by simp[findLabel] at h⟩
 | region id ops draw=>exact ⟨fun sc hc T h Q hw=>M8 hm hc hw,fun l rest h=>by simp[findLabel] at h⟩
 | seq x y ihx ihy =>
  refine ⟨Gy ihx.1 ihy.1,fun l rest h=>?_⟩
  simp only[findLabel] at h
  split at h
  ·rename_i r hr
   simp only[T7] at h; subst h
   exact Gy (ihx.2 _ _ hr) ihy.1
  ·exact ihy.2 _ _ h
 | cond c x y ihx ihy =>
  refine ⟨?_,fun l rest h=>by simp[findLabel] at h⟩
  intro sc hc T h Q hw
  simp only[dg] at hc
  split at hc
  ·rename_i a b h1 h2
   simp at hc; subst hc
   simp only[wS] at hw
   split at hw
   ·rename_i t ht
    have hT:pW (SX.of c) t T=T:=by
     unfold pW
     split
     ·rename_i k hk
      rw[hk] at ht
      exact AV ht
     ·rfl
    rw[SX.cK] at ht
    cases t with
    | true =>
     have:=hw.1 rfl
     rw[hT] at this
     obtain ⟨e,T',h',hx,st,hq⟩:=ihx.1 a h1 T h Q this
     exact ⟨e,T',h',.cond ht hx,st,hq⟩
    | false =>
     have:=hw.2 rfl
     rw[hT] at this
     obtain ⟨e,T',h',hx,st,hq⟩:=ihy.1 b h2 T h Q this
     exact ⟨e,T',h',.cond ht hx,st,hq⟩
   ·exact hw.elim
  ·simp at hc
 | block id c ih =>
  refine ⟨?_,fun l rest h=>by simp[findLabel] at h⟩
  intro sc hc T h Q hw
  simp only[dg,Uf] at hc
  obtain ⟨a,h1,rfl⟩:=hc
  simp only[wS] at hw
  obtain ⟨e,T',h',hx,st,hq⟩:=ih.1 a h1 T h _ hw
  exact ⟨_,T',h',hx.block,st,hq⟩
 | loop c ih =>
  refine ⟨?_,fun l rest h=>by simp[findLabel] at h⟩
  intro sc hc T h Q hw
  simp only[dg,Uf] at hc
  obtain ⟨a,h1,rfl⟩:=hc
  simp only[wS] at hw
  obtain ⟨I,⟨k,hk⟩,hstep⟩:=hw
  have go:∀ k T (h:aJ),I k T h.view→∃ e T' h',pS P n c T h e T' h'∧(iY h h'∧h.length≤h'.length)∧Q e T' h'.view:=by
   intro k
   induction k using Nat.strongRecOn with
   | ind k ihk =>
    intro T h hI
    obtain ⟨e,T1,h1',hx,st1,hq⟩:=ih.1 a h1 T h _ (hstep k T h.view hI)
    rcases Ew hq with ⟨rfl,k',hlt,hI'⟩ | ⟨hne,hq⟩
    ·obtain ⟨e2,T2,h2',hy,st2,hq2⟩:=ihk k' hlt T1 h1' hI'
     exact ⟨e2,T2,h2',.step hx hy,⟨st1.1.trans st2.1 st1.2,U0 st1.2 st2.2⟩,hq2⟩
    ·exact ⟨e,T1,h1',.out hx hne,st1,hq⟩
  obtain ⟨e,T',h',hx,st,hq⟩:=go k T h hk
  exact ⟨e,T',h',.loop hx,st,hq⟩
 | exit id=>exact ⟨fun sc hc T h Q hw=>by simp[dg] at hc; subst hc; exact ⟨_,T,h,.exit,⟨.refl _,Ug _⟩,hw⟩,fun l rest h=>by simp[findLabel] at h⟩
 | ret=>exact ⟨fun sc hc T h Q hw=>by simp[dg] at hc; subst hc; exact ⟨_,T,h,.ret,⟨.refl _,Ug _⟩,hw⟩,fun l rest h=>by simp[findLabel] at h⟩
 | label l'=>exact ⟨fun sc hc T h Q hw=>by simp[dg] at hc; subst hc; exact ⟨_,T,h,.label,⟨.refl _,Ug _⟩,hw⟩,fun l rest h=>by
   simp only[findLabel] at h
   split at h
   ·simp only[T7] at h; subst h; exact Er
   ·simp at h⟩
 | goto l'=>exact ⟨fun sc hc T h Q hw=>by simp[dg] at hc; subst hc; exact ⟨_,T,h,.goto,⟨.refl _,Ug _⟩,hw⟩,fun l rest h=>by simp[findLabel] at h⟩
 | scope c ih=>exact ⟨Lq ih.1 ih.2,fun l rest h=>by simp[findLabel] at h⟩
 | _=>exact ⟨fun sc hc=>by simp[dg] at hc,fun l rest h=>by simp[findLabel] at h⟩
theorem Sb (hm:P.follows .mixedOrders=true) {fz:List Nat} (c:Code) (sc:SC) (hc:dg P n fz c=some sc) (T:Env) (h:aJ) (Q:Exit→Env→View→Prop) (hw:wS P sc T h.view Q) :
 ∃ e T' h',c4 P n c T h e T' h'∧(iY h h'∧h.length≤h'.length)∧Q e T' h'.view:=(OG hm c).1 sc hc T h Q hw
theorem Ss {T:Env} {h:aJ} {r:ResultVar} {l:List SR} {rest:List ResultVar} (hc:fF P (r :: rest)=some l):∃ s l',l=s :: l'∧fF P rest=some l'∧∀ K:V→Prop,wR T h.view s K→∃ v,sk P T h r=some v∧K v:=by
 cases r with
 | tmp t =>
  simp only[fF,Uf] at hc
  obtain ⟨l',h1,rfl⟩:=hc
  exact ⟨.tmp t,l',rfl,h1,fun K hk=>⟨_,rfl,hk⟩⟩
 | cell a t =>
  simp only[fF] at hc
  split at hc
  ·rename_i k l' h1 h2
   simp at hc; subst hc
   refine ⟨.cell a k,l',rfl,h2,fun K hk=>?_⟩
   simp only[wR] at hk
   simp only[sk,mg,wE h1]
   split at hk
   ·rename_i id i j ha
    split at hk
    ·rename_i es hH
     obtain ⟨hlt,hk⟩:=hk
     obtain ⟨v,hv,hk⟩:=pG hk
     exact ⟨v,by rw[ha]; simp only[hH]; rw[T9 hlt,hv]; rfl,hk⟩
    ·exact hk.elim
   ·rename_i e j ha
    obtain ⟨v,hv,hk⟩:=pG hk
    exact ⟨v,by rw[ha]; simp only; rw[hv]; rfl,hk⟩
   ·exact hk.elim
  ·simp at hc
theorem LU {T:Env} {h:aJ} {K:List V→Prop} : ∀ (rs:List ResultVar) (l:List SR) (acc:List V),fF P rs=some l→Bj T h.view l acc K→∃ vs,lY P T h rs=some vs∧K (acc ++ vs)
 | [],l,acc,hc,hw=>by simp[fF] at hc; subst hc; exact ⟨[],rfl,by simpa [Bj] using hw⟩
 | r :: rest,l,acc,hc,hw=>by
  obtain ⟨s,l',rfl,h1,h2⟩:=Ss (T:=T) (h:=h) hc
  simp only[Bj] at hw
  obtain ⟨v,hv,hk⟩:=h2 _ hw
  obtain ⟨vs,hvs,hk⟩:=LU rest l' (acc ++ [v]) h1 hk
  exact ⟨v :: vs,by simp[lY,hv,hvs],by simpa using hk⟩
def wF (P:Program) (F:SF) (vs:List V) (H:View) (K:V→View→Prop):Prop :=
 vs.length≤F.n∧wS P F.code (lf vs) H fun e T' H'=>(e=.ret∨e=.normal)∧Bj T' H' F.res [] fun l=>K (ah l) H'
theorem aC.of (hm:P.follows .mixedOrders=true) {f:FuncId} {fz:List Nat} {F:SF} (hF:aU P f fz=some F) {vs:List V} {H:View} {K:V→View→Prop} (hw:wF P F vs H K):aC P f vs H K:=by
 unfold aU at hF
 split at hF
 ·rename_i fn hfn
  split at hF
  ·rename_i c hb
   split at hF
   ·rename_i sc rs h1 h2 h3
    simp at hF; subst hF
    refine ⟨h3,?_⟩
    rintro h rfl
    obtain ⟨e,T',h',hx,st,he,hr⟩:=Sb hm c sc h1 _ h _ hw.2
    obtain ⟨vs',hvs,hk⟩:=LU _ _ [] h2 hr
    refine ⟨ah vs',h',bW.JQ hfn hb hw.1 hx he ?_,st.1,by simpa using hk⟩
    unfold KZ
    rw[hvs]
    cases vs' with
    | nil=>rfl
    | cons a l=>cases l <;> rfl
   ·simp at hF
  ·simp at hF
 ·simp at hF
theorem aC.mono {f:FuncId} {vs:List V} {H:View} {K K':V→View→Prop} (h:aC P f vs H K) (hk:∀ r H',K r H'→K' r H'):aC P f vs H K' :=
 ⟨h.1,fun h0 e=>let ⟨r,h',a,s,b⟩:=h.2 h0 e; ⟨r,h',a,s,hk _ _ b⟩⟩
theorem aG.Ku {f:FuncId} {vs:List V} {H:View} {t:V} {K:V→View→Prop} (h:aG P f vs t) (hok:dG P f=true) (hk:K t H):Cm P f vs H K :=
 ⟨hok,fun h0 e=>⟨t,h0,bW.gg h h0,fun _ _=>rfl,e ▸ hk⟩⟩
theorem aC.Ku {f:FuncId} {vs:List V} {H:View} {K:V→View→Prop} (h:aC P f vs H fun r H'=>(∀ id,H id≠.dead→H' id=H id)∧K r H'):Cm P f vs H K :=
 ⟨h.1,fun h0 e=>by
  obtain ⟨r,h',ha,st,hf,hk⟩:=h.2 h0 e
  refine ⟨r,h',ha,fun id hid=>?_,hk⟩
  by_cases hd:h0.view id=.dead
  ·rw[hd]; exact st id hid hd
  ·rw[← e] at hf; exact hf id hd⟩
end
inductive cE {α:Type} (x:α):Type where
 | mk
def fp (s:ByteArray):List Int:=s.data.toList.map fun b=>(b.toNat:Int)
theorem eN (s:ByteArray):s.size=(fp s).length:=by rw[fp,Uc,bsize]
def bc (P:Program) (c:SC) (T:Env) (H:View) (Q:Exit→Env→View→Prop) (_:cE (T,H,Q)):Prop:=wS P (.loop c) T H Q
def RQ (P:Program) (l:Nat) (c r:SC) (T:Env) (H:View) (Q:Exit→Env→View→Prop) (_:cE (T,H,Q)):Prop:=wS P (.scope l c r) T H Q
def aE (P:Program) (quiet:Bool) (f:FuncId) (vs:List V) (H:View) (K:V→View→Prop) (_:cE (H,K)):Prop :=
 if quiet then Cm P f vs H K else aC P f vs H K
def BB {α:Type} (v:α) (F:α→Prop) (_:cE F):Prop:=F v
def dU (v:V) (F:V→Prop) (_:cE F):Prop:=F v
def Gu (o:dy) (F:dy→Prop) (_:cE F):Prop:=F o
def qx {α:Type} (o:Option α) (F:Option α→Prop) (_:cE F):Prop:=F o
def av (b:Bool) (A B:Prop) (_:cE (A,B)):Prop:=(b=true→A)∧(b=false→B)
theorem SK {α:Type} (v:α) (F:α→Prop) (w:cE F):BB v F w=F v:=propext Iff.rfl
section
variable (F:V→Prop) (w:cE F)
theorem Jm (v:Value):dU (.val v) F w=F (.val v):=propext Iff.rfl
theorem JP (k:Nat):dU (.emp k) F w=F (.emp k):=propext Iff.rfl
theorem IF:dU .dP F w=F .dP:=propext Iff.rfl
theorem Ja (es:List (List V)):dU (.aL es) F w=F (.aL es):=propext Iff.rfl
theorem My (a b c d:Nat):dU (.sl a b c d) F w=F (.sl a b c d):=propext Iff.rfl
theorem Jd (a b c:Nat):dU (.ptr a b c) F w=F (.ptr a b c):=propext Iff.rfl
theorem HT (e:List V) (j:Nat):dU (.aO e j) F w=F (.aO e j):=propext Iff.rfl
theorem L0 (a:Nat):dU (.mp a) F w=F (.mp a):=propext Iff.rfl
theorem Ob (f:FuncId) (a b:List V):dU (.fn f a b) F w=F (.fn f a b):=propext Iff.rfl
theorem Kb (cs:List V):dU (.agg cs) F w=F (.agg cs):=propext Iff.rfl
theorem I6 (cs:List V):dU (.bE cs) F w=F (.bE cs):=propext Iff.rfl
end
theorem JD (F:dy→Prop) (w:cE F) (k:Nat) (es:List (List V)):Gu (.arr k es) F w=F (.arr k es):=propext Iff.rfl
theorem Jk (F:dy→Prop) (w:cE F) (es:List (V × V × Nat)) (k:Nat):Gu (.map es k) F w=F (.map es k):=propext Iff.rfl
theorem F8 {α:Type} (F:Option α→Prop) (w:cE F) (x:α):qx (some x) F w=F (some x):=propext Iff.rfl
theorem Hj (A B:Prop) (w:cE (A,B)):av true A B w=A:=by simp[av]
theorem DI (A B:Prop) (w:cE (A,B)):av false A B w=B:=by simp[av]
theorem Je (b:Bool) (A B:Prop) (w:cE (A,B)):av (!b) A B w=av b B A .mk:=by cases b <;> simp[av]
theorem av.split {b:Bool} {A B:Prop} {w:cE (A,B)} (h1:b=true→A) (h2:b=false→B):av b A B w:=⟨h1,h2⟩
theorem av.dec {p:Prop} [Decidable p] {A B:Prop} {w:cE (A,B)} (h1:p→A) (h2:¬ p→B):av (decide p) A B w:=⟨fun h=>h1 (by simpa using h),fun h=>h2 (by simpa using h)⟩
theorem av.eq {a b:Int} {A B:Prop} {w:cE (A,B)} (h1:a=b→A) (h2:¬ a=b→B):av (a == b) A B w:=⟨fun h=>h1 (by simpa using h),fun h=>h2 (by simpa using h)⟩
theorem av.ne {a b:Int} {A B:Prop} {w:cE (A,B)} (h1:¬ a=b→A) (h2:a=b→B):av (a != b) A B w:=⟨fun h=>h1 (by simpa using h),fun h=>h2 (by simpa using h)⟩
section
variable (P:Program) (T:Env) (H:View)
theorem Qg (F:SF) (vs:List V) (K:V→View→Prop):wF P F vs H K=(vs.length≤F.n∧wS P F.code (lf vs) H fun e T' H'=>(e=.ret∨e=.normal)∧Bj T' H' F.res [] fun l=>BB (ah l) (fun v=>K v H') .mk):=propext Iff.rfl
theorem J7 (Q:Exit→Env→View→Prop):wS P .skip T H Q=Q .normal T H:=propext Iff.rfl
theorem Ee (q:Bool) (gs:List SG) (Q:Exit→Env→View→Prop):wS P (.region q gs) T H Q=xo P q gs T H (Q .normal):=propext Iff.rfl
theorem Bm (aps:List (Nat × Nat)) (gs:List SG) (Q:Exit→Env→View→Prop):wS P (.rO aps gs) T H Q=xo P false gs T H (fun T' H'=>xO aps T' (Q .normal T' H')):=propext Iff.rfl
theorem CH (tol:Nat × Nat × Nat) (aps:List (Nat × Nat)) (gs:List SG) (Q:Exit→Env→View→Prop):wS P (.CK tol aps gs) T H Q=xo P false gs T H (fun T' H'=>KM P tol.1 (T' tol.2.1) (T' tol.2.2) H∧xO aps T' (Q .normal T' H')):=propext Iff.rfl
theorem J9 (K:Prop):xO [] T K=K:=propext Iff.rfl
theorem GY (a b:Nat) (l:List (Nat × Nat)) (K:Prop):xO ((a,b) :: l) T K=(iS (T a) (T b)∧xO l T K):=propext Iff.rfl
theorem Jl (i j k i' j' k':Nat):iS (.ptr i j k) (.ptr i' j' k')=(i≠i'):=propext Iff.rfl
theorem zt (i j k a b c d:Nat):iS (.ptr i j k) (.sl a b c d)=(i≠a):=propext Iff.rfl
theorem vI (i j k e:Nat):iS (.ptr i j k) (.emp e)=True:=id rfl
theorem FV (i j k:Nat):iS (.ptr i j k) .dP=True:=id rfl
theorem Hu (i j k:Nat) (es:List (List V)):iS (.ptr i j k) (.aL es)=True:=id rfl
theorem J6 (a b c d e f g h:Nat):iS (.sl a b c d) (.sl e f g h)=(a≠e):=propext Iff.rfl
theorem Nr (a b c d e:Nat):iS (.sl a b c d) (.emp e)=True:=id rfl
theorem MV (a b c d:Nat):iS (.sl a b c d) .dP=True:=id rfl
theorem Mn (a b c d:Nat) (es:List (List V)):iS (.sl a b c d) (.aL es)=True:=id rfl
theorem I9 (k:Nat) (v:V):iS (.emp k) v=True:=by cases v <;> rfl
theorem ID (v:V):iS .dP v=True:=by cases v <;> rfl
theorem J2 (es:List (List V)) (v:V):iS (.aL es) v=True:=by cases v <;> rfl
theorem HP (e:List V) (j:Nat) (v:V):iS (.aO e j) v=True:=by cases v <;> rfl
theorem MN (x y:SC) (Q:Exit→Env→View→Prop):wS P (.seq x y) T H Q=wS P x T H fun e T' H'=>zL e (wS P y T' H' Q) (Q e T' H'):=propext Iff.rfl
theorem Jv (c:SX) (x y:SC) (Q:Exit→Env→View→Prop):wS P (.cond c x y) T H Q=dU (c.at T) (fun v=>match v with
 | .val (.bool b)=>av b (wS P x (pW c true T) H Q) (wS P y (pW c false T) H Q) .mk
 | _=>False) .mk:=propext Iff.rfl
theorem Gp (id:Nat) (c:SC) (Q:Exit→Env→View→Prop):wS P (.block id c) T H Q=wS P c T H fun e=>Q (pZ id e):=propext Iff.rfl
theorem IW (id:Nat) (Q:Exit→Env→View→Prop):wS P (.exit id) T H Q=Q (.exit id) T H:=propext Iff.rfl
theorem LN (Q:Exit→Env→View→Prop):wS P .ret T H Q=Q .ret T H:=propext Iff.rfl
theorem HL (l:Nat) (c r:SC) (Q:Exit→Env→View→Prop):wS P (.scope l c r) T H Q=RQ P l c r T H Q .mk:=propext Iff.rfl
theorem FX (l:Nat) (Q:Exit→Env→View→Prop):wS P (.label l) T H Q=Q .normal T H:=propext Iff.rfl
theorem Ju (l:Nat) (Q:Exit→Env→View→Prop):wS P (.goto l) T H Q=Q (.goto l) T H:=propext Iff.rfl
theorem BS (l l':Nat) (a b:Prop):zh l (.goto l') a b=(l'=l∧a):=propext Iff.rfl
theorem xL (l:Nat) (a b:Prop):zh l .normal a b=b:=propext Iff.rfl
theorem Cn (l i:Nat) (a b:Prop):zh l (.exit i) a b=b:=propext Iff.rfl
theorem EG (l:Nat) (a b:Prop):zh l .ret a b=b:=propext Iff.rfl
theorem Hc (l:Nat) (a b:Prop):zL (.goto l) a b=b:=propext Iff.rfl
theorem Bd (i l:Nat):pZ i (.goto l)=.goto l:=id rfl
theorem JF (c:SC) (Q:Exit→Env→View→Prop):wS P (.loop c) T H Q=bc P c T H Q .mk:=propext Iff.rfl
theorem IH (q:Bool) (K:Env→View→Prop):xo P q [] T H K=K T H:=propext Iff.rfl
theorem HA (q:Bool) (g:SG) (r:List SG) (K:Env→View→Prop):xo P q (g :: r) T H K=wG P q g T H fun T' H'=>xo P q r T' H' K:=propext Iff.rfl
theorem IZ (q:Bool) (ops:List (Option Nat × SB)) (K:Env→View→Prop):wG P q ⟨none,ops⟩ T H K=yN P q ops T H K:=propext Iff.rfl
theorem JI (q:Bool) (d:Nat) (ops:List (Option Nat × SB)) (K:Env→View→Prop):wG P q ⟨some (d,true),ops⟩ T H K=dU (T d) (fun v=>match v with
 | .val (.bool b)=>av b (yN P q ops (T.put (some d) (.val (.bool true))) H K) (K (iK ops (T.put (some d) (.val (.bool false)))) H) .mk
 | .bE []=>K (iK ops T) H
 | _=>False) .mk:=propext Iff.rfl
theorem F6 (q:Bool) (d:Nat) (ops:List (Option Nat × SB)) (K:Env→View→Prop):wG P q ⟨some (d,false),ops⟩ T H K=dU (T d) (fun v=>match v with
  | .val (.bool b)=>av b (K (iK ops (T.put (some d) (.val (.bool true)))) H) (yN P q ops (T.put (some d) (.val (.bool false))) H K) .mk
  | .bE []=>K (iK ops T) H
  | _=>False) .mk:=by
 simp only[wG,dU]
 generalize T d=v
 cases v with
 | val x=>cases x <;> simp[av,and_comm]
 | bE l=>cases l <;> simp
 | _=>simp
theorem zX:iK [] T=T:=id rfl
theorem yC (d:Option Nat) (b:SB) (r:List (Option Nat × SB)):iK ((d,b) :: r) T=iK r (T.put d (.bE [])):=id rfl
theorem JL (q:Bool) (K:Env→View→Prop):yN P q [] T H K=K T H:=propext Iff.rfl
theorem Ho (q:Bool) (d:Option Nat) (b:SB) (r:List (Option Nat × SB)) (K:Env→View→Prop):yN P q ((d,b) :: r) T H K=wB P q b T H fun v H'=>BB v (fun v'=>yN P q r (T.put d v') H' K) .mk:=propext Iff.rfl
theorem Qe (q:Bool) (s:SI) (K:V→View→Prop):wB P q (.op s) T H K=wI P s T H K:=propext Iff.rfl
theorem JA (q:Bool) (f:SX) (args:List SX) (K:V→View→Prop):wB P q (.call f args) T H K=dU (f.at T) (fun v=>match v with
 | .fn g first cap=>aE P q g (first ++ args.map (SX.at T) ++ cap) H K .mk
 | _=>False) .mk:=propext Iff.rfl
theorem F0 (q:Bool) (f:SX) (args:List SX) (K:V→View→Prop):wB P q (.zm f args) T H K=dU (f.at T) (fun v=>match v with
 | .fn g first cap=>aE P true g (first ++ args.map (SX.at T) ++ cap) H K .mk
 | _=>False) .mk:=propext Iff.rfl
theorem Nj (x:SX) (K:V→View→Prop):wI P (.bP x) T H K=K (x.at T) H:=propext Iff.rfl
theorem II (c a b:SX) (K:V→View→Prop):wI P (.pick c a b) T H K=dU (c.at T) (fun v=>match v with
  | .val (.bool t)=>av t (K (a.at T) H) (K (b.at T) H) .mk
  | _=>False) .mk:=by
 simp only[wI,dU]
 generalize c.at T=v
 cases v with
 | val x =>
  cases x with
  | bool t=>cases t <;> simp[av]
  | _=>simp
 | _=>simp
theorem Mj (x:SX) (K:V→View→Prop):wI P (.box x) T H K=dU (x.at T) (fun v=>v.cells.all aX=true∧BB v.cells (fun cs=>∀ n,H n=.dead→K (.ptr n 0 0) (H.set n (.arr cs.length [cs]))) .mk) .mk:=propext Iff.rfl
theorem MT (x:SX) (K:V→View→Prop):wI P (.jn x) T H K=dU (x.at T) (fun v=>v.cells.all aX=true∧BB v.cells (fun cs=>K (.aO cs 0) H) .mk) .mk:=propext Iff.rfl
theorem Hh (z:List V) (K:V→View→Prop):wI P (.alloc z) T H K=(z.all aX=true∧∀ n,H n=.dead→K (.ptr n 0 0) (H.set n (.arr z.length [z]))):=propext Iff.rfl
theorem Ka (sz:Option Nat) (a:SX) (K:V→View→Prop):wI P (.load sz a) T H K=dU (a.at T) (fun v=>match v with
 | .ptr id i j=>Gu (H id) (fun o=>match o with
  | .arr _ es=>i < es.length∧BB (es.getD i []) (fun e=>jE sz e j fun v=>K v H) .mk
  | _=>False) .mk
 | .aO e j=>jE sz e j fun v=>K v H
 | _=>False) .mk:=propext Iff.rfl
theorem HK (sz:Option Nat) (a:SX) (K:V→View→Prop):wI P (.zb sz a) T H K=dU (a.at T) (fun v=>match v with
 | .aO e j=>jE sz e j fun v=>K v H
 | _=>False) .mk:=propext Iff.rfl
theorem Hq (sz:Nat) (a x:SX) (K:V→View→Prop):wI P (.store sz a x) T H K=dU (a.at T) (fun v=>match v with
 | .ptr id i j=>Gu (H id) (fun o=>match o with
  | .arr esz es=>BB (x.at T).cells (fun cs=>(i < es.length∧cs.length=sz∧j+cs.length≤esz∧cs.all aX=true) ∧
   BB (es.set i (aa (es.getD i []) j cs)) (fun es'=>K .any (H.set id (.arr esz es'))) .mk) .mk
  | _=>False) .mk
 | _=>False) .mk:=propext Iff.rfl
theorem JH (x:SX) (K:V→View→Prop):wI P (.Ap x) T H K=dU (x.at T) (fun v=>match v with
 | .ptr id i j=>K (.ptr id i j) H
 | .aO e j=>K (.aO e j) H
 | .fn f a b=>K (.fn f a b) H
 | _=>False) .mk:=propext Iff.rfl
theorem Jy (off:Nat) (x:SX) (K:V→View→Prop):wI P (.addr off x) T H K=dU (x.at T) (fun v=>match v with
 | .ptr id i j=>K (.ptr id i (j+off)) H
 | .aO e j=>K (.aO e (j+off)) H
 | _=>False) .mk:=propext Iff.rfl
theorem HB (off:Nat) (sz:Option Nat) (x:SX) (K:V→View→Prop):wI P (.field off sz x) T H K=dU (x.at T) (fun v=>match v with
 | .agg cs=>jE sz cs off fun v=>K v H
 | _=>False) .mk:=propext Iff.rfl
theorem L5 (sz:Nat) (x i:SX) (K:V→View→Prop):wI P (.idx sz x i) T H K=qx (asNat (i.at T)) (fun o=>match o with
  | none=>False
  | some q=>dU (x.at T) (fun v=>match v with
   | .sl id off len esz=>(q < len∧esz=sz)∧K (.ptr id (off+q) 0) H
   | .aL es=>qx es[q]? (fun o=>match o with
    | some e=>e.length=sz∧K (.aO e 0) H
    | none=>False) .mk
   | _=>False) .mk) .mk:=by
 simp only[wI,qx,dU]
 cases asNat (i.at T) with
 | none=>rfl
 | some q =>
  simp only
  cases x.at T with
  | aL es =>
   simp only
   cases h:es[q]? with
   | none=>simp
   | some e=>simp
  | _=>rfl
theorem JX (f:FuncId) (first cap:List SX) (K:V→View→Prop):wI P (.sL f first cap) T H K=K (.fn f (first.map (SX.at T)) (cap.map (SX.at T))) H:=propext Iff.rfl
theorem FE (K:V→View→Prop):wI P .nR T H K=(∀ n,H n=.dead→K (.mp n) (H.set n (.map [] 0))):=propext Iff.rfl
theorem NA (i:Nat) (x:SX) (K:V→View→Prop):wI P (.ext i x) T H K=dU (x.at T) (fun v=>match v with
 | .bE vs=>i < vs.length∧K (vs.getD i .any) H
 | _=>False) .mk:=propext Iff.rfl
theorem MA (x:SX) (K:V→View→Prop):wI P (.len x) T H K=qx (cG (x.at T)) (fun o=>match o with
 | some n=>K (ak n) H
 | none=>False) .mk:=propext Iff.rfl
theorem Jp (x:SX) (K:V→View→Prop):wI P (.pH x) T H K=dU (x.at T) (fun v=>match v with
 | .val (.string s)=>K (ak s.size) H
 | _=>False) .mk:=propext Iff.rfl
theorem Hv (op:BinOp) (x y:SX) (K:V→View→Prop):wI P (.arith op x y) T H K=dU (x.at T) (fun v=>dU (y.at T) (fun v'=>match v,v' with
 | .val (.int k a),.val (.int k' b)=>k=k'∧qx (ag op k a b) (fun o=>match o with | some v=>K (.val v) H | none=>False) .mk
 | _,_=>False) .mk) .mk:=propext Iff.rfl
theorem P7 (l:Bool) (x y:SX) (K:V→View→Prop):wI P (.sh l x y) T H K=dU (x.at T) (fun v=>dU (y.at T) (fun v'=>match v,v' with
 | .val (.int k a),.val (.int _ b)=>0≤b∧K (.val (.int k (Du l k a b))) H
 | _,_=>False) .mk) .mk:=propext Iff.rfl
theorem M6 (op:BinOp) (x y:SX) (K:V→View→Prop):wI P (.xk op x y) T H K=dU (x.at T) (fun v=>dU (y.at T) (fun v'=>match v,v' with
 | .val (.string a),.val (.string b)=>(match op with
  | .eql=>K (.val (.bool (iP a b))) H
  | .neq=>K (.val (.bool (!iP a b))) H
  | _=>False)
 | _,_=>False) .mk) .mk:=propext Iff.rfl
theorem IG (x i:SX) (K:V→View→Prop):wI P (.ix x i) T H K=dU (x.at T) (fun v=>qx (asNat (i.at T)) (fun o=>match v,o with
  | .val (.string s),some q=>qx (fp s)[q]? (fun o=>match o with
   | some c=>K (.val (.int .u8 c)) H
   | none=>False) .mk
  | _,_=>False) .mk) .mk:=by
 simp only[wI,qx,dU]
 generalize x.at T=v
 generalize asNat (i.at T)=o
 cases v with
 | val u =>
  cases u with
  | string s =>
   cases o with
   | none=>rfl
   | some q =>
    simp only[fp,T8]
    cases h:s.data.toList[q]? with
    | none=>simp
    | some e=>simp
  | _=>rfl
 | _=>rfl
theorem MG (x:SX) (K:V→View→Prop):wI P (.not x) T H K=dU (x.at T) (fun v=>match v with
 | .val (.bool t)=>K (.val (.bool (!t))) H
 | _=>False) .mk:=propext Iff.rfl
theorem Md (eq:Bool) (k:Nat) (x y:SX) (K:V→View→Prop):wI P (.nil eq k x y) T H K=qx (ai (ae k (x.at T)) (ae k (y.at T))) (fun o=>match o with
 | some b=>K (.val (.bool (if eq=true then b else !b))) H
 | none=>False) .mk:=propext Iff.rfl
theorem JO (x y:SX) (K:V→View→Prop):wI P (.beq true x y) T H K=dU (x.at T) (fun v=>dU (y.at T) (fun v'=>match v,v' with
 | .val (.bool a),.val (.bool b)=>K (.val (.bool (a == b))) H
 | _,_=>False) .mk) .mk:=propext Iff.rfl
theorem IY (x y:SX) (K:V→View→Prop):wI P (.beq false x y) T H K=dU (x.at T) (fun v=>dU (y.at T) (fun v'=>match v,v' with
 | .val (.bool a),.val (.bool b)=>K (.val (.bool (a != b))) H
 | _,_=>False) .mk) .mk:=propext Iff.rfl
theorem MJ (x y:SX) (K:V→View→Prop):wI P (.mm true x y) T H K=dU (x.at T) (fun v=>dU (y.at T) (fun v'=>match v,v' with
 | .val (.int k a),.val (.int _ b)=>K (.val (.int k (if b > a then b else a))) H
 | _,_=>False) .mk) .mk:=propext Iff.rfl
theorem Ml (x y:SX) (K:V→View→Prop):wI P (.mm false x y) T H K=dU (x.at T) (fun v=>dU (y.at T) (fun v'=>match v,v' with
 | .val (.int k a),.val (.int _ b)=>K (.val (.int k (if b < a then b else a))) H
 | _,_=>False) .mk) .mk:=propext Iff.rfl
theorem Jf (k:IntKind) (x:SX) (K:V→View→Prop):wI P (.conv k x) T H K=dU (x.at T) (fun v=>match v with
 | .val (.int _ a)=>K (.val (.int k (k.wrap a))) H
 | _=>False) .mk:=propext Iff.rfl
theorem F3 (n k:Nat) (o:dy):View.set H n o k=if k=n then o else H k:=id rfl
theorem Hx (z:List V) (parts:List (Nat × Nat × SX)) (K:V→View→Prop):wI P (.build z parts) T H K=qx (ab z (parts.map fun p=>(p.1,p.2.1,p.2.2.at T))) (fun o=>match o with
 | some cs=>K (.agg cs) H
 | none=>False) .mk:=propext Iff.rfl
theorem D6 (len sz:Nat) (z:List V) (parts:List (Nat × SX)) (K:V→View→Prop):wI P (.cw len sz z parts) T H K=qx (af sz (List.replicate len z) (parts.map fun p=>(p.1,p.2.at T))) (fun o=>match o with
 | some es=>∀ n,H n=.dead→K (.sl n 0 len sz) (H.set n (.arr sz es))
 | none=>False) .mk:=propext Iff.rfl
theorem Gf (sz:Nat) (x:SX) (lo hi:Option SX) (K:V→View→Prop):wI P (.slice sz x lo hi) T H K=qx (dQ sz (x.at T) (lo.map (SX.at T)) (hi.map (SX.at T))) (fun o=>match o with
 | some (v,.none,_)=>K v H
 | _=>False) .mk:=propext Iff.rfl
theorem JJ (sz bytes:Nat) (z:List V) (l c:SX) (K:V→View→Prop):wI P (.make sz bytes z l c) T H K=qx (asNat (l.at T)) (fun a=>qx (asNat (c.at T)) (fun b=>match a,b with
 | some l,some c=>(l≤c∧c < aK∧bytes * c < aK)∧(c=0→K (.emp 2) H)∧(c≠0→∀ n,H n=.dead→K (.sl n 0 l sz) (H.set n (.arr sz (List.replicate l z))))
 | _,_=>False) .mk) .mk:=propext Iff.rfl
def oA (sz bytes:Nat) (x:V) (xs:List (List V)) (H:View) (K:V→View→Prop) (_:cE (H,K)):Prop:=if xs.isEmpty=true then (match x with
  | .emp k=>K (.emp k) H
  | .dP=>K .dP H
  | .aL es=>K (.aL es) H
  | .sl a b c d=>K (.sl a b c d) H
  | _=>False)
 else (xs.all fun e=>e.length == sz && e.all aX)=true∧(match x with
  | .emp _=>(xs.length * bytes < aK∧xs.length < aK)∧∀ n,H n=.dead→K (.sl n 0 xs.length sz) (H.set n (.arr sz xs))
  | .sl id off len esz=>match H id with
   | .arr _ es=>(off+len≤es.length∧esz=sz∧(len+xs.length) * bytes < aK∧len+xs.length < aK) ∧
    ∀ n,H n=.dead→K (.sl n 0 (len+xs.length) esz) ((H.set id .dead).set n (.arr esz ((es.drop off).take len ++ xs)))
   | _=>False
  | _=>False)
theorem Om (sz bytes:Nat) (x y:SX) (K:V→View→Prop):wI P (.app sz bytes x y) T H K=qx (bX H (y.at T)) (fun o=>match o with
 | some (xs,_)=>oA sz bytes (x.at T) xs H K .mk
 | none=>False) .mk:=propext Iff.rfl
theorem xE (sz bytes k:Nat) (xs:List (List V)) (K:V→View→Prop) (w:cE (H,K)) (h0:xs.isEmpty=false):oA sz bytes (.emp k) xs H K w=((xs.all fun e=>e.length == sz && e.all aX)=true∧(xs.length * bytes < aK∧xs.length < aK)∧∀ n,H n=.dead→K (.sl n 0 xs.length sz) (H.set n (.arr sz xs))):=by
 unfold oA; rw[T6 (by rw[h0]; simp)]
theorem vL (sz bytes id off len esz:Nat) (xs:List (List V)) (K:V→View→Prop) (w:cE (H,K)) (h0:xs.isEmpty=false):oA sz bytes (.sl id off len esz) xs H K w=((xs.all fun e=>e.length == sz && e.all aX)=true∧Gu (H id) (fun o=>match o with
  | .arr _ es=>(off+len≤es.length∧esz=sz∧(len+xs.length) * bytes < aK∧len+xs.length < aK) ∧
   ∀ n,H n=.dead→K (.sl n 0 (len+xs.length) esz) ((H.set id .dead).set n (.arr esz ((es.drop off).take len ++ xs)))
  | _=>False) .mk):=by
 unfold oA Gu; rw[T6 (by rw[h0]; simp)]
theorem rH (id off len esz z:Nat) (es:List (List V)) (hH:H id=.arr z es) (hl:off+(len+1)≤es.length):bX H (.sl id off (len+1) esz)=some ((es.drop off).take (len+1),[id]):=by
 simp only[bX,hH]; rw[T9 hl]
theorem zS (es:List (List V)):bX H (.aL es)=some (es,[]):=id rfl
theorem tQ (k:Nat):bX H (.emp k)=some ([],[]):=id rfl
theorem Jt (x:SX) (K:V→View→Prop):wI P (.CR x) T H K=dU (x.at T) (fun v=>match v with
 | .aL es=>qx (kH es) (fun o=>match o with
  | some l=>K (.val (.string ⟨l.toArray⟩)) H
  | none=>False) .mk
 | _=>False) .mk:=propext Iff.rfl
theorem Jz (x:SX) (K:V→View→Prop):wI P (.gf x) T H K=dU (x.at T) (fun v=>match v with
 | .val (.string s)=>K (.aL (gC s)) H
 | _=>False) .mk:=propext Iff.rfl
def kb (P:Program) (op:Op) (ty:TypeId) (T:Env) (H:View) (K:V→View→Prop) (_:cE (T,H,K)):Prop:=wI P (.old op ty) T H K
theorem M0 (op:Op) (ty:TypeId) (K:V→View→Prop):wI P (.old op ty) T H K=kb P op ty T H K .mk:=propext Iff.rfl
theorem MI (t:Nat):ev T (.tmp t)=T t:=id rfl
theorem FU (v:Value):ev T (.const v)=fi v:=id rfl
theorem NH (t:Nat):(SX.tmp t).at T=T t:=id rfl
theorem NZ (v:V):(SX.val v).at T=v:=id rfl
theorem IU (d t:Nat) (v:V):(T.put (some d) v) t=if t=d then v else T t:=id rfl
theorem HG (v:V):T.put none v=T:=id rfl
theorem G3 (vs:List V) (t:Nat):lf vs t=vs.getD t .any:=id rfl
theorem Ci (e:List V) (j:Nat) (K:V→Prop):jE none e j K=(j < e.length∧K (e.getD j .any)):=propext Iff.rfl
theorem Bq (n:Nat) (e:List V) (j:Nat) (K:V→Prop):jE (some n) e j K=(j+n≤e.length∧K (.agg ((e.drop j).take n))):=propext Iff.rfl
theorem BH (a b:Prop):zL .normal a b=a:=propext Iff.rfl
theorem Gw (i:Nat) (a b:Prop):zL (.exit i) a b=b:=propext Iff.rfl
theorem IK (a b:Prop):zL .ret a b=b:=propext Iff.rfl
theorem xR (i:Nat):pZ i .normal=.normal:=id rfl
theorem Ey (i:Nat):pZ i .ret=.ret:=id rfl
theorem B6 (i j:Nat):pZ i (.exit j)=if j=i then .normal else .exit j:=by simp only[pZ]
theorem IN (acc:List V) (K:List V→Prop):Bj T H [] acc K=K acc:=propext Iff.rfl
theorem FL (r:SR) (l:List SR) (acc:List V) (K:List V→Prop):Bj T H (r :: l) acc K=wR T H r fun v=>Bj T H l (acc ++ [v]) K:=propext Iff.rfl
theorem LI (t:Nat) (K:V→Prop):wR T H (.tmp t) K=K (T t):=propext Iff.rfl
theorem I7 (t:Nat) (sz:Option Nat) (K:V→Prop):wR T H (.cell t sz) K=dU (T t) (fun v=>match v with
 | .ptr id i j=>Gu (H id) (fun o=>match o with
  | .arr _ es=>i < es.length∧BB (es.getD i []) (fun e=>jE sz e j K) .mk
  | _=>False) .mk
 | .aO e j=>jE sz e j K
 | _=>False) .mk:=propext Iff.rfl
theorem EL (t:Nat) (b:Bool):pW (.tmp t) b T=T.put (some t) (.val (.bool b)):=id rfl
theorem E2 (v:V) (b:Bool):pW (.val v) b T=T:=id rfl
theorem NU:(Exit.ret=Exit.ret∨Exit.ret=Exit.normal)=True:=by simp
theorem EJ:(Exit.normal=Exit.ret∨Exit.normal=Exit.normal)=True:=by simp
end
section
variable {P:Program} {T:Env} {H:View}
theorem bc.intro {c:SC} {Q:Exit→Env→View→Prop} {v:cE (T,H,Q)} (I:Nat→Env→View→Prop) (k:Nat) (h0:I k T H)
  (hs:∀ k T H,I k T H→wS P c T H fun e T' H'=>zL e (∃ k',k' < k∧I k' T' H') (Q e T' H')):bc P c T H Q v:=by
 simp only[bc,wS]
 exact ⟨I,⟨k,h0⟩,hs⟩
theorem aE.pure {q:Bool} {f:FuncId} {vs:List V} {K:V→View→Prop} {v:cE (H,K)} {t:V} (hc:aG P f vs t) (hok:dG P f=true) (hk:K t H):aE P q f vs H K v:=by
 unfold aE
 cases q with
 | true=>exact hc.Ku hok hk
 | false =>
  refine ⟨hok,?_⟩
  rintro h rfl
  exact ⟨t,h,bW.gg hc h,.refl _,hk⟩
theorem aE.ez {f:FuncId} {vs:List V} {K:V→View→Prop} {v:cE (H,K)} (hc:aC P f vs H K):aE P false f vs H K v:=hc
theorem E3:aJ.view []=fun _=>dy.dead:=by funext id; simp[aJ.view]
theorem aG.of {f:FuncId} {vs:List V} {t:V} (ht:∀ v∈vs,Tree v) (h:aC P f vs (fun _=>.dead) fun r H'=>∀ h':aJ,h'.view=H'→Fr h' r t):aG P f vs t:=by
 obtain ⟨r,h',ha,_,hf⟩:=h.2 [] E3
 exact aG.wh ht ha (hf h' rfl)
theorem wrap64 {x:Int} (h1 : -9223372036854775808≤x) (h2:x≤9223372036854775807):IntKind.wrap .i64 x=x:=by
 unfold IntKind.wrap
 have e1:(2:Int) ^ IntKind.i64.bits=18446744073709551616:=by rfl
 have e2:(2:Int) ^ (IntKind.i64.bits - 1)=9223372036854775808:=by rfl
 have e3:IntKind.i64.signed=true:=by rfl
 simp only[e1,e2,e3,Vh,Ul]
 split <;> omega
theorem EA {k:IntKind} {i:Int} (h:0≤i):asNat (.val (.int k i))=some i.toNat:=by simp[asNat,h]
end
theorem Ep (v:Value):V.cells (.val v)=[.val v]:=id rfl
theorem zD (v:Value):aX (.val v)=true:=id rfl
theorem Em (k:Nat):V.cells (.emp k)=[.emp k]:=id rfl
theorem zk (k:Nat):aX (.emp k)=true:=id rfl
theorem D8  : V.cells .dP=[.dP]:=id rfl
theorem IV  : aX .dP=true:=id rfl
theorem Dz (es:List (List V)):V.cells (.aL es)=[.aL es]:=id rfl
theorem Jr (es:List (List V)):aX (.aL es)=true:=id rfl
theorem HO (a b c d:Nat):V.cells (.sl a b c d)=[.sl a b c d]:=id rfl
theorem LM (a b c d:Nat):aX (.sl a b c d)=true:=id rfl
theorem EZ (a b c:Nat):V.cells (.ptr a b c)=[.ptr a b c]:=id rfl
theorem J3 (a b c:Nat):aX (.ptr a b c)=true:=id rfl
theorem Ca (e:List V) (j:Nat):V.cells (.aO e j)=[.aO e j]:=id rfl
theorem F1 (e:List V) (j:Nat):aX (.aO e j)=true:=id rfl
theorem Hi (a:Nat):V.cells (.mp a)=[.mp a]:=id rfl
theorem Oa (a:Nat):aX (.mp a)=true:=id rfl
theorem HU (f:FuncId) (a b:List V):V.cells (.fn f a b)=[.fn f a b]:=id rfl
theorem NV (f:FuncId) (a b:List V):aX (.fn f a b)=true:=id rfl
theorem DQ (cs:List V):V.cells (.agg cs)=cs:=id rfl
theorem IS (k:Nat):cG (.emp k)=some 0:=id rfl
theorem I3:cG .dP=some 0:=id rfl
theorem JW (es:List (List V)):cG (.aL es)=some es.length:=id rfl
theorem N2 (a b c d:Nat):cG (.sl a b c d)=some c:=id rfl
abbrev SH {p:Prop} (_:p):Prop:=p
abbrev Wr:Prop:=SH (And.intro @Qg <| And.intro @J7 <| And.intro @Ee <| And.intro @Bm <| And.intro @CH <| And.intro @J9 <| And.intro @GY <| And.intro @MN <|
 And.intro @Jv <| And.intro @Gp <| And.intro @IW <| And.intro @LN <| And.intro @HL <| And.intro @FX <| And.intro @Ju <| And.intro @BS <| And.intro @xL <| And.intro @Cn <| And.intro @EG <| And.intro @Hc <| And.intro @Bd <|
 And.intro @JF <| And.intro @IH <| And.intro @HA <| And.intro @IZ <|
 And.intro @JI <| And.intro @F6 <| And.intro @zX <| And.intro @yC <|
 And.intro @JL <| And.intro @Ho <| And.intro @Qe <| And.intro @JA <| And.intro @F0 <|
 And.intro @Nj <| And.intro @II <| And.intro @Mj <| And.intro @MT <|
 And.intro @Hh <| And.intro @Ka <| And.intro @HK <| And.intro @Hq <|
 And.intro @JH <| And.intro @Jy <| And.intro @HB <| And.intro @L5 <|
 And.intro @JX <| And.intro @FE <| And.intro @NA <| And.intro @MA <|
 And.intro @Jp <| And.intro @Hv <| And.intro @P7 <| And.intro @M6 <| And.intro @IG <|
 And.intro @MG <| And.intro @Md <| And.intro @JO <| And.intro @IY <|
 And.intro @MJ <| And.intro @Ml <| And.intro @Jf <| And.intro @Jt <|
 And.intro @Jz <| And.intro @Hx <| And.intro @D6 <| And.intro @Gf <|
 And.intro @JJ <| And.intro @Om <| And.intro @M0 <| And.intro @MI <| And.intro @FU <| And.intro @NH <| And.intro @NZ <|
 And.intro @IU <| And.intro @HG <| And.intro @G3 <| And.intro @Ci <|
 And.intro @Bq <| And.intro @BH <| And.intro @Gw <| And.intro @IK <|
 And.intro @xR <| And.intro @Ey <| And.intro @B6 <| And.intro @IN <|
 And.intro @FL <| And.intro @LI <| And.intro @I7 <| And.intro @EL @E2)
theorem wr:Wr:=⟨@Qg,@J7,@Ee,@Bm,@CH,@J9,@GY,@MN,@Jv,@Gp,@IW,@LN,@HL,@FX,@Ju,@BS,@xL,@Cn,@EG,@Hc,@Bd,@JF,@IH,@HA,@IZ,@JI,@F6,@zX,@yC,@JL,@Ho,@Qe,@JA,@F0,@Nj,@II,@Mj,@MT,@Hh,@Ka,@HK,@Hq,@JH,@Jy,@HB,@L5,@JX,@FE,@NA,@MA,@Jp,@Hv,@P7,@M6,@IG,@MG,@Md,@JO,@IY,@MJ,@Ml,@Jf,@Jt,@Jz,@Hx,@D6,@Gf,@JJ,@Om,@M0,@MI,@FU,@NH,@NZ,@IU,@HG,@G3,@Ci,@Bq,@BH,@Gw,@IK,@xR,@Ey,@B6,@IN,@FL,@LI,@I7,@EL,@E2⟩
abbrev Wq:Prop:=SH (And.intro @eq_self.{1} <| And.intro @ne_eq.{1} <| And.intro @implies_true.{1} <| And.intro @implies_true.{0} <| And.intro @decide_true <| And.intro @decide_false <| And.intro @Jl <| And.intro @zt <| And.intro @vI <| And.intro @FV <| And.intro @Hu <| And.intro @HP <| And.intro @J6 <| And.intro @Nr <| And.intro @MV <| And.intro @Mn <| And.intro @I9 <| And.intro @ID <| And.intro @J2 <| And.intro @Ep <| And.intro @zD <| And.intro @Em <| And.intro @zk <| And.intro @D8 <| And.intro @IV <| And.intro @Dz <| And.intro @Jr <| And.intro @HO <| And.intro @LM <| And.intro @EZ <| And.intro @J3 <| And.intro @Ca <| And.intro @F1 <| And.intro @Hi <| And.intro @Oa <| And.intro @HU <| And.intro @NV <| And.intro @DQ <| And.intro @IS <| And.intro @I3 <| And.intro @JW <| And.intro @N2 <| And.intro @true_or <| And.intro @or_true <| And.intro @or_false <| And.intro @false_or <|
 And.intro @SK <| And.intro @Jm <| And.intro @JP <| And.intro @IF <|
 And.intro @Ja <| And.intro @My <| And.intro @Jd <| And.intro @HT <|
 And.intro @L0 <| And.intro @Ob <| And.intro @Kb <| And.intro @I6 <|
 And.intro @JD <| And.intro @Jk <| And.intro @F8 <| And.intro @Hj <|
 And.intro @DI <| And.intro @Je <| And.intro @List.getD_cons_zero.{0} <| And.intro @List.getD_cons_succ.{0} <|
 And.intro @List.length_cons.{0} <| And.intro @List.length_nil.{0} <| And.intro @List.length_map.{0,0} <| And.intro @wrap64 <|
 And.intro @true_and <| And.intro @and_true <| And.intro @and_self <| And.intro @Ul <|
 And.intro @Vw <| And.intro @List.all_cons.{0} <| And.intro @List.all_nil.{0} <| And.intro @Bool.and_self <|
 And.intro @List.nil_append.{0} <| And.intro @List.cons_append.{0} <| And.intro @U3 <| And.intro @EA <|
 And.intro @Uq <| And.intro @NU <| And.intro @EJ <| And.intro @bne_iff_ne.{0} <|
 And.intro @beq_iff_eq.{0} <| And.intro @Bool.not_eq_true <| And.intro @V5 <| And.intro @Bool.not_false <|
 And.intro @List.append_nil.{0} <| And.intro @List.map_cons.{0,0} <| And.intro @List.map_nil.{0,0} <| And.intro @Bool.true_eq_false <|
 And.intro @Ut <| And.intro @false_implies <| And.intro @true_implies <| And.intro @Bool.not_not <|
 And.intro @List.drop_zero.{0} <| And.intro @F3 <| And.intro @List.set_cons_zero.{0} <| And.intro @List.set_cons_succ.{0} <|
 And.intro @List.drop_nil.{0} <| And.intro @VM <| And.intro @List.replicate_zero.{0} <| And.intro @List.replicate_succ.{0} <|
 And.intro @zS <| And.intro @tQ <| And.intro @xE <| And.intro @vL <|
 And.intro @List.isEmpty_cons.{0} <| And.intro @Option.map_none.{0,0} <| And.intro @Option.map_some.{0,0} <| And.intro @Nat.succ_ne_zero <|
 And.intro @List.take_succ_cons.{0} <| And.intro @List.take_zero.{0} <| And.intro @List.drop_succ_cons.{0} <| And.intro @bne_eq_false_iff_eq.{0} <|
 And.intro @beq_eq_false_iff_ne.{0} <| And.intro @not_true_eq_false <| And.intro @not_false_eq_true @Decidable.not_not)
theorem wq:Wq:=⟨@eq_self,@ne_eq,@implies_true,@implies_true,@decide_true,@decide_false,@Jl,@zt,@vI,@FV,@Hu,@HP,@J6,@Nr,@MV,@Mn,@I9,@ID,@J2,@Ep,@zD,@Em,@zk,@D8,@IV,@Dz,@Jr,@HO,@LM,@EZ,@J3,@Ca,@F1,@Hi,@Oa,@HU,@NV,@DQ,@IS,@I3,@JW,@N2,@true_or,@or_true,@or_false,@false_or,@SK,@Jm,@JP,@IF,@Ja,@My,@Jd,@HT,@L0,@Ob,@Kb,@I6,@JD,@Jk,@F8,@Hj,@DI,@Je,@Ve,@VK,@Um,@UG,@Uc,@wrap64,@true_and,@and_true,@and_self,@Ul,@Vw,@Vg,@List.all_nil,@Bool.and_self,@Vb,@UI,@U3,@EA,@Uq,@NU,@EJ,@bne_iff_ne,@Va,@Bool.not_eq_true,@V5,@Bool.not_false,@VB,@Uz,@VD,@Bool.true_eq_false,@Ut,@false_implies,@true_implies,@Bool.not_not,@Vj,@F3,@List.set_cons_zero,@List.set_cons_succ,@List.drop_nil,@VM,@List.replicate_zero,@List.replicate_succ,@zS,@tQ,@xE,@vL,@List.isEmpty_cons,@Option.map_none,@Ue,@Nat.succ_ne_zero,@VJ,@List.take_zero,@List.drop_succ_cons,@bne_eq_false_iff_eq,@beq_eq_false_iff_ne,@not_true_eq_false,@not_false_eq_true,@Decidable.not_not⟩
inductive Aw:V→Prop
 | val (v:Value):Aw (.val v)
 | bE (cs:List V):(∀ i,i < cs.length→∃ v,cs.getD i .any=.val v)→Aw (.bE cs)
theorem PV {Z Z':Nat→Prop} {μ μ':Mu} {hp hp':Array Obj} {t:V} {x:Value} (hf:Aw t) (h:aF Z μ hp t x):aF Z' μ' hp' t x:=by
 cases hf with
 | val=>cases h with | val _ hv=>exact .val _ hv
 | bE cs hc =>
  cases h with
  | bE _ aas h1 h2 =>
   refine .bE _ _ h1 fun i hi=>?_
   have:=h2 i hi
   obtain ⟨v,hv⟩:=hc i hi
   rw[hv] at this ⊢
   generalize aas.getD i undef=y at this ⊢
   cases this with | val _ hv=>exact .val _ hv
theorem bW.borrow {P:Program} {f:FuncId} {ts vs:List V} {t:V} {h:aJ} (hc:aG P f ts t) (hf:Aw t) (hl:ts.length=vs.length)
  (hfr:∀ i,i < vs.length→Fr h (vs.getD i .any) (ts.getD i .any)):bW P f vs h t h:=by
 refine ⟨Ug _,fun Z μ F w xs hrel hr hfree=>?_⟩
 have hts:fU (fun b=>Z b∨jb μ b) μ w.heap ts xs:=⟨by rw[hl,hrel.1],fun i hi=>A8 hr (hfr i (by omega)) (hrel.2 i (by omega))⟩
 have hzl:∀ b,(Z b∨jb μ b)→b < w.heap.size:=by
  rintro b (hb | ⟨id,o,s,hb⟩)
  ·exact hr.cL b hb
  ·exact hr.lt _ _ _ _ hb
 refine (hc _ μ w xs hts hzl).mono ?_
 rintro e w' ⟨x,Z',rfl,hv,hs,hz,hz',ho⟩
 have hm:gR Z Z μ μ w.heap w'.heap:=⟨fun _ h=>h,fun b hb=>ho b (hr.cL b hb) (fun x=>x),fun _ _ h=>h,ho.qb⟩
 exact ⟨x,Z,μ,rfl,PV hf (hv μ),⟨fun id=>(hr.obj id).mono hm rfl (fun b o s hx=>ho b (hr.lt _ _ _ _ hx) (fun x=>x)),hr.inj,fun id b o s hx=>UD (hr.lt _ _ _ _ hx) hs.size,fun b hb=>UD (hr.cL b hb) hs.size,hr.gM⟩,
  ⟨hs,hm,fun b hb _=>ho b hb (fun x=>x),fun b hb=>.inl hb,fun _ _ _ _ h=>.inl h⟩,fun _ _=>rfl⟩
def eA (H:View) (v t:V):Prop:=∀ h:aJ,h.view=H→Fr h v t
theorem eA.tree {H:View} {v:V} (h:Tree v):eA H v v:=fun _ _=>.tree _ h
theorem eA.sl {H:View} {id off len esz z:Nat} {es:List (List V)} (hH:H id=.arr z es) (hle:off+len≤es.length) (ht:∀ e∈es,∀ v∈e,Tree v) :
  eA H (.sl id off len esz) (.aL ((es.drop off).take len)):=by
 rintro h rfl
 have hg:∀ i,i < len→((es.drop off).take len).getD i []=es.getD (off+i) []:=fun i hi=>by
  simp[T0,Vv,hi]
 refine .sl id off len esz z es _ hH hle (by simp; omega) (fun i hi=>by rw[hg i hi]) (fun i j hi hj=>?_)
 rw[hg i hi] at hj ⊢
 refine .tree _ ?_
 have h1:off+i < es.length:=by omega
 have e1:es.getD (off+i) []=es[off+i]:=by simp[T0,h1]
 rw[e1] at hj ⊢
 have e2:(es[off+i]).getD j .any=(es[off+i])[j]:=by simp[T0,hj]
 rw[e2]
 exact ht _ (Ud _) _ (Ud _)
theorem aE.borrow {P:Program} {q:Bool} {f:FuncId} {H:View} {vs ts:List V} {K:V→View→Prop} {v:cE (H,K)} {t:V} (hc:aG P f ts t) (hok:dG P f=true) (hf:Aw t) (hl:ts.length=vs.length)
  (hfr:∀ i,i < vs.length→eA H (vs.getD i .any) (ts.getD i .any)) (hk:K t H):aE P q f vs H K v:=by
 unfold aE
 cases q with
 | true=>exact ⟨hok,fun h e=>⟨t,h,bW.borrow hc hf hl (fun i hi=>hfr i hi h e),fun _ _=>rfl,e ▸ hk⟩⟩
 | false =>
  refine ⟨hok,?_⟩
  rintro h rfl
  exact ⟨t,h,bW.borrow hc hf hl (fun i hi=>hfr i hi h rfl),.refl _,hk⟩
abbrev gi (x:Int):V:=.val (.int .i64 x)
abbrev gb (x:Bool):V:=.val (.bool x)
abbrev gs (x:ByteArray):V:=.val (.string x)
theorem mixed:(Tryz.prog).follows .mixedOrders=true:=by kernel_rfl
def encI (l:List Int):V:=.aL (l.map fun x=>[gi x])
def bI (l:List Bool):V:=.aL (l.map fun x=>[gb x])
theorem fM (l:List Int):Tree (encI l):=by
 refine .aL _ fun i j hi hj=>?_
 simp only[Uc] at hi
 simp[T0,hi] at hj ⊢
 subst hj
 exact .val _
def aY {α:Type} (l:List α):Prop:=l.length < 4611686018427387904
def nK:SC :=
 .seq (.seq (ao [aj 11 5,aj 12 0,aV 13 12,bg 14 .lss 11 13]) <|
 .cond (.tmp 14) (.skip) (.exit 0)) <|
 .seq (.block 1 (.seq (ao [aj 17 0,aj 18 5,aR 19 1 17 18,ay 20 19,aj 21 1,aj 22 5,aR 23 1 21 22,ay 24 23,bg 25 .neq 20 24]) <|
 .cond (.tmp 25) (.seq (ao [bH 4 false]) <|
 .ret) (.skip))) <|
 ao [aj 15 5,aQ 16 .add 15 1,aj 5 16]
def ql:SF:=⟨.seq (ao [bH 4 false]) <|
 .seq (.seq (ao [aj 6 0,aV 7 6,aj 8 1,aV 9 8,bg 10 .neq 7 9]) <|
 .cond (.tmp 10) (.seq (ao [bH 4 false]) <|
 .ret) (.skip)) <|
 .seq (.seq (ao [bj 5 0]) <|
 .block 0 (.loop nK)) <|
 .seq (ao [bH 4 true]) <|
 .ret,
 [.tmp 4],26⟩
theorem vd:aU Tryz.prog 37 []=some ql:=by kernel_rfl
theorem QU {α:Type} [BEq α] [LawfulBEq α] {a b:List α} (h:a.length≠b.length):(a == b)=false:=by
 simp only[beq_eq_false_iff_ne]; intro e; exact h (by rw[e])
theorem QN (a b:List Int) (ha:aY a) (H:View):aC Tryz.prog 37 [encI a,encI b] H fun r H'=>r=gb (a == b)∧H'=H:=by
 refine aC.of mixed vd ?_
 unfold aY at ha
 simp (disch:=omega) only [↓wr,seval,wq,ah,ag,ak,aa,ab,af,ai,ae,ql,encI]
 refine av.ne (fun h=>?_) (fun h=>?_)
 ·simp (disch:=omega) only [↓wr,seval,wq,ah,ag,ak,aa,ab,af,ai,ae]
  rw[QU (by omega)]
 ·simp (disch:=omega) only [↓wr,seval,wq,ah,ag,ak,aa,ab,af,ai,ae]
  refine bc.intro (fun k T H'=>∃ i:Nat,i+k=a.length∧a.take i=b.take i∧T 0=encI a∧T 1=encI b∧T 5=gi i∧H'=H) a.length ?_ ?_
  ·exact ⟨0,by omega,by simp,rfl,rfl,rfl,rfl⟩
  ·rintro k T H' ⟨i,hk,hi,h0,h1,h5,rfl⟩
   simp (disch:=omega) only [↓wr,seval,wq,ah,ag,ak,aa,ab,af,ai,ae,nK,h0,h1,h5,encI]
   refine av.dec (fun hc=>?_) (fun hc=>?_)
   ·have h2:a[i]?=some (a[i]'(by omega)):=T4 (by omega)
    have h3:b[i]?=some (b[i]'(by omega)):=T4 (by omega)
    simp (disch:=omega) only [↓wr,seval,wq,ah,ag,ak,aa,ab,af,ai,ae,h0,h1,h5,encI,T8,h2,h3,Ue]
    refine av.ne (fun hd=>?_) (fun hd=>?_)
    ·simp (disch:=omega) only [↓wr,seval,wq,ah,ag,ak,aa,ab,af,ai,ae]
     have:(a == b)=false:=by
      simp only[beq_eq_false_iff_ne]; rintro rfl; exact hd rfl
     rw[this]
    ·simp (disch:=omega) only [↓wr,seval,wq,ah,ag,ak,aa,ab,af,ai,ae,h0,h1,h5,encI]
     refine ⟨k - 1,by omega,i+1,by omega,?_,rfl⟩
     rw[Uw,Uw,hi,h2,h3,hd]
   ·simp (disch:=omega) only [↓wr,seval,wq,ah,ag,ak,aa,ab,af,ai,ae,h0,h1,h5,encI]
    have:a=b:=by
     have e:i=a.length:=by omega
     rw[Uo (by omega),Uo (by omega)] at hi
     exact hi
    rw[this]; simp
theorem QI (a b:List Int) (ha:aY a):aG Tryz.prog 37 [encI a,encI b] (gb (a == b)) :=
 aG.of (by simp[fM]) ((QN a b ha _).mono fun r H' h h' _=>by rw[h.1]; exact .tree _ (.val _))
theorem gG (l:List Bool):Tree (bI l):=by
 refine .aL _ fun i j hi hj=>?_
 simp only[Uc] at hi
 simp[T0,hi] at hj ⊢
 subst hj
 exact .val _
end Gv
